/- part 7 of the proof of tree_reads. -/
import Derived.Test.YtfomlmhnmheenaaGreatTR6
set_option linter.unusedSimpArgs false
set_option linter.unusedVariables false
namespace Go.Proofs.YtfomlmhnmheenaaGreat
namespace Fv
open Tw
attribute [local go_sem] zaZ zaz zab zap evs ev okv zbj zT.cls za5 za7 za9 zQ zR upd zo zaS zaQ zaR zax zaL zaP zaT zaM zaY zaO zar zaV zaU zaX zaW zaK zaN zae zaC zaJ zal zak zbg PV.cells ofC za6 zV zao okF zaf spl zaB zaF bnd zai zam zan za3 zbb zU zau zaH zaj za8 zbd zW lenP zc zk zah zba PV.toT zaA zH Nat.mul_mod_right Int.reduceOfNat Int.reduceToNat Int.cast_ofNat_Int Int.reduceLE Int.reduceLT Int.reduceAdd Int.reduceSub Int.reduceMul Int.reduceNegSucc Nat.reduceEqDiff if_true if_false ite_true ite_false decide_true decide_false Bool.not_true Bool.not_false and_true true_and and_self false_and and_false or_false false_or or_true true_or or_self List.length_cons List.length_nil List.length_map List.getElem?_cons_zero List.getElem?_cons_succ List.getElem?_map List.getElem?_nil Option.map_some Option.map_none Option.getD_some List.append_nil List.nil_append List.cons_append List.take_succ_cons List.take_zero List.drop_zero List.drop_succ_cons List.set_cons_zero List.set_cons_succ Int.toNat_natCast Int.natCast_nonneg Nat.le_refl Nat.zero_le Nat.reduceAdd Nat.reduceSub Nat.reduceMul Nat.reduceLeDiff Nat.reduceLT Bool.false_eq_true Bool.true_eq_false Nat.add_zero Nat.zero_add List.all_cons List.all_nil Bool.and_true Bool.and_self Bool.true_and Nat.reduceMod Nat.reduceDiv eq_self zaq zaD zX za4 evN za0 dpF zaI zbf zaw za1 zbe zaE List.filter_cons List.filter_nil List.contains_cons List.contains_nil Nat.reduceBEq zac zad zP Option.some.injEq Option.isSome_some wrap_i64 zJ zaG Bool.or_self Bool.or_false Bool.false_or daF dnF xT T4 T5 T8 T9 T10 T11 T12 T13 T14 T15 T16 T17 T18 T19 T20 T21 T22 T23 T24 T25 T26 T27 T28 T30 T33 T34 T36 T37 T38 T39 T40 T41 T42 T43 T44 T45 T46 T47 T48 T49 T50 T51 T52 T53 T54 T55 T56 T57 T58 T59 T60 T61 T62 T63 T64 T65 T66 T67 T68 T69 T70 T71 T72 T73 T75 T76 T77 T80 T81 T82 T83 T84 T85 T86 T87 T88 T89 T90 T91 T92 T93 T94 T95 T96 T97 T98 T99 T100 T101 T102 T103 T104 T105 T106 T107 T108 T109 T110 T111 T112 T113 T114 T115 T116 T119 T120 T121 T122 T123 T124 T125 T126 T129 T130 T131 T132 T133 T134 T135 T136 T137 T138 T139 T140 T141 T142 T143 T144 T145 T146 T147 T148 T149 T150 T151 T152 T153 T154 T155 T156 T157 T158 T159 T160 T161 T162 T163 T164 T165 T166 T167 T168 T169 T170 T171 T173 T174 T175 T176 T177 T178 T181 T182 T183 T184 T185 T186 T187 T188 T189 T190 T191 T192 T193 T194 T195 T196 T197 T198 T199 T200 T201 T202 T203 T204 T205 T206 T207 T208 T209 T210 T211 T212 T213 T214 T215 T216 T217 T218 T219 T220 T222 T223
attribute [local go_sem ↓] reduceIte
set_option maxRecDepth 100000
theorem f73:ET.funcs.get 73=some T73:=zL Tryz.func73
def zeD (H H':List zn):Prop:=∀(id:Nat) (o:zn),H[id]?=some o->H'[id]?=some o
theorem zeD.refl (H:List zn):zeD H H:=fun _ _ h=>h
theorem zeD.app {H Hc:List zn}(h:zeD H Hc)(X:List zn):zeD H (Hc++X):=fun id o ho=>by
 have:=h id o ho;rw[zAW9 (zAD9.1 this).1];exact this
theorem zeD.set {H Hc:List zn}(h:zeD H Hc){a:Nat}(ha:H.length<=a)(o':zn):zeD H (Hc.set a o'):=fun id o ho=>by
 have hlt:=(zAD9.1 ho).1;rw[zAZ9 (by omega)];exact h id o ho
theorem zbN {α:Type}{l X:List α}{i:Nat}{x:α}(h:l[i]?=some x):(l++X)[i]?=some x:=by
 rw[zAW9 (zAD9.1 h).1];exact h
theorem Lvl.other {H:List zn}{vs ps:List PV}{nodes:List zB}(h:Lvl H vs ps nodes){a:Nat}{o o':zn}(ha:H[a]?=some o)(ho:¬isP o)(X:List zn):Lvl ((H++X).set a o') vs ps nodes :=
 h.keep fun id q hq hi=>by
  have hne:a≠id:=fun e=>by subst e;rw[ha]at hi;injection hi with hi;subst hi;exact ho hq
  rw[zAZ9 hne];exact zbN hi
theorem ziw {α:Type}{l:List α}(h:l ≠ []):∃f x,l=f++[x]:=⟨l.dropLast,l.getLast h,(List.dropLast_concat_getLast h).symm⟩
theorem zhm {α:Type}{l:List α}{n:Nat}(h:l.length=n+1):∃f x,l=f++[x]/\f.length=n:=by
 obtain⟨f,x,rfl⟩:=ziw (l:=l) (by intro e;rw[e]at h;simp at h);exact⟨f,x,rfl,by simpa using h⟩
theorem zuv {lv:Nat}{ks:List Pr}{n:zB}(h:n∈zco lv ks):n.pairs.length<=18:=by
 unfold zco at h;obtain⟨i,_,rfl⟩:=zAP9.1 h;show (((ks.drop (19*i)).take 19).drop 1).length<=18;rw[zCI9,zBB9];omega
set_option maxHeartbeats 4000000 in
theorem zsg (H:List zn)(i8 g8 M8 i13 g13:Nat)(vs8 ps8:List PV)(l:List zB)(bs:List Nat)(lv:Nat)(hr8:H[i8]?=some (.row 124 6 g8 M8 vs8))(hM8:M8<=g8)(hlv:Lvl H vs8 ps8 l)(hr13:H[i13]?=some (.row 3 1 g13 0 (bfl bs)))(hlen:bs.length=l.length)(hl:l.length<=1000)(hl0:∀n∈l,n.level=lv)(hlv12:lv<=12)(hb:∀b∈bs,b<2048) :
  FO ET 73 [.sl i8 g8 0 l.length (2*l.length) 6,.sl i13 g13 0 l.length (2*l.length) 1] H false (fun e H'=>zeD H H'/\∃idL g M vs ps,e=.ret (.sl idL g 0 vs.length (2*vs.length) 6)/\M<=g/\H.length<=idL/\H'[idL]?=some (.row 124 6 g M vs)/\Lvl H' vs ps (zco (lv+1) ((l.map zB.low).zip bs))/\∀p∈ps,∀a,zdS p=some a->H.length<=a):=by
 refine zro f73 ?_;have hkl:((l.map zB.low).zip bs).length=l.length:=by simp[hlen]
 generalize hks:(l.map zB.low).zip bs=ks at *
 (repeat(first|refine za ?_|refine zgo ?_));refine zcd 124 6 (i:=5) rfl ?_;simp only[lzy];refine zD (zas (fun m s=>∃(i:Nat) (Hc:List zn) (idL g M:Nat) (vs ps:List PV),m=l.length-i/\i<=l.length/\zeD H Hc/\M<=g/\Hc[idL]?=some (.row 124 6 g M vs)/\H.length<=idL/\Lvl Hc vs ps (zco (lv+1) (ks.take i))/\(∀p∈ps,∀a,zdS p=some a->H.length<=a)/\s.tm 0=.sl i8 g8 0 l.length (2*l.length) 6/\s.tm 1=.sl i13 g13 0 l.length (2*l.length) 1/\s.tm 5=.sl idL g 0 vs.length (2*vs.length) 6/\s.tm 6=iv i/\s.df=[]/\s.H=Hc) (n:=l.length) ?_ ?_)
 ·exact⟨0,_,H.length,0,0,[],[],rfl,zAS9 _,(zeD.refl H).app _,zAM9 _,by simp,zAM9 _,(by rw[zFX9];exact Lvl.nil _),fun p hp=>by simp at hp,by simp[upd,zo],by simp[upd,zo],by simp[upd],by simp[upd],rfl,rfl⟩
 ·rintro m ⟨tm,df,Hc⟩ ⟨i,Hc',idL,g,M,vs,ps,rfl,hi,hst,hM,hL,hidL,hlvl,hids,h0,h1,h5,h6,rfl,rfl⟩;dsimp only at h0 h1 h5 h6;(try refine zK ?_);refine za (zr ?_);refine zfx ?_ (by simp(disch:=omega)only[go_sem,h0,h6]<;>rfl);refine zh ?_;refine zN (by simp only[go_sem]<;>rfl) ?_ ?_;rotate_left
  ·intro hlt;have hlt:¬i<l.length:=by have:=of_decide_eq_false hlt;omega
   obtain rfl:i=l.length:=by omega
   simp only[zb,zf,ze,zd,zi,zg,if_true,reduceIte];(repeat(first|refine za ?_|refine zgo ?_ (by simp(disch:=omega)only[go_sem,h5]<;>rfl)));refine zq ?_;(try simp only[zb,zf,ze,zd,zg]);refine zj (by simp only[T73,zE,go_sem]<;>rfl) ?_;simp only[zG];rw[<- hkl,zBK9]at hlvl;exact⟨hst,idL,g,M,vs,ps,rfl,hM,hidL,hL,hlvl,hids⟩
  intro hlt;have hlt:i<l.length:=by have:=of_decide_eq_true hlt;omega
  obtain⟨x,hx⟩:∃x,l[i]?=some x:=⟨_,zAB9 hlt⟩
  obtain⟨b,hbb⟩:∃b,bs[i]?=some b:=⟨_,zAB9 (by omega)⟩
  obtain⟨px,hpx⟩:∃px,ps8[i]?=some px:=⟨_,zAB9 (by rw[hlv.lenP];exact hlt)⟩
  have hv8:=(hlv.val i x px hx hpx).1;have hbv:(bfl bs)[i]?=some (iv b):=by rw[zAG9,hbb];rfl
  have hbm:=hb b (zAK9 hbb);have hxl:=hl0 x (zAK9 hx);have hkx:ks.getD i (0,0)=(x.low,b):=by
   have:ks[i]?=some (x.low,b):=by rw[<- hks,zDK9];exact⟨by rw[zAG9,hx];rfl,hbb⟩
   exact getD_some this
  have hstep:=zsh (lv+1) ks i (by omega);rw[hkx]at hstep;have h8:=hst i8 _ hr8;have h13:=hst i13 _ hr13;have hblen:(bfl bs).length=l.length:=by rw[zAA9,hlen]
  have r1:(i:Int).tmod 19=((i%19:Nat):Int):=rfl;have hal:(zco (lv+1) (ks.take i)).length<=1000:=by rw[zdZ,zBB9];omega
  have hvl:=hlvl.lenV;(repeat refine za ?_);refine zD ?_
  by_cases hm:i%19=0
  ·have g1:((i%19:Nat):Int)=0:=by omega
   have hl1:IntKind.i64.wrap ((x.level:Int)+1)=((lv+1:Nat):Int):=by rw[wrap_i64 (by omega) (by omega)];omega
   have hbb2:(vs.length+1)*65<=140737488355328:=by omega
   have hLX:∀X,(Hc++X)[idL]?=some (.row 124 6 g M vs):=fun X=>zbN hL;unfold zlw at hstep;rw[if_pos hm]at hstep;(repeat refine za ?_);(repeat refine za ?_);refine zgo ?_ (by simp(disch:=omega)only[go_sem,h6,zax,r1,g1]<;>rfl);refine zfc ?_ ?_;rotate_left
   ·intro h;cases h
   intro _;(repeat refine za ?_);refine zag ?_;refine zda ?_ (by simp(disch:=omega)only[go_sem,h0,h1,h5,h6,h8,h13,hL,hLX,hv8,hbv,hlt,hM8,hl1,hbb2,zc]<;>rfl);refine zdl ?_ (by simp(disch:=omega)only[go_sem,h0]<;>rfl);refine zM ?_;simp only[zi,zS,zb,go_sem];refine zgh ?_;simp only[zb,zf,ze,zd,zi,zg,if_true,reduceIte];(repeat refine za ?_);refine zrg ?_ (by simp(disch:=omega)only[go_sem,h6]<;>rfl);refine zy ?_;simp only[zb,zf,ze,zd,zi,zg,if_true,↓reduceIte];refine⟨_,?m,i+1,_,idL,g+1,M,vs++[zb5 ⟨lv+1,0,x.low,b,0,[]⟩ .nilsl],ps++[.nilsl],rfl,hlt,(hst.app _).set hidL _,by omega,zBH9 (by rw[zAC9];have:=(zAD9.1 hL).1;omega),hidL,?L,?I,by simp[upd,h0],by simp[upd,h1],by simp[upd],by simp[upd,h6],trivial,rfl⟩
   case m=>omega
   case L=>rw[hstep];exact(hlvl.snoc _ rfl).other hL (fun h=>absurd (show (124:Nat)=66 from h) (by decide)) _
   case I =>
    intro p hp a ha;rcases zBF9.1 hp with hp|hp
    ·exact hids p hp a ha
    ·obtain rfl:=zBL9.1 hp;cases ha
  ·have g1:¬((i%19:Nat):Int)=0:=by omega
   have hne:(zco (lv+1) (ks.take i)).length≠0:=by rw[zdZ,zBB9];omega
   obtain⟨front,nd,hfr⟩:=ziw (l:=zco (lv+1) (ks.take i)) (fun e=>hne (by rw[e];rfl));rw[hfr]at hlvl hstep hal;have hvl:=hlvl.lenV;have hpl:=hlvl.lenP;rw[zAC9]at hvl hpl;obtain⟨vf,v,rfl,hvf⟩:=zhm hvl;obtain⟨pf,p,rfl,hpf⟩:=zhm hpl;have hat:=hlvl.val front.length nd p (by simp) (by rw[<- hpf];simp);have hv:v=zb5 nd p:=by
    have h:=hat.1;rw[<- hvf,zAO9 (zAM9 _),Nat.sub_self]at h;injection h
   subst hv;have hpa:=hat.2;have hpid:=hids p (zDP9 _ (zBL9.2 rfl));unfold zlw at hstep;rw[if_neg hm]at hstep;simp only[zEG9,zDT9]at hstep;have hvfl:vf.length<=1000:=by rw[zAC9]at hal;omega
   have hsub:IntKind.i64.wrap (((vf.length+1:Nat):Int)-1)=(vf.length:Int):=by rw[wrap_i64 (by omega) (by omega)];omega
   have hvv:(vf++[zb5 nd p]).length=vf.length+1:=by simp
   have hvi:vf.length<vf.length+1:=zBT9 _;have hvg:(vf++[zb5 nd p])[vf.length]?=some (zb5 nd p):=by simp
   have hvs:∀y,(vf++[zb5 nd p]).set vf.length y=vf++[y]:=fun y=>by simp
   have hLX:∀X,(Hc++X)[idL]?=some (.row 124 6 g M (vf++[zb5 nd p])):=fun X=>zbN hL;rw[hvv]at h5;(repeat refine za ?_);(repeat refine za ?_);refine zgo ?_ (by simp(disch:=omega)only[go_sem,h6,zax,r1,g1]<;>rfl);refine zfc ?_ ?_
   ·intro h;cases h
   intro _;refine zF ?_;show W _ _ _ _ _ _;(repeat refine za ?_);(repeat refine za ?_);refine zgo ?_ (by simp(disch:=omega)only[go_sem,h5,hsub]<;>rfl);(repeat refine za ?_);refine zag ?_;rcases hpa with⟨rfl,hnp⟩|⟨idp,gp,rfl,hrp⟩
   ·have hbb2:1*17<=140737488355328:=by omega
    have hLXY:∀X Y,(Hc++X++Y)[idL]?=some (.row 124 6 g M (vf++[zb5 nd .nilsl])):=fun X Y=>zbN (zbN hL);refine zda ?_ (by simp(disch:=omega)only[go_sem,h0,h1,h5,h6,h8,h13,hL,hLX,hM,hv8,hbv,hlt,hM8,hvg,hvi,zc]<;>rfl);refine zda ?_ (by simp(disch:=omega)only[go_sem,h0,h1,h5,h6,hL,hLX,hLXY,hM,hvg,hvi,hvs,zc]<;>rfl);refine zdl ?_ (by simp(disch:=omega)only[go_sem,h0]<;>rfl);refine zM ?_;simp only[zi,zS,zb,go_sem];simp only[zb,zf,ze,zd,zi,zg,if_true,reduceIte];(repeat refine za ?_);refine zrg ?_ (by simp(disch:=omega)only[go_sem,h6]<;>rfl);refine zy ?_;simp only[zb,zf,ze,zd,zi,zg,if_true,↓reduceIte];have hlc:idL<Hc.length:=(zAD9.1 hL).1;refine⟨_,?m,i+1,_,idL,g,g,vf++[zb5 (zcP nd (nd.pairs++[(x.low,b)])) (.sl (Hc.length+1) 0 0 1 2 2)],pf++[.sl (Hc.length+1) 0 0 1 2 2],rfl,hlt,((hst.app _).app _).set hidL _,zAM9 _,?G,hidL,?L,?I,by simp[upd,h0],by simp[upd,h1],by simp[upd,h5],by simp[upd,h6],trivial,rfl⟩
    case m=>omega
    case G =>
     rw[zBH9 (by simp only[zAC9,zAE9,zAH9];omega)];simp[zcP]
    case L =>
     rw[hstep];refine hlvl.last hvf hpf ?_ (fun a ha=>?_) (fun id o ho hi=>?_)
     ·refine .inr ⟨Hc.length+1,0,by simp[zcP,hnp],?_⟩;rw[zAZ9 (by omega)];simp[zcP,hnp]
     ·right
      have:Hc.length+1=a:=by simpa[zdS]using ha
      show Hc.length<=a;omega
     ·left
      have hne:idL≠id:=fun e=>by subst e;rw[hL]at hi;injection hi with hi;subst hi;exact absurd (show (124:Nat)=66 from ho) (by decide)
      rw[zAZ9 hne];exact zbN (zbN hi)
    case I =>
     intro p hp a ha;rcases zBF9.1 hp with hp|hp
     ·exact hids p (zEE9 _ hp) a ha
     ·obtain rfl:=zBL9.1 hp;have:Hc.length+1=a:=by simpa[zdS]using ha
      have:=zAD9.1 hL;omega
   ·have hkl2:nd.pairs.length<=18:=zuv (n:=nd) (by rw[hfr];exact zDP9 _ (zBL9.2 rfl));have hbb2:(nd.pairs.length+1)*17<=140737488355328:=by omega
    have hrX:∀X,(Hc++X)[idp]?=some (.row 66 2 gp 0 (nd.pairs.map pv)):=fun X=>zbN hrp;have hipl:idp<Hc.length:=(zAD9.1 hrp).1;have hidp:H.length<=idp:=hpid idp rfl;have d1:idL≠idp:=fun e=>by subst e;rw[hL]at hrp;injection hrp with hrp;injection hrp with hrp;cases hrp
    have d2:i8≠idp:=by have:=(zAD9.1 hr8).1;omega
    have d3:i13≠idp:=by have:=(zAD9.1 hr13).1;omega
    have d4:Hc.length≠idp:=by omega
    have b1:(idL==idp)=false:=by simpa using d1
    have b2:(i8==idp)=false:=by simpa using d2
    have b3:(i13==idp)=false:=by simpa using d3
    have b4:(Hc.length==idp)=false:=by simpa using d4
    have b1':(idp==idL)=false:=by simpa using d1.symm
    have b2':(idp==i8)=false:=by simpa using d2.symm
    have b3':(idp==i13)=false:=by simpa using d3.symm
    have b4':(idp==Hc.length)=false:=by simpa using d4.symm
    have hLS:∀X y,((Hc++X).set idp y)[idL]?=some (.row 124 6 g M (vf++[zb5 nd (.sl idp gp 0 nd.pairs.length (2*nd.pairs.length) 2)])):=fun X y=>by rw[zAZ9 (fun e=>d1 e.symm)];exact zbN hL
    refine zda ?_ (by simp(disch:=omega)only[go_sem,h0,h1,h5,h6,h8,h13,hL,hLX,hM,hv8,hbv,hlt,hM8,hvg,hvi,hrX,hbb2,zc]<;>rfl);refine zda ?_ (by simp(disch:=omega)only[go_sem,h0,h1,h5,h6,hL,hLX,hLS,hM,hvg,hvi,hvs,zc,b1,b2,b3,b4,b1',b2',b3',b4']<;>rfl) (by first|exact trivial|simp only[go_sem,h0,h1,h5,h6,hL,hLX,hLS,hM,hvg,hvi,hvs,zc,b1,b2,b3,b4,b1',b2',b3',b4']);refine zdl ?_ (by simp(disch:=omega)only[go_sem,h0]<;>rfl);refine zM ?_;simp only[zi,zS,zb,go_sem];simp only[zb,zf,ze,zd,zi,zg,if_true,reduceIte];(repeat refine za ?_);refine zrg ?_ (by simp(disch:=omega)only[go_sem,h6]<;>rfl);refine zy ?_;simp only[zb,zf,ze,zd,zi,zg,if_true,↓reduceIte];have hlc:idL<Hc.length:=(zAD9.1 hL).1;refine⟨_,?m,i+1,_,idL,g,g,vf++[zb5 (zcP nd (nd.pairs++[(x.low,b)])) (.sl idp (gp+1) 0 (nd.pairs.length+1) (2*(nd.pairs.length+1)) 2)],pf++[.sl idp (gp+1) 0 (nd.pairs.length+1) (2*(nd.pairs.length+1)) 2],rfl,hlt,((hst.app _).set hidp _).set hidL _,zAM9 _,?G,hidL,?L,?I,by simp[upd,h0],by simp[upd,h1],by simp[upd,h5],by simp[upd,h6],trivial,rfl⟩
    case m=>omega
    case G =>
     rw[zBH9 (by simp only[zCS9,zAC9,zAE9,zAH9];omega)];simp[zcP]
    case L =>
     rw[hstep];refine hlvl.last hvf hpf ?_ (fun a ha=>?_) (fun id o ho hi=>?_)
     ·refine .inr ⟨idp,gp+1,by simp[zcP],?_⟩;rw[zAZ9 d1,zBH9 (by simp only[zAC9,zAE9,zAH9];omega)];simp[zcP]
     ·left
      exact ha
     ·by_cases he:idp=id
      ·right;rw[<- he];rfl
      ·left
       have hne:idL≠id:=fun e=>by subst e;rw[hL]at hi;injection hi with hi;subst hi;exact absurd (show (124:Nat)=66 from ho) (by decide)
       rw[zAZ9 hne,zAZ9 he];exact zbN hi
    case I =>
     intro p hp a ha;rcases zBF9.1 hp with hp|hp
     ·exact hids p (zEE9 _ hp) a ha
     ·obtain rfl:=zBL9.1 hp;have:idp=a:=by simpa[zdS]using ha
      omega
def zb3 (a:Nat)(H H':List zn):Prop:=∀(id:Nat) (o:zn),id≠a->H[id]?=some o->H'[id]?=some o
theorem zb3.refl (a:Nat)(H:List zn):zb3 a H H:=fun _ _ _ h=>h
theorem zb3.app {a:Nat}{H Hc:List zn}(h:zb3 a H Hc)(X:List zn):zb3 a H (Hc++X):=fun id o hi ho=>zbN (h id o hi ho)
theorem zb3.set {a:Nat}{H Hc:List zn}(h:zb3 a H Hc)(o':zn):zb3 a H (Hc.set a o'):=fun id o hi ho=>by
 rw[zAZ9 (fun e=>hi e.symm)];exact h id o hi ho
theorem zb3.trans {a:Nat}{H H' H'':List zn}(h:zb3 a H H')(k:zb3 a H' H''):zb3 a H H'':=fun id o hi ho=>k id o hi (h id o hi ho)
theorem zkW {H X:List zn}{a:Nat}{o o':zn}(h:H[a]?=some o):((H++X).set a o')[a]?=some o':=by
 have:=(zAD9.1 h).1;rw[zBH9 (by rw[zAC9];omega)]
theorem zvd (q:Nat)(free:List Nat)(used n:Nat)(hfl:free.length<1000000)(hul:used+n<=free.length)(tm:Nat->PV)(H:List zn)(idL g:Nat)(z8:Nat)(idA:Nat)(hA:H[idA]?=some (.row 3 1 0 0 []))(h1:tm 1=.list q 1 (bfl free))(h8:tm 8=.sl idL g 0 n z8 6)(h12:tm 12=iv used)(h13:tm 13=.sl idA 0 0 0 0 1)(h14:tm 14=iv 0){Q:FX->FSt->Prop}
  (hQ:∀(tm':Nat->PV) (H':List zn),zb3 idA H H'->H'[idA]?=some (.row 3 1 n 0 (bfl ((free.drop used).take n)))->(∀k,k≠13->k≠14->(k<74\/88<k)->tm' k=tm k)->tm' 13=.sl idA n 0 n (2*n) 1->Q .norm ⟨tm',[],H'⟩) :
  W ET ET.caught none c27_4 ⟨tm,[],H⟩ Q:=by
 unfold c27_4 xC;have hbg:∀i,i<n->((free.drop used).take n)[i]?=some (free.getD (used+i) 0):=fun i hi=>by
  rw[zBD9,if_pos hi,zCB9,zAQ9,zAB9 (show used+i<free.length by omega)];rfl
 have hbl:((free.drop used).take n).length=n:=by rw[zBB9,zCI9];omega
 generalize hbs:(free.drop used).take n=bs at *
 refine zD (zas (fun m s=>∃(i:Nat) (Hc:List zn),m=n-i/\i<=n/\zb3 idA H Hc/\Hc[idA]?=some (.row 3 1 i 0 (bfl (bs.take i)))/\(∀k,k≠13->k≠14->(k<74\/88<k)->s.tm k=tm k)/\s.tm 13=.sl idA i 0 i (2*i) 1/\s.tm 14=iv i/\s.df=[]/\s.H=Hc) (n:=n) ?_ ?_)
 ·exact⟨0,H,rfl,zAS9 _,.refl _ _,hA,fun k _ _ _=>rfl,h13,h14,rfl,rfl⟩
 ·rintro m ⟨tn,df,Hc⟩ ⟨i,Hc',rfl,hi,hst,hr,hf,h13',h14',rfl,rfl⟩;dsimp only at hf h13' h14';have h1':=(hf 1 (by decide) (by decide) (by decide)).trans h1;have h8':=(hf 8 (by decide) (by decide) (by decide)).trans h8;have h12':=(hf 12 (by decide) (by decide) (by decide)).trans h12;(try refine zK ?_);refine za (zr ?_);refine zfx ?_ (by simp(disch:=omega)only[go_sem,h8',h14']<;>rfl);refine zh ?_;refine zN (by simp only[go_sem]<;>rfl) ?_ ?_
  ·intro hlt;have hlt:i<n:=by have:=of_decide_eq_true hlt;omega
   have hfi:used+i<free.length:=by omega
   have hfv:(bfl free)[used+i]?=some (iv (free.getD (used+i) 0:Nat)):=by rw[zAG9,zAB9 hfi,zAQ9,zAB9 hfi];rfl
   have e1:((used:Int)+(i:Int))=((used+i:Nat):Int):=by omega
   have hb2:(i+1)*9<=140737488355328:=by omega
   have hlen:(bfl (bs.take i)).length=i:=by rw[zAA9,zBB9];omega
   have hX:∀X,(Hc++X)[idA]?=some (.row 3 1 i 0 (bfl (bs.take i))):=fun X=>zbN hr;have hstep:bfl (bs.take (i+1))=bfl (bs.take i)++[iv (free.getD (used+i) 0:Nat)]:=by
    rw[zBM9,hbg i hlt];simp
   generalize free.getD (used+i) 0=b at *
   (repeat refine za ?_);refine zD ?_;(repeat refine za ?_);(repeat refine za ?_);refine zrg ?_ (by simp(disch:=omega)only[go_sem,h1',h12',h13',h14',e1,hfi,hfv,hb2,hlen,hX,zc]<;>rfl);refine zy ?_;simp only[zb,zf,ze,zd,zi,zg,if_true,↓reduceIte];(repeat refine za ?_);refine zrg ?_ (by simp(disch:=omega)only[go_sem,h14']<;>rfl);refine zy ?_;simp only[zb,zf,ze,zd,zi,zg,if_true,↓reduceIte];refine⟨_,?m,i+1,_,rfl,hlt,(hst.app _).set _,?G,fun k k1 k2 k3=>?_,by simp[upd],by simp[upd,h14'],trivial,rfl⟩
   case m=>omega
   case G=>rw[zkW hr,hstep]
   ·simp(disch:=omega)only[zb1];exact hf k k1 k2 k3
  ·intro hlt;have hlt:¬i<n:=by have:=of_decide_eq_false hlt;omega
   obtain rfl:i=n:=by omega
   simp only[zb,zf,ze,zd,zi,zg,if_true,reduceIte];refine hQ _ Hc hst (by rw[hr,<- hbl,zBK9]) (fun k k1 k2 k3=>?_) (by simp[upd,h13']);simp(disch:=omega)only[zb1];exact hf k k1 k2 k3
theorem zvX (bs ws:List Nat)(i b:Nat)(hb:bs[i]?=some b)(hbm:b<2048)(hws:ws.length=64)(hbs:bs.length<1000000)(tm:Nat->PV)(H:List zn)(idO:Nat)(V0:List PV)(hV0:V0.length<1000000)(idA gA:Nat)(hne:idA≠idO)(hO:H[idO]?=some (.row 83 2 V0.length 0 V0))(hA:H[idA]?=some (.row 3 1 gA 0 (bfl bs)))(h11:tm 11=.sl idO V0.length 0 V0.length (2*V0.length) 2)(h13:tm 13=.sl idA gA 0 bs.length (2*bs.length) 1)(h15:tm 15=iv i)(h16:tm 16=wv 0 ws)(h17:tm 17=iv 0){Q:FX->FSt->Prop}
  (hQ:∀(tm':Nat->PV) (H':List zn) (V:List PV),V=V0++(ziP b ws).map zat->zb3 idO H H'->H'[idO]?=some (.row 83 2 V.length 0 V)->(∀k,k≠11->k≠17->(k<114\/132<k)->tm' k=tm k)->tm' 11=.sl idO V.length 0 V.length (2*V.length) 2->Q .norm ⟨tm',[],H'⟩) :
  W ET ET.caught none c27_8 ⟨tm,[],H⟩ Q:=by
 unfold c27_8 xC;refine zD (zas (fun m s=>∃(j:Nat) (V:List PV) (Hc:List zn),m=64-j/\j<=64/\V=V0++((List.range j).map fun k=>(64*b+k,ws.getD k 0)).map zat/\zb3 idO H Hc/\Hc[idO]?=some (.row 83 2 V.length 0 V)/\(∀k,k≠11->k≠17->(k<114\/132<k)->s.tm k=tm k)/\s.tm 11=.sl idO V.length 0 V.length (2*V.length) 2/\s.tm 17=iv j/\s.df=[]/\s.H=Hc) (n:=64) ?_ ?_)
 ·exact⟨0,V0,H,rfl,zAS9 _,by simp,.refl _ _,hO,fun k _ _ _=>rfl,h11,h17,rfl,rfl⟩
 ·rintro m ⟨tn,df,Hc⟩ ⟨j,V,Hc',rfl,hj,hV,hst,hr,hf,h11',h17',rfl,rfl⟩;dsimp only at hf h11' h17';have h13':=(hf 13 (by decide) (by decide) (by decide)).trans h13;have h15':=(hf 15 (by decide) (by decide) (by decide)).trans h15;have h16':=(hf 16 (by decide) (by decide) (by decide)).trans h16;have hVl:V.length=V0.length+j:=by rw[hV];simp
  (try refine zK ?_);refine za (zr ?_);refine zfx ?_ (by simp(disch:=omega)only[go_sem,h17']<;>rfl);refine zh ?_;refine zN (by simp only[go_sem]<;>rfl) ?_ ?_
  ·intro hlt;have hlt:j<64:=by have:=of_decide_eq_true hlt;omega
   have hA':=hst idA _ hne hA;have hbv:(bfl bs)[i]?=some (iv b):=by rw[zAG9,hb];rfl
   have hib:i<bs.length:=(zAD9.1 hb).1;have hlt2:j<ws.length:=by omega
   have hqv:(ws.map uv)[j]?=some (uv (ws.getD j 0)):=by rw[zAG9,zAB9 hlt2,zAQ9,zAB9 hlt2];rfl
   have hb2:(V.length+1)*17<=140737488355328:=by omega
   have hV2:V++[zat (64*b+j,ws.getD j 0)]=V0++((List.range (j+1)).map fun k=>(64*b+k,ws.getD k 0)).map zat:=by rw[zDJ9,hV];simp
   have e1:IntKind.i64.wrap (64*(b:Int))=((64*b:Nat):Int):=by rw[wrap_i64 (by omega) (by omega)];omega
   have e2:IntKind.i64.wrap (((64*b:Nat):Int)+(j:Int))=((64*b+j:Nat):Int):=by rw[wrap_i64 (by omega) (by omega)];omega
   have hX:∀X,(Hc++X)[idO]?=some (.row 83 2 V.length 0 V):=fun X=>zbN hr;(repeat refine za ?_);refine zD ?_;(repeat refine za ?_);refine zag ?_;refine zda ?_ (by simp(disch:=omega)only[go_sem,h11',h13',h15',h16',h17',hA',hbv,hib,hlt2,hqv,e1,e2,hb2,hX,zc]<;>rfl);refine zdl ?_ (by simp(disch:=omega)only[go_sem,h15']<;>rfl);refine zM ?_;simp only[zi,zS,zb,go_sem];(repeat refine za ?_);refine zrg ?_ (by simp(disch:=omega)only[go_sem,h17']<;>rfl);refine zy ?_;simp only[zb,zf,ze,zd,zi,zg,if_true,↓reduceIte];refine⟨_,?m,j+1,V++[zat (64*b+j,ws.getD j 0)],_,rfl,hlt,hV2,(hst.app _).set _,?G,fun k k1 k2 k3=>?_,by simp[upd],by simp[upd,h17'],trivial,rfl⟩
   case m=>omega
   case G=>rw[zkW hr,zAC9];rfl
   ·simp(disch:=omega)only[zb1];exact hf k k1 k2 k3
  ·intro hlt;have hlt:¬j<64:=by have:=of_decide_eq_false hlt;omega
   obtain rfl:j=64:=by omega
   simp only[zb,zf,ze,zd,zi,zg,if_true,reduceIte];refine hQ _ Hc V (by rw[hV,ziP,hws]) hst hr (fun k k1 k2 k3=>?_) (by simp[upd,h11']);simp(disch:=omega)only[zb1];exact hf k k1 k2 k3
theorem zpj {l:List Pr}{n:zB}(h:n∈zbX l):n.pairs.length<=18:=by
 rw[zgE]at h;obtain⟨i,_,rfl⟩:=zAP9.1 h;show ((l.drop (18*i)).take 18).length<=18;rw[zBB9];omega
set_option maxHeartbeats 4000000 in
theorem zvk (p:Nat)(l:List Pr)(hl:l.length<=500)(tm:Nat->PV)(H:List zn)(idL g0 M0:Nat)(vs0 ps0:List PV)(hM0:M0<=g0)(hL0:H[idL]?=some (.row 124 6 g0 M0 vs0))(hlv0:Lvl H vs0 ps0 (zbX []))(h0:tm 0=psv p l)(h8:tm 8=.sl idL g0 0 vs0.length (2*vs0.length) 6)(h9:tm 9=iv 0){Q:FX->FSt->Prop}
  (hQ:∀(tm':Nat->PV) (H':List zn) (g M:Nat) (vs ps:List PV),M<=g->H'[idL]?=some (.row 124 6 g M vs)->Lvl H' vs ps (zbX l)->(∀k,k≠8->k≠9->k≠10->(k<34\/73<k)->tm' k=tm k)->tm' 8=.sl idL g 0 vs.length (2*vs.length) 6->Q .norm ⟨tm',[],H'⟩) :
  W ET ET.caught none c27_0 ⟨tm,[],H⟩ Q:=by
 unfold c27_0 xC;refine zD (zas (fun m s=>∃(i:Nat) (Hc:List zn) (g M:Nat) (vs ps:List PV),m=l.length-i/\i<=l.length/\M<=g/\Hc[idL]?=some (.row 124 6 g M vs)/\Lvl Hc vs ps (zbX (l.take i))/\(∀k,k≠8->k≠9->k≠10->(k<34\/73<k)->s.tm k=tm k)/\s.tm 8=.sl idL g 0 vs.length (2*vs.length) 6/\s.tm 9=iv i/\s.df=[]/\s.H=Hc) (n:=l.length) ?_ ?_)
 ·exact⟨0,H,g0,M0,vs0,ps0,rfl,zAS9 _,hM0,hL0,by rw[zFX9];exact hlv0,fun k _ _ _ _=>rfl,h8,h9,rfl,rfl⟩
 ·rintro m ⟨tn,df,Hc⟩ ⟨i,Hc',g,M,vs,ps,rfl,hi,hM,hL,hlvl,hf,h8',h9',rfl,rfl⟩;dsimp only at hf h8' h9';have h0':=(hf 0 (by decide) (by decide) (by decide) (by decide)).trans h0;(try refine zK ?_);refine za (zr ?_);refine zfx ?_ (by simp(disch:=omega)only[go_sem,h0',h9',zAA9]<;>rfl);refine zh ?_;refine zN (by simp only[go_sem]<;>rfl) ?_ ?_;rotate_left
  ·intro hlt;have hlt:¬i<l.length:=by have:=of_decide_eq_false hlt;omega
   obtain rfl:i=l.length:=by omega
   simp only[zb,zf,ze,zd,zi,zg,if_true,reduceIte];rw[zBK9]at hlvl;refine hQ _ Hc g M vs ps hM hL hlvl (fun k k1 k2 k3 k4=>?_) (by simp[upd,h8']);simp(disch:=omega)only[zb1];exact hf k k1 k2 k3 k4
  intro hlt;have hlt:i<l.length:=by have:=of_decide_eq_true hlt;omega
  obtain⟨x,hx⟩:∃x,l[i]?=some x:=⟨_,zAB9 hlt⟩
  have hxv:(l.map pv)[i]?=some (pv x):=by rw[zAG9,hx];rfl
  have hstep:=ztA l i hlt;rw[getD_some hx]at hstep;have r1:(i:Int).tmod 18=((i%18:Nat):Int):=rfl;have hnl:(zbX (l.take i)).length<=28:=by rw[zea,zBB9];omega
  have hvl:=hlvl.lenV;have hfew:∀n∈zfE i x (zbX (l.take i)),n.pairs.length<=18:=by
   intro n hn;unfold zfE at hn
   split at hn
   ·rcases zBF9.1 hn with hn|hn
    ·exact zpj hn
    ·obtain rfl:=zBL9.1 hn;exact zAS9 _
   ·exact zpj hn
  have hnz:zfE i x (zbX (l.take i)) ≠ []:=by
   unfold zfE
   split
   ·simp
   ·intro e;have:=congrArg List.length e;rw[zea]at this;simp at this
  have hnw:(zfE i x (zbX (l.take i))).length<=29:=by
   unfold zfE
   split
   ·rw[zAC9];simp;omega
   ·omega
  generalize hnodes:zfE i x (zbX (l.take i))=nodes at hstep hfew hnz hnw;(repeat refine za ?_);refine zD ?_;refine za (zbA (Q:=fun y s'=>y=.norm/\∃(g M:Nat) (vs ps:List PV),M<=g/\s'.H[idL]?=some (.row 124 6 g M vs)/\Lvl s'.H vs ps nodes/\(∀k,k≠8->k≠9->k≠10->(k<34\/73<k)->s'.tm k=tn k)/\s'.tm 8=.sl idL g 0 vs.length (2*vs.length) 6/\s'.tm 9=iv i/\s'.df=[]) ?_ ?_)
  ·by_cases hm:0<i/\i%18=0
   ·have g1:((i%18:Nat):Int)=0:=by omega
    have g0:(0:Int)<(i:Int):=by omega
    have hbb2:(vs.length+1)*65<=140737488355328:=by omega
    have hLX:∀X,(Hc++X)[idL]?=some (.row 124 6 g M vs):=fun X=>zbN hL;unfold zfE at hnodes;rw[if_pos hm]at hnodes;(repeat refine za ?_);(repeat refine za ?_);refine zgo ?_ (by simp(disch:=omega)only[go_sem,h9',zax,r1,g1,g0]<;>rfl);refine zfc ?_ ?_;rotate_left
    ·intro h;cases h
    intro _;refine zr ?_;refine zfx ?_ (by simp(disch:=omega)only[go_sem,h0',h8',h9',hxv,hlt,hbb2,hLX,zc]<;>rfl);refine zy ?_;refine⟨rfl,g+1,M,vs++[zb5 ⟨0,0,x.1,9223372036854775808,0,[]⟩ .nilsl],ps++[.nilsl],by omega,zkW hL,?_,fun k k1 k2 k3 k4=>?_,by simp[upd],by simp[upd,h9'],rfl⟩
    ·rw[<- hnodes];exact(hlvl.snoc _ rfl).other hL (fun h=>absurd (show (124:Nat)=66 from h) (by decide)) _
    ·simp(disch:=omega)only[zb1]
   ·unfold zfE at hnodes;rw[if_neg hm]at hnodes
    by_cases g0:0<i
    ·have g0':(0:Int)<(i:Int):=by omega
     have g1:¬((i%18:Nat):Int)=0:=by omega
     (repeat refine za ?_);(repeat refine za ?_);refine zgo ?_ (by simp(disch:=omega)only[go_sem,h9',zax,r1,g1,g0']<;>rfl);refine zfc ?_ ?_
     ·intro h;cases h
     intro _;refine zF ⟨rfl,g,M,vs,ps,hM,hL,by rw[<- hnodes];exact hlvl,fun k k1 k2 k3 k4=>?_,by simp[upd,h8'],by simp[upd,h9'],rfl⟩;simp(disch:=omega)only[zb1]
    ·obtain rfl:i=0:=by omega
     (repeat refine za ?_);(repeat refine za ?_);refine zgo ?_ (by simp(disch:=omega)only[go_sem,h9']<;>rfl);refine zfc ?_ ?_
     ·intro h;cases h
     intro _;refine zF ⟨rfl,g,M,vs,ps,hM,hL,by rw[<- hnodes];exact hlvl,fun k k1 k2 k3 k4=>?_,by simp[upd,h8'],by simp[upd,h9'],rfl⟩;simp(disch:=omega)only[zb1]
  clear hM hL hlvl hvl h8' h9';rintro y ⟨tq,df,Hc⟩ ⟨rfl,g,M,vs,ps,hM,hL,hlvl,hf2,h8',h9',rfl⟩;dsimp only at hM hL hlvl hf2 h8' h9';simp only[zb,zf,ze,zd,zi,zg,if_true,reduceIte];have h0q:=(hf2 0 (by decide) (by decide) (by decide) (by decide)).trans h0';obtain⟨front,nd,hfr⟩:=ziw (l:=nodes) hnz;subst hfr;have hvl:=hlvl.lenV;have hpl:=hlvl.lenP;rw[zAC9]at hvl hpl;obtain⟨vf,v,rfl,hvf⟩:=zhm hvl;obtain⟨pf,p',rfl,hpf⟩:=zhm hpl;have hat:=hlvl.val front.length nd p' (by simp) (by rw[<- hpf];simp);have hv:v=zb5 nd p':=by
   have h:=hat.1;rw[<- hvf,zAO9 (zAM9 _),Nat.sub_self]at h;injection h
  subst hv;have hpa:=hat.2;have hkl2:nd.pairs.length<=18:=hfew nd (zDP9 _ (zBL9.2 rfl));unfold zoI at hstep;simp only[zEG9,zDT9]at hstep;have hvfl:vf.length<=1000:=by rw[zAC9]at hnw;omega
  have hsub:IntKind.i64.wrap (((vf.length+1:Nat):Int)-1)=(vf.length:Int):=by rw[wrap_i64 (by omega) (by omega)];omega
  have hvv:(vf++[zb5 nd p']).length=vf.length+1:=by simp
  have hvi:vf.length<vf.length+1:=zBT9 _;have hvg:(vf++[zb5 nd p'])[vf.length]?=some (zb5 nd p'):=by simp
  have hvs:∀y,(vf++[zb5 nd p']).set vf.length y=vf++[y]:=fun y=>by simp
  have hLX:∀X,(Hc++X)[idL]?=some (.row 124 6 g M (vf++[zb5 nd p'])):=fun X=>zbN hL;rw[hvv]at h8';(repeat refine za ?_);(repeat refine za ?_);refine zgo ?_ (by simp(disch:=omega)only[go_sem,h8',hsub]<;>rfl);(repeat refine za ?_);refine zag ?_;rcases hpa with⟨rfl,hnp⟩|⟨idp,gp,rfl,hrp⟩
  ·have hLXY:∀X Y,(Hc++X++Y)[idL]?=some (.row 124 6 g M (vf++[zb5 nd .nilsl])):=fun X Y=>zbN (zbN hL);refine zda ?_ (by simp(disch:=omega)only[go_sem,h0q,h8',h9',hL,hLX,hM,hxv,hlt,hvg,hvi,zc,zAA9]<;>rfl);refine zda ?_ (by simp(disch:=omega)only[go_sem,h0q,h8',h9',hL,hLX,hLXY,hM,hvg,hvi,hvs,zc]<;>rfl);refine zdl ?_ (by simp(disch:=omega)only[go_sem,h0q]<;>rfl);refine zM ?_;simp only[zi,zS,zb,go_sem];simp only[zb,zf,ze,zd,zi,zg,if_true,reduceIte];(repeat refine za ?_);refine zrg ?_ (by simp(disch:=omega)only[go_sem,h9']<;>rfl);refine zy ?_;simp only[zb,zf,ze,zd,zi,zg,if_true,↓reduceIte];have hlc:idL<Hc.length:=(zAD9.1 hL).1;refine⟨_,?m,i+1,_,g,g,vf++[zb5 (zcP nd (nd.pairs++[x])) (.sl (Hc.length+1) 0 0 1 2 2)],pf++[.sl (Hc.length+1) 0 0 1 2 2],rfl,hlt,zAM9 _,?G,?L,fun k k1 k2 k3 k4=>?_,by simp[upd,h8'],by simp[upd,h9'],trivial,rfl⟩
   case m=>omega
   case G =>
    rw[zBH9 (by simp only[zAC9,zAE9,zAH9];omega)];simp[zcP]
   case L =>
    rw[hstep];refine hlvl.last hvf hpf ?_ (fun a ha=>?_) (fun id o ho hi=>?_)
    ·refine .inr ⟨Hc.length+1,0,by simp[zcP,hnp],?_⟩;rw[zAZ9 (by omega)];simp[zcP,hnp]
    ·right
     have:Hc.length+1=a:=by simpa[zdS]using ha
     show Hc.length<=a;omega
    ·left
     have hne:idL≠id:=fun e=>by subst e;rw[hL]at hi;injection hi with hi;subst hi;exact absurd (show (124:Nat)=66 from ho) (by decide)
     rw[zAZ9 hne];exact zbN (zbN hi)
   ·simp(disch:=omega)only[zb1];exact(hf2 k k1 k2 k3 k4).trans (hf k k1 k2 k3 k4)
  ·have hbb2:(nd.pairs.length+1)*17<=140737488355328:=by omega
   have hrX:∀X,(Hc++X)[idp]?=some (.row 66 2 gp 0 (nd.pairs.map pv)):=fun X=>zbN hrp;have hipl:idp<Hc.length:=(zAD9.1 hrp).1;have d1:idL≠idp:=fun e=>by subst e;rw[hL]at hrp;injection hrp with hrp;injection hrp with hrp;cases hrp
   have d4:Hc.length≠idp:=by omega
   have b1:(idL==idp)=false:=by simpa using d1
   have b4:(Hc.length==idp)=false:=by simpa using d4
   have b1':(idp==idL)=false:=by simpa using d1.symm
   have b4':(idp==Hc.length)=false:=by simpa using d4.symm
   have hLS:∀X y,((Hc++X).set idp y)[idL]?=some (.row 124 6 g M (vf++[zb5 nd (.sl idp gp 0 nd.pairs.length (2*nd.pairs.length) 2)])):=fun X y=>by rw[zAZ9 (fun e=>d1 e.symm)];exact zbN hL
   refine zda ?_ (by simp(disch:=omega)only[go_sem,h0q,h8',h9',hL,hLX,hM,hxv,hlt,hvg,hvi,hrX,hbb2,zc,zAA9]<;>rfl);refine zda ?_ (by simp(disch:=omega)only[go_sem,h0q,h8',h9',hL,hLX,hLS,hM,hvg,hvi,hvs,zc,b1,b4,b1',b4']<;>rfl) (by first|exact trivial|simp only[go_sem,h0q,h8',h9',hL,hLX,hLS,hM,hvg,hvi,hvs,zc,b1,b4,b1',b4']);refine zdl ?_ (by simp(disch:=omega)only[go_sem,h0q]<;>rfl);refine zM ?_;simp only[zi,zS,zb,go_sem];simp only[zb,zf,ze,zd,zi,zg,if_true,reduceIte];(repeat refine za ?_);refine zrg ?_ (by simp(disch:=omega)only[go_sem,h9']<;>rfl);refine zy ?_;simp only[zb,zf,ze,zd,zi,zg,if_true,↓reduceIte];have hlc:idL<Hc.length:=(zAD9.1 hL).1;refine⟨_,?m,i+1,_,g,g,vf++[zb5 (zcP nd (nd.pairs++[x])) (.sl idp (gp+1) 0 (nd.pairs.length+1) (2*(nd.pairs.length+1)) 2)],pf++[.sl idp (gp+1) 0 (nd.pairs.length+1) (2*(nd.pairs.length+1)) 2],rfl,hlt,zAM9 _,?G,?L,fun k k1 k2 k3 k4=>?_,by simp[upd,h8'],by simp[upd,h9'],trivial,rfl⟩
   case m=>omega
   case G =>
    rw[zBH9 (by simp only[zCS9,zAC9,zAE9,zAH9];omega)];simp[zcP]
   case L =>
    rw[hstep];refine hlvl.last hvf hpf ?_ (fun a ha=>?_) (fun id o ho hi=>?_)
    ·refine .inr ⟨idp,gp+1,by simp[zcP],?_⟩;rw[zAZ9 d1,zBH9 (by simp only[zAC9,zAE9,zAH9];omega)];simp[zcP]
    ·left
     exact ha
    ·by_cases he:idp=id
     ·right;rw[<- he];rfl
     ·left
      have hne:idL≠id:=fun e=>by subst e;rw[hL]at hi;injection hi with hi;subst hi;exact absurd (show (124:Nat)=66 from ho) (by decide)
      rw[zAZ9 hne,zAZ9 he];exact zbN hi
   ·simp(disch:=omega)only[zb1];exact(hf2 k k1 k2 k3 k4).trans (hf k k1 k2 k3 k4)
theorem Lvl.setNode {H:List zn}{vs ps:List PV}{nodes:List zB}(h:Lvl H vs ps nodes){q:Nat}{n n':zB}{p:PV}(hn:nodes[q]?=some n)(hp:ps[q]?=some p)(he:n'.pairs=n.pairs):Lvl H (vs.set q (zb5 n' p)) ps (nodes.set q n'):=by
 have hq:q<nodes.length:=(zAD9.1 hn).1;refine⟨by simp[h.lenV],by simp[h.lenP],fun r m x hm hx=>?_,h.dist⟩
 by_cases hr:r=q
 ·subst hr;rw[zBH9 hq]at hm;rw[zBH9 (by rw[h.lenV];exact hq)];injection hm with hm;subst hm;rw[hp]at hx;injection hx with hx;subst hx;exact⟨rfl,by rw[he];exact(h.val r n p hn hp).2⟩
 ·rw[zAZ9 (fun e=>hr e.symm)]at hm⊢;exact h.val r m x hm hx
theorem Lvl.but {H H':List zn}{vs ps:List PV}{nodes:List zB}(h:Lvl H vs ps nodes){a:Nat}{o:zn}(ha:H[a]?=some o)(ho:¬isP o)(k:zb3 a H H'):Lvl H' vs ps nodes :=
 h.keep fun id q hq hi=>k id q (fun e=>by subst e;rw[ha]at hi;injection hi with hi;subst hi;exact ho hq) hi
theorem Lvl.set0 {H:List zn}{vs ps:List PV}{nodes:List zB}(h:Lvl H vs ps nodes){a:Nat}{o o':zn}(ha:H[a]?=some o)(ho:¬isP o):Lvl (H.set a o') vs ps nodes :=
 h.but ha ho ((zb3.refl a H).set o')
theorem zfW.frz {H:List zn}{p:PV}{ps:List Pr}(h:zfW H p ps):Frz H 1 p (psv 1 ps):=by
 rcases h with⟨rfl,rfl⟩|⟨id,g,rfl,h2⟩
 ·exact .nil _ _
 ·exact Frz.whole h2 rfl (by simp) (by simp) (fun v hv=>by obtain⟨x,_,rfl⟩:=zAP9.1 hv;rfl) zeL
def zfP (bs:List Nat)(q:Nat)(n:zB):zB:={ n with sib:=bs.getD (q+1) 0 }
set_option maxHeartbeats 4000000 in
theorem zvo (bs:List Nat)(nl:List zB)(hbl:bs.length=nl.length)(hnl:nl.length<=100)(hbm:∀b∈bs,b<2048)(hg:∀n∈nl,zdx n/\n.sib=0)(tm:Nat->PV)(H:List zn)(idL idA idO g M0 gA:Nat)(vs0 ps V0:List PV)(hV0:V0.length<900000)(hM0:M0<=g)(hL0:H[idL]?=some (.row 124 6 g M0 vs0))(hlv0:Lvl H vs0 ps nl)(hA0:H[idA]?=some (.row 3 1 gA 0 (bfl bs)))(hO0:H[idO]?=some (.row 83 2 V0.length 0 V0))(h8:tm 8=.sl idL g 0 nl.length (2*nl.length) 6)(h11:tm 11=.sl idO V0.length 0 V0.length (2*V0.length) 2)(h13:tm 13=.sl idA gA 0 bs.length (2*bs.length) 1)(h15:tm 15=iv 0){Q:FX->FSt->Prop}
  (hQ:∀(tm':Nat->PV) (H':List zn) (M:Nat) (vs V:List PV),M<=g->H'[idL]?=some (.row 124 6 g M vs)->Lvl H' vs ps (zbq bs nl)->H'[idA]?=some (.row 3 1 gA 0 (bfl bs))->H'[idO]?=some (.row 83 2 V.length 0 V)->V=V0++(zib bs (zbq bs nl)).map zat->(∀k,k<11\/(11<k/\k<15)\/132<k->tm' k=tm k)->tm' 11=.sl idO V.length 0 V.length (2*V.length) 2->Q .norm ⟨tm',[],H'⟩) :
  W ET ET.caught none c27_6 ⟨tm,[],H⟩ Q:=by
 unfold c27_6 xC;have hll:=zc2 bs nl hbl;have hVl:∀i,(((bs.zip (zbq bs nl)).take i).flatMap fun x=>ziP x.1 (zbr x.2)).length<=64*i:=fun i=>by
  rw[zkT,zBB9];omega
 refine zD (zas (fun m s=>∃(i:Nat) (Hc:List zn) (M:Nat) (vs V:List PV) (nodes:List zB),m=nl.length-i/\i<=nl.length/\M<=g/\Hc[idL]?=some (.row 124 6 g M vs)/\Lvl Hc vs ps nodes/\nodes.length=nl.length/\(∀(q:Nat) (n:zB),nl[q]?=some n->nodes[q]?=some (if q<i then zfP bs q n else n))/\Hc[idA]?=some (.row 3 1 gA 0 (bfl bs))/\Hc[idO]?=some (.row 83 2 V.length 0 V)/\V=V0++(((bs.zip (zbq bs nl)).take i).flatMap fun x=>ziP x.1 (zbr x.2)).map zat/\(∀k,k<11\/(11<k/\k<15)\/132<k->s.tm k=tm k)/\s.tm 11=.sl idO V.length 0 V.length (2*V.length) 2/\s.tm 15=iv i/\s.df=[]/\s.H=Hc) (n:=nl.length) ?_ ?_)
 ·exact⟨0,H,M0,vs0,V0,nl,rfl,zAS9 _,hM0,hL0,hlv0,rfl,fun q n hn=>by rw[if_neg (zEY9 _)];exact hn,hA0,hO0,by simp,fun k _=>rfl,h11,h15,rfl,rfl⟩
 ·rintro m ⟨tn,df,Hc⟩ ⟨i,Hc',M,vs,V,nodes,rfl,hi,hM,hL,hlvl,hnlen,hnode,hA,hO,hV,hf,h11',h15',rfl,rfl⟩;dsimp only at hf h11' h15';have h8':=(hf 8 (by decide)).trans h8;have h13':=(hf 13 (by decide)).trans h13;have hVli:=hVl i;have hVlen:V.length<=V0.length+64*i:=by rw[hV,zAC9,zAA9];omega
  (try refine zK ?_);refine za (zr ?_);refine zfx ?_ (by simp(disch:=omega)only[go_sem,h8',h15']<;>rfl);refine zh ?_;refine zN (by simp only[go_sem]<;>rfl) ?_ ?_;rotate_left
  ·intro hlt;have hlt:¬i<nl.length:=by have:=of_decide_eq_false hlt;omega
   obtain rfl:i=nl.length:=by omega
   simp only[zb,zf,ze,zd,zi,zg,if_true,reduceIte];have hnl2:nodes=zbq bs nl:=by
    apply zES9
    intro q;rcases zCP9 q nl.length with hq|hq
    ·have hn:=zAB9 hq;rw[hnode q _ hn,if_pos hq,zeG bs nl q _ hbl hn];rfl
    ·rw[zBQ9 (by omega),zBQ9 (by omega)]
   rw[hnl2]at hlvl;refine hQ _ Hc M vs V hM hL hlvl hA hO ?_ (fun k k1=>?_) (by simp[upd,h11'])
   ·rw[hV,zDD9 (by simp;omega)];rfl
   ·simp(disch:=omega)only[zb1];exact hf k k1
  intro hlt;have hlt:i<nl.length:=by have:=of_decide_eq_true hlt;omega
  obtain⟨x,hx⟩:∃x,nl[i]?=some x:=⟨_,zAB9 hlt⟩
  obtain⟨b,hb⟩:∃b,bs[i]?=some b:=⟨_,zAB9 (by omega)⟩
  obtain⟨p,hp⟩:∃p,ps[i]?=some p:=⟨_,zAB9 (by rw[hlvl.lenP];omega)⟩
  have hxn:nodes[i]?=some x:=by have:=hnode i x hx;rwa [if_neg (Nat.lt_irrefl _)]at this
  have hvx:=(hlvl.val i x p hxn hp).1;have hgx:=hg x (zAK9 hx);have hli:=zeG bs nl i x hbl hx;change (zbq bs nl)[i]?=some (zfP bs i x)at hli;have hbmb:=hbm b (zAK9 hb);have hsib:bs.getD (i+1) 0<2048:=by
   rcases zCP9 (i+1) bs.length with h|h
   ·rw[zAQ9,zAB9 h];exact hbm _ (zBP9 _)
   ·rw[zAQ9,zBQ9 (by omega)];decide
  have hgx':zdx (zfP bs i x):=hgx.1.setSib hsib;have dLO:idO≠idL:=fun e=>by subst e;rw[hL]at hO;injection hO with hO;injection hO with hO;cases hO
  have dLA:idA≠idL:=fun e=>by subst e;rw[hL]at hA;injection hA with hA;injection hA with hA;cases hA
  have dAO:idA≠idO:=fun e=>by subst e;rw[hO]at hA;injection hA with hA;injection hA with hA;cases hA
  have e2:((i:Int)+1)=((i+1:Nat):Int):=by omega
  have hvsl:i<vs.length:=by rw[hlvl.lenV];omega
  (repeat refine za ?_);refine zD ?_;refine za (zbA (Q:=fun y s'=>y=.norm/\∃(M:Nat) (vs:List PV) (nodes:List zB),M<=g/\s'.H[idL]?=some (.row 124 6 g M vs)/\Lvl s'.H vs ps nodes/\nodes.length=nl.length/\(∀(q:Nat) (n:zB),nl[q]?=some n->nodes[q]?=some (if q<i+1 then zfP bs q n else n))/\s'.H[idA]?=some (.row 3 1 gA 0 (bfl bs))/\s'.H[idO]?=some (.row 83 2 V.length 0 V)/\(∀k,k<15\/132<k->s'.tm k=tn k)/\s'.tm 15=iv i/\s'.df=[]) ?_ ?_)
  ·by_cases hi1:i+1<nl.length
   ·have g1:((i+1:Nat):Int)<(nl.length:Nat):=by omega
    have hi1b:i+1<bs.length:=by omega
    have hbv:(bfl bs)[i+1]?=some (iv (bs.getD (i+1) 0:Nat)):=by rw[zAG9,zAB9 hi1b,zAQ9,zAB9 hi1b];rfl
    (repeat refine za ?_);(repeat refine za ?_);refine zgo ?_ (by simp(disch:=omega)only[go_sem,h8',h15',e2,g1]<;>rfl);refine zfc ?_ ?_;rotate_left
    ·intro h;cases h
    intro _;refine zr ?_;refine zfx ?_ (by simp(disch:=omega)only[go_sem,h8',h13',h15',e2,hi1b,hbv,hA,hL,hM,hvx,hlt]<;>rfl);refine zy ?_;refine⟨rfl,g,vs.set i (zb5 (zfP bs i x) p),nodes.set i (zfP bs i x),zAM9 _,?G,?L,by simp[hnlen],?N,?A,?O,fun k k1=>?_,by simp[upd,h15'],rfl⟩
    case G=>rw[zBH9 (zAD9.1 hL).1];rfl
    case L=>exact(hlvl.setNode (n':=zfP bs i x) hxn hp rfl).set0 hL (fun h=>absurd (show (124:Nat)=66 from h) (by decide))
    case N =>
     intro q n hn
     by_cases hq:q=i
     ·subst hq;rw[zBH9 (by omega),if_pos (zBT9 _)];rw[hx]at hn;injection hn with hn;subst hn;rfl
     ·rw[zAZ9 (fun e=>hq e.symm),hnode q n hn]
      by_cases h1:q<i
      ·rw[if_pos h1,if_pos (by omega)]
      ·rw[if_neg h1,if_neg (by omega)]
    case A=>rw[zAZ9 (fun e=>dLA e.symm)];exact hA
    case O=>rw[zAZ9 (fun e=>dLO e.symm)];exact hO
    ·simp(disch:=omega)only[zb1]
   ·have g1:¬((i+1:Nat):Int)<(nl.length:Nat):=by omega
    (repeat refine za ?_);(repeat refine za ?_);refine zgo ?_ (by simp(disch:=omega)only[go_sem,h8',h15',e2,g1]<;>rfl);refine zfc ?_ ?_
    ·intro h;cases h
    intro _;refine zF ⟨rfl,M,vs,nodes,hM,hL,hlvl,hnlen,?_,hA,hO,fun k k1=>?_,by simp[upd,h15'],rfl⟩
    ·intro q n hn;rw[hnode q n hn]
     by_cases h1:q<i
     ·rw[if_pos h1,if_pos (by omega)]
     ·by_cases hq:q=i
      ·subst hq;rw[if_neg h1,if_pos (zBT9 _)];rw[hx]at hn;injection hn with hn;subst hn;have h0:=hgx.2;unfold zfP;rw[zAQ9,zBQ9 (show bs.length<=q+1 by omega)];obtain⟨a1,a2,a3,a4,a5,a6⟩:=x;dsimp only at h0;rw[h0];rfl
      ·rw[if_neg h1,if_neg (by omega)]
    ·simp(disch:=omega)only[zb1]
  clear hM hL hlvl hA hO hnlen hnode hxn hvx h15' hvsl;rintro y ⟨tq,df,Hc⟩ ⟨rfl,M,vs,nodes,hM,hL,hlvl,hnlen,hnode,hA,hO,hf2,h15',rfl⟩;dsimp only at hM hL hlvl hA hO hf2 h15';simp only[zb,zf,ze,zd,zi,zg,if_true,reduceIte];have hxn:nodes[i]?=some (zfP bs i x):=by have:=hnode i x hx;rwa [if_pos (zBT9 _)]at this
  have hvx:=hlvl.val i _ p hxn hp;have h8q:=(hf2 8 (by decide)).trans h8';have h11q:=(hf2 11 (by decide)).trans h11';have h13q:=(hf2 13 (by decide)).trans h13';have hw:=ziB 1 (zfP bs i x) hgx'.level hgx'.sib hgx'.way hgx'.few;have hfz:Frz Hc 1 (zb5 (zfP bs i x) p) (zZ 1 (zfP bs i x)):=Frz.aggL ⟨.int _ _,.int _ _,.int _ _,.int _ _,.int _ _,hvx.2.frz,trivial⟩;have hvv:=hvx.1;generalize hx':zfP bs i x=x' at *
  (repeat refine za ?_);refine zr ?_;refine zfx ?_ (by simp(disch:=omega)only[go_sem,h8q,h15',hL,hM,hvv,hlt]<;>rfl);refine zfe (caps:=?_) (vs:=?_) ?_ ?_ hw ?_ ?_;rotate_left 2;(first|rfl|(simp only[zab,zap,go_sem]<;>rfl));(simp only[go_sem]<;>rfl)
  ·exact⟨hfz,trivial⟩
  refine zfx ?_;refine zh ?_;(repeat refine za ?_);(repeat refine za ?_);refine zrg ?_;refine zh ?_;refine zvX bs (zbr x') i b hb hbmb (zdO _) (by omega) _ Hc idO V (by omega) idA gA dAO hO hA (by simp[upd,h11q]) (by simp[upd,h13q]) (by simp[upd,h15']) (by simp[upd]) (by simp[upd]) (fun tm2 H2 V2 hV2 hst hO2 hfr h11x=>?_);simp only[zb,zf,ze,zd,zi,zg,if_true,reduceIte];have h15x:tm2 15=iv i:=(hfr 15 (by decide) (by decide) (by decide)).trans (by simp[upd,h15']);(repeat refine za ?_);refine zrg ?_ (by simp(disch:=omega)only[go_sem,h15x]<;>rfl);refine zy ?_;simp only[zb,zf,ze,zd,zi,zg,if_true,↓reduceIte];refine⟨_,?m,i+1,H2,M,vs,V2,nodes,rfl,hlt,hM,hst idL _ dLO.symm hL,hlvl.but hO (fun h=>absurd (show (83:Nat)=66 from h) (by decide)) hst,hnlen,hnode,hst idA _ dAO hA,hO2,?_,fun k k1=>?_,by simp[upd,h11x],by simp[upd,h15x],trivial,rfl⟩
  case m=>omega
  ·rw[hV2,hV,zu7 hb hli];simp
  ·simp(disch:=omega)only[zb1];rw[hfr k (by omega) (by omega) (by omega)];simp(disch:=omega)only[zb1];exact(hf2 k (by omega)).trans (hf k k1)
theorem f27:ET.funcs.get 27=some T27:=zL Tryz.func27
theorem zkR {H:List zn}(n:Nat):Frz H 0 (.tuple [iv 0,.nilsl,iv 0,iv n]) (.tuple [iv 0,.list 0 2 (([]:List Pr).map zat),iv 0,iv n]):=Frz.tupL ⟨.int _ _,.nil _ _,.int _ _,.int _ _,trivial⟩
set_option maxHeartbeats 4000000 in
theorem zuH (p q:Nat)(l:List Pr)(fr:List Int)(hl:l.length<=500)(hfr:fr.length<=2000):FN ET 27 [psv p l,.list q 1 (fr.map iv)] (zes l fr):=by
 refine zfn f27 (zv3 l fr) ?_;(repeat(first|refine za ?_|refine zgo ?_));(repeat refine za ?_);refine zr ?_;have hris:=zq4 p l (by omega);have hblk:=zqR q fr (by omega)
 by_cases hokP:okP l=true
 rotate_left
 ·have hokP:okP l=false:=by simpa using hokP
  have he:zes l fr=zo4 2:=by unfold zes;rw[hokP];rfl
  rw[hokP]at hris;refine zfx ?_;refine zca hris ?_;refine zfx ?_;refine zh ?_;refine zfc ?_ ?_;rotate_left
  ·intro h;cases h
  intro _;(repeat(first|refine za ?_|refine zgo ?_));refine zq ?_;(try simp only[zb,zf,ze,zd,zg]);refine zj (by simp only[T27,zE,go_sem]<;>rfl) ?_;simp only[zG];rw[he];exact zkR 2
 rw[hokP]at hris
 by_cases hokI:okI [] fr=true
 rotate_left
 ·have hokI:okI [] fr=false:=by simpa using hokI
  have he:zes l fr=zo4 2:=by unfold zes;rw[hokI,Bool.and_false];rfl
  rw[hokI]at hblk;refine zfx ?_;refine zca hris ?_;refine zfx ?_;refine zca hblk ?_;refine zfx ?_;refine zh ?_;refine zfc ?_ ?_;rotate_left
  ·intro h;cases h
  intro _;(repeat(first|refine za ?_|refine zgo ?_));refine zq ?_;(try simp only[zb,zf,ze,zd,zg]);refine zj (by simp only[T27,zE,go_sem]<;>rfl) ?_;simp only[zG];rw[he];exact zkR 2
 rw[hokI]at hblk;refine zfx ?_;refine zca hris ?_;refine zfx ?_;refine zca hblk ?_;refine zfx ?_;refine zh ?_;refine zfc ?_ ?_
 ·intro h;cases h
 intro _;refine zF ?_;show W _ _ _ _ _ _;obtain⟨free,rfl,hokF⟩:=zqf hokI;have hff:=(zg4 free).1 hokF;have hfree:(free.map fun(b:Nat)=>(b:Int)).map Int.toNat=free:=by rw[zDM9];exact List.map_id free
 have hbE:zes l (free.map fun(b:Nat)=>(b:Int))=match zgk l free with
   | none=>zo4 221
   | some T=>bOk T:=by unfold zes;rw[hokP,hokI,hfree];rfl
 have hfv:(free.map fun(b:Nat)=>(b:Int)).map iv=bfl free:=by rw[zDM9];rfl
 have hfl:free.length<=2000:=by simpa using hfr
 rw[hbE,hfv];have hfbl:(bfl free).length=free.length:=by rw[zAA9]
 (repeat refine za ?_);refine zr ?_;refine zfx ?_ (by simp(disch:=omega)only[go_sem,zAA9]<;>rfl);refine zca (zpc l.length hl) ?_
 by_cases hsp:free.length<zeo l.length
 ·have g:((free.length:Nat):Int)<(zeo l.length:Nat):=by omega
  have hn:=(zkr (free:=free) hl).2 hsp;refine zfx ?_ (by simp(disch:=omega)only[go_sem,g,zAA9]<;>rfl);refine zh ?_;refine zfc ?_ ?_;rotate_left
  ·intro h;cases h
  intro _;(repeat(first|refine za ?_|refine zgo ?_));refine zq ?_;(try simp only[zb,zf,ze,zd,zg]);refine zj (by simp only[T27,zE,go_sem]<;>rfl) ?_;simp only[zG];rw[hn];exact zkR 221
 have g:¬((free.length:Nat):Int)<(zeo l.length:Nat):=by omega
 refine zfx ?_ (by simp(disch:=omega)only[go_sem,g,zAA9]<;>rfl);refine zh ?_;refine zfc ?_ ?_
 ·intro h;cases h
 intro _;refine zF ?_;show W _ _ _ _ _ _;obtain⟨TT,hTT⟩:∃TT,zgk l free=some TT:=by
  cases h:zgk l free with
  | none=>exact absurd ((zkr (free:=free) hl).1 h) hsp
  | some TT=>exact⟨TT,rfl⟩
 rw[hTT];(repeat(first|refine za ?_|refine zgo ?_));refine zvk p l hl _ _ 0 0 0 [zb5 ⟨0,0,0,9223372036854775808,0,[]⟩ .nilsl] [.nilsl] (zAM9 _) rfl ((Lvl.nil _).snoc ⟨0,0,0,9223372036854775808,0,[]⟩ rfl) (by simp[upd,zo]) (by simp[upd]) (by simp[upd]) (fun tm1 H1 g1 M1 vs1 ps1 hM1 hL1 hlv1 hf1 h81=>?_);simp only[zb,zf,ze,zd,zi,zg,if_true,reduceIte];have k1:tm1 1=.list q 1 (bfl free):=(hf1 1 (by decide) (by decide) (by decide) (by decide)).trans (by simp[upd,zo]);clear hf1;(repeat(first|refine za ?_|refine zgo ?_));refine zcd 83 2 (i:=11) (by simp[upd]) ?_;simp only[lzy];have hO1:(H1++[zn.row 83 2 0 0 []])[H1.length]?=some (.row 83 2 0 0 []):=by simp
 have hL1':(H1++[zn.row 83 2 0 0 []])[0]?=some (.row 124 6 g1 M1 vs1):=zbN hL1;have hlv1':Lvl (H1++[zn.row 83 2 0 0 []]) vs1 ps1 (zbX l):=hlv1.keep fun id o _ h=>zbN h;refine zD (zas (fun m s=>∃(k:Nat) (nl:List zB) (used:Nat) (T:List Lev) (Hc:List zn) (idL g M idO:Nat) (vs ps V:List PV),m=k/\1<=k/\3<=k+T.length/\zjl l free nl used T/\zhU free k nl used T=some TT/\used=(T.reverse.flatMap Prod.fst).length/\V=(zdY T.reverse).map zat/\V.length=64*used/\M<=g/\Hc[idL]?=some (.row 124 6 g M vs)/\Lvl Hc vs ps nl/\Hc[idO]?=some (.row 83 2 V.length 0 V)/\s.tm 1=.list q 1 (bfl free)/\s.tm 8=.sl idL g 0 vs.length (2*vs.length) 6/\s.tm 11=.sl idO V.length 0 V.length (2*V.length) 2/\s.tm 12=iv used/\s.df=[]/\s.H=Hc) (n:=4) ?_ ?_)
 ·exact⟨4,zbX l,0,[],_,0,g1,M1,H1.length,vs1,ps1,[],rfl,by decide,by decide,zmp free hokP hl,hTT,rfl,rfl,rfl,hM1,hL1',hlv1',hO1,by simp[upd,k1],by simp[upd,h81],by simp[upd],by simp[upd],rfl,rfl⟩
 ·clear hM1 hL1 hlv1 hL1' hlv1' hO1 k1 h81;rintro m ⟨tm,df,Hc⟩ ⟨k,nl,used,T,Hc',idL,g,M,idO,vs,ps,V,rfl,hk1,hk3,hI,hbd,hus,hV,hVl,hM,hL,hlvl,hO,h1,h8,h11,h12,rfl,rfl⟩;dsimp only at h1 h8 h11 h12;obtain⟨k,rfl⟩:∃k,m=k+1:=⟨m-1,by omega⟩
  have hnl0:0<nl.length:=zBO9.2 hI.ok.ne;have hnlb:nl.length<=28:=by
   have:=hI.bndL;have hb:∀t,bndL t<=28:=fun t=>by match t with|0=>decide|1=>decide|t+2=>exact(show 1<=28 by decide)
   exact zBN9 this (hb _)
  rw[zhU]at hbd;have hul:=hI.used
  by_cases hsp2:free.length<used+nl.length
  ·rw[if_pos hsp2]at hbd;cases hbd
  rw[if_neg hsp2]at hbd;have hvn:=hlvl.lenV;rw[hvn]at h8;(repeat refine za ?_);refine zD ?_;(repeat(first|refine za ?_|refine zgo ?_));refine zcd 3 1 (i:=13) (by simp[upd]) ?_;simp only[lzy];have hlc:idL<Hc.length:=(zAD9.1 hL).1;have hoc:idO<Hc.length:=(zAD9.1 hO).1;refine zvd q free used nl.length (by omega) (by omega) _ _ idL g _ Hc.length (by simp) (by simp[upd,h1]) (by simp[upd,h8];rfl) (by simp[upd,h12]) (by simp[upd]) (by simp[upd]) (fun tm2 H2 hst2 hA2 hf2 h13=>?_);simp only[zb,zf,ze,zd,zi,zg,if_true,reduceIte];obtain⟨v1,v2,v3,v4,v5,v6,v7,v8⟩:=hI.level hokF hsp2;have hnx:=hI.next hokF hsp2;have hlvl3:=hI.lvl;have hL2:H2[idL]?=some (.row 124 6 g M vs):=hst2 idL _ (by omega) (zbN hL);have hO2:H2[idO]?=some (.row 83 2 V.length 0 V):=hst2 idO _ (by omega) (zbN hO);have hlv2:Lvl H2 vs ps nl:=hlvl.keep fun id o _ h=>hst2 id o (by have h1:id<Hc.length:=(zAD9.1 h).1;omega) (zbN h);have x1:tm2 1=.list q 1 (bfl free):=(hf2 1 (by decide) (by decide) (by decide)).trans (by simp[upd,h1]);have x8:tm2 8=.sl idL g 0 nl.length (2*nl.length) 6:=(hf2 8 (by decide) (by decide) (by decide)).trans (by simp[upd,h8]);have x11:tm2 11=.sl idO V.length 0 V.length (2*V.length) 2:=(hf2 11 (by decide) (by decide) (by decide)).trans (by simp[upd,h11]);have x12:tm2 12=iv used:=(hf2 12 (by decide) (by decide) (by decide)).trans (by simp[upd,h12]);clear hf2 hst2 h1 h8 h11 h12;generalize hbs:(free.drop used).take nl.length=bs at *
  (repeat(first|refine za ?_|refine zgo ?_));refine zvo bs nl v1 (by omega) (fun b hb=>(v4 b hb).2) (fun n hn=>⟨(hI.ok.each n hn).1,(hI.ok.each n hn).2.2⟩) _ H2 idL Hc.length idO g M nl.length vs ps V (by omega) hM hL2 hlv2 hA2 hO2 (by simp[upd,x8]) (by simp[upd,x11]) (by simp[upd,h13,v1]) (by simp[upd]) (fun tm3 H3 M3 vs3 V3 hM3 hL3 hlv3 hA3 hO3 hV3 hf3 h11=>?_);simp only[zb,zf,ze,zd,zi,zg,if_true,reduceIte];have y1:tm3 1=.list q 1 (bfl free):=(hf3 1 (by decide)).trans (by simp[upd,x1]);have y8:tm3 8=.sl idL g 0 nl.length (2*nl.length) 6:=(hf3 8 (by decide)).trans (by simp[upd,x8]);have y12:tm3 12=iv used:=(hf3 12 (by decide)).trans (by simp[upd,x12]);have y13:tm3 13=.sl Hc.length nl.length 0 nl.length (2*nl.length) 1:=(hf3 13 (by decide)).trans (by simp[upd,h13]);clear hf3 x1 x8 x11 x12;have hpl:(zib bs (zbq bs nl)).length=64*nl.length:=by
   unfold zib;rw[zkT];simp[v1,zc2 bs nl v1]
  have hV4:V3=(zdY ((bs,zbq bs nl)::T).reverse).map zat:=by
   rw[hV3,hV,zER9,zdY,zdY,zCT9];simp
  have hV3l:V3.length=64*(used+nl.length):=by rw[hV3,zAC9,zAA9,hpl];omega
  have hus2:used+nl.length=(((bs,zbq bs nl)::T).reverse.flatMap Prod.fst).length:=by
   rw[zER9,zCT9,zAC9,<- hus];simp[v1]
  have hw:IntKind.i64.wrap ((used:Int)+(nl.length:Int))=((used+nl.length:Nat):Int):=by rw[wrap_i64 (by omega) (by omega)];omega
  by_cases ho:nl.length=1
  ·rw[if_pos ho]at hbd;injection hbd with hbd;subst hbd;have g1:((nl.length:Nat):Int)=1:=by omega
   obtain⟨b0,hb0⟩:=zEP9.1 (v1.trans ho);have hA0:(bfl bs)[0]?=some (iv b0):=by rw[hb0];rfl
   have hgA:0<=nl.length:=zAS9 _;(repeat refine za ?_);(repeat refine za ?_);refine zgo ?_ (by simp(disch:=omega)only[go_sem,y8,y12,hw]<;>rfl);(repeat refine za ?_);(repeat refine za ?_);refine zgo ?_ (by simp(disch:=omega)only[go_sem,y8,g1]<;>rfl);refine zfc ?_ ?_;rotate_left
   ·intro h;cases h
   intro _;(repeat refine za ?_);(repeat refine za ?_);refine zgo ?_ (by simp(disch:=omega)only[go_sem,y13,h11,hA3,hA0,hnl0,hgA]<;>rfl);refine zq ?_;(try simp only[zb,zf,ze,zd,zg]);refine zj (by simp only[T27,zE,go_sem]<;>rfl) ?_;simp only[zG];have hroot:zl8 ((bs,zbq bs nl)::T)=b0:=by rw[hb0];rfl
   refine Frz.tupL ⟨?_,?_,?_,.int _ _,trivial⟩
   ·rw[hroot];exact .int _ _
   ·rw[<- hV4];refine Frz.whole hO3 rfl rfl (zAM9 _) (fun v hv=>?_) (fun v hv=>?_)
    ·rw[hV4]at hv;obtain⟨x,_,rfl⟩:=zAP9.1 hv;rfl
    ·rw[hV4]at hv;obtain⟨x,hx,hv⟩:=zBC9.1 hv;obtain⟨y,_,rfl⟩:=zAP9.1 hx;simp[PV.cells]at hv;rcases hv with rfl|rfl<;>exact .int _ _
   ·rw[<- hus2];exact .int _ _
  ·rw[if_neg ho]at hbd;have g1:¬((nl.length:Nat):Int)=1:=by omega
   have hnx:=hnx ho;have hT1:T.length<=1:=by
    have:=hnx.lvl;simp at this;omega
   obtain⟨w1,w2,w3⟩:=zev bs nl v1;have hll:=zc2 bs nl v1;have hlevs:∀n∈zbq bs nl,n.level=T.length:=by
    intro n hn;obtain⟨j,hj⟩:=zDO9.1 hn;have hjl:j<nl.length:=by rw[<- hll];exact(zAD9.1 hj).1
    have e:=zeG bs nl j _ v1 (zAB9 hjl);rw[hj]at e;injection e with e;subst e;exact(hI.ok.each _ (zBP9 _)).2.1
   have hab:=zsg H3 idL g M3 Hc.length nl.length vs3 ps (zbq bs nl) bs T.length hL3 hM3 hlv3 hA3 (by rw[hll];exact v1) (by omega) hlevs (by omega) (fun b hb=>(v4 b hb).2);rw[hll,w2]at hab;(repeat refine za ?_);(repeat refine za ?_);refine zgo ?_ (by simp(disch:=omega)only[go_sem,y8,y12,hw]<;>rfl);(repeat refine za ?_);(repeat refine za ?_);refine zgo ?_ (by simp(disch:=omega)only[go_sem,y8,g1]<;>rfl);refine zfc ?_ ?_
   ·intro h;cases h
   intro _;refine zF ?_;show W _ _ _ _ _ _;(repeat refine za ?_);refine zr ?_;refine zfx ?_ (by simp(disch:=omega)only[go_sem,y8,y13]<;>rfl);refine zdN (caps:=?caps) (vs:=?vs) ?a1 ?a2 hab ?a3 ?a4 ?a5
   case a1=>first|rfl|(simp only[zab,zap,go_sem]<;>rfl)
   case a2=>simp only[go_sem]<;>rfl
   case a3=>rfl
   case a4=>rfl
   rintro e H4 ⟨hst4,idL4,g4,M4,vs4,ps4,rfl,hM4,_,hL4,hlv4,_⟩;refine zfx ?_;refine zy ?_;simp only[zb,zf,ze,zd,zi,zg,if_true,↓reduceIte];refine⟨k,zBT9 _,k,_,used+nl.length,(bs,zbq bs nl)::T,H4,idL4,g4,M4,idO,vs4,ps4,V3,rfl,by omega,?_,hnx,hbd,hus2,hV4,hV3l,hM4,hL4,hlv4,hst4 idO _ hO3,by simp[upd,y1],by simp[upd],by simp[upd,h11],by simp[upd],trivial,rfl⟩;simp;omega
theorem f9:FN ET 9 [] (.ret (.bool true)):=zxk (by kernel_rfl) (by rfl)
theorem zjm:∀X:List Lev,(∀M∈X,M.1.length=M.2.length)->(zdY X).length=64*(X.flatMap Prod.fst).length
 | [],_=>rfl
 | M::X,h=>by
  have h1:=zjm X fun K hK=>h K (zAT9 _ hK);have h2:=h M (zAV9 ..);unfold zdY at h1⊢;rw[zBS9,zAC9,h1,zBS9,zAC9];unfold zib;rw[zkT,List.length_zip];omega
theorem f156:ET.funcs.get 156=some T156:=zL Tryz.func156
theorem f141:ET.funcs.get 141=some T141:=zL Tryz.func141
theorem f158:ET.funcs.get 158=some T158:=zL Tryz.func158
theorem f139:ET.funcs.get 139=some T139:=zL Tryz.func139
theorem f195:ET.funcs.get 195=some T195:=zL Tryz.func195
theorem zlH (left n:Nat):zbu left n=(decide (left≠0)&&decide (n%2=0)&&decide (4<=n)&&decide (n<=56)):=by
 rw[zDU9];simp only[zbu,zAR9,decide_eq_true_eq];omega
theorem zku (p left:Nat)(w:List Nat)(hw:za2 w.length):FN ET 156 [uv left,wv p w] (.ret (.bool (zbu left w.length))):=by
 refine zfn f156 (.bool _) ?_;have r1:(w.length:Int).tmod 2=((w.length%2:Nat):Int):=rfl;rw[zlH]
 by_cases b1:left=0
 ·have a1:(left:Int)=0:=by omega
  (repeat(first|refine za ?_|refine zgo ?_ (by simp(disch:=omega)only[go_sem,a1]<;>rfl)));refine zq ?_;(try simp only[zb,zf,ze,zd,zg]);refine zj (by simp only[T156,zE,go_sem]<;>rfl) ?_;simp only[zG];exact zay.bool (by simp[b1])
 have a1:¬(left:Int)=0:=by omega
 by_cases b2:w.length%2=0
 rotate_left
 ·have a2:¬((w.length%2:Nat):Int)=0:=by omega
  (repeat(first|refine za ?_|refine zgo ?_ (by simp(disch:=omega)only[go_sem,a1,zax,r1,a2,zAA9]<;>rfl)));refine zq ?_;(try simp only[zb,zf,ze,zd,zg]);refine zj (by simp only[T156,zE,go_sem]<;>rfl) ?_;simp only[zG];exact zay.bool (by simp[b1,b2])
 have a2:((w.length%2:Nat):Int)=0:=by omega
 by_cases b3:4<=w.length
 rotate_left
 ·have a3:¬(4:Int)<=(w.length:Nat):=by omega
  (repeat(first|refine za ?_|refine zgo ?_ (by simp(disch:=omega)only[go_sem,a1,zax,r1,a2,a3,zAA9]<;>rfl)));refine zq ?_;(try simp only[zb,zf,ze,zd,zg]);refine zj (by simp only[T156,zE,go_sem]<;>rfl) ?_;simp only[zG];exact zay.bool (by simp[b3])
 have a3:(4:Int)<=(w.length:Nat):=by omega
 by_cases b4:w.length<=56
 ·have a4:((w.length:Nat):Int)<=56:=by omega
  (repeat(first|refine za ?_|refine zgo ?_ (by simp(disch:=omega)only[go_sem,a1,zax,r1,a2,a3,a4,zAA9]<;>rfl)));refine zq ?_;(try simp only[zb,zf,ze,zd,zg]);refine zj (by simp only[T156,zE,go_sem]<;>rfl) ?_;simp only[zG];exact zay.bool (by simp[b1,b2,b3,b4])
 ·have a4:¬((w.length:Nat):Int)<=56:=by omega
  (repeat(first|refine za ?_|refine zgo ?_ (by simp(disch:=omega)only[go_sem,a1,zax,r1,a2,a3,a4,zAA9]<;>rfl)));refine zq ?_;(try simp only[zb,zf,ze,zd,zg]);refine zj (by simp only[T156,zE,go_sem]<;>rfl) ?_;simp only[zG];exact zay.bool (by simp[b4])
theorem zcr {w:List Nat}{i:Nat}(h:i<w.length):(w.map uv)[i]?=some (uv (w.getD i 0)):=by
 rw[zAG9,zAB9 h,zAQ9,zAB9 h];rfl
theorem zhV (p left:Nat)(w:List Nat)(j:Nat)(hw:za2 w.length)(h:2*j<w.length+1):FN ET 141 [uv left,wv p w,iv j] (.ret (uv (zbU left w j))):=by
 refine zfn f141 (.int _ _) ?_;unfold zbU;(repeat(first|refine za ?_|refine zgo ?_));refine zfc ?_ ?_
 ·intro hj;obtain rfl:j=0:=by have:=of_decide_eq_true hj;omega
  (repeat(first|refine za ?_|refine zgo ?_));refine zq ?_;(try simp only[zb,zf,ze,zd,zg]);refine zj (by simp only[T141,zE,go_sem]<;>rfl) ?_;simp only[zG];exact Frz.int _ _
 ·intro hj;have hj:¬j=0:=by have:=of_decide_eq_false hj;omega
  rw[if_neg hj];refine zF ?_;show W _ _ _ _ _ _;have w1:IntKind.i64.wrap (2*(j:Int))=((2*j:Nat):Int):=by rw[wrap_i64 (by omega) (by omega)];omega
  have w2:IntKind.i64.wrap (((2*j:Nat):Int)-1)=((2*(j-1)+1:Nat):Int):=by rw[wrap_i64 (by omega) (by omega)];omega
  have c1:2*(j-1)+1<w.length:=by omega
  have z1:=zcr c1;(repeat(first|refine za ?_|refine zgo ?_ (by simp(disch:=omega)only[go_sem,w1,w2,c1,z1,zAA9]<;>rfl)));refine zq ?_;(try simp only[zb,zf,ze,zd,zg]);refine zj (by simp only[T141,zE,go_sem]<;>rfl) ?_;simp only[zG];exact Frz.int _ _
theorem zor (p:Nat)(w:List Nat)(hw:za2 w.length):FN ET 158 [wv p w] (.ret (iv (zbm w:Nat))):=by
 refine zfn f158 (.int _ _) ?_;have e0:IntKind.i64.wrap ((w.length:Int).tdiv 2)=((w.length/2:Nat):Int):=by rw[IntWalk.i64_quo _ _ (by omega)];omega
 (repeat(first|refine za ?_|refine zgo ?_));refine zD (zas (fun m s=>∃i:Nat,m=w.length-i/\2*i<=w.length/\zbm w=i+zbm (w.drop (2*i))/\s.tm 0=wv p w/\s.tm 3=iv i/\s.df=[]/\s.H=[]) (n:=w.length) ?_ ?_)
 ·exact⟨0,by simp[upd,zo]⟩
 ·rintro m ⟨tm,df,H⟩ ⟨i,rfl,hi,hc,h0,h3,rfl,rfl⟩;dsimp only at h0 h3
  by_cases hlt:i<w.length/2
  ·have g1:(i:Int)<((w.length/2:Nat):Int):=by omega
   have w1:IntKind.i64.wrap (2*(i:Int))=((2*i:Nat):Int):=by rw[wrap_i64 (by omega) (by omega)];omega
   have w2:IntKind.i64.wrap (((2*i:Nat):Int)+1)=((2*i+1:Nat):Int):=by rw[wrap_i64 (by omega) (by omega)];omega
   have c1:2*i+1<w.length:=by omega
   have z1:=zcr c1;have hd:=zj8 w i c1;have hx:w[2*i+1]=w.getD (2*i+1) 0:=by rw[zAQ9,zAB9 c1];rfl
   rw[hx]at hd;generalize w.getD (2*i+1) 0=x at *
   by_cases hz:x=0
   ·have gx:(x:Int)=0:=by omega
    (try refine zK ?_);refine za (zr ?_);refine zfx ?_ (by simp(disch:=omega)only[go_sem,h0,h3,e0,g1,w1,w2,c1,z1,gx,zAA9]<;>rfl);refine zh ?_;refine zN (by simp only[go_sem]<;>rfl) ?_ ?_
    ·intro h;cases h
    ·intro _;simp only[zb,zf,ze,zd,zi,zg,if_true,reduceIte];(repeat(first|refine za ?_|refine zgo ?_ (by simp(disch:=omega)only[go_sem,h3]<;>rfl)));refine zq ?_;(try simp only[zb,zf,ze,zd,zg]);refine zj (by simp only[T158,zE,go_sem]<;>rfl) ?_;simp only[zG];rw[hc,hd,zbm,if_pos hz];exact Frz.int _ _
   ·have gx:¬(x:Int)=0:=by omega
    (try refine zK ?_);refine za (zr ?_);refine zfx ?_ (by simp(disch:=omega)only[go_sem,h0,h3,e0,g1,w1,w2,c1,z1,gx,zAA9]<;>rfl);refine zh ?_;refine zN (by simp only[go_sem]<;>rfl) ?_ ?_
    ·intro _;refine zD ?_;(repeat refine za ?_);refine zrg ?_ (by simp(disch:=omega)only[go_sem,h3]<;>rfl);refine zy ?_;simp only[zb,zf,ze,zd,zi,zg,if_true,↓reduceIte];refine⟨_,?m,i+1,rfl,by omega,?_,by simp[upd,h0],by simp[upd,h3],trivial,trivial⟩
     case m=>omega
     rw[hc,hd,zbm,if_neg hz];omega
    ·intro h;cases h
  ·have g1:¬(i:Int)<((w.length/2:Nat):Int):=by omega
   (try refine zK ?_);refine za (zr ?_);refine zfx ?_ (by simp(disch:=omega)only[go_sem,h0,h3,e0,g1,zAA9]<;>rfl);refine zh ?_;refine zN (by simp only[go_sem]<;>rfl) ?_ ?_
   ·intro h;cases h
   ·intro _;simp only[zb,zf,ze,zd,zi,zg,if_true,reduceIte];(repeat(first|refine za ?_|refine zgo ?_ (by simp(disch:=omega)only[go_sem,h3]<;>rfl)));refine zq ?_;(try simp only[zb,zf,ze,zd,zg]);refine zj (by simp only[T158,zE,go_sem]<;>rfl) ?_;simp only[zG];rw[hc,zlN (by simp;omega)];exact Frz.int _ _
def zfh (l:List Pr)(x:Nat):Bool:=(l.map Prod.snd).contains x
theorem znX (p:Nat)(l:List Pr)(x:Nat)(hl:za2 l.length):FN ET 195 [psv p l,uv x] (.ret (.bool (zfh l x))):=by
 refine zfn f195 (.bool _) ?_;(repeat(first|refine za ?_|refine zgo ?_));refine zD (zas (fun m s=>∃i:Nat,m=l.length-i/\i<=l.length/\zfh l x=zfh (l.drop i) x/\s.tm 0=psv p l/\s.tm 1=uv x/\s.tm 5=iv i/\s.df=[]/\s.H=[]) (n:=l.length) ?_ ?_)
 ·exact⟨0,by simp[upd,zo]⟩
 ·rintro m ⟨tm,df,H⟩ ⟨i,rfl,hi,hc,h0,h1,h5,rfl,rfl⟩;dsimp only at h0 h1 h5;(try refine zK ?_);refine za (zr ?_);refine zfx ?_ (by simp(disch:=omega)only[go_sem,h0,h5,zAA9]<;>rfl);refine zh ?_;refine zN (by simp only[go_sem]<;>rfl) ?_ ?_
  ·intro hlt;have hlt:i<l.length:=by have:=of_decide_eq_true hlt;omega
   obtain⟨q,hq⟩:∃q,l[i]?=some q:=⟨_,zAB9 hlt⟩
   have hqv:(l.map pv)[i]?=some (pv q):=by rw[zAG9,hq];rfl
   have hdr:l.drop i=q::l.drop (i+1):=by rw[zAU9 hlt];obtain⟨_,e⟩:=zAD9.1 hq;rw[e]
   (repeat refine za ?_);refine zD ?_
   by_cases he:q.2=x
   ·have g1:(q.2:Int)=x:=by omega
    (repeat refine za ?_);refine zgo ?_ (by simp(disch:=omega)only[go_sem,h0,h1,h5,hqv,hlt,g1,zAA9]<;>rfl);refine zfc ?_ ?_;rotate_left
    ·intro h;cases h
    intro _;(repeat(first|refine za ?_|refine zgo ?_));refine zq ?_;(try simp only[zb,zf,ze,zd,zg]);refine zj (by simp only[T195,zE,go_sem]<;>rfl) ?_;simp only[zG];exact zay.bool (by rw[hc,hdr];simp[zfh,he])
   ·have g1:¬(q.2:Int)=x:=by omega
    (repeat refine za ?_);refine zgo ?_ (by simp(disch:=omega)only[go_sem,h0,h1,h5,hqv,hlt,g1,zAA9]<;>rfl);refine zfc ?_ ?_
    ·intro h;cases h
    intro _;refine zF ?_;simp only[zb,zf,ze,zd,zi,zg,if_true,reduceIte];(repeat refine za ?_);refine zrg ?_ (by simp(disch:=omega)only[go_sem,h5]<;>rfl);refine zy ?_;simp only[zb,zf,ze,zd,zi,zg,if_true,↓reduceIte];refine⟨_,?m,i+1,rfl,hlt,?_,by simp[upd,h0],by simp[upd,h1],by simp[upd,h5],trivial,trivial⟩
    case m=>omega
    rw[hc,hdr];simp[zfh,Ne.symm he]
  ·intro hlt;have hlt:¬i<l.length:=by have:=of_decide_eq_false hlt;omega
   obtain rfl:i=l.length:=by omega
   simp only[zb,zf,ze,zd,zi,zg,if_true,reduceIte];(repeat(first|refine za ?_|refine zgo ?_));refine zq ?_;(try simp only[zb,zf,ze,zd,zg]);refine zj (by simp only[T195,zE,go_sem]<;>rfl) ?_;simp only[zG];exact zay.bool (by rw[hc,zBG9];rfl)
theorem zd6:∀(l:List Nat) (j prev:Nat),2*(zbC j prev l).length<=l.length
 | [],_,_=>by simp[zbC]
 | [_],_,_=>by simp[zbC]
 | _::p::l,j,prev=>by
  have:=zd6 l (j+1) p;rw[zbC]
  split
  ·simp
  ·split<;>simp<;>omega
theorem zra {l:List Nat}(h:zbm l=0)(j prev:Nat):zbC j prev l=[]:=by
 match l,h with
 | [],_=>simp[zbC]
 | [_],_=>simp[zbC]
 | a::b::l,h =>
  rw[zbm]at h
  by_cases hb:b=0
  ·rw[zbC,if_pos hb]
  ·rw[if_neg hb]at h;omega
set_option maxHeartbeats 1000000 in
theorem zfz (p left:Nat)(w:List Nat)(hw:w.length<1000000):FN ET 139 [uv left,wv p w] (.ret (.tuple [psv 0 (zav left w),.list 0 1 ((zbC 0 left w).map fun x=>iv (x.1:Nat))])):=by
 refine zfn f139 (Lb.two (Lb.pvs _) ?_) ?_
 ·have:=Lb.ivs (z:=1) ((zbC 0 left w).map fun x=>(x.1:Int));rw[zDM9]at this;exact this
 (repeat(first|refine za ?_|refine zgo ?_));refine zcd 66 2 (i:=6) rfl ?_;refine zcd 3 1 (i:=7) rfl ?_;simp only[lzy,zAC9,zAE9,zAH9,zAN9,zAF9,zAI9,zAL9];refine zD (zas (fun m s=>∃(j:Nat) (V1 V2:List PV) (I:List (Nat×Pr)) (G:List zn),m=w.length-j/\j<=zbm w/\zbm w=j+zbm (w.drop (2*j))/\zbC 0 left w=I++zbC j (zbU left w j) (w.drop (2*j))/\V1=I.map (fun x=>pv x.2)/\V2=I.map (fun x=>iv (x.1:Nat))/\s.tm 0=uv left/\s.tm 1=wv p w/\s.tm 6=.sl 0 V1.length 0 V1.length (2*V1.length) 2/\s.tm 7=.sl 1 V2.length 0 V2.length (2*V2.length) 1/\s.tm 8=iv j/\s.df=[]/\s.H=.row 66 2 V1.length 0 V1::.row 3 1 V2.length 0 V2::G) (n:=w.length) ?_ ?_)
 ·exact⟨0,[],[],[],[],rfl,zAS9 _,by simp,by simp[zbU],rfl,rfl,by simp[upd,zo],by simp[upd,zo],by simp[upd],by simp[upd],by simp[upd],rfl,rfl⟩
 ·rintro m ⟨tm,df,H⟩ ⟨j,V1,V2,I,G,rfl,hj,hraw,hit,hV1,hV2,h0,h1,h6,h7,h8,rfl,rfl⟩;dsimp only at h0 h1 h6 h7 h8;have hrl:=zh7 w;have hIl:I.length<=w.length:=by have:=zd6 w 0 left;rw[hit,zAC9]at this;omega
  have hl1:V1.length=I.length:=by rw[hV1,zAA9]
  have hl2:V2.length=I.length:=by rw[hV2,zAA9]
  refine zK ?_;(repeat refine za ?_);refine zrg ?_ (by simp(disch:=omega)only[go_sem,h1,h8]<;>rfl);refine zca (zor p w (by omega)) ?_;refine zfx ?_;refine zh ?_;refine zN (by simp only[go_sem]<;>rfl) ?_ ?_
  ·intro hlt;have hlt:j<zbm w:=by have:=of_decide_eq_true hlt;omega
   have w1:IntKind.i64.wrap (2*(j:Int))=((2*j:Nat):Int):=by rw[wrap_i64 (by omega) (by omega)];omega
   have w2:IntKind.i64.wrap (((2*j:Nat):Int)+1)=((2*j+1:Nat):Int):=by rw[wrap_i64 (by omega) (by omega)];omega
   have c0:2*j<w.length:=by omega
   have c1:2*j+1<w.length:=by omega
   have z0:=zcr c0;have z1:=zcr c1;have hd:=zj8 w j c1;have hx0:w[2*j]=w.getD (2*j) 0:=by rw[zAQ9,zAB9 c0];rfl
   have hx1:w[2*j+1]=w.getD (2*j+1) 0:=by rw[zAQ9,zAB9 c1];rfl
   have han:zbU left w (j+1)=w.getD (2*j+1) 0:=by unfold zbU;rw[if_neg (by omega),zFE9]
   have hah:=zhV p left w j (by omega) (by omega);rw[hx0,hx1]at hd;generalize w.getD (2*j) 0=k at *
   generalize w.getD (2*j+1) 0=x at *
   generalize zbU left w j=a at *
   have hxz:x≠0:=by
    intro e;rw[hraw,hd,zbm,if_pos e]at hlt;omega
   rw[hd,zbm,if_neg hxz]at hraw;rw[hd,zbC,if_neg hxz]at hit;(repeat refine za ?_);refine zD ?_;(repeat refine za ?_);refine zag ?_
   by_cases he:x=a
   ·have g1:(x:Int)=a:=by omega
    rw[if_pos he]at hit;refine zdn hah ?_ (by simp(disch:=omega)only[go_sem,h0,h1,h8,w1,w2,c1,z1,zAA9]<;>rfl);refine zdl ?_ (by simp(disch:=omega)only[go_sem,h0,g1]<;>rfl);refine zM ?_;simp only[zi,zS,zb,go_sem];refine zfc ?_ ?_
    ·intro h;simp[g1]at h
    intro _;refine zF ?_;simp only[zb,zf,ze,zd,zi,zg,if_true,reduceIte];(repeat refine za ?_);refine zrg ?_ (by simp(disch:=omega)only[go_sem,h8]<;>rfl);refine zy ?_;simp only[zb,zf,ze,zd,zi,zg,if_true,↓reduceIte];refine⟨_,?m1,j+1,V1,V2,I,G,rfl,hlt,by omega,(by rw[han];exact hit),hV1,hV2,by simp[upd,h0],by simp[upd,h1],by simp[upd,h6],by simp[upd,h7],by simp[upd,h8],trivial,rfl⟩
    case m1=>omega
   ·have g1:¬(x:Int)=a:=by omega
    rw[if_neg he]at hit;refine zdn hah ?_ (by simp(disch:=omega)only[go_sem,h0,h1,h8,w1,w2,c1,z1,zAA9]<;>rfl);refine zdl ?_ (by simp(disch:=omega)only[go_sem,h0,g1]<;>rfl);refine zM ?_;simp only[zi,zS,zb,go_sem];refine zfc ?_ ?_;rotate_left
    ·intro h;simp[g1]at h
    intro _;have hb1:(V1.length+1)*17<=140737488355328:=by omega
    have hb2:(V2.length+1)*9<=140737488355328:=by omega
    (repeat refine za ?_);refine zag ?_;refine zda ?_ (by simp(disch:=omega)only[go_sem,h0,h1,h6,h7,h8,w1,w2,c0,c1,z0,z1,hb1,zc,zAA9]<;>rfl);refine zdl ?_ (by simp(disch:=omega)only[go_sem,h0]<;>rfl);refine zM ?_;simp only[zi,zS,zb,go_sem];(repeat refine za ?_);refine zrg ?_ (by simp(disch:=omega)only[go_sem,h7,h8,hb2,zc]<;>rfl);refine zy ?_;simp only[zb,zf,ze,zd,zi,zg,if_true,↓reduceIte];(repeat refine za ?_);refine zrg ?_ (by simp(disch:=omega)only[go_sem,h8]<;>rfl);refine zy ?_;simp only[zb,zf,ze,zd,zi,zg,if_true,↓reduceIte];refine⟨_,?m2,j+1,V1++[pv (k,x)],V2++[iv (j:Nat)],I++[(j,(k,x))],?G2,rfl,hlt,by omega,(by rw[hit,han];simp),(by rw[hV1];simp),(by rw[hV2];simp),by simp[upd,h0],by simp[upd,h1],by simp[upd],by simp[upd],by simp[upd,h8],trivial,?H⟩
    case m2=>omega
    case H=>simp only[zAC9,zAE9,zAH9,zAF9,zAI9];rfl
  ·intro hlt;have hlt:¬j<zbm w:=by have:=of_decide_eq_false hlt;omega
   rw[zra (l:=w.drop (2*j)) (by omega),zEB9]at hit;simp only[zb,zf,ze,zd,zi,zg,if_true,reduceIte];(repeat(first|refine za ?_|refine zgo ?_ (by simp(disch:=omega)only[go_sem,h6,h7]<;>rfl)));refine zq ?_;(try simp only[zb,zf,ze,zd,zg]);refine zj (by simp only[T139,zE,go_sem]<;>rfl) ?_;simp only[zG];have e1:zav left w=I.map (fun x=>x.2):=by rw[<- zcp w 0 left,hit]
   have e2:(I.map (fun x=>x.2)).map pv=V1:=by rw[hV1,zDM9];rfl
   rw[e1,hit];refine Frz.tupL ⟨?_,?_,trivial⟩
   ·show Frz _ _ _ (.list 0 2 ((I.map fun x=>x.2).map pv));rw[e2];exact Frz.whole (l:=V1) rfl rfl rfl (zAM9 _) (fun v hv=>by rw[hV1]at hv;obtain⟨x,_,rfl⟩:=zAP9.1 hv;rfl) (by rw[<- e2];exact zeL)
   ·rw[<- hV2];have e3:V2=(I.map fun x=>(x.1:Int)).map iv:=by rw[hV2,zDM9];rfl
    exact Frz.whole (l:=V2) rfl rfl rfl (zAM9 _) (fun v hv=>by rw[hV2]at hv;obtain⟨x,_,rfl⟩:=zAP9.1 hv;rfl) (by rw[e3];exact zrF)
theorem f157:ET.funcs.get 157=some T157:=zL Tryz.func157
theorem f104:ET.funcs.get 104=some T104:=zL Tryz.func104
theorem f140:ET.funcs.get 140=some T140:=zL Tryz.func140
theorem f173:ET.funcs.get 173=some T173:=zL Tryz.func173
def zeR (left:Nat)(l:List Pr)(i:Nat):Bool :=
 (decide (i=0)||decide ((l.getD (i-1) (0,0)).1<(l.getD i (0,0)).1)) && !zfh (l.take i) (l.getD i (0,0)).2 && !decide ((l.getD i (0,0)).2=left)
def zgC (left:Nat)(l:List Pr):Bool:=zbi l&&zcq [left] l
theorem zqq (left:Nat)(l:List Pr):zgC left l=true↔∀i,i<l.length->zeR left l i=true:=by
 unfold zgC;rw[zAR9,zdP,zex];have hget:∀i,i<l.length->l[i]?=some (l.getD i (0,0)):=fun i hi=>get_lt l hi
 constructor
 ·rintro ⟨h1,h2,h3⟩ i hi;unfold zeR;simp only[zAR9,zEM9,zEC9,decide_eq_true_eq,decide_eq_false_iff_not];refine⟨⟨?_,?_⟩,?_⟩
  ·by_cases h0:i=0
   ·exact .inl h0
   ·right
    refine h1 (i-1) _ _ (hget _ (by omega)) ?_;rw[show i-1+1=i by omega];exact hget i hi
  ·unfold zfh;rw[<- zEJ9,zDB9];intro hm;obtain⟨q,hq,e⟩:=zAP9.1 hm;obtain⟨k,hk,hkq⟩:=zBJ9.1 hq;rw[zBB9]at hk;rw[zGB9]at hkq;have hp:=zDQ9.1 h2 k i (by simp;omega) (by simpa using hi) (by omega);rw[zFM9,zFM9,hkq]at hp
   apply hp
   rw[e,zAQ9,zAB9 hi];rfl
  ·intro e;exact h3 _ (zAK9 (hget i hi)) (by rw[e];exact zAV9 ..)
 ·intro h;have k:∀i,i<l.length->(i=0\/(l.getD (i-1) (0,0)).1<(l.getD i (0,0)).1)/\zfh (l.take i) (l.getD i (0,0)).2=false/\¬(l.getD i (0,0)).2=left:=fun i hi=>by
   have:=h i hi;unfold zeR at this;simp only[zAR9,zEM9,zEC9,decide_eq_true_eq,decide_eq_false_iff_not]at this;exact⟨this.1.1,this.1.2,this.2⟩
  refine⟨fun i x y hx hy=>?_,?_,fun p hp hm=>?_⟩
  ·have hi:=(zAD9.1 hy).1;have:=(k (i+1) hi).1;rw[getD_some hy,zFE9,getD_some hx]at this;rcases this with h0|h0
   ·omega
   ·exact h0
  ·show List.Pairwise (fun x y=>x≠y) (l.map Prod.snd);rw[zDQ9];intro i j hi hj hij e;rw[zAA9]at hi hj;rw[zFM9,zFM9]at e;have h2:=(k j hj).2.1;unfold zfh at h2;rw[<- zEJ9,zDB9]at h2
   apply h2
   rw[zAQ9,zAB9 hj];show l[j].2∈_;rw[<- e];exact List.mem_map_of_mem (zBJ9.2 ⟨i,by rw[zBB9];omega,zGB9⟩)
  ·obtain⟨i,hi,e⟩:=zBJ9.1 hp;have h3:=(k i hi).2.2;rw[zAQ9,zAB9 hi]at h3
   apply h3
   show l[i].2=left;rw[e];simpa using hm
theorem zsF (p left:Nat)(l:List Pr)(hl:l.length<1000000):FN ET 157 [uv left,psv p l] (.ret (.bool (zgC left l))):=by
 refine zfn f157 (.bool _) ?_;(repeat(first|refine za ?_|refine zgo ?_));have bad:∀i,i<l.length->zeR left l i=false->zgC left l=false:=fun i hi h=>by
  cases hf:zgC left l with
  | false=>rfl
  | true=>rw[(zqq left l).1 hf i hi]at h;cases h
 refine zD (zas (fun m s=>∃i:Nat,m=l.length-i/\i<=l.length/\(∀j,j<i->zeR left l j=true)/\s.tm 0=uv left/\s.tm 1=psv p l/\s.tm 5=iv i/\s.df=[]/\s.H=[]) (n:=l.length) ?_ ?_)
 ·exact⟨0,rfl,zAS9 _,fun j hj=>by omega,by simp[upd,zo],by simp[upd,zo],by simp[upd],rfl,rfl⟩
 ·rintro m ⟨tm,df,H⟩ ⟨i,rfl,hi,hok,h0,h1,h5,rfl,rfl⟩;dsimp only at h0 h1 h5;(try refine zK ?_);refine za (zr ?_);refine zfx ?_ (by simp(disch:=omega)only[go_sem,h1,h5,zAA9]<;>rfl);refine zh ?_;refine zN (by simp only[go_sem]<;>rfl) ?_ ?_;rotate_left
  ·intro hlt;have hlt:¬i<l.length:=by have:=of_decide_eq_false hlt;omega
   obtain rfl:i=l.length:=by omega
   simp only[zb,zf,ze,zd,zi,zg,if_true,reduceIte];(repeat(first|refine za ?_|refine zgo ?_));refine zq ?_;(try simp only[zb,zf,ze,zd,zg]);refine zj (by simp only[T157,zE,go_sem]<;>rfl) ?_;simp only[zG];exact zay.bool ((zqq left l).2 hok).symm
  intro hlt;have hlt:i<l.length:=by have:=of_decide_eq_true hlt;omega
  have hxv:(l.map pv)[i]?=some (pv (l.getD i (0,0))):=by rw[zAG9,get_lt l hlt];rfl
  have htk:(l.map pv).take i=(l.take i).map pv:=by rw[zDN9]
  have hle:i<=l.length:=hi;have hhas:=znX p (l.take i) (l.getD i (0,0)).2 (by rw[zBB9];omega);have hfa:zeR left l i=((decide (i=0)||decide ((l.getD (i-1) (0,0)).1<(l.getD i (0,0)).1)) && !zfh (l.take i) (l.getD i (0,0)).2 && !decide ((l.getD i (0,0)).2=left)):=rfl;(repeat refine za ?_);refine zD ?_;(repeat refine za ?_);refine zbA (Q:=fun y s'=>y=.norm/\s'.tm 47=.bool (!zeR left l i)/\s'.tm 0=uv left/\s'.tm 1=psv p l/\s'.tm 5=iv i/\s'.df=[]/\s'.H=[]) (zag ?_) ?_
  ·generalize zfh (l.take i) (l.getD i (0,0)).2=hp at *
   generalize zeR left l i=fa at *
   by_cases b0:i=0
   ·have g0:¬(0:Int)<(i:Int):=by omega
    cases hp with
    | true =>
     refine zdn hhas ?_ (by simp(disch:=omega)only[go_sem,h1,h5,g0,hxv,hlt,hle,htk,zAA9]<;>rfl);refine zdl ?_ (by simp(disch:=omega)only[go_sem,h0,h1,h5]<;>rfl);refine zM ?_;simp only[zi,zS,zb,go_sem];exact⟨by rw[hfa];simp,h0,h1,h5⟩
    | false =>
     by_cases b2:(l.getD i (0,0)).2=left
     ·have g2:((l.getD i (0,0)).2:Int)=left:=by omega
      refine zdn hhas ?_ (by simp(disch:=omega)only[go_sem,h1,h5,g0,hxv,hlt,hle,htk,zAA9]<;>rfl);refine zdl ?_ (by simp(disch:=omega)only[go_sem,h0,h1,h5,hxv,hlt,g2,zAA9]<;>rfl);refine zM ?_;simp only[zi,zS,zb,go_sem];exact⟨by rw[hfa,decide_eq_true b2];simp,h0,h1,h5⟩
     ·have g2:¬((l.getD i (0,0)).2:Int)=left:=by omega
      refine zdn hhas ?_ (by simp(disch:=omega)only[go_sem,h1,h5,g0,hxv,hlt,hle,htk,zAA9]<;>rfl);refine zdl ?_ (by simp(disch:=omega)only[go_sem,h0,h1,h5,hxv,hlt,g2,zAA9]<;>rfl);refine zM ?_;simp only[zi,zS,zb,go_sem];exact⟨by rw[hfa,decide_eq_false b2,decide_eq_true b0];rfl,h0,h1,h5⟩
   have g0:(0:Int)<(i:Int):=by omega
   have hi1:IntKind.i64.wrap ((i:Int)-1)=((i-1:Nat):Int):=by rw[wrap_i64 (by omega) (by omega)];omega
   have hil:i-1<l.length:=by omega
   have hpv:(l.map pv)[i-1]?=some (pv (l.getD (i-1) (0,0))):=by rw[zAG9,get_lt l hil];rfl
   generalize l.getD (i-1) (0,0)=pr at *
   generalize l.getD i (0,0)=x at *
   by_cases b1:pr.1<x.1
   rotate_left
   ·have hkey:((x.1:Nat):Int)<=(pr.1:Nat):=by omega
    refine zez (by first|exact trivial|simp only[go_sem,h0,h1,h5,g0,hi1,hil,hpv,hxv,hlt,hle,hkey,zAA9]) (by simp(disch:=omega)only[go_sem,h0,h1,h5,g0,hi1,hil,hpv,hxv,hlt,hle,hkey,zAA9]<;>rfl) rfl (by simp only[go_sem,h0,h1,h5,g0,hi1,hil,hpv,hxv,hlt,hle,hkey,zAA9]<;>rfl) (by simp only[go_sem]<;>rfl) ?_;refine zdl ?_ (by simp(disch:=omega)only[go_sem,h0,h1,h5,g0,hi1,hil,hpv,hxv,hlt,hle,hkey,zAA9]<;>rfl);refine zM ?_;simp only[zi,zS,zb,go_sem];exact⟨by rw[hfa];simp[b0,b1],h0,h1,h5⟩
   have hkey:¬((x.1:Nat):Int)<=(pr.1:Nat):=by omega
   cases hp with
   | true =>
    refine zdn hhas ?_ (by simp(disch:=omega)only[go_sem,h1,h5,g0,hi1,hil,hpv,hxv,hlt,hle,htk,hkey,zAA9]<;>rfl);refine zdl ?_ (by simp(disch:=omega)only[go_sem,h0,h1,h5]<;>rfl);refine zM ?_;simp only[zi,zS,zb,go_sem];exact⟨by rw[hfa];simp,h0,h1,h5⟩
   | false =>
    by_cases b2:x.2=left
    ·have g2:(x.2:Int)=left:=by omega
     refine zdn hhas ?_ (by simp(disch:=omega)only[go_sem,h1,h5,g0,hi1,hil,hpv,hxv,hlt,hle,htk,hkey,zAA9]<;>rfl);refine zdl ?_ (by simp(disch:=omega)only[go_sem,h0,h1,h5,hxv,hlt,g2,zAA9]<;>rfl);refine zM ?_;simp only[zi,zS,zb,go_sem];exact⟨by rw[hfa];simp[b2],h0,h1,h5⟩
    ·have g2:¬(x.2:Int)=left:=by omega
     refine zdn hhas ?_ (by simp(disch:=omega)only[go_sem,h1,h5,g0,hi1,hil,hpv,hxv,hlt,hle,htk,hkey,zAA9]<;>rfl);refine zdl ?_ (by simp(disch:=omega)only[go_sem,h0,h1,h5,hxv,hlt,g2,zAA9]<;>rfl);refine zM ?_;simp only[zi,zS,zb,go_sem];exact⟨by rw[hfa];simp[b1,b2],h0,h1,h5⟩
  clear h0 h1 h5;rintro y ⟨tm,df,H⟩ ⟨rfl,h47,h0,h1,h5,rfl,rfl⟩;dsimp only at h47 h0 h1 h5;simp only[zb,zf,ze,zd,zi,zg,if_true,reduceIte]
  by_cases hfi:zeR left l i=true
  rotate_left
  ·have hfi:zeR left l i=false:=by simpa using hfi
   refine zfc ?_ ?_ (by simp only[go_sem,h47]<;>rfl)
   ·intro _;(repeat(first|refine za ?_|refine zgo ?_));refine zq ?_;(try simp only[zb,zf,ze,zd,zg]);refine zj (by simp only[T157,zE,go_sem]<;>rfl) ?_;simp only[zG];exact zay.bool (bad i hlt hfi).symm
   ·rw[hfi];intro h;cases h
  refine zfc ?_ ?_ (by simp only[go_sem,h47]<;>rfl)
  ·rw[hfi];intro h;cases h
  intro _;refine zF ?_;simp only[zb,zf,ze,zd,zi,zg,if_true,reduceIte];(repeat refine za ?_);refine zrg ?_ (by simp(disch:=omega)only[go_sem,h5]<;>rfl);refine zy ?_;simp only[zb,zf,ze,zd,zi,zg,if_true,↓reduceIte];refine⟨_,?m,i+1,rfl,hlt,fun j hj=>?_,by simp[upd,h0],by simp[upd,h1],by simp[upd,h5],trivial,trivial⟩
  case m=>omega
  rcases zCP9 j i with h|h
  ·exact hok j h
  ·rw[show j=i by omega];exact hfi
theorem zhT (p left:Nat)(w:List Nat)(hw:w.length<1000000):FN ET 104 [uv left,wv p w] (.ret (iv (zbz left w:Nat))):=by
 refine zfn f104 (.int _ _) ?_;have hR:=zku p left w (by omega);have hRd:=zfz p left w hw;have hRaw:=zor p w (by omega);have e0:IntKind.i64.wrap ((w.length:Int).tdiv 2)=((w.length/2:Nat):Int):=by rw[IntWalk.i64_quo _ _ (by omega)];omega
 (repeat(first|refine za ?_|refine zgo ?_));(repeat refine za ?_);refine zrg ?_;refine zca hR ?_;refine zfx ?_;refine zh ?_
 by_cases hr:zbu left w.length=true
 rotate_left
 ·have hr:zbu left w.length=false:=by simpa using hr
  rw[hr];refine zfc ?_ ?_;rotate_left
  ·intro h;cases h
  intro _;(repeat(first|refine za ?_|refine zgo ?_));refine zq ?_;(try simp only[zb,zf,ze,zd,zg]);refine zj (by simp only[T104,zE,go_sem]<;>rfl) ?_;simp only[zG];have:zbz left w=2:=by unfold zbz;rw[hr];rfl
  rw[this];exact Frz.int _ _
 rw[hr];refine zfc ?_ ?_
 ·intro h;cases h
 intro _;refine zF ?_;show W _ _ _ _ _ _;(repeat refine za ?_);refine zrg ?_;refine zca hRd ?_;refine zfx ?_;refine zh ?_;have hsr:zbB left w=zav left w:=by unfold zbB;rw[if_pos hr]
 have hrl:=zdM left w;have hset:zcs left w=(zgC left (zav left w)&&decide ((zav left w).length=zbm w)&&decide ((zav left w).length<w.length/2)&&zdF (w.drop (2*(zav left w).length))):=by unfold zcs zgC;rw[hsr]
 have hck:zbz left w=if zcs left w=true then 0 else 190:=by unfold zbz;rw[if_pos hr]
 rw[hsr]at hrl;generalize zav left w=L at *
 have hF:=zsF 0 left L (by omega);have bad:zcs left w=false->zay [] 0 (.ret (iv 190)) (.ret (iv (zbz left w:Nat))):=fun h=>by rw[hck,h];exact Frz.int _ _
 (repeat refine za ?_);refine zrg ?_;refine zca hF ?_
 by_cases hf:zgC left L=true
 rotate_left
 ·have hf:zgC left L=false:=by simpa using hf
  rw[hf];refine zfx ?_ (by simp(disch:=omega)only[go_sem,zAA9]<;>rfl);refine zh ?_;refine zfc ?_ ?_;rotate_left
  ·intro h;cases h
  intro _;(repeat(first|refine za ?_|refine zgo ?_));refine zq ?_;(try simp only[zb,zf,ze,zd,zg]);refine zj (by simp only[T104,zE,go_sem]<;>rfl) ?_;simp only[zG];exact bad (by rw[hset,hf];rfl)
 rw[hf];refine zfx ?_ (by simp(disch:=omega)only[go_sem,zAA9]<;>rfl);refine zca hRaw ?_
 by_cases hq:L.length=zbm w
 rotate_left
 ·have g1:¬(L.length:Int)=(zbm w:Nat):=by omega
  refine zfx ?_ (by simp(disch:=omega)only[go_sem,g1,zAA9]<;>rfl);refine zh ?_;refine zfc ?_ ?_;rotate_left
  ·intro h;cases h
  intro _;(repeat(first|refine za ?_|refine zgo ?_));refine zq ?_;(try simp only[zb,zf,ze,zd,zg]);refine zj (by simp only[T104,zE,go_sem]<;>rfl) ?_;simp only[zG];exact bad (by rw[hset];simp[hq])
 have g1:(L.length:Int)=(zbm w:Nat):=by omega
 by_cases hlt:L.length<w.length/2
 rotate_left
 ·have g2:((w.length/2:Nat):Int)<=(L.length:Nat):=by omega
  have g2':((w.length/2:Nat):Int)<=(zbm w:Nat):=by omega
  refine zfx ?_ (by simp(disch:=omega)only[go_sem,g1,g2,g2',e0,zAA9]<;>rfl);refine zh ?_;refine zfc ?_ ?_;rotate_left
  ·intro h;cases h
  intro _;(repeat(first|refine za ?_|refine zgo ?_));refine zq ?_;(try simp only[zb,zf,ze,zd,zg]);refine zj (by simp only[T104,zE,go_sem]<;>rfl) ?_;simp only[zG];exact bad (by rw[hset];simp;omega)
 have g2:¬((w.length/2:Nat):Int)<=(L.length:Nat):=by omega
 have g2':¬((w.length/2:Nat):Int)<=(zbm w:Nat):=by omega
 refine zfx ?_ (by simp(disch:=omega)only[go_sem,g1,g2,g2',e0,zAA9]<;>rfl);refine zh ?_;refine zfc ?_ ?_
 ·intro h;cases h
 intro _;refine zF ?_;show W _ _ _ _ _ _;(repeat(first|refine za ?_|refine zgo ?_ (by simp(disch:=omega)only[go_sem,zAA9]<;>rfl)));have hset2:zcs left w=zdF (w.drop (2*L.length)):=by rw[hset,hf];simp[hq];omega
 clear hset g1 g2 g2';refine zD (zas (fun m s=>∃i:Nat,m=w.length-i/\L.length<=i/\i<=w.length/2/\zcs left w=zdF (w.drop (2*i))/\s.tm 1=wv p w/\s.tm 7=iv i/\s.df=[]/\s.H=[]) (n:=w.length-L.length) ?_ ?_)
 ·exact⟨L.length,rfl,zAM9 _,by omega,hset2,by simp[upd,zo],by simp[upd];try omega,rfl,rfl⟩
 ·rintro m ⟨tm,df,H⟩ ⟨i,rfl,hli,hi,hz,h1,h7,rfl,rfl⟩;dsimp only at h1 h7;(try refine zK ?_);refine za (zr ?_);refine zfx ?_ (by simp(disch:=omega)only[go_sem,h1,h7,e0,zAA9]<;>rfl);refine zh ?_;refine zN (by simp only[go_sem]<;>rfl) ?_ ?_
  ·intro hlt;have hlt:i<w.length/2:=by have:=of_decide_eq_true hlt;omega
   have w1:IntKind.i64.wrap (2*(i:Int))=((2*i:Nat):Int):=by rw[wrap_i64 (by omega) (by omega)];omega
   have w2:IntKind.i64.wrap (((2*i:Nat):Int)+1)=((2*i+1:Nat):Int):=by rw[wrap_i64 (by omega) (by omega)];omega
   have c1:2*i+1<w.length:=by omega
   have z1:=zcr c1;have hst:=zlz w i c1;have hx:w[2*i+1]=w.getD (2*i+1) 0:=by rw[zAQ9,zAB9 c1];rfl
   rw[hx]at hst;generalize w.getD (2*i+1) 0=x at *
   (repeat refine za ?_);refine zD ?_
   by_cases hx0:x=0
   ·have gx:(x:Int)=0:=by omega
    (repeat refine za ?_);refine zgo ?_ (by simp(disch:=omega)only[go_sem,h1,h7,w1,w2,c1,z1,gx,zAA9]<;>rfl);refine zfc ?_ ?_
    ·intro h;cases h
    intro _;refine zF ?_;simp only[zb,zf,ze,zd,zi,zg,if_true,reduceIte];(repeat refine za ?_);refine zrg ?_ (by simp(disch:=omega)only[go_sem,h7]<;>rfl);refine zy ?_;simp only[zb,zf,ze,zd,zi,zg,if_true,↓reduceIte];refine⟨_,?m,i+1,rfl,by omega,by omega,by rw[hz,hst,hx0];rfl,by simp[upd,h1],by simp[upd,h7],trivial,trivial⟩
    case m=>omega
   ·have gx:¬(x:Int)=0:=by omega
    (repeat refine za ?_);refine zgo ?_ (by simp(disch:=omega)only[go_sem,h1,h7,w1,w2,c1,z1,gx,zAA9]<;>rfl);refine zfc ?_ ?_;rotate_left
    ·intro h;cases h
    intro _;(repeat(first|refine za ?_|refine zgo ?_));refine zq ?_;(try simp only[zb,zf,ze,zd,zg]);refine zj (by simp only[T104,zE,go_sem]<;>rfl) ?_;simp only[zG];exact bad (by rw[hz,hst];simp[hx0])
  ·intro hlt;have hlt:¬i<w.length/2:=by have:=of_decide_eq_false hlt;omega
   simp only[zb,zf,ze,zd,zi,zg,if_true,reduceIte];(repeat(first|refine za ?_|refine zgo ?_));refine zq ?_;(try simp only[zb,zf,ze,zd,zg]);refine zj (by simp only[T104,zE,go_sem]<;>rfl) ?_;simp only[zG];rw[hck,hz,zod w i (by simp[zbu]at hr;omega)];exact Frz.int _ _
def zcB (l:List Pr)(key:Nat):Nat:=(l.takeWhile fun x=>decide (x.1<key)).length
def sIs (l:List Pr)(key:Nat):Bool:=match l[zcB l key]? with
 | some x=>decide (x.1=key)
 | none=>false
theorem zkM (l:List Pr)(key:Nat):zcB l key<=l.length:=by
 unfold zcB;exact(List.takeWhile_sublist _).length_le
theorem zmy (p key:Nat)(l:List Pr)(hl:l.length<1000000):FN ET 140 [psv p l,uv key] (.ret (.tuple [iv (zcB l key:Nat),.bool (sIs l key)])):=by
 refine zfn f140 (Lb.two (.int _ _) (.bool _)) ?_;(repeat(first|refine za ?_|refine zgo ?_));refine zD (zas (fun m s=>∃i:Nat,m=l.length-i/\i<=l.length/\zcB l key=i+((l.drop i).takeWhile fun x=>decide (x.1<key)).length/\s.tm 0=psv p l/\s.tm 1=uv key/\s.tm 6=iv i/\s.df=[]/\s.H=[]) (n:=l.length) ?_ ?_)
 ·exact⟨0,rfl,zAS9 _,by simp[zcB],by simp[upd,zo],by simp[upd,zo],by simp[upd],rfl,rfl⟩
 ·rintro m ⟨tm,df,H⟩ ⟨i,rfl,hi,hc,h0,h1,h6,rfl,rfl⟩;dsimp only at h0 h1 h6
  by_cases hlt:i<l.length
  ·have g1:(i:Int)<(l.length:Nat):=by omega
   obtain⟨q,hq⟩:∃q,l[i]?=some q:=⟨_,zAB9 hlt⟩
   have hqv:(l.map pv)[i]?=some (pv q):=by rw[zAG9,hq];rfl
   have hdr:l.drop i=q::l.drop (i+1):=by rw[zAU9 hlt];obtain⟨_,e⟩:=zAD9.1 hq;rw[e]
   rw[hdr,List.takeWhile_cons]at hc
   by_cases hk:q.1<key
   ·have gk:(q.1:Int)<key:=by omega
    rw[if_pos (decide_eq_true hk)]at hc;(try refine zK ?_);refine za (zr ?_);refine zfx ?_ (by simp(disch:=omega)only[go_sem,h0,h1,h6,g1,hqv,hlt,gk,zAA9]<;>rfl);refine zh ?_;refine zN (by simp only[go_sem]<;>rfl) ?_ ?_
    ·intro _;refine zD ?_;(repeat refine za ?_);refine zrg ?_ (by simp(disch:=omega)only[go_sem,h6]<;>rfl);refine zy ?_;simp only[zb,zf,ze,zd,zi,zg,if_true,↓reduceIte];refine⟨_,?m,i+1,rfl,hlt,by rw[hc];simp;omega,by simp[upd,h0],by simp[upd,h1],by simp[upd,h6],trivial,trivial⟩
     case m=>omega
    ·intro h;cases h
   ·have gk:¬(q.1:Int)<key:=by omega
    rw[if_neg (by simpa using hk)]at hc;have hf:zcB l key=i:=by simpa using hc
    (try refine zK ?_);refine za (zr ?_);refine zfx ?_ (by simp(disch:=omega)only[go_sem,h0,h1,h6,g1,hqv,hlt,gk,zAA9]<;>rfl);refine zh ?_;refine zN (by simp only[go_sem]<;>rfl) ?_ ?_
    ·intro h;cases h
    ·intro _;simp only[zb,zf,ze,zd,zi,zg,if_true,reduceIte];have hsi:sIs l key=decide (q.1=key):=by unfold sIs;rw[hf,hq]
     rw[hf,hsi];(repeat refine za ?_);refine zag ?_
     by_cases he:q.1=key
     ·have ge:(q.1:Int)=key:=by omega
      refine zdl ?_ (by simp(disch:=omega)only[go_sem,h0,h1,h6,g1,hqv,hlt,ge,zAA9]<;>rfl);refine zM ?_;simp only[zi,zS,zb,go_sem];refine zq ?_;(try simp only[zb,zf,ze,zd,zg]);refine zj (by simp only[T140,zE,go_sem]<;>rfl) ?_;simp only[zG];rw[decide_eq_true he];exact Frz.tupL ⟨.int _ _,.bool _,trivial⟩
     ·have ge:¬(q.1:Int)=key:=by omega
      refine zdl ?_ (by simp(disch:=omega)only[go_sem,h0,h1,h6,g1,hqv,hlt,ge,zAA9]<;>rfl);refine zM ?_;simp only[zi,zS,zb,go_sem];refine zq ?_;(try simp only[zb,zf,ze,zd,zg]);refine zj (by simp only[T140,zE,go_sem]<;>rfl) ?_;simp only[zG];rw[decide_eq_false he];exact Frz.tupL ⟨.int _ _,.bool _,trivial⟩
  ·obtain rfl:i=l.length:=by omega
   have g1:¬(l.length:Int)<(l.length:Nat):=by omega
   rw[zBG9]at hc;have hf:zcB l key=l.length:=by simpa using hc
   have hsi:sIs l key=false:=by unfold sIs;rw[hf,zBQ9 (zAM9 _)]
   rw[hf,hsi];(try refine zK ?_);refine za (zr ?_);refine zfx ?_ (by simp(disch:=omega)only[go_sem,h0,h1,h6,g1,zAA9]<;>rfl);refine zh ?_;refine zN (by simp only[go_sem]<;>rfl) ?_ ?_
   ·intro h;cases h
   ·intro _;simp only[zb,zf,ze,zd,zi,zg,if_true,reduceIte];(repeat refine za ?_);refine zag ?_;refine zdl ?_ (by simp(disch:=omega)only[go_sem,h0,h1,h6,g1,zAA9]<;>rfl);refine zM ?_;simp only[zi,zS,zb,go_sem];refine zq ?_;(try simp only[zb,zf,ze,zd,zg]);refine zj (by simp only[T140,zE,go_sem]<;>rfl) ?_;simp only[zG];exact Frz.tupL ⟨.int _ _,.bool _,trivial⟩
theorem f120:ET.funcs.get 120=some T120:=zL Tryz.func120
theorem f142:ET.funcs.get 142=some T142:=zL Tryz.func142
theorem f94:ET.funcs.get 94=some T94:=zL Tryz.func94
def zce (left:Nat)(w:List Nat)(x:Pr):Nat :=
 if(zbu left w.length && !decide (x.2=0) && !decide (x.2=left))=true then(if(decide (zbz left w=0)&&zfh (zav left w) x.2)=true then 2 else zbz left w)else 2
theorem zoz (p left:Nat)(w:List Nat)(x:Pr)(hw:w.length<1000000):FN ET 173 [uv left,wv p w,pv x] (.ret (iv (zce left w x:Nat))):=by
 refine zfn f173 (.int _ _) ?_;have hR:=zku p left w (by omega);have hRd:=zfz p left w hw;have hC:=zhT p left w hw;have bad:(zbu left w.length && !decide (x.2=0) && !decide (x.2=left))=false->zce left w x=2:=fun h=>by unfold zce;rw[h];rfl
 (repeat(first|refine za ?_|refine zgo ?_));(repeat refine za ?_);refine zrg ?_;refine zca hR ?_
 by_cases hr:zbu left w.length=true
 rotate_left
 ·have hr:zbu left w.length=false:=by simpa using hr
  rw[hr];refine zfx ?_;refine zh ?_;refine zfc ?_ ?_;rotate_left
  ·intro h;cases h
  intro _;(repeat(first|refine za ?_|refine zgo ?_));refine zq ?_;(try simp only[zb,zf,ze,zd,zg]);refine zj (by simp only[T173,zE,go_sem]<;>rfl) ?_;simp only[zG];rw[bad (by rw[hr];rfl)];exact Frz.int _ _
 rw[hr]
 by_cases h0:x.2=0
 ·have g0:(x.2:Int)=0:=by omega
  refine zfx ?_ (by simp(disch:=omega)only[go_sem,g0]<;>rfl);refine zh ?_;refine zfc ?_ ?_;rotate_left
  ·intro h;cases h
  intro _;(repeat(first|refine za ?_|refine zgo ?_));refine zq ?_;(try simp only[zb,zf,ze,zd,zg]);refine zj (by simp only[T173,zE,go_sem]<;>rfl) ?_;simp only[zG];rw[bad (by rw[hr,h0];rfl)];exact Frz.int _ _
 have g0:¬(x.2:Int)=0:=by omega
 by_cases h1:x.2=left
 ·have g1:(x.2:Int)=left:=by omega
  have g0':¬(left:Int)=0:=by omega
  refine zfx ?_ (by simp(disch:=omega)only[go_sem,g0,g0',g1]<;>rfl);refine zh ?_;refine zfc ?_ ?_;rotate_left
  ·intro h;cases h
  intro _;(repeat(first|refine za ?_|refine zgo ?_));refine zq ?_;(try simp only[zb,zf,ze,zd,zg]);refine zj (by simp only[T173,zE,go_sem]<;>rfl) ?_;simp only[zG];rw[bad (by rw[hr,decide_eq_true h1];simp)];exact Frz.int _ _
 have g1:¬(x.2:Int)=left:=by omega
 refine zfx ?_ (by simp(disch:=omega)only[go_sem,g0,g1]<;>rfl);refine zh ?_;refine zfc ?_ ?_
 ·intro h;cases h
 intro _;refine zF ?_;show W _ _ _ _ _ _;(repeat refine za ?_);refine zrg ?_;refine zca hC ?_;refine zfx ?_;refine zh ?_;(repeat refine za ?_);refine zrg ?_;refine zca hRd ?_;refine zfx ?_;refine zh ?_;have hp:zce left w x=if(decide (zbz left w=0)&&zfh (zav left w) x.2)=true then 2 else zbz left w:=by
  unfold zce;rw[if_pos (by rw[hr,decide_eq_false h0,decide_eq_false h1];rfl)]
 have hrl:(zav left w).length<=28:=by have:=zdM left w;unfold zbB at this;rwa [if_pos hr]at this
 have hH:=znX 0 (zav left w) x.2 (by omega);generalize zav left w=L at *
 generalize zbz left w=c at *
 by_cases hc:c=0
 rotate_left
 ·have g2:¬(c:Int)=0:=by omega
  (repeat refine za ?_);refine zgo ?_ (by simp(disch:=omega)only[go_sem,g2]<;>rfl);refine zfc ?_ ?_
  ·intro h;cases h
  intro _;refine zF ?_;show W _ _ _ _ _ _;(repeat(first|refine za ?_|refine zgo ?_));refine zq ?_;(try simp only[zb,zf,ze,zd,zg]);refine zj (by simp only[T173,zE,go_sem]<;>rfl) ?_;simp only[zG];rw[hp,if_neg (by simp[hc])];exact Frz.int _ _
 have g2:(c:Int)=0:=by omega
 (repeat refine za ?_);refine zrg ?_ (by simp(disch:=omega)only[go_sem,g2]<;>rfl);refine zca hH ?_;refine zfx ?_;refine zh ?_
 by_cases hh:zfh L x.2=true
 ·refine zfc ?_ ?_
  ·intro _;(repeat(first|refine za ?_|refine zgo ?_));refine zq ?_;(try simp only[zb,zf,ze,zd,zg]);refine zj (by simp only[T173,zE,go_sem]<;>rfl) ?_;simp only[zG];rw[hp,if_pos (by rw[hh,decide_eq_true hc];rfl)];exact Frz.int _ _
  ·rw[hh];intro h;cases h
 ·refine zfc ?_ ?_
  ·intro h;exact absurd h hh
  intro _;refine zF ?_;show W _ _ _ _ _ _;(repeat(first|refine za ?_|refine zgo ?_));refine zq ?_;(try simp only[zb,zf,ze,zd,zg]);refine zj (by simp only[T173,zE,go_sem]<;>rfl) ?_;simp only[zG];rw[hp,if_neg (by simp[hh]),hc];exact Frz.int _ _
theorem zc8 {l:List Pr}:∀v∈(l.map zat).flatMap PV.cells,Id0 v:=fun v hv=>by
 obtain⟨x,hx,hv⟩:=zBC9.1 hv;obtain⟨n,_,rfl⟩:=zAP9.1 hx;simp[PV.cells]at hv;rcases hv with rfl|rfl<;>exact .int _ _
def upL (l:List Pr)(i:Nat):Nat->List Pr
 | 0=>[]
 | m+1=>if i<=m then(2*m+3,(l.getD m (0,0)).2)::(2*m+2,(l.getD m (0,0)).1)::upL l i m else[]
def zlY (left:Nat)(w:List Nat)(l:List Pr)(i:Nat)(x:Pr):List Pr:=(2*l.length+3,0)::(upL l i l.length++[(2*i+1,zbU left w i),(2*i,x.1),(2*i+1,x.2)])
def zdm (left:Nat)(w:List Nat)(x:Pr):List Pr×Nat :=
 if zce left w x=0 then(if sIs (zav left w) x.1=true then([],191)else if w.length/2<=(zav left w).length+1 then([],3)else(zlY left w (zav left w) (zcB (zav left w) x.1) x,0))else([],zce left w x)
theorem zf1 {left:Nat}{w:List Nat}{x:Pr}(h:zce left w x=0):zbu left w.length=true/\zbz left w=0:=by
 unfold zce at h
 by_cases hr:(zbu left w.length && !decide (x.2=0) && !decide (x.2=left))=true
 ·rw[if_pos hr]at h;rw[zAR9,zAR9]at hr;refine⟨hr.1.1,?_⟩
  split at h
  ·cases h
  ·exact h
 ·rw[if_neg hr]at h;cases h
theorem zgF {left:Nat}{w:List Nat}(h:zbu left w.length=true):(zav left w).length<=28:=by
 have:=zdM left w;unfold zbB at this;rwa [if_pos h]at this
set_option maxHeartbeats 1000000 in
theorem zuL (p left:Nat)(w:List Nat)(x:Pr)(hw:w.length<1000000):FN ET 120 [uv left,wv p w,pv x] (.ret (.tuple [.list 0 2 ((zdm left w x).1.map zat),iv ((zdm left w x).2:Nat)])):=by
 refine zfn f120 (Lb.two (zdc _) (.int _ _)) ?_;have hP:=zoz p left w x hw;have hRd:=zfz p left w hw;have e0:IntKind.i64.wrap ((w.length:Int).tdiv 2)=((w.length/2:Nat):Int):=by rw[IntWalk.i64_quo _ _ (by omega)];omega
 (repeat(first|refine za ?_|refine zgo ?_));(repeat refine za ?_);refine zrg ?_;refine zca hP ?_;refine zfx ?_;refine zh ?_
 by_cases hp0:zce left w x=0
 rotate_left
 ·have g:¬(zce left w x:Int)=0:=by omega
  (repeat(first|refine za ?_|refine zgo ?_ (by simp(disch:=omega)only[go_sem,g]<;>rfl)));refine zfc ?_ ?_;rotate_left
  ·intro h;cases h
  intro _;(repeat(first|refine za ?_|refine zgo ?_));refine zq ?_;(try simp only[zb,zf,ze,zd,zg]);refine zj (by simp only[T120,zE,go_sem]<;>rfl) ?_;simp only[zG];have:zdm left w x=([],zce left w x):=by unfold zdm;rw[if_neg hp0]
  rw[this];exact Frz.tupL ⟨.nil _ _,.int _ _,trivial⟩
 have g:(zce left w x:Int)=0:=by omega
 (repeat(first|refine za ?_|refine zgo ?_ (by simp(disch:=omega)only[go_sem,g]<;>rfl)));refine zfc ?_ ?_
 ·intro h;cases h
 intro _;refine zF ?_;show W _ _ _ _ _ _;obtain⟨hr,hck⟩:=zf1 hp0;have hLl:=zgF hr;have hrl:=hr;rw[zlH]at hrl;simp only[zAR9,decide_eq_true_eq]at hrl;have hsp:zdm left w x=if sIs (zav left w) x.1=true then([],191)else if w.length/2<=(zav left w).length+1 then([],3)else(zlY left w (zav left w) (zcB (zav left w) x.1) x,0):=by unfold zdm;rw[if_pos hp0]
 rw[hsp];clear hsp g hP;have hraw:(zav left w).length<=w.length/2:=by
  have:=zd6 w 0 left;have h2:=congrArg List.length (zcp w 0 left);rw[zAA9]at h2;omega
 generalize zav left w=L at *
 have hF:=zmy 0 x.1 L (by omega);have hfl:=zkM L x.1;(repeat refine za ?_);refine zrg ?_;refine zca hRd ?_;refine zfx ?_;refine zh ?_;(repeat refine za ?_);refine zrg ?_;refine zca hF ?_;refine zfx ?_;refine zh ?_;generalize zcB L x.1=i at *
 (repeat(first|refine za ?_|refine zgo ?_ (by simp(disch:=omega)only[go_sem,zAA9]<;>rfl)))
 by_cases his:sIs L x.1=true
 ·refine zfc ?_ ?_
  ·intro _;(repeat(first|refine za ?_|refine zgo ?_));refine zq ?_;(try simp only[zb,zf,ze,zd,zg]);refine zj (by simp only[T120,zE,go_sem]<;>rfl) ?_;simp only[zG];rw[if_pos his];exact Frz.tupL ⟨.nil _ _,.int _ _,trivial⟩
  ·intro h;rw[his]at h;cases h
 rw[if_neg his];refine zfc ?_ ?_
 ·intro h;exact absurd h his
 intro _;refine zF ?_;show W _ _ _ _ _ _
 by_cases hlong:w.length/2<=L.length+1
 ·have g2:((w.length/2:Nat):Int)<=(L.length:Int)+1:=by omega
  (repeat(first|refine za ?_|refine zgo ?_ (by simp(disch:=omega)only[go_sem,e0,g2,zAA9]<;>rfl)));refine zfc ?_ ?_;rotate_left
  ·intro h;cases h
  intro _;(repeat(first|refine za ?_|refine zgo ?_));refine zq ?_;(try simp only[zb,zf,ze,zd,zg]);refine zj (by simp only[T120,zE,go_sem]<;>rfl) ?_;simp only[zG];rw[if_pos hlong];exact Frz.tupL ⟨.nil _ _,.int _ _,trivial⟩
 rw[if_neg hlong];have g2:¬((w.length/2:Nat):Int)<=(L.length:Int)+1:=by omega
 have g3:(L.length:Int)+1<((w.length/2:Nat):Int):=by omega
 (repeat(first|refine za ?_|refine zgo ?_ (by simp(disch:=omega)only[go_sem,e0,g2,zAA9]<;>rfl)));refine zfc ?_ ?_
 ·intro h;cases h
 intro _;refine zF ?_;show W _ _ _ _ _ _;(repeat refine za ?_);refine zgo ?_ (by simp(disch:=omega)only[go_sem,zAA9]<;>rfl);refine zcd 83 2 (i:=14) rfl ?_;simp only[lzy,zAC9,zAE9,zAH9,zAN9,zAF9,zAI9,zAL9];(repeat(first|refine za ?_|refine zgo ?_ (by simp(disch:=omega)only[go_sem,e0,g3,zAA9]<;>rfl)));refine zfc ?_ ?_;rotate_left
 ·intro h;cases h
 intro _;have w0:IntKind.i64.wrap (2*(L.length:Int))=((2*L.length:Nat):Int):=by rw[wrap_i64 (by omega) (by omega)];omega
 have w1:IntKind.i64.wrap (((2*L.length:Nat):Int)+3)=((2*L.length+3:Nat):Int):=by rw[wrap_i64 (by omega) (by omega)];omega
 (repeat(first|refine za ?_|refine zgo ?_ (by simp(disch:=omega)only[go_sem,w0,w1,zc,zk]<;>rfl)));generalize hD:zlY left w L i x=D;refine zD (zas (fun m s=>∃(V:List PV) (g:Nat) (G:List zn),i<=m/\m<=L.length/\V.length<=1+2*(L.length-m)/\D.map zat=V++(upL L i m++[(2*i+1,zbU left w i),(2*i,x.1),(2*i+1,x.2)]).map zat/\s.tm 0=uv left/\s.tm 1=wv p w/\s.tm 5=.ptr 0 0 0 0 2/\s.tm 9=psv 0 L/\s.tm 11=iv i/\s.tm 14=.sl 1 g 0 V.length (2*V.length) 2/\s.tm 15=iv ((m:Int)-1)/\s.df=[]/\s.H=.row 66 2 0 0 [pv x]::.row 83 2 g 0 V::G) (n:=L.length) ?_ ?_)
 ·refine⟨[zat (2*L.length+3,0)],1,_,hfl,zAM9 _,by simp,by rw[<- hD];rfl,by simp[upd,zo],by simp[upd,zo],by simp[upd],by simp[upd],by simp[upd],by simp[upd],by simp[upd],rfl,rfl⟩
 ·rintro m ⟨tm,df,H⟩ ⟨V,g,G,him,hmL,hVl,hDV,h0,h1,h5,h9,h11,h14,h15,rfl,rfl⟩;dsimp only at h0 h1 h5 h9 h11 h14 h15
  by_cases hm:i<m
  ·obtain⟨k,rfl⟩:∃k,m=k+1:=⟨m-1,by omega⟩
   rw[show ((k+1:Nat):Int)-1=(k:Nat) by omega]at h15;rw[upL,if_pos (by omega)]at hDV;have g4:(i:Int)<=(k:Nat):=by omega
   have hkl:k<L.length:=by omega
   have hkv:(L.map pv)[k]?=some (pv (L.getD k (0,0))):=by rw[zAG9,get_lt L hkl];rfl
   have w2:IntKind.i64.wrap (2*(k:Int))=((2*k:Nat):Int):=by rw[wrap_i64 (by omega) (by omega)];omega
   have w3:IntKind.i64.wrap (((2*k:Nat):Int)+3)=((2*k+3:Nat):Int):=by rw[wrap_i64 (by omega) (by omega)];omega
   have w4:IntKind.i64.wrap (((2*k:Nat):Int)+2)=((2*k+2:Nat):Int):=by rw[wrap_i64 (by omega) (by omega)];omega
   have hb:(V.length+2)*17<=140737488355328:=by omega
   generalize L.getD k (0,0)=y at *
   (try refine zK ?_);refine za (zr ?_);refine zfx ?_ (by simp(disch:=omega)only[go_sem,h11,h15,g4]<;>rfl);refine zh ?_;refine zN (by simp only[go_sem]<;>rfl) ?_ ?_
   ·intro _;(repeat refine za ?_);refine zD ?_;(repeat refine za ?_);refine zag ?_;refine zda ?_ (by simp(disch:=omega)only[go_sem,h9,h14,h15,w2,w3,w4,hkv,hkl,hb,zc,zAA9]<;>rfl);refine zdl ?_ (by simp(disch:=omega)only[go_sem,h5]<;>rfl);refine zM ?_;simp only[zi,zS,zb,go_sem];(repeat refine za ?_);refine zrg ?_ (by simp(disch:=omega)only[go_sem,h15]<;>rfl);refine zy ?_;simp only[zb,zf,ze,zd,zi,zg,if_true,↓reduceIte];refine⟨k,zBT9 _,V++[zat (2*k+3,y.2),zat (2*k+2,y.1)],g+1,?G2,by omega,by omega,by simp;omega,(by rw[hDV];simp),by simp[upd,h0],by simp[upd,h1],by simp[upd,h5],by simp[upd,h9],by simp[upd,h11],by simp[upd],by simp[upd,h15],trivial,?H⟩
    case H=>rfl
   ·intro h;cases h
  ·obtain rfl:m=i:=by omega
   have g4:¬(m:Int)<=(m:Int)-1:=by omega
   have hup:upL L m m=[]:=by cases m with
    | zero=>rfl
    | succ k=>rw[upL,if_neg (by omega)]
   rw[hup,zAL9]at hDV;(try refine zK ?_);refine za (zr ?_);refine zfx ?_ (by simp(disch:=omega)only[go_sem,h11,h15,g4]<;>rfl);refine zh ?_;refine zN (by simp only[go_sem]<;>rfl) ?_ ?_
   ·intro h;cases h
   intro _;simp only[zb,zf,ze,zd,zi,zg,if_true,reduceIte];have w2:IntKind.i64.wrap (2*(m:Int))=((2*m:Nat):Int):=by rw[wrap_i64 (by omega) (by omega)];omega
   have w3:IntKind.i64.wrap (((2*m:Nat):Int)+1)=((2*m+1:Nat):Int):=by rw[wrap_i64 (by omega) (by omega)];omega
   have hah:=zhV p left w m (by omega) (by omega);have hb:(V.length+3)*17<=140737488355328:=by omega
   (repeat refine za ?_);refine zag ?_;refine zdn hah ?_ (by simp(disch:=omega)only[go_sem,h0,h1,h5,h11,h14,w2,w3]<;>rfl);refine zda ?_ (by simp(disch:=omega)only[go_sem,h0,h1,h5,h11,h14,w2,w3,hb,zc]<;>rfl);refine zdl ?_ (by simp(disch:=omega)only[go_sem,h5]<;>rfl);refine zM ?_;simp only[zi,zS,zb,go_sem];refine zq ?_;(try simp only[zb,zf,ze,zd,zg]);refine zj (by simp only[T120,zE,go_sem]<;>rfl) ?_;simp only[zG];refine Frz.tupL ⟨?_,.int _ _,trivial⟩;rw[hDV];exact Frz.whole rfl rfl (by simp) (by simp) (fun v hv=>by rw[<- hDV]at hv;obtain⟨x,_,rfl⟩:=zAP9.1 hv;rfl) (by rw[<- hDV];exact zc8)
def dnL (w:List Nat)(d k:Nat):List Pr:=(List.range k).flatMap fun q=>[(2*(d+q),w.getD (2*(d+q)+2) 0),(2*(d+q)+1,w.getD (2*(d+q)+3) 0)]
def zdt (w:List Nat)(d m:Nat):List Pr:=dnL w d (m-1-d)++[(2*m-1,0)]
theorem zo6 (w:List Nat)(d k:Nat):dnL w d (k+1)=dnL w d k++[(2*(d+k),w.getD (2*(d+k)+2) 0),(2*(d+k)+1,w.getD (2*(d+k)+3) 0)]:=by
 unfold dnL;rw[zDJ9,zCT9];simp
theorem zkd (w:List Nat)(d k:Nat):(dnL w d k).length=2*k:=by
 induction k with
 | zero=>rfl
 | succ k ih=>rw[zo6,zAC9,ih];simp;omega
theorem zqQ (p d m:Nat)(w:List Nat)(hw:w.length<1000000)(hd:d<m)(hm:2*m<=w.length):FN ET 142 [wv p w,iv d,iv m] (.ret (.list 0 2 ((zdt w d m).map zat))):=by
 refine zfn f142 (zdc _) ?_;(repeat(first|refine za ?_|refine zgo ?_));refine zcd 83 2 (i:=7) rfl ?_;simp only[lzy,zAC9,zAE9,zAH9,zAN9,zAF9,zAI9,zAL9];refine zD (zas (fun n s=>∃(q:Nat) (V:List PV) (g:Nat) (G:List zn),n=m-q/\d+q+1<=m/\V=(dnL w d q).map zat/\s.tm 0=wv p w/\s.tm 2=iv m/\s.tm 7=.sl 0 g 0 V.length (2*V.length) 2/\s.tm 8=iv ((d+q:Nat):Int)/\s.df=[]/\s.H=.row 83 2 g 0 V::G) (n:=m) ?_ ?_)
 ·exact⟨0,[],0,_,rfl,hd,rfl,by simp[upd,zo],by simp[upd,zo],by simp[upd],by simp[upd,zo],rfl,rfl⟩
 ·rintro n ⟨tm,df,H⟩ ⟨q,V,g,G,rfl,hq,hV,h0,h2,h7,h8,rfl,rfl⟩;dsimp only at h0 h2 h7 h8;have hVl:V.length=2*q:=by rw[hV,zAA9,zkd]
  by_cases hlt:d+q+2<=m
  ·have g1:((d+q:Nat):Int)<=(m:Int)-2:=by omega
   have hs:=zo6 w d q;generalize hj:d+q=j at *
   have w1:IntKind.i64.wrap (2*(j:Int))=((2*j:Nat):Int):=by rw[wrap_i64 (by omega) (by omega)];omega
   have w2:IntKind.i64.wrap (((2*j:Nat):Int)+1)=((2*j+1:Nat):Int):=by rw[wrap_i64 (by omega) (by omega)];omega
   have w3:IntKind.i64.wrap (((2*j:Nat):Int)+2)=((2*j+2:Nat):Int):=by rw[wrap_i64 (by omega) (by omega)];omega
   have w4:IntKind.i64.wrap (((2*j:Nat):Int)+3)=((2*j+3:Nat):Int):=by rw[wrap_i64 (by omega) (by omega)];omega
   have c2:2*j+2<w.length:=by omega
   have c3:2*j+3<w.length:=by omega
   have z2:=zcr c2;have z3:=zcr c3;have hb:(V.length+2)*17<=140737488355328:=by omega
   generalize w.getD (2*j+2) 0=a at *
   generalize w.getD (2*j+3) 0=b at *
   (try refine zK ?_);refine za (zr ?_);refine zfx ?_ (by simp(disch:=omega)only[go_sem,h2,h8,g1]<;>rfl);refine zh ?_;refine zN (by simp only[go_sem]<;>rfl) ?_ ?_
   ·intro _;(repeat refine za ?_);refine zD ?_;(repeat refine za ?_);refine zag ?_;refine zda ?_ (by simp(disch:=omega)only[go_sem,h0,h7,h8,w1,w2,w3,w4,c2,c3,z2,z3,hb,zc,zAA9]<;>rfl);refine zdl ?_ (by simp(disch:=omega)only[go_sem,h0]<;>rfl);refine zM ?_;simp only[zi,zS,zb,go_sem];(repeat refine za ?_);refine zrg ?_ (by simp(disch:=omega)only[go_sem,h8]<;>rfl);refine zy ?_;simp only[zb,zf,ze,zd,zi,zg,if_true,↓reduceIte];refine⟨_,?m1,q+1,V++[zat (2*j,a),zat (2*j+1,b)],g+1,?G2,rfl,by omega,(by rw[hs,hV];simp),by simp[upd,h0],by simp[upd,h2],by simp[upd],?T,trivial,?H⟩
    case m1=>omega
    case T=>rw[show d+(q+1)=j+1 by omega];simp[upd,h8]
    case H=>rfl
   ·intro h;cases h
  ·have g1:¬((d+q:Nat):Int)<=(m:Int)-2:=by omega
   have hsh:(zdt w d m).map zat=V++[zat (2*m-1,0)]:=by unfold zdt;rw[show m-1-d=q by omega,hV];simp
   have w1:IntKind.i64.wrap (2*(m:Int))=((2*m:Nat):Int):=by rw[wrap_i64 (by omega) (by omega)];omega
   have w2:IntKind.i64.wrap (((2*m:Nat):Int)-1)=((2*m-1:Nat):Int):=by rw[wrap_i64 (by omega) (by omega)];omega
   have hb:(V.length+1)*17<=140737488355328:=by omega
   (try refine zK ?_);refine za (zr ?_);refine zfx ?_ (by simp(disch:=omega)only[go_sem,h2,h8,g1]<;>rfl);refine zh ?_;refine zN (by simp only[go_sem]<;>rfl) ?_ ?_
   ·intro h;cases h
   intro _;simp only[zb,zf,ze,zd,zi,zg,if_true,reduceIte];(repeat(first|refine za ?_|refine zgo ?_ (by simp(disch:=omega)only[go_sem,h2,h7,w1,w2,hb,zc]<;>rfl)));refine zq ?_;(try simp only[zb,zf,ze,zd,zg]);refine zj (by simp only[T142,zE,go_sem]<;>rfl) ?_;simp only[zG];have hfl:∀v∈(V++[zat (2*m-1,0)]).flatMap PV.cells,Id0 v:=by rw[<- hsh];exact zc8
   rw[hsh];exact Frz.whole rfl rfl (by simp) (by simp) (fun v hv=>by rw[<- hsh]at hv;obtain⟨x,_,rfl⟩:=zAP9.1 hv;rfl) hfl
def zc6 (left:Nat)(w:List Nat)(key:Nat):List Pr×Nat :=
 if zbz left w=0 then(if sIs (zav left w) key=true then((2*zcB (zav left w) key+1,zbU left w (zcB (zav left w) key))::zdt w (zcB (zav left w) key) (zav left w).length,0)else([],5))else([],zbz left w)
theorem zgX {left:Nat}{w:List Nat}(h:zbz left w=0):zbu left w.length=true:=by
 unfold zbz at h
 split at h
 ·assumption
 ·cases h
theorem zpT {l:List Pr}{key:Nat}(h:sIs l key=true):zcB l key<l.length:=by
 unfold sIs at h
 split at h
 ·rename_i x hx;exact(zAD9.1 hx).1
 ·cases h
theorem zkH (left:Nat)(w:List Nat):2*(zav left w).length<=w.length:=by
 have:=zd6 w 0 left;have h2:=congrArg List.length (zcp w 0 left);rw[zAA9]at h2;omega
set_option maxHeartbeats 1000000 in
theorem ztM (p left key:Nat)(w:List Nat)(hw:w.length<1000000):FN ET 94 [uv left,wv p w,uv key] (.ret (.tuple [.list 0 2 ((zc6 left w key).1.map zat),iv ((zc6 left w key).2:Nat)])):=by
 refine zfn f94 (Lb.two (zdc _) (.int _ _)) ?_;have hC:=zhT p left w hw;have hRd:=zfz p left w hw;(repeat(first|refine za ?_|refine zgo ?_));(repeat refine za ?_);refine zrg ?_;refine zca hC ?_;refine zfx ?_;refine zh ?_
 by_cases hc0:zbz left w=0
 rotate_left
 ·have g:¬(zbz left w:Int)=0:=by omega
  (repeat(first|refine za ?_|refine zgo ?_ (by simp(disch:=omega)only[go_sem,g]<;>rfl)));refine zfc ?_ ?_;rotate_left
  ·intro h;cases h
  intro _;(repeat(first|refine za ?_|refine zgo ?_));refine zq ?_;(try simp only[zb,zf,ze,zd,zg]);refine zj (by simp only[T94,zE,go_sem]<;>rfl) ?_;simp only[zG];have:zc6 left w key=([],zbz left w):=by unfold zc6;rw[if_neg hc0]
  rw[this];exact Frz.tupL ⟨.nil _ _,.int _ _,trivial⟩
 have g:(zbz left w:Int)=0:=by omega
 (repeat(first|refine za ?_|refine zgo ?_ (by simp(disch:=omega)only[go_sem,g]<;>rfl)));refine zfc ?_ ?_
 ·intro h;cases h
 intro _;refine zF ?_;show W _ _ _ _ _ _;have hr:=zgX hc0;have hst:zc6 left w key=if sIs (zav left w) key=true then((2*zcB (zav left w) key+1,zbU left w (zcB (zav left w) key))::zdt w (zcB (zav left w) key) (zav left w).length,0)else([],5):=by unfold zc6;rw[if_pos hc0]
 rw[hst];have hLl:=zgF hr;have hL2:=zkH left w;clear hst g hC;generalize zav left w=L at *
 have hF:=zmy 0 key L (by omega);(repeat refine za ?_);refine zrg ?_;refine zca hRd ?_;refine zfx ?_;refine zh ?_;(repeat refine za ?_);refine zrg ?_;refine zca hF ?_;refine zfx ?_;refine zh ?_
 by_cases his:sIs L key=true
 rotate_left
 ·have his:sIs L key=false:=by simpa using his
  rw[if_neg (by rw[his];decide),his];(repeat(first|refine za ?_|refine zgo ?_));refine zfc ?_ ?_;rotate_left
  ·intro h;cases h
  intro _;(repeat(first|refine za ?_|refine zgo ?_));refine zq ?_;(try simp only[zb,zf,ze,zd,zg]);refine zj (by simp only[T94,zE,go_sem]<;>rfl) ?_;simp only[zG];exact Frz.tupL ⟨.nil _ _,.int _ _,trivial⟩
 have hfl:=zpT his;rw[if_pos his,his];generalize zcB L key=i at *
 (repeat(first|refine za ?_|refine zgo ?_));refine zfc ?_ ?_
 ·intro h;cases h
 intro _;refine zF ?_;show W _ _ _ _ _ _;have w2:IntKind.i64.wrap (2*(i:Int))=((2*i:Nat):Int):=by rw[wrap_i64 (by omega) (by omega)];omega
 have w3:IntKind.i64.wrap (((2*i:Nat):Int)+1)=((2*i+1:Nat):Int):=by rw[wrap_i64 (by omega) (by omega)];omega
 have hah:=zhV p left w i (by omega) (by omega);have hsh:=zqQ p i L.length w hw hfl hL2;have hsl:(zdt w i L.length).length=2*(L.length-1-i)+1:=by unfold zdt;rw[zAC9,zkd];rfl
 generalize zdt w i L.length=S at *
 have hne:¬S.length=0:=by omega
 have hb:(1+S.length)*17<=140737488355328:=by omega
 (repeat refine za ?_);refine zrg ?_ (by simp(disch:=omega)only[go_sem,w2,w3,zAA9]<;>rfl);refine zca hah ?_;refine zfx ?_ (by simp(disch:=omega)only[go_sem,w2,w3,zAA9]<;>rfl);refine zca hsh ?_;refine zfx ?_ (by simp(disch:=omega)only[go_sem,hne,hb,zAA9,zc]<;>rfl);refine zh ?_;refine zq ?_;(try simp only[zb,zf,ze,zd,zg]);refine zj (by simp only[T94,zE,go_sem]<;>rfl) ?_;simp only[zG];refine Frz.tupL ⟨?_,.int _ _,trivial⟩;have hS:((2*i+1,zbU left w i)::S).map zat=[zat (2*i+1,zbU left w i)]++S.map zat:=rfl;have hfl2:∀v∈([zat (2*i+1,zbU left w i)]++S.map zat).flatMap PV.cells,Id0 v:=by rw[<- hS];exact zc8
 rw[hS];exact Frz.whole rfl rfl (by simp;omega) (by simp;omega) (fun v hv=>by rw[<- hS]at hv;obtain⟨x,_,rfl⟩:=zAP9.1 hv;rfl) hfl2
theorem f144:ET.funcs.get 144=some T144:=zL Tryz.func144
theorem f103:ET.funcs.get 103=some T103:=zL Tryz.func103
theorem f61:ET.funcs.get 61=some T61:=zL Tryz.func61
theorem zkD (x:Nat):FN ET 144 [uv x] (.ret (.bool (zcz x))):=by
 refine zfn f144 (.bool _) ?_
 by_cases h:1<=x
 ·have g:(1:Int)<=x:=by omega
  by_cases h2:x<=2047
  ·have g2:(x:Int)<=2047:=by omega
   (repeat(first|refine za ?_|refine zgo ?_ (by simp(disch:=omega)only[go_sem,g,g2]<;>rfl)));refine zq ?_;(try simp only[zb,zf,ze,zd,zg]);refine zj (by simp only[T144,zE,go_sem]<;>rfl) ?_;simp only[zG];exact zay.bool (by simp[zcz,h];omega)
  ·have g2:¬(x:Int)<=2047:=by omega
   (repeat(first|refine za ?_|refine zgo ?_ (by simp(disch:=omega)only[go_sem,g,g2]<;>rfl)));refine zq ?_;(try simp only[zb,zf,ze,zd,zg]);refine zj (by simp only[T144,zE,go_sem]<;>rfl) ?_;simp only[zG];exact zay.bool (by simp[zcz,h];omega)
 ·have g:¬(1:Int)<=x:=by omega
  (repeat(first|refine za ?_|refine zgo ?_ (by simp(disch:=omega)only[go_sem,g]<;>rfl)));refine zq ?_;(try simp only[zb,zf,ze,zd,zg]);refine zj (by simp only[T144,zE,go_sem]<;>rfl) ?_;simp only[zG];exact zay.bool (by simp[zcz,h])
def zgU (lv x:Nat):Bool:=if lv=0 then decide (1<=x)&&decide (x<=1099511627776)else zcz x
theorem zkn (lv x:Nat):FN ET 99 [iv lv,uv x] (.ret (.bool (zgU lv x))):=by
 by_cases h:lv=0
 ·subst h;exact zc3 x
 have g:¬(lv:Int)=0:=by omega
 have:zgU lv x=zcz x:=by unfold zgU;rw[if_neg h]
 rw[this];refine zfn f99 (.bool _) ?_;(repeat(first|refine za ?_|refine zgo ?_ (by simp(disch:=omega)only[go_sem,g]<;>rfl)));refine zfc ?_ ?_
 ·intro h;cases h
 intro _;refine zF ?_;show W _ _ _ _ _ _;(repeat refine za ?_);refine zrg ?_;refine zca (zkD x) ?_;refine zfx ?_;refine zh ?_;refine zq ?_;(try simp only[zb,zf,ze,zd,zg]);refine zj (by simp only[T99,zE,go_sem]<;>rfl) ?_;simp only[zG];exact Frz.bool _
def zdR (w:List Nat):Bool:=decide (w.length=64)&&decide (7522529147838689024<=w.getD 0 0)&&decide (w.getD 0 0<=7522529147838689024+12)&&decide (w.getD 1 0<=2047)&&decide (w.getD 4 0<=2)&&decide (w.getD 5 0=0)&&decide (w.getD 6 0=0)&&decide (w.getD 7 0=0)
def zeT (lv x:Nat):Bool:=(decide (lv=0)&&decide (x=9223372036854775808))||(decide (0<lv)&&zcz x)
theorem mp0 (lv a:Nat):zcM 0 lv a=(decide (7522529147838689024<=a)&&decide (a<=7522529147838689024+12)):=by rw[zcM]
theorem mp3 (lv a:Nat):zcM 3 lv a=zeT lv a:=by rw[zcM,zeT]
theorem mp1 (lv a:Nat):zcM 1 lv a=decide (a<=2047):=by
 rw[zcM,zDU9,decide_eq_true_eq,decide_eq_true_eq];omega
theorem mp4 (lv a:Nat):zcM 4 lv a=decide (a<=2):=by rw[zcM];all_goals (intro h;cases h)
theorem zhJ (w:List Nat):zbI w=(zdR w&&zeT (zgw (w.getD 0 0)) (w.getD 3 0)):=by
 by_cases hl:w.length=64
 rotate_left
 ·unfold zbI zdR;rw[decide_eq_false hl];simp only[zEI9]
 obtain⟨lv,hlv⟩:=zsj w;rw[zqz w hl lv hlv,<- hlv];have h567:((w.take 8).drop 5)=[w.getD 5 0,w.getD 6 0,w.getD 7 0]:=by
  apply List.ext_getElem
  ·simp;omega
  ·intro i h1 h2;simp only[List.getElem_drop,zGB9,zAQ9]
   match i,h2 with
   | 0,_=>simp[zAB9 (show 5<w.length by omega)]
   | 1,_=>simp[zAB9 (show 6<w.length by omega)]
   | 2,_=>simp[zAB9 (show 7<w.length by omega)]
 have hr:List.range 5=[0,1,2,3,4]:=rfl;rw[h567,hr];unfold zdR;rw[decide_eq_true hl,zCA9];simp only[List.any_cons,List.any_nil,List.all_cons,List.all_nil,Bool.and_true,zCZ9];rw[mp0,mp1,mp3,mp4];have m2:zcM 2 lv (w.getD 2 0)=true:=rfl;rw[m2];generalize w.getD 0 0=a0;generalize w.getD 5 0=a5;generalize w.getD 6 0=a6;generalize w.getD 7 0=a7;generalize decide (7522529147838689024<=a0)=b0;generalize decide (a0<=7522529147838689024+12)=b1;generalize decide (w.getD 1 0<=2047)=b2;generalize decide (w.getD 4 0<=2)=b3;generalize zeT lv (w.getD 3 0)=b4
 by_cases h5:a5=0<;>by_cases h6:a6=0<;>by_cases h7:a7=0<;>simp[h5,h6,h7]<;>cases b0<;>cases b1<;>cases b2<;>cases b3<;>cases b4<;>rfl
set_option maxHeartbeats 4000000 in
theorem ze5 (p:Nat)(w:List Nat)(hw:za2 w.length):FN ET 103 [wv p w] (zdB w):=by
 refine zfn f103 ?_ ?_
 ·unfold zdB;split
  ·exact Lb.two (Lb.node _) (.int _ _)
  ·exact Lb.two (Lb.node _) (.int _ _)
 have hsp:=zhJ w;(repeat(first|refine za ?_|refine zgo ?_));(repeat refine za ?_);refine zbA (Q:=fun y s'=>y=.norm/\s'.tm 49=.bool (!zdR w)/\s'.tm 0=wv p w/\s'.tm 2=.ptr 0 0 0 0 6/\s'.df=[]/\s'.H=[.row 124 6 0 0 [zeY]]) (zr ?_) ?_
 ·have h0:True:=trivial;have fin:∀(tm:Nat->PV) (b:Bool),b=zdR w->tm 49=.bool (!b)->tm 0=wv p w->tm 2=.ptr 0 0 0 0 6->(FX.norm=FX.norm/\tm 49=.bool (!zdR w)/\tm 0=wv p w/\tm 2=.ptr 0 0 0 0 6/\([]:List FD)=[]/\[zn.row 124 6 0 0 [zeY]]=[.row 124 6 0 0 [zeY]]):=fun tm b hb h49 h0 h2=>⟨rfl,by rw[h49,hb],h0,h2,rfl,rfl⟩
  by_cases hl:w.length=64
  rotate_left
  ·have g:¬(w.length:Int)=64:=by omega
   refine zfx ?_ (by simp(disch:=omega)only[go_sem,g,zAA9]<;>rfl);refine zy ?_;exact fin _ false (by unfold zdR;rw[decide_eq_false hl];rfl) (by simp[upd]) (by simp[upd,zo]) (by simp[upd])
  have g:(w.length:Int)=64:=by omega
  have c0:0<w.length:=by omega
  have c1:1<w.length:=by omega
  have c4:4<w.length:=by omega
  have c5:5<w.length:=by omega
  have c6:6<w.length:=by omega
  have c7:7<w.length:=by omega
  have z0:=zcr c0;have z1:=zcr c1;have z4:=zcr c4;have z5:=zcr c5;have z6:=zcr c6;have z7:=zcr c7;have h8:zdR w=(decide (7522529147838689024<=w.getD 0 0)&&decide (w.getD 0 0<=7522529147838689024+12)&&decide (w.getD 1 0<=2047)&&decide (w.getD 4 0<=2)&&decide (w.getD 5 0=0)&&decide (w.getD 6 0=0)&&decide (w.getD 7 0=0)):=by unfold zdR;rw[decide_eq_true hl,zCA9]
  generalize zdR w=hd at *
  generalize w.getD 0 0=a0 at *
  generalize w.getD 1 0=a1 at *
  generalize w.getD 4 0=a4 at *
  generalize w.getD 5 0=a5 at *
  generalize w.getD 6 0=a6 at *
  generalize w.getD 7 0=a7 at *
  by_cases b0:7522529147838689024<=a0
  rotate_left
  ·have g0:(a0:Int)<7522529147838689024:=by omega
   refine zfx ?_ (by simp(disch:=omega)only[go_sem,g,hl,c0,z0,g0,zAA9]<;>rfl);refine zy ?_;exact fin _ false (by rw[h8,decide_eq_false b0];rfl) (by simp[upd]) (by simp[upd,zo]) (by simp[upd])
  have g0:¬(a0:Int)<7522529147838689024:=by omega
  rw[decide_eq_true b0]at h8
  by_cases b1:a0<=7522529147838689024+12
  rotate_left
  ·have g1:(7522529147838689036:Int)<a0:=by omega
   refine zfx ?_ (by simp(disch:=omega)only[go_sem,g,hl,c0,z0,g0,g1,zAA9]<;>rfl);refine zy ?_;exact fin _ false (by rw[h8,decide_eq_false b1];simp) (by simp[upd]) (by simp[upd,zo]) (by simp[upd])
  have g1:¬(7522529147838689036:Int)<a0:=by omega
  rw[decide_eq_true b1]at h8
  by_cases b2:a1<=2047
  rotate_left
  ·have g2:(2047:Int)<a1:=by omega
   refine zfx ?_ (by simp(disch:=omega)only[go_sem,g,hl,c0,z0,g0,g1,c1,z1,g2,zAA9]<;>rfl);refine zy ?_;exact fin _ false (by rw[h8,decide_eq_false b2];simp) (by simp[upd]) (by simp[upd,zo]) (by simp[upd])
  have g2:¬(2047:Int)<a1:=by omega
  rw[decide_eq_true b2]at h8
  by_cases b4:a4<=2
  rotate_left
  ·have g4:(2:Int)<a4:=by omega
   refine zfx ?_ (by simp(disch:=omega)only[go_sem,g,hl,c0,z0,g0,g1,c1,z1,g2,c4,z4,g4,zAA9]<;>rfl);refine zy ?_;exact fin _ false (by rw[h8,decide_eq_false b4];simp) (by simp[upd]) (by simp[upd,zo]) (by simp[upd])
  have g4:¬(2:Int)<a4:=by omega
  rw[decide_eq_true b4]at h8
  by_cases b5:a5=0
  rotate_left
  ·have g5:¬(a5:Int)=0:=by omega
   refine zfx ?_ (by simp(disch:=omega)only[go_sem,g,hl,c0,z0,g0,g1,c1,z1,g2,c4,z4,g4,c5,z5,g5,zAA9]<;>rfl);refine zy ?_;exact fin _ false (by rw[h8,decide_eq_false b5];simp) (by simp[upd]) (by simp[upd,zo]) (by simp[upd])
  have g5:(a5:Int)=0:=by omega
  rw[decide_eq_true b5]at h8
  by_cases b6:a6=0
  rotate_left
  ·have g6:¬(a6:Int)=0:=by omega
   refine zfx ?_ (by simp(disch:=omega)only[go_sem,g,hl,c0,z0,g0,g1,c1,z1,g2,c4,z4,g4,c5,z5,g5,c6,z6,g6,zAA9]<;>rfl);refine zy ?_;exact fin _ false (by rw[h8,decide_eq_false b6];simp) (by simp[upd]) (by simp[upd,zo]) (by simp[upd])
  have g6:(a6:Int)=0:=by omega
  rw[decide_eq_true b6]at h8
  by_cases b7:a7=0
  rotate_left
  ·have g7:¬(a7:Int)=0:=by omega
   refine zfx ?_ (by simp(disch:=omega)only[go_sem,g,hl,c0,z0,g0,g1,c1,z1,g2,c4,z4,g4,c5,z5,g5,c6,z6,g6,c7,z7,g7,zAA9]<;>rfl);refine zy ?_;exact fin _ false (by rw[h8,decide_eq_false b7];simp) (by simp[upd]) (by simp[upd,zo]) (by simp[upd])
  have g7:(a7:Int)=0:=by omega
  rw[decide_eq_true b7]at h8;refine zfx ?_ (by simp(disch:=omega)only[go_sem,g,hl,c0,z0,g0,g1,c1,z1,g2,c4,z4,g4,c5,z5,g5,c6,z6,g6,c7,z7,g7,zAA9]<;>rfl);refine zy ?_;exact fin _ true (by rw[h8];rfl) (by simp[upd]) (by simp[upd,zo]) (by simp[upd])
 rintro y ⟨tm,df,H⟩ ⟨rfl,h49,h0,h2,rfl,rfl⟩;dsimp only at h49 h0 h2;simp only[zb,zf,ze,zd,zi,zg,if_true,reduceIte];have badE:zbI w=false->zdB w=.ret (.tuple [zZ 0 zd0,iv 210]):=fun h=>by unfold zdB;rw[if_neg (by rw[h];decide)]
 by_cases h8:zdR w=true
 rotate_left
 ·have h8:zdR w=false:=by simpa using h8
  rw[h8]at h49 hsp;refine zfc ?_ ?_ (by simp only[go_sem,h49]<;>rfl);rotate_left
  ·intro h;cases h
  intro _;(repeat(first|refine za ?_|refine zgo ?_ (by simp(disch:=omega)only[go_sem,h2]<;>rfl)));refine zq ?_;(try simp only[zb,zf,ze,zd,zg]);refine zj (vs:=[zeY,iv 210]) ?_ ?_
  ·simp only[T103,zE,go_sem,h2];rfl
  rw[badE hsp];exact znm
 rw[h8]at h49;refine zfc ?_ ?_ (by simp only[go_sem,h49]<;>rfl)
 ·intro h;cases h
 intro _;refine zF ?_;show W _ _ _ _ _ _;rw[h8,zCA9]at hsp;have h8':=h8;unfold zdR at h8';simp only[zAR9,decide_eq_true_eq]at h8';obtain⟨⟨⟨⟨⟨⟨⟨hl,b0⟩,b1⟩,b2⟩,b4⟩,_⟩,_⟩,_⟩:=h8';obtain⟨lv,hlv⟩:=zsj w;have hN:=zpt w lv hlv;rw[<- hlv]at hsp;have hlv2:lv=w.getD 0 0-7522529147838689024:=by rw[hlv,znH]
 have okE:zbI w=true->zdB w=.ret (.tuple [zZ 0 (zaa w),iv 0]):=fun h=>by unfold zdB;rw[if_pos h]
 rw[hN]at okE;have c0:0<w.length:=by omega
 have c1:1<w.length:=by omega
 have c2:2<w.length:=by omega
 have c3:3<w.length:=by omega
 have c4:4<w.length:=by omega
 have z0:=zcr c0;have z1:=zcr c1;have z2:=zcr c2;have z3:=zcr c3;have z4:=zcr c4;have q0:IntKind.i64.wrap (IntKind.u64.wrap ((w.getD 0 0:Int)-7522529147838689024))=(lv:Int):=by
  rw[zJ (by omega) (by omega),wrap_i64 (by omega) (by omega)];omega
 have q0a:IntKind.u64.wrap ((w.getD 0 0:Int)-7522529147838689024)=(lv:Int):=by
  rw[zJ (by omega) (by omega)];omega
 have hl12:lv<=12:=by omega
 clear hlv hlv2 h8 h49;have hd8:List.drop 8 (List.map uv w)=(w.drop 8).map uv:=by rw[zCQ9]
 have hRd:=zfz p (w.getD 3 0) (w.drop 8) (by rw[zCI9];omega);have hdl:(w.drop 8).length=56:=by rw[zCI9];omega
 have hle8:8<=w.length:=by omega
 generalize w.getD 0 0=a0 at *
 generalize w.getD 1 0=a1 at *
 generalize w.getD 2 0=a2 at *
 generalize w.getD 3 0=a3 at *
 generalize w.getD 4 0=a4 at *
 (repeat refine za ?_);refine zag ?_;refine zda ?_ (by simp(disch:=omega)only[go_sem,h0,h2,c0,c1,c2,c3,c4,z0,z1,z2,z3,z4,q0,q0a,zc,zk,zAA9]<;>rfl);refine zdl ?_ (by simp(disch:=omega)only[go_sem,h0]<;>rfl);refine zM ?_;simp only[zi,zS,zb,go_sem];have stop:∀(tm:Nat->PV) (H:List zn) (o:zn) (k:FSt->Prop),zbI w=false->tm 2=.ptr 0 0 0 0 6->H=[zn.row 124 6 0 0 [zeY],o]->W ET ET.caught none (.seq (.region [⟨some 90,.build [.int .i64 0,.int .i64 0,.int .u64 0,.int .u64 0,.int .i64 0,.nilsl] [],[],none⟩,⟨none,.store 6,[.tmp 2,.tmp 90],none⟩,⟨some 3,.mov,[.const (.int .i64 210)],none⟩]) .ret) ⟨tm,[],H⟩ (zb k (zcT ET T103 fun e' H=>zay H 0 e' (zdB w))):=fun tm H o k hb h2 hH=>by
  subst hH;(repeat(first|refine za ?_|refine zgo ?_ (by simp(disch:=omega)only[go_sem,h2]<;>rfl)));refine zq ?_;(try simp only[zb,zf,ze,zd,zg]);refine zj (vs:=[zeY,iv 210]) ?_ ?_
  ·simp only[T103,zE,go_sem,h2];rfl
  rw[badE hb];exact znm
 have hgo:zeT lv a3=true->a3≠0:=fun h=>by
  unfold zeT at h;simp only[zEM9,zAR9,decide_eq_true_eq,zd5]at h;omega
 have hrd:a3≠0->zbB a3 (w.drop 8)=zav a3 (w.drop 8):=fun h=>by
  unfold zbB;rw[if_pos (by unfold zbu;rw[hdl];simp[h])]
 by_cases hz:lv=0
 ·have g0:(lv:Int)=0:=by omega
  have g0':¬(0:Int)<(lv:Int):=by omega
  by_cases he:a3=9223372036854775808
  rotate_left
  ·have ge:¬(a3:Int)=9223372036854775808:=by omega
   (repeat refine za ?_);refine zgo ?_ (by simp(disch:=omega)only[go_sem,g0,g0',ge,zc]<;>rfl);refine zfc ?_ ?_;rotate_left
   ·intro h;cases h
   intro _;refine stop _ _ ?so1 _ ?sa1 ?sb1 ?sc1
   case sc1=>rfl
   case sa1=>rw[hsp];simp[zeT,hz,he]
   case sb1=>simp[upd,h2]
  have ge:(a3:Int)=9223372036854775808:=by omega
  have hh:zeT lv a3=true:=by unfold zeT;simp[hz,he]
  rw[hh]at hsp;rw[okE hsp,hrd (hgo hh)];(repeat refine za ?_);refine zgo ?_ (by simp(disch:=omega)only[go_sem,g0,g0',ge,zc]<;>rfl);refine zfc ?_ ?_
  ·intro h;cases h
  intro _;refine zF ?_;show W _ _ _ _ _ _;(repeat refine za ?_);refine zag ?_;refine zdn hRd ?_ (by simp(disch:=omega)only[go_sem,h0,h2,hd8,hle8,zc,zk,zAA9]<;>rfl);refine zda ?_ (by simp(disch:=omega)only[go_sem,h0,h2,zc,zk]<;>rfl);refine zdl ?_ (by simp(disch:=omega)only[go_sem,h0,zCC9,zCJ9,zCD9,zCM9,zCZ9,Nat.reduceBEq,zac,zad,zP]<;>rfl) (by first|exact trivial|simp only[go_sem,h0,zCC9,zCJ9,zCD9,zCM9,zCZ9,Nat.reduceBEq,zac,zad,zP]);refine zM ?_;simp only[zi,zS,zb,go_sem];(repeat(first|refine za ?_|refine zgo ?_ (by simp(disch:=omega)only[go_sem,h2,zc,zk]<;>rfl)));refine zq ?_;(try simp only[zb,zf,ze,zd,zg]);refine zj (vs:=?_) ?_ ?_;rotate_left
  ·simp only[T103,zE,go_sem,h2];rfl
  exact Frz.tupL ⟨Frz.aggL ⟨(by subst hz;exact .int _ _),.int _ _,.int _ _,.int _ _,.int _ _,.list _ _ _,trivial⟩,.int _ _,trivial⟩
 ·have g0:¬(lv:Int)=0:=by omega
  have g0':(0:Int)<(lv:Int):=by omega
  (repeat refine za ?_);refine zr ?_;refine zfx ?_ (by simp(disch:=omega)only[go_sem,g0,g0',zc]<;>rfl);refine zca (zkD a3) ?_
  by_cases hb:zcz a3=true
  rotate_left
  ·have hb:zcz a3=false:=by simpa using hb
   rw[hb];refine zfx ?_;refine zh ?_;refine zfc ?_ ?_;rotate_left
   ·intro h;cases h
   intro _;refine stop _ _ ?so2 _ ?sa2 ?sb2 ?sc2
   case sc2=>rfl
   case sa2=>rw[hsp];simp[zeT,hz,hb]
   case sb2=>simp[upd,h2]
  have hh:zeT lv a3=true:=by unfold zeT;rw[hb];simp;omega
  rw[hh]at hsp;rw[okE hsp,hrd (hgo hh),hb];refine zfx ?_;refine zh ?_;refine zfc ?_ ?_
  ·intro h;cases h
  intro _;refine zF ?_;show W _ _ _ _ _ _;(repeat refine za ?_);refine zag ?_;refine zdn hRd ?_ (by simp(disch:=omega)only[go_sem,h0,h2,hd8,hle8,zc,zk,zAA9]<;>rfl);refine zda ?_ (by simp(disch:=omega)only[go_sem,h0,h2,zc,zk]<;>rfl);refine zdl ?_ (by simp(disch:=omega)only[go_sem,h0,zCC9,zCJ9,zCD9,zCM9,zCZ9,Nat.reduceBEq,zac,zad,zP]<;>rfl) (by first|exact trivial|simp only[go_sem,h0,zCC9,zCJ9,zCD9,zCM9,zCZ9,Nat.reduceBEq,zac,zad,zP]);refine zM ?_;simp only[zi,zS,zb,go_sem];(repeat(first|refine za ?_|refine zgo ?_ (by simp(disch:=omega)only[go_sem,h2,zc,zk]<;>rfl)));refine zq ?_;(try simp only[zb,zf,ze,zd,zg]);refine zj (vs:=?_) ?_ ?_;rotate_left
  ·simp only[T103,zE,go_sem,h2];rfl
  exact Frz.tupL ⟨Frz.aggL ⟨.int _ _,.int _ _,.int _ _,.int _ _,.int _ _,.list _ _ _,trivial⟩,.int _ _,trivial⟩
theorem f119:ET.funcs.get 119=some T119:=zL Tryz.func119
theorem f95:ET.funcs.get 95=some T95:=zL Tryz.func95
theorem f96:ET.funcs.get 96=some T96:=zL Tryz.func96
theorem znQ (n:zB)(q:Pr):zbT n q=(zgU n.level q.2 && !decide (q.1<n.low) && !(decide (0<n.level)&&decide (q.1=n.low))):=by
 unfold zbT zgU
 by_cases h:n.level=0
 ·rw[if_pos h,if_pos h,h,zDU9];simp
 ·rw[if_neg h,if_neg h,decide_eq_true (show 0<n.level by omega),zCA9]
  by_cases b1:n.low<q.1
  ·rw[decide_eq_true b1,decide_eq_false (show ¬q.1<n.low by omega),decide_eq_false (show ¬q.1=n.low by omega)];simp
  ·rw[decide_eq_false b1,Bool.and_false]
   by_cases b3:q.1=n.low
   ·rw[decide_eq_true b3];simp
   ·rw[decide_eq_true (show q.1<n.low by omega)];simp
theorem zk7 {w:List Nat}(h:zbI w=false):zdB w=.ret (.tuple [zZ 0 zd0,iv 210]):=by unfold zdB;rw[if_neg (by rw[h];decide)]
theorem zsP (p:Nat)(w:List Nat)(hO:FN ET 103 [wv p w] (.ret (.tuple [zZ 0 zd0,iv 210]))):FN ET 61 [wv p w] (.ret (iv (210:Nat))):=by
 refine zfn f61 (.int _ _) ?_;(repeat(first|refine za ?_|refine zgo ?_));(repeat refine za ?_);refine zrg ?_;refine zca hO ?_;refine zfx ?_;refine zh ?_;(repeat(first|refine za ?_|refine zgo ?_));refine zfc ?_ ?_;rotate_left
 ·intro h;cases h
 intro _;(repeat(first|refine za ?_|refine zgo ?_));refine zq ?_;(try simp only[zb,zf,ze,zd,zg]);refine zj (by simp only[T61,zE,go_sem]<;>rfl) ?_;simp only[zG];exact Frz.int _ _
def zii (n:zB)(sc:Nat):Nat:=if(decide (sc=0) && !(n.pairs.any fun q=>!zbT n q))=true then 0 else 190
set_option maxHeartbeats 1000000 in
theorem zsr (p:Nat)(w:List Nat)(n:zB)(sc:Nat)(hwl:w.length=64)(hpl:n.pairs.length<=28)(hO:FN ET 103 [wv p w] (.ret (.tuple [zZ 0 n,iv 0])))(hC:FN ET 104 [uv n.left,wv p (w.drop 8)] (.ret (iv (sc:Nat)))):FN ET 61 [wv p w] (.ret (iv (zii n sc:Nat))):=by
 refine zfn f61 (.int _ _) ?_;(repeat(first|refine za ?_|refine zgo ?_));(repeat refine za ?_);refine zrg ?_;have hd8:List.drop 8 (List.map uv w)=(w.drop 8).map uv:=by rw[zCQ9]
 have hle8:8<=w.length:=by omega
 refine zca hO ?_;refine zfx ?_;refine zh ?_;(repeat(first|refine za ?_|refine zgo ?_));refine zfc ?_ ?_
 ·intro h;cases h
 intro _;refine zF ?_;show W _ _ _ _ _ _;obtain⟨ok,hpk⟩:∃ok,ok=(decide (sc=0) && !(n.pairs.any fun q=>!zbT n q)):=⟨_,rfl⟩
 have hck:zii n sc=if ok=true then 0 else 190:=by unfold zii;rw[hpk]
 have bad:∀H,ok=false->zay H 0 (.ret (iv 190)) (.ret (iv (zii n sc:Nat))):=fun H h=>by rw[hck,h];exact Frz.int _ _
 (repeat refine za ?_);refine zag ?_
 by_cases hs:sc=0
 rotate_left
 ·have g:¬(sc:Int)=0:=by omega
  refine zdn hC ?_ (by simp(disch:=omega)only[go_sem,hd8,hle8,zAA9]<;>rfl);refine zdl ?_ (by simp(disch:=omega)only[go_sem,g]<;>rfl);refine zM ?_;simp only[zi,zS,zb,go_sem];refine zfc ?_ ?_;rotate_left
  ·intro h;simp[g]at h
  intro _;(repeat(first|refine za ?_|refine zgo ?_));refine zq ?_;(try simp only[zb,zf,ze,zd,zg]);refine zj (by simp only[T61,zE,go_sem]<;>rfl) ?_;simp only[zG];exact bad _ (by rw[hpk,decide_eq_false hs];rfl)
 have g:(sc:Int)=0:=by omega
 rw[decide_eq_true hs,zCA9]at hpk;refine zdn hC ?_ (by simp(disch:=omega)only[go_sem,hd8,hle8,zAA9]<;>rfl);refine zdl ?_ (by simp(disch:=omega)only[go_sem,g]<;>rfl);refine zM ?_;simp only[zi,zS,zb,go_sem];refine zfc ?_ ?_
 ·intro h;simp[g]at h
 intro _;refine zF ?_;show W _ _ _ _ _ _;(repeat(first|refine za ?_|refine zgo ?_));refine zD (zas (fun m s=>∃(i:Nat) (G:List zn),m=n.pairs.length-i/\i<=n.pairs.length/\ok=!((n.pairs.drop i).any fun q=>!zbT n q)/\s.tm 3=.ptr 0 0 0 0 6/\s.tm 5=iv i/\s.df=[]/\s.H=.row 124 6 0 0 [zZ 0 n]::G) (n:=n.pairs.length) ?_ ?_)
 ·exact⟨0,_,rfl,zAS9 _,hpk,by simp[upd],by simp[upd],rfl,rfl⟩
 ·rintro m ⟨tm,df,H⟩ ⟨i,G,rfl,hi,hp,h3,h5,rfl,rfl⟩;dsimp only at h3 h5;(try refine zK ?_);refine za (zr ?_);refine zfx ?_ (by simp(disch:=omega)only[go_sem,h3,h5,zAA9]<;>rfl);refine zh ?_;refine zN (by simp only[go_sem]<;>rfl) ?_ ?_;rotate_left
  ·intro hlt;have hlt:¬i<n.pairs.length:=by have:=of_decide_eq_false hlt;omega
   obtain rfl:i=n.pairs.length:=by omega
   simp only[zb,zf,ze,zd,zi,zg,if_true,reduceIte];(repeat(first|refine za ?_|refine zgo ?_));refine zq ?_;(try simp only[zb,zf,ze,zd,zg]);refine zj (by simp only[T61,zE,go_sem]<;>rfl) ?_;simp only[zG];rw[zBG9]at hp;rw[hck,hp];exact Frz.int _ _
  intro hlt;have hlt:i<n.pairs.length:=by have:=of_decide_eq_true hlt;omega
  obtain⟨q,hq⟩:∃q,n.pairs[i]?=some q:=⟨_,zAB9 hlt⟩
  have hqv:(n.pairs.map pv)[i]?=some (pv q):=by rw[zAG9,hq];rfl
  have hdr:n.pairs.drop i=q::n.pairs.drop (i+1):=by rw[zAU9 hlt];obtain⟨_,e⟩:=zAD9.1 hq;rw[e]
  rw[hdr,List.any_cons]at hp;have hma:=znQ n q;have hRt:=zkn n.level q.2;(repeat refine za ?_);refine zD ?_;(repeat refine za ?_);refine zr ?_;refine zfx ?_ (by simp(disch:=omega)only[go_sem,h3,h5,hqv,hlt,zc,zk,zAA9]<;>rfl);refine zh ?_;(repeat refine za ?_);refine zbA (Q:=fun y s'=>y=.norm/\s'.tm 57=.bool (!zbT n q)/\s'.tm 3=.ptr 0 0 0 0 6/\s'.tm 5=iv i/\s'.df=[]/\∃G,s'.H=.row 124 6 0 0 [zZ 0 n]::G) (zr ?_) ?_
  ·generalize zbT n q=mq at *
   refine zfx ?_ (by simp(disch:=omega)only[go_sem,h3,h5,zc,zk]<;>rfl);refine zca hRt ?_
   cases hr:zgU n.level q.2 with
   | false =>
    refine zfx ?_ (by simp(disch:=omega)only[go_sem,h3,h5,zc,zk]<;>rfl);refine zy ?_;exact⟨rfl,by rw[hma,hr];simp[upd],by simp[upd,h3],by simp[upd,h5],rfl,_,rfl⟩
   | true =>
    by_cases b1:q.1<n.low
    ·have g1:(q.1:Int)<n.low:=by omega
     refine zfx ?_ (by simp(disch:=omega)only[go_sem,h3,h5,g1,zc,zk]<;>rfl);refine zy ?_;exact⟨rfl,by rw[hma,decide_eq_true b1];simp[upd],by simp[upd,h3],by simp[upd,h5],rfl,_,rfl⟩
    have g1:¬(q.1:Int)<n.low:=by omega
    by_cases b2:0<n.level
    rotate_left
    ·have g2:¬(0:Int)<n.level:=by omega
     refine zfx ?_ (by simp(disch:=omega)only[go_sem,h3,h5,g1,g2,zc,zk]<;>rfl);refine zy ?_;exact⟨rfl,by rw[hma,hr,decide_eq_false b1,decide_eq_false b2];simp[upd],by simp[upd,h3],by simp[upd,h5],rfl,_,rfl⟩
    have g2:(0:Int)<n.level:=by omega
    by_cases b3:q.1=n.low
    ·have g3:(q.1:Int)=n.low:=by omega
     have g1':¬(n.low:Int)<n.low:=by omega
     refine zfx ?_ (by simp(disch:=omega)only[go_sem,h3,h5,g1,g1',g2,g3,zc,zk]<;>rfl);refine zy ?_;exact⟨rfl,by rw[hma,hr,decide_eq_false b1,decide_eq_true b2,decide_eq_true b3];simp[upd],by simp[upd,h3],by simp[upd,h5],rfl,_,rfl⟩
    ·have g3:¬(q.1:Int)=n.low:=by omega
     refine zfx ?_ (by simp(disch:=omega)only[go_sem,h3,h5,g1,g2,g3,zc,zk]<;>rfl);refine zy ?_;exact⟨rfl,by rw[hma,hr,decide_eq_false b1,decide_eq_true b2,decide_eq_false b3];simp[upd],by simp[upd,h3],by simp[upd,h5],rfl,_,rfl⟩
  clear h3 h5;rintro y ⟨tm,df,H⟩ ⟨rfl,h57,h3,h5,rfl,G,rfl⟩;dsimp only at h57 h3 h5;simp only[zb,zf,ze,zd,zi,zg,if_true,reduceIte]
  cases hmq:zbT n q with
  | false =>
   rw[hmq]at h57 hp;refine zfc ?_ ?_ (by simp only[go_sem,h57]<;>rfl);rotate_left
   ·intro h;cases h
   intro _;(repeat(first|refine za ?_|refine zgo ?_));refine zq ?_;(try simp only[zb,zf,ze,zd,zg]);refine zj (by simp only[T61,zE,go_sem]<;>rfl) ?_;simp only[zG];exact bad _ (by rw[hp];rfl)
  | true =>
   rw[hmq]at h57 hp;refine zfc ?_ ?_ (by simp only[go_sem,h57]<;>rfl)
   ·intro h;cases h
   intro _;refine zF ?_;simp only[zb,zf,ze,zd,zi,zg,if_true,reduceIte];(repeat refine za ?_);refine zrg ?_ (by simp(disch:=omega)only[go_sem,h5]<;>rfl);refine zy ?_;simp only[zb,zf,ze,zd,zi,zg,if_true,↓reduceIte];refine⟨_,?m1,i+1,_,rfl,hlt,hp,by simp[upd,h3],by simp[upd,h5],trivial,rfl⟩
   case m1=>omega
theorem zfv (p:Nat)(w:List Nat)(hw:za2 w.length):FN ET 61 [wv p w] (.ret (iv (zbh w:Nat))):=by
 have hO:=ze5 p w hw
 by_cases hh:zbI w=true
 rotate_left
 ·have hh:zbI w=false:=by simpa using hh
  rw[zk7 hh]at hO;have:=zsP p w hO;have e:zbh w=210:=by unfold zbh;rw[if_neg (by rw[hh];decide)]
  rw[e];exact this
 rw[zej _ hh]at hO;have hwl:w.length=64:=by unfold zbI at hh;simp only[zAR9,decide_eq_true_eq]at hh;exact hh.1.1
 have hC:=zhT p (zaa w).left (w.drop 8) (by rw[zCI9];omega);have:=zsr p w (zaa w) _ hwl (zck w) hO hC;have e:zbh w=zii (zaa w) (zbz (zaa w).left (w.drop 8)):=by unfold zbh;rw[if_pos hh];unfold zen zii;rfl
 rw[e];exact this
def zeS (w:List Nat)(x:Pr):Nat:=if zbh w=0 then(if zbT (zaa w) x=true then 0 else 2)else zbh w
theorem zrj (p:Nat)(w:List Nat)(x:Pr)(c:Nat)(hc:¬c=0)(hC:FN ET 61 [wv p w] (.ret (iv (c:Nat)))):FN ET 119 [wv p w,pv x] (.ret (iv (c:Nat))):=by
 refine zfn f119 (.int _ _) ?_;(repeat(first|refine za ?_|refine zgo ?_));(repeat refine za ?_);refine zrg ?_;refine zca hC ?_;refine zfx ?_;refine zh ?_;have g:¬(c:Int)=0:=by omega
 (repeat(first|refine za ?_|refine zgo ?_ (by simp(disch:=omega)only[go_sem,g]<;>rfl)));refine zfc ?_ ?_;rotate_left
 ·intro h;cases h
 intro _;(repeat(first|refine za ?_|refine zgo ?_));refine zq ?_;(try simp only[zb,zf,ze,zd,zg]);refine zj (by simp only[T119,zE,go_sem]<;>rfl) ?_;simp only[zG];exact Frz.int _ _
set_option maxHeartbeats 1000000 in
theorem zqU (p:Nat)(w:List Nat)(x:Pr)(n:zB)(hC:FN ET 61 [wv p w] (.ret (iv (0:Nat))))(hO:FN ET 103 [wv p w] (.ret (.tuple [zZ 0 n,iv 0]))):FN ET 119 [wv p w,pv x] (.ret (iv ((if zbT n x=true then 0 else 2:Nat)))):=by
 refine zfn f119 (.int _ _) ?_;have hma:=znQ n x;have hRt:=zkn n.level x.2;obtain⟨co,hco⟩:∃co:Nat,co=if zbT n x=true then 0 else 2:=⟨_,rfl⟩
 rw[<- hco];(repeat(first|refine za ?_|refine zgo ?_));(repeat refine za ?_);refine zrg ?_;refine zca hC ?_;refine zfx ?_;refine zh ?_;(repeat(first|refine za ?_|refine zgo ?_));refine zfc ?_ ?_
 ·intro h;cases h
 intro _;refine zF ?_;show W _ _ _ _ _ _;(repeat refine za ?_);refine zrg ?_;refine zca hO ?_;refine zfx ?_;refine zh ?_;(repeat refine za ?_);refine zbA (Q:=fun y s'=>y=.norm/\s'.tm 42=.bool (!zbT n x)/\s'.df=[]) (zr ?_) ?_
 ·generalize zbT n x=mq at *
  refine zfx ?_ (by simp(disch:=omega)only[go_sem,zc,zk]<;>rfl);refine zca hRt ?_
  cases hr:zgU n.level x.2 with
  | false =>
   refine zfx ?_ (by simp(disch:=omega)only[go_sem,zc,zk]<;>rfl);refine zy ?_;exact⟨rfl,by rw[hma,hr];simp[upd],rfl⟩
  | true =>
   by_cases b1:x.1<n.low
   ·have g1:(x.1:Int)<n.low:=by omega
    refine zfx ?_ (by simp(disch:=omega)only[go_sem,g1,zc,zk]<;>rfl);refine zy ?_;exact⟨rfl,by rw[hma,decide_eq_true b1];simp[upd],rfl⟩
   have g1:¬(x.1:Int)<n.low:=by omega
   by_cases b2:0<n.level
   rotate_left
   ·have g2:¬(0:Int)<n.level:=by omega
    refine zfx ?_ (by simp(disch:=omega)only[go_sem,g1,g2,zc,zk]<;>rfl);refine zy ?_;exact⟨rfl,by rw[hma,hr,decide_eq_false b1,decide_eq_false b2];simp[upd],rfl⟩
   have g2:(0:Int)<n.level:=by omega
   by_cases b3:x.1=n.low
   ·have g3:(x.1:Int)=n.low:=by omega
    have g1':¬(n.low:Int)<n.low:=by omega
    refine zfx ?_ (by simp(disch:=omega)only[go_sem,g1,g1',g2,g3,zc,zk]<;>rfl);refine zy ?_;exact⟨rfl,by rw[hma,hr,decide_eq_false b1,decide_eq_true b2,decide_eq_true b3];simp[upd],rfl⟩
   ·have g3:¬(x.1:Int)=n.low:=by omega
    refine zfx ?_ (by simp(disch:=omega)only[go_sem,g1,g2,g3,zc,zk]<;>rfl);refine zy ?_;exact⟨rfl,by rw[hma,hr,decide_eq_false b1,decide_eq_true b2,decide_eq_false b3];simp[upd],rfl⟩
 rintro y ⟨tm,df,H⟩ ⟨rfl,h42,rfl⟩;dsimp only at h42;simp only[zb,zf,ze,zd,zi,zg,if_true,reduceIte]
 cases hmq:zbT n x with
 | false =>
  rw[hmq]at h42 hco;refine zfc ?_ ?_ (by simp only[go_sem,h42]<;>rfl);rotate_left
  ·intro h;cases h
  intro _;(repeat(first|refine za ?_|refine zgo ?_));refine zq ?_;(try simp only[zb,zf,ze,zd,zg]);refine zj (by simp only[T119,zE,go_sem]<;>rfl) ?_;simp only[zG];rw[hco];exact Frz.int _ _
 | true =>
  rw[hmq]at h42 hco;refine zfc ?_ ?_ (by simp only[go_sem,h42]<;>rfl)
  ·intro h;cases h
  intro _;refine zF ?_;show W _ _ _ _ _ _;(repeat(first|refine za ?_|refine zgo ?_));refine zq ?_;(try simp only[zb,zf,ze,zd,zg]);refine zj (by simp only[T119,zE,go_sem]<;>rfl) ?_;simp only[zG];rw[hco];exact Frz.int _ _
theorem zrf (p:Nat)(w:List Nat)(x:Pr)(hw:za2 w.length):FN ET 119 [wv p w,pv x] (.ret (iv (zeS w x:Nat))):=by
 have hC:=zfv p w hw;have hO:=ze5 p w hw;unfold zeS
 by_cases hc:zbh w=0
 ·rw[if_pos hc];rw[zej _ (zc7 hc)]at hO;rw[hc]at hC;exact zqU p w x _ hC hO
 ·rw[if_neg hc];exact zrj p w x _ hc hC
def zeg (w:List Nat)(v:Nat):List Pr:=if w.getD 4 0=v then[]else[(4,v)]
theorem zpW (p:Nat)(w:List Nat)(v:Nat)(hw:4<w.length)(H:List zn):FO ET 95 [wv p w,uv v] H false fun e H'=>∃(g:Nat) (G:List zn),e=.ret (.sl H.length g 0 (zeg w v).length (2*(zeg w v).length) 2)/\H'=H++.row 83 2 g 0 ((zeg w v).map zat)::G:=by
 refine zro f95 ?_;have z4:=zcr hw;unfold zeg;generalize w.getD 4 0=a at *
 (repeat(first|refine za ?_|refine zgo ?_))
 by_cases h:a=v
 ·have g:(a:Int)=v:=by omega
  rw[if_pos h];(repeat(first|refine za ?_|refine zgo ?_ (by simp(disch:=omega)only[go_sem,hw,z4,g,zAA9]<;>rfl)));refine zfc ?_ ?_;rotate_left
  ·intro h;cases h
  intro _;(repeat(first|refine za ?_|refine zgo ?_));refine zcd 83 2 (i:=4) rfl ?_;simp only[lzy];refine zq ?_;(try simp only[zb,zf,ze,zd,zg]);refine zj (by simp only[T95,zE,go_sem]<;>rfl) ?_;simp only[zG];exact⟨0,[],rfl,rfl⟩
 ·have g:¬(a:Int)=v:=by omega
  rw[if_neg h];(repeat(first|refine za ?_|refine zgo ?_ (by simp(disch:=omega)only[go_sem,hw,z4,g,zAA9]<;>rfl)));refine zfc ?_ ?_
  ·intro h;cases h
  intro _;refine zF ?_;show W _ _ _ _ _ _;(repeat(first|refine za ?_|refine zgo ?_));refine zq ?_;(try simp only[zb,zf,ze,zd,zg]);refine zj (by simp only[T95,zE,go_sem]<;>rfl) ?_;simp only[zG];exact⟨0,[],rfl,rfl⟩
def zcG (l:List Pr):List Pr:=l.map fun x=>(x.1+8,x.2)
theorem zlU (p:Nat)(l:List Pr)(hl:l.length<1000000)(hat:∀x∈l,x.1<1000000):FN ET 96 [.list p 2 (l.map zat)] (.ret (.list 0 2 ((zcG l).map zat))):=by
 refine zfn f96 (zdc _) ?_;(repeat(first|refine za ?_|refine zgo ?_));refine zcd 83 2 (i:=3) rfl ?_;simp only[lzy,zAC9,zAE9,zAH9,zAN9,zAF9,zAI9,zAL9];refine zD (zas (fun m s=>∃(i:Nat) (V:List PV) (G:List zn),m=l.length-i/\i<=l.length/\V=(zcG (l.take i)).map zat/\s.tm 0=.list p 2 (l.map zat)/\s.tm 3=.sl 0 V.length 0 V.length (2*V.length) 2/\s.tm 4=iv i/\s.df=[]/\s.H=.row 83 2 V.length 0 V::G) (n:=l.length) ?_ ?_)
 ·exact⟨0,[],_,rfl,zAS9 _,rfl,by simp[upd,zo],by simp[upd],by simp[upd],rfl,rfl⟩
 ·rintro m ⟨tm,df,H⟩ ⟨i,V,G,rfl,hi,hV,h0,h3,h4,rfl,rfl⟩;dsimp only at h0 h3 h4;have hVl:V.length=i:=by rw[hV];simp[zcG];omega
  (try refine zK ?_);refine za (zr ?_);refine zfx ?_ (by simp(disch:=omega)only[go_sem,h0,h4,zAA9]<;>rfl);refine zh ?_;refine zN (by simp only[go_sem]<;>rfl) ?_ ?_
  ·intro hlt;have hlt:i<l.length:=by have:=of_decide_eq_true hlt;omega
   obtain⟨q,hq⟩:∃q,l[i]?=some q:=⟨_,zAB9 hlt⟩
   have hqv:(l.map zat)[i]?=some (zat q):=by rw[zAG9,hq];rfl
   have hq1:=hat q (zAK9 hq);have w1:IntKind.i64.wrap ((q.1:Int)+8)=((q.1+8:Nat):Int):=by rw[wrap_i64 (by omega) (by omega)];omega
   have hb:(V.length+1)*17<=140737488355328:=by omega
   (repeat refine za ?_);refine zD ?_;(repeat refine za ?_);refine zag ?_;refine zda ?_ (by simp(disch:=omega)only[go_sem,h0,h3,h4,hqv,hlt,w1,hb,zc,zAA9]<;>rfl);refine zdl ?_ (by simp(disch:=omega)only[go_sem,h0]<;>rfl);refine zM ?_;simp only[zi,zS,zb,go_sem];(repeat refine za ?_);refine zrg ?_ (by simp(disch:=omega)only[go_sem,h4]<;>rfl);refine zy ?_;simp only[zb,zf,ze,zd,zi,zg,if_true,↓reduceIte];refine⟨_,?m1,i+1,V++[zat (q.1+8,q.2)],?G2,rfl,hlt,(by rw[zBM9,hq,hV];simp[zcG]),by simp[upd,h0],by simp[upd],by simp[upd,h4],trivial,?H⟩
   case m1=>omega
   case H=>rw[zAC9];rfl
  ·intro hlt;have hlt:¬i<l.length:=by have:=of_decide_eq_false hlt;omega
   obtain rfl:i=l.length:=by omega
   simp only[zb,zf,ze,zd,zi,zg,if_true,reduceIte];(repeat(first|refine za ?_|refine zgo ?_ (by simp(disch:=omega)only[go_sem,h3]<;>rfl)));refine zq ?_;(try simp only[zb,zf,ze,zd,zg]);refine zj (by simp only[T96,zE,go_sem]<;>rfl) ?_;simp only[zG];rw[zBK9]at hV;rw[<- hV];exact Frz.whole rfl rfl rfl (zAM9 _) (fun v hv=>by rw[hV]at hv;obtain⟨x,_,rfl⟩:=zAP9.1 hv;rfl) (by rw[hV];exact zc8)
theorem f80:ET.funcs.get 80=some T80:=zL Tryz.func80
theorem f47:ET.funcs.get 47=some T47:=zL Tryz.func47
theorem f93:ET.funcs.get 93=some T93:=zL Tryz.func93
theorem zoo (l:List Pr)(i:Nat):∀m,(upL l i m).length<=2*m/\∀x∈upL l i m,x.1<=2*m+1
 | 0=>⟨zAM9 _,fun x hx=>by simp[upL]at hx⟩
 | m+1=>by
  obtain⟨h1,h2⟩:=zoo l i m;rw[upL]
  split
  ·refine⟨by simp;omega,fun x hx=>?_⟩;rcases zAX9.1 hx with rfl|hx
   ·simp;omega
   rcases zAX9.1 hx with rfl|hx
   ·simp;omega
   ·have:=h2 x hx;omega
  ·exact⟨zAS9 _,fun x hx=>by simp at hx⟩
theorem ztg {left:Nat}{w:List Nat}{x:Pr}(h:(zdm left w x).2=0):0<(zdm left w x).1.length/\(zdm left w x).1.length<=1000/\∀y∈(zdm left w x).1,y.1<1000:=by
 unfold zdm at h⊢
 by_cases hp:zce left w x=0
 rotate_left
 ·rw[if_neg hp]at h;exact absurd h hp
 rw[if_pos hp]at h⊢;obtain⟨hr,_⟩:=zf1 hp;have hl:=zgF hr
 by_cases hs:sIs (zav left w) x.1=true
 ·rw[if_pos hs]at h;cases h
 rw[if_neg hs]at h⊢
 split at h
 ·cases h
 rename_i hlong;rw[if_neg hlong];have hf:=zkM (zav left w) x.1;generalize zav left w=L at *
 generalize zcB L x.1=i at *
 have hu:=zoo L i L.length;unfold zlY;refine⟨by simp,by simp;omega,fun y hy=>?_⟩;rcases zAX9.1 hy with rfl|hy
 ·simp;omega
 rcases zBF9.1 hy with hy|hy
 ·have:=hu.2 y hy;omega
 ·simp at hy;rcases hy with rfl|rfl|rfl<;>simp<;>omega
theorem zqT {left:Nat}{w:List Nat}{key:Nat}(h:(zc6 left w key).2=0):0<(zc6 left w key).1.length/\(zc6 left w key).1.length<=1000/\∀y∈(zc6 left w key).1,y.1<1000:=by
 unfold zc6 at h⊢
 by_cases hc:zbz left w=0
 rotate_left
 ·rw[if_neg hc]at h;exact absurd h hc
 rw[if_pos hc]at h⊢;have hl:=zgF (zgX hc)
 by_cases hs:sIs (zav left w) key=true
 rotate_left
 ·rw[if_neg hs]at h;cases h
 rw[if_pos hs];have hf:=zpT hs;generalize zav left w=L at *
 generalize zcB L key=i at *
 refine⟨by simp,?_,fun y hy=>?_⟩
 ·simp[zdt,zkd];omega
 rcases zAX9.1 hy with rfl|hy
 ·simp;omega
 unfold zdt at hy;rcases zBF9.1 hy with hy|hy
 ·unfold dnL at hy;obtain⟨q,hq,hy⟩:=zBC9.1 hy;have hq:=zDC9.1 hq;simp at hy;rcases hy with rfl|rfl<;>simp<;>omega
 ·simp at hy;subst hy;simp;omega
def chg (w:List Nat)(v:Nat)(no:Nat)(r:List Pr×Nat):List Pr×Nat:=if no=0 then(if r.2=0 then(zeg w v++zcG r.1,0)else([],r.2))else([],no)
def zb0 (w:List Nat)(x:Pr):List Pr×Nat:=chg w 1 (zeS w x) (zdm (w.getD 3 0) (w.drop 8) x)
def zdy (w:List Nat)(key:Nat):List Pr×Nat:=chg w 2 (zbh w) (zc6 (w.getD 3 0) (w.drop 8) key)
theorem zi1 {w:List Nat}{x:Pr}(h:zeS w x=0):zbh w=0:=by
 unfold zeS at h
 split at h
 ·assumption
 ·rename_i h2;exact absurd h h2
theorem zij {w:List Nat}(h:zbh w=0):w.length=64:=by
 have:=zc7 h;unfold zbI at this;simp only[zAR9,decide_eq_true_eq]at this;exact this.1.1
theorem zrr {H:List zn}{id g:Nat}{A B:List Pr}{n q:Nat}(hH:H[id]?=some (.row 83 2 g 0 (A.map zat++B.map zat)))(hn:n=A.length+B.length)(hq:2*(A.length+B.length)<=q):Frz H 0 (.sl id g 0 n q 2) (.list 0 2 ((A++B).map zat)):=by
 rw[<- zBZ9]at hH;refine Frz.whole hH rfl (by rw[zAA9,zAC9];exact hn) (by rw[zAA9,zAC9];exact hq) (fun v hv=>by obtain⟨x,_,rfl⟩:=zAP9.1 hv;rfl) zc8
set_option maxHeartbeats 1000000 in
theorem zk8 (p:Nat)(w:List Nat)(x:Pr)(hw:za2 w.length):FN ET 80 [wv p w,pv x] (.ret (.tuple [.list 0 2 ((zb0 w x).1.map zat),iv ((zb0 w x).2:Nat)])):=by
 refine zfn f80 (Lb.two (zdc _) (.int _ _)) ?_;have hC:=zrf p w x hw;unfold zb0 chg
 by_cases hc:zeS w x=0
 rotate_left
 ·rw[if_neg hc];have g:¬(zeS w x:Int)=0:=by omega
  generalize zeS w x=c at *
  (repeat(first|refine za ?_|refine zgo ?_));(repeat refine za ?_);refine zrg ?_;refine zca hC ?_;refine zfx ?_;refine zh ?_;(repeat(first|refine za ?_|refine zgo ?_ (by simp(disch:=omega)only[go_sem,g]<;>rfl)));refine zfc ?_ ?_;rotate_left
  ·intro h;cases h
  intro _;(repeat(first|refine za ?_|refine zgo ?_));refine zq ?_;(try simp only[zb,zf,ze,zd,zg]);refine zj (by simp only[T80,zE,go_sem]<;>rfl) ?_;simp only[zG];exact Frz.tupL ⟨.nil _ _,.int _ _,trivial⟩
 rw[if_pos hc];rw[hc]at hC;have hwl:=zij (zi1 hc);have hP:=zuL p (w.getD 3 0) (w.drop 8) x (by rw[zCI9];omega);have hsm:=ztg (left:=w.getD 3 0) (w:=w.drop 8) (x:=x);have hd8:List.drop 8 (List.map uv w)=(w.drop 8).map uv:=by rw[zCQ9]
 have hle8:8<=w.length:=by omega
 have c3:3<w.length:=by omega
 have z3:=zcr c3;generalize w.getD 3 0=a3 at *
 generalize zdm a3 (w.drop 8) x=r at *
 obtain⟨L,no⟩:=r;dsimp only at hP hsm⊢;(repeat(first|refine za ?_|refine zgo ?_));(repeat refine za ?_);refine zrg ?_;refine zca hC ?_;refine zfx ?_;refine zh ?_;(repeat(first|refine za ?_|refine zgo ?_));refine zfc ?_ ?_
 ·intro h;cases h
 intro _;refine zF ?_;show W _ _ _ _ _ _;(repeat refine za ?_);refine zag ?_;refine zdn hP ?_ (by simp(disch:=omega)only[go_sem,c3,z3,hd8,hle8,zAA9]<;>rfl);refine zdl ?_ (by simp(disch:=omega)only[go_sem,hwl]<;>rfl);refine zM ?_;simp only[zi,zS,zb,go_sem]
 by_cases hn:no=0
 rotate_left
 ·rw[if_neg hn];have g:¬(no:Int)=0:=by omega
  (repeat(first|refine za ?_|refine zgo ?_ (by simp(disch:=omega)only[go_sem,g]<;>rfl)));refine zfc ?_ ?_;rotate_left
  ·intro h;cases h
  intro _;(repeat(first|refine za ?_|refine zgo ?_));refine zq ?_;(try simp only[zb,zf,ze,zd,zg]);refine zj (by simp only[T80,zE,go_sem]<;>rfl) ?_;simp only[zG];exact Frz.tupL ⟨.nil _ _,.int _ _,trivial⟩
 rw[if_pos hn];have g:(no:Int)=0:=by omega
 obtain⟨s1,s2,s3⟩:=hsm hn;(repeat(first|refine za ?_|refine zgo ?_ (by simp(disch:=omega)only[go_sem,g]<;>rfl)));refine zfc ?_ ?_
 ·intro h;cases h
 intro _;refine zF ?_;show W _ _ _ _ _ _;(repeat refine za ?_);refine zrg ?_;refine zdN (caps:=?_) (vs:=?_) ?_ ?_ (zpW p w 1 (by omega) [.row 66 2 0 0 [pv x]]) ?_ ?_ ?_;rotate_left 2;(first|rfl|(simp only[zab,zap,go_sem,hwl]<;>rfl));(simp only[go_sem,hwl]<;>rfl);rfl;rfl;rintro e H' ⟨g1,G,rfl,rfl⟩;have hM:=zlU 0 L (by omega) (fun y hy=>by have:=s3 y hy;omega);have hml:(zcG L).length=L.length:=by unfold zcG;rw[zAA9]
 have hwl2:(zeg w 1).length<=1:=by unfold zeg;split<;>simp
 have hne:¬(zcG L).length=0:=by omega
 have hb:((zeg w 1).length+(zcG L).length)*17<=140737488355328:=by omega
 generalize zcG L=M at *
 generalize zeg w 1=A at *
 refine zfx ?_;refine zca hM ?_;refine zfx ?_ (by simp(disch:=omega)only[go_sem,hne,hb,zAA9,zc]<;>rfl);refine zh ?_;refine zq ?_;(try simp only[zb,zf,ze,zd,zg]);refine zj (by simp only[T80,zE,go_sem]<;>rfl) ?_;simp only[zG];refine Frz.tupL ⟨zrr rfl ?_ ?_,.int _ _,trivial⟩
 ·rfl
 ·omega
set_option maxHeartbeats 1000000 in
theorem zt3 (p key:Nat)(w:List Nat)(hw:za2 w.length):FN ET 47 [wv p w,uv key] (.ret (.tuple [.list 0 2 ((zdy w key).1.map zat),iv ((zdy w key).2:Nat)])):=by
 refine zfn f47 (Lb.two (zdc _) (.int _ _)) ?_;have hC:=zfv p w hw;unfold zdy chg
 by_cases hc:zbh w=0
 rotate_left
 ·rw[if_neg hc];have g:¬(zbh w:Int)=0:=by omega
  generalize zbh w=c at *
  (repeat(first|refine za ?_|refine zgo ?_));(repeat refine za ?_);refine zrg ?_;refine zca hC ?_;refine zfx ?_;refine zh ?_;(repeat(first|refine za ?_|refine zgo ?_ (by simp(disch:=omega)only[go_sem,g]<;>rfl)));refine zfc ?_ ?_;rotate_left
  ·intro h;cases h
  intro _;(repeat(first|refine za ?_|refine zgo ?_));refine zq ?_;(try simp only[zb,zf,ze,zd,zg]);refine zj (by simp only[T47,zE,go_sem]<;>rfl) ?_;simp only[zG];exact Frz.tupL ⟨.nil _ _,.int _ _,trivial⟩
 rw[if_pos hc];rw[hc]at hC;have hwl:=zij (hc);have hP:=ztM p (w.getD 3 0) key (w.drop 8) (by rw[zCI9];omega);have hsm:=zqT (left:=w.getD 3 0) (w:=w.drop 8) (key:=key);have hd8:List.drop 8 (List.map uv w)=(w.drop 8).map uv:=by rw[zCQ9]
 have hle8:8<=w.length:=by omega
 have c3:3<w.length:=by omega
 have z3:=zcr c3;generalize w.getD 3 0=a3 at *
 generalize zc6 a3 (w.drop 8) key=r at *
 obtain⟨L,no⟩:=r;dsimp only at hP hsm⊢;(repeat(first|refine za ?_|refine zgo ?_));(repeat refine za ?_);refine zrg ?_;refine zca hC ?_;refine zfx ?_;refine zh ?_;(repeat(first|refine za ?_|refine zgo ?_));refine zfc ?_ ?_
 ·intro h;cases h
 intro _;refine zF ?_;show W _ _ _ _ _ _;(repeat refine za ?_);refine zag ?_;refine zdn hP ?_ (by simp(disch:=omega)only[go_sem,c3,z3,hd8,hle8,zAA9]<;>rfl);refine zdl ?_ (by simp(disch:=omega)only[go_sem,hwl]<;>rfl);refine zM ?_;simp only[zi,zS,zb,go_sem]
 by_cases hn:no=0
 rotate_left
 ·rw[if_neg hn];have g:¬(no:Int)=0:=by omega
  (repeat(first|refine za ?_|refine zgo ?_ (by simp(disch:=omega)only[go_sem,g]<;>rfl)));refine zfc ?_ ?_;rotate_left
  ·intro h;cases h
  intro _;(repeat(first|refine za ?_|refine zgo ?_));refine zq ?_;(try simp only[zb,zf,ze,zd,zg]);refine zj (by simp only[T47,zE,go_sem]<;>rfl) ?_;simp only[zG];exact Frz.tupL ⟨.nil _ _,.int _ _,trivial⟩
 rw[if_pos hn];have g:(no:Int)=0:=by omega
 obtain⟨s1,s2,s3⟩:=hsm hn;(repeat(first|refine za ?_|refine zgo ?_ (by simp(disch:=omega)only[go_sem,g]<;>rfl)));refine zfc ?_ ?_
 ·intro h;cases h
 intro _;refine zF ?_;show W _ _ _ _ _ _;(repeat refine za ?_);refine zrg ?_;refine zdN (caps:=?_) (vs:=?_) ?_ ?_ (zpW p w 2 (by omega) []) ?_ ?_ ?_;rotate_left 2;(first|rfl|(simp only[zab,zap,go_sem,hwl]<;>rfl));(simp only[go_sem,hwl]<;>rfl);rfl;rfl;rintro e H' ⟨g1,G,rfl,rfl⟩;have hM:=zlU 0 L (by omega) (fun y hy=>by have:=s3 y hy;omega);have hml:(zcG L).length=L.length:=by unfold zcG;rw[zAA9]
 have hwl2:(zeg w 2).length<=1:=by unfold zeg;split<;>simp
 have hne:¬(zcG L).length=0:=by omega
 have hb:((zeg w 2).length+(zcG L).length)*17<=140737488355328:=by omega
 generalize zcG L=M at *
 generalize zeg w 2=A at *
 refine zfx ?_;refine zca hM ?_;refine zfx ?_ (by simp(disch:=omega)only[go_sem,hne,hb,zAA9,zc]<;>rfl);refine zh ?_;refine zq ?_;(try simp only[zb,zf,ze,zd,zg]);refine zj (by simp only[T47,zE,go_sem]<;>rfl) ?_;simp only[zG];refine Frz.tupL ⟨zrr rfl ?_ ?_,.int _ _,trivial⟩
 ·rfl
 ·omega
def zeU (left:Nat)(l:List Pr)(key:Nat):Nat:=l.foldl (fun a q=>if q.1<=key then q.2 else a) left
def zcS (w:List Nat)(key:Nat):Nat×Nat:=if zbh w=0 then(if(zaa w).level=0 then(0,2)else(zeU (zaa w).left (zaa w).pairs key,0))else(0,zbh w)
theorem zom (l:List Pr)(key:Nat):∀left,zeU left l key=left\/∃q∈l,zeU left l key=q.2:=by
 induction l with
 | nil=>exact fun left=>.inl rfl
 | cons a l ih =>
  intro left;have h:=ih (if a.1<=key then a.2 else left);have e:zeU left (a::l) key=zeU (if a.1<=key then a.2 else left) l key:=rfl;rw[e];rcases h with h|⟨q,hq,h⟩
  ·rw[h]
   split
   ·exact .inr ⟨a,zAV9 ..,rfl⟩
   ·exact .inl rfl
  ·exact .inr ⟨q,zAT9 _ hq,h⟩
theorem zu1 {l:List Pr}{left key:Nat}(h:∀x∈(0,left)::l,x.2<2048):zeU left l key<2048:=by
 rcases zom l key left with e|⟨q,hq,e⟩
 ·rw[e];exact h _ (zAV9 ..)
 ·rw[e];exact h q (zAT9 _ hq)
theorem zsT (p key:Nat)(w:List Nat)(c:Nat)(hc:¬c=0)(hC:FN ET 61 [wv p w] (.ret (iv (c:Nat)))):FN ET 93 [wv p w,uv key] (.ret (.tuple [iv 0,iv (c:Nat)])):=by
 refine zfn f93 (Lb.two (.int _ _) (.int _ _)) ?_;(repeat(first|refine za ?_|refine zgo ?_));(repeat refine za ?_);refine zrg ?_;refine zca hC ?_;refine zfx ?_;refine zh ?_;have g:¬(c:Int)=0:=by omega
 (repeat(first|refine za ?_|refine zgo ?_ (by simp(disch:=omega)only[go_sem,g]<;>rfl)));refine zfc ?_ ?_;rotate_left
 ·intro h;cases h
 intro _;(repeat(first|refine za ?_|refine zgo ?_));refine zq ?_;(try simp only[zb,zf,ze,zd,zg]);refine zj (by simp only[T93,zE,go_sem]<;>rfl) ?_;simp only[zG];exact Frz.tupL ⟨.int _ _,.int _ _,trivial⟩
set_option maxHeartbeats 1000000 in
theorem zsd (p key:Nat)(w:List Nat)(n:zB)(hpl:n.pairs.length<=28)(hk:0<n.level->∀x∈(0,n.left)::n.pairs,x.2<2048)(hC:FN ET 61 [wv p w] (.ret (iv (0:Nat))))(hO:FN ET 103 [wv p w] (.ret (.tuple [zZ 0 n,iv 0]))):FN ET 93 [wv p w,uv key] (if n.level=0 then .ret (.tuple [iv 0,iv 2])else .ret (.tuple [iv (zeU n.left n.pairs key:Nat),iv 0])):=by
 refine zfn f93 ?_ ?_
 ·split<;>exact Lb.two (.int _ _) (.int _ _)
 (repeat(first|refine za ?_|refine zgo ?_));(repeat refine za ?_);refine zrg ?_;refine zca hC ?_;refine zfx ?_;refine zh ?_;(repeat(first|refine za ?_|refine zgo ?_));refine zfc ?_ ?_
 ·intro h;cases h
 intro _;refine zF ?_;show W _ _ _ _ _ _;(repeat refine za ?_);refine zrg ?_;refine zca hO ?_;refine zfx ?_;refine zh ?_
 by_cases hz:n.level=0
 ·have g:(n.level:Int)=0:=by omega
  rw[if_pos hz];(repeat(first|refine za ?_|refine zgo ?_ (by simp(disch:=omega)only[go_sem,g,zc,zk]<;>rfl)));refine zfc ?_ ?_;rotate_left
  ·intro h;cases h
  intro _;(repeat(first|refine za ?_|refine zgo ?_));refine zq ?_;(try simp only[zb,zf,ze,zd,zg]);refine zj (by simp only[T93,zE,go_sem]<;>rfl) ?_;simp only[zG];exact Frz.tupL ⟨.int _ _,.int _ _,trivial⟩
 have g:¬(n.level:Int)=0:=by omega
 have hkl:=zu1 (key:=key) (hk (by omega));rw[if_neg hz];(repeat(first|refine za ?_|refine zgo ?_ (by simp(disch:=omega)only[go_sem,g,zc,zk]<;>rfl)));refine zfc ?_ ?_
 ·intro h;cases h
 intro _;refine zF ?_;show W _ _ _ _ _ _;(repeat(first|refine za ?_|refine zgo ?_ (by simp(disch:=omega)only[go_sem,zc,zk]<;>rfl)));refine zD (zas (fun m s=>∃(i a:Nat),m=n.pairs.length-i/\i<=n.pairs.length/\zeU n.left n.pairs key=zeU a (n.pairs.drop i) key/\s.tm 1=uv key/\s.tm 7=.ptr 0 0 0 0 6/\s.tm 9=uv a/\s.tm 10=iv i/\s.df=[]/\s.H=[.row 124 6 0 0 [zZ 0 n]]) (n:=n.pairs.length) ?_ ?_)
 ·exact⟨0,n.left,rfl,zAS9 _,rfl,by simp[upd,zo],by simp[upd],by simp[upd],by simp[upd],rfl,rfl⟩
 ·rintro m ⟨tm,df,H⟩ ⟨i,a,rfl,hi,hka,h1,h7,h9,h10,rfl,rfl⟩;dsimp only at h1 h7 h9 h10;(try refine zK ?_);refine za (zr ?_);refine zfx ?_ (by simp(disch:=omega)only[go_sem,h7,h10,zAA9]<;>rfl);refine zh ?_;refine zN (by simp only[go_sem]<;>rfl) ?_ ?_
  ·intro hlt;have hlt:i<n.pairs.length:=by have:=of_decide_eq_true hlt;omega
   obtain⟨q,hq⟩:∃q,n.pairs[i]?=some q:=⟨_,zAB9 hlt⟩
   have hqv:(n.pairs.map pv)[i]?=some (pv q):=by rw[zAG9,hq];rfl
   have hdr:n.pairs.drop i=q::n.pairs.drop (i+1):=by rw[zAU9 hlt];obtain⟨_,e⟩:=zAD9.1 hq;rw[e]
   rw[hdr]at hka;change _=zeU (if q.1<=key then q.2 else a) _ key at hka;(repeat refine za ?_);refine zD ?_
   by_cases hle:q.1<=key
   ·have g1:(q.1:Int)<=key:=by omega
    rw[if_pos hle]at hka;(repeat refine za ?_);refine zgo ?_ (by simp(disch:=omega)only[go_sem,h1,h7,h10,hqv,hlt,g1,zAA9]<;>rfl);refine zfc ?_ ?_;rotate_left
    ·intro h;cases h
    intro _;(repeat refine za ?_);refine zrg ?_ (by simp(disch:=omega)only[go_sem,h7,h10,hqv,hlt,zAA9]<;>rfl);refine zy ?_;simp only[zb,zf,ze,zd,zi,zg,if_true,↓reduceIte];(repeat refine za ?_);refine zrg ?_ (by simp(disch:=omega)only[go_sem,h10]<;>rfl);refine zy ?_;simp only[zb,zf,ze,zd,zi,zg,if_true,↓reduceIte];refine⟨_,?m1,i+1,q.2,rfl,hlt,hka,by simp[upd,h1],by simp[upd,h7],by simp[upd],by simp[upd,h10],trivial,trivial⟩
    case m1=>omega
   ·have g1:¬(q.1:Int)<=key:=by omega
    rw[if_neg hle]at hka;(repeat refine za ?_);refine zgo ?_ (by simp(disch:=omega)only[go_sem,h1,h7,h10,hqv,hlt,g1,zAA9]<;>rfl);refine zfc ?_ ?_
    ·intro h;cases h
    intro _;refine zF ?_;simp only[zb,zf,ze,zd,zi,zg,if_true,reduceIte];(repeat refine za ?_);refine zrg ?_ (by simp(disch:=omega)only[go_sem,h10]<;>rfl);refine zy ?_;simp only[zb,zf,ze,zd,zi,zg,if_true,↓reduceIte];refine⟨_,?m2,i+1,a,rfl,hlt,hka,by simp[upd,h1],by simp[upd,h7],by simp[upd,h9],by simp[upd,h10],trivial,trivial⟩
    case m2=>omega
  ·intro hlt;have hlt:¬i<n.pairs.length:=by have:=of_decide_eq_false hlt;omega
   obtain rfl:i=n.pairs.length:=by omega
   rw[zBG9]at hka;change _=a at hka;rw[hka]at hkl⊢;have w1:IntKind.i64.wrap (a:Int)=(a:Int):=wrap_i64 (by omega) (by omega);simp only[zb,zf,ze,zd,zi,zg,if_true,reduceIte];(repeat(first|refine za ?_|refine zgo ?_ (by simp(disch:=omega)only[go_sem,h9,w1]<;>rfl)));refine zq ?_;(try simp only[zb,zf,ze,zd,zg]);refine zj (by simp only[T93,zE,go_sem]<;>rfl) ?_;simp only[zG];exact Frz.tupL ⟨.int _ _,.int _ _,trivial⟩
theorem zsG (p key:Nat)(w:List Nat)(hw:za2 w.length):FN ET 93 [wv p w,uv key] (.ret (.tuple [iv ((zcS w key).1:Nat),iv ((zcS w key).2:Nat)])):=by
 have hC:=zfv p w hw;have hO:=ze5 p w hw;unfold zcS
 by_cases hc:zbh w=0
 ·rw[if_pos hc];rw[zej _ (zc7 hc)]at hO;rw[hc]at hC;have h:=zsd p key w _ (zck w) (fun hl x hx=>by
   rcases zAX9.1 hx with rfl|hx
   ·exact ziH hc hl ((zaa w).low,(zaa w).left) (zAV9 ..)
   ·exact ziH hc hl x (zAT9 _ hx)) hC hO
  by_cases hz:(zaa w).level=0
  ·rw[if_pos hz]at h⊢;exact h
  ·rw[if_neg hz]at h⊢;exact h
 ·rw[if_neg hc];exact zsT p key w _ hc hC
theorem f121:ET.funcs.get 121=some T121:=zL Tryz.func121
theorem Lb.three {a b c:PV}(ha:Lb a)(hb:Lb b)(hc:Lb c):Lb (.tuple [a,b,c]):=.tuple fun v hv=>by
 simp at hv;rcases hv with h|h|h<;>subst h<;>assumption
def zcb (n:zB):zB:=⟨n.level,n.sib,(n.pairs.getD (n.pairs.length/2) (0,0)).1,(if 0<n.level then(n.pairs.getD (n.pairs.length/2) (0,0)).2 else 9223372036854775808),0,(if 0<n.level then n.pairs.drop (n.pairs.length/2+1)else n.pairs.drop (n.pairs.length/2))⟩
def zfj (m:Nat):Nat->List Pr
 | 0=>[]
 | k+1=>if m<=k then(9+2*k,0)::zfj m k else[]
def zeP (n:zB)(a:Nat):List Pr:=(1,a)::zfj (n.pairs.length/2) n.pairs.length
def ziv (n:zB)(a:Int):Bool:=decide (1<=a)&&decide (a<=2047)&&decide (2<=n.pairs.length)
def ziR (n:zB)(a:Int):FE:=if ziv n a=true then .ret (.tuple [wv 0 (zbr (zcb n)),.list 0 2 ((zeP n a.toNat).map zat),iv 0])else .ret (.tuple [wv 0 [],.list 0 2 (([]:List Pr).map zat),iv 2])
theorem zjS {H:List zn}(c:Int):Frz H 0 (.tuple [.nilsl,.nilsl,iv c]) (.tuple [wv 0 [],.list 0 2 (([]:List Pr).map zat),iv c]):=Frz.tupL ⟨.nil _ _,.nil _ _,.int _ _,trivial⟩
theorem zq3 (p:Nat)(a:Int)(w:List Nat)(c:Nat)(hc:¬c=0)(hC:FN ET 61 [wv p w] (.ret (iv (c:Nat)))):FN ET 121 [wv p w,iv a] (.ret (.tuple [wv 0 [],.list 0 2 (([]:List Pr).map zat),iv (c:Nat)])):=by
 refine zfn f121 (Lb.three (Lb.uvs _) (zdc _) (.int _ _)) ?_;(repeat(first|refine za ?_|refine zgo ?_));(repeat refine za ?_);refine zrg ?_;refine zca hC ?_;refine zfx ?_;refine zh ?_;have g:¬(c:Int)=0:=by omega
 (repeat(first|refine za ?_|refine zgo ?_ (by simp(disch:=omega)only[go_sem,g]<;>rfl)));refine zfc ?_ ?_;rotate_left
 ·intro h;cases h
 intro _;(repeat(first|refine za ?_|refine zgo ?_));refine zq ?_;(try simp only[zb,zf,ze,zd,zg]);refine zj (by simp only[T121,zE,go_sem]<;>rfl) ?_;simp only[zG];exact zjS _
set_option maxHeartbeats 2000000 in
theorem zqW (p:Nat)(a:Int)(w:List Nat)(n:zB)(h12:n.level<=12)(hsb:n.sib<2048)(hpl:n.pairs.length<=28)(hC:FN ET 61 [wv p w] (.ret (iv (0:Nat))))(hO:FN ET 103 [wv p w] (.ret (.tuple [zZ 0 n,iv 0]))):FN ET 121 [wv p w,iv a] (ziR n a):=by
 refine zfn f121 ?_ ?_
 ·unfold ziR;split<;>exact Lb.three (Lb.uvs _) (zdc _) (.int _ _)
 (repeat(first|refine za ?_|refine zgo ?_));(repeat refine za ?_);refine zrg ?_;refine zca hC ?_;refine zfx ?_;refine zh ?_;(repeat(first|refine za ?_|refine zgo ?_));refine zfc ?_ ?_
 ·intro h;cases h
 intro _;refine zF ?_;show W _ _ _ _ _ _;(repeat refine za ?_);refine zrg ?_;refine zca hO ?_;refine zfx ?_;refine zh ?_;have badE:ziv n a=false->ziR n a=.ret (.tuple [wv 0 [],.list 0 2 (([]:List Pr).map zat),iv 2]):=fun h=>by unfold ziR;rw[h];rfl
 by_cases b1:a<1
 ·(repeat(first|refine za ?_|refine zgo ?_ (by simp(disch:=omega)only[go_sem,b1,zc,zk]<;>rfl)));refine zfc ?_ ?_;rotate_left
  ·intro h;cases h
  intro _;(repeat(first|refine za ?_|refine zgo ?_));refine zq ?_;(try simp only[zb,zf,ze,zd,zg]);refine zj (by simp only[T121,zE,go_sem]<;>rfl) ?_;simp only[zG];rw[badE (by unfold ziv;rw[decide_eq_false (show ¬1<=a by omega)];rfl)];exact zjS _
 by_cases b2:2047<a
 ·(repeat(first|refine za ?_|refine zgo ?_ (by simp(disch:=omega)only[go_sem,b1,b2,zc,zk]<;>rfl)));refine zfc ?_ ?_;rotate_left
  ·intro h;cases h
  intro _;(repeat(first|refine za ?_|refine zgo ?_));refine zq ?_;(try simp only[zb,zf,ze,zd,zg]);refine zj (by simp only[T121,zE,go_sem]<;>rfl) ?_;simp only[zG];rw[badE (by unfold ziv;rw[decide_eq_false (show ¬a<=2047 by omega)];simp)];exact zjS _
 by_cases b3:n.pairs.length<2
 ·have g3:(n.pairs.length:Int)<2:=by omega
  (repeat(first|refine za ?_|refine zgo ?_ (by simp(disch:=omega)only[go_sem,b1,b2,g3,zc,zk,zAA9]<;>rfl)));refine zfc ?_ ?_;rotate_left
  ·intro h;cases h
  intro _;(repeat(first|refine za ?_|refine zgo ?_));refine zq ?_;(try simp only[zb,zf,ze,zd,zg]);refine zj (by simp only[T121,zE,go_sem]<;>rfl) ?_;simp only[zG];rw[badE (by unfold ziv;rw[decide_eq_false (show ¬2<=n.pairs.length by omega)];simp)];exact zjS _
 have g3:¬(n.pairs.length:Int)<2:=by omega
 have hok:ziR n a=.ret (.tuple [wv 0 (zbr (zcb n)),.list 0 2 ((zeP n a.toNat).map zat),iv 0]):=by
  unfold ziR;rw[if_pos (by unfold ziv;rw[decide_eq_true (show 1<=a by omega),decide_eq_true (show a<=2047 by omega),decide_eq_true (show 2<=n.pairs.length by omega)];rfl)]
 rw[hok];clear badE hok;obtain⟨b,rfl⟩:∃b:Nat,a=b:=⟨a.toNat,by omega⟩
 rw[zCU9];have e0:IntKind.i64.wrap ((n.pairs.length:Int).tdiv 2)=((n.pairs.length/2:Nat):Int):=by rw[IntWalk.i64_quo _ _ (by omega)];omega
 (repeat(first|refine za ?_|refine zgo ?_ (by simp(disch:=omega)only[go_sem,b1,b2,g3,e0,zc,zk,zAA9]<;>rfl)));refine zfc ?_ ?_
 ·intro h;cases h
 intro _;refine zF ?_;show W _ _ _ _ _ _;(repeat(first|refine za ?_|refine zgo ?_ (by simp(disch:=omega)only[go_sem,e0,zc,zk,zAA9]<;>rfl)));have hmn:n.pairs.length/2<n.pairs.length:=by omega
 have hmv:(n.pairs.map pv)[n.pairs.length/2]?=some (pv (n.pairs.getD (n.pairs.length/2) (0,0))):=by rw[zAG9,get_lt _ hmn];rfl
 have hd0:List.drop (n.pairs.length/2) (n.pairs.map pv)=(n.pairs.drop (n.pairs.length/2)).map pv:=by rw[zCQ9]
 have hd1:List.drop (n.pairs.length/2+1) (n.pairs.map pv)=(n.pairs.drop (n.pairs.length/2+1)).map pv:=by rw[zCQ9]
 have hm14:n.pairs.length/2<=14:=by omega
 have hW:=ziB 0 (zcb n) h12 hsb (zAS9 _) (by
  show (if 0<n.level then n.pairs.drop (n.pairs.length/2+1)else n.pairs.drop (n.pairs.length/2)).length<=27
  split<;>rw[zCI9]<;>omega)
 have hsl:zeP n b=(1,b)::zfj (n.pairs.length/2) n.pairs.length:=rfl;rw[hsl];have hsp:zZ 0 (zcb n)=.agg [iv n.level,iv n.sib,uv (n.pairs.getD (n.pairs.length/2) (0,0)).1,uv (if 0<n.level then(n.pairs.getD (n.pairs.length/2) (0,0)).2 else 9223372036854775808:Nat),iv 0,psv 0 (if 0<n.level then n.pairs.drop (n.pairs.length/2+1)else n.pairs.drop (n.pairs.length/2))]:=rfl;rw[hsp]at hW;generalize zbr (zcb n)=LW at *
 clear hsl hsp;have hle2:n.pairs.length/2<=n.pairs.length:=by omega
 have hle3:n.pairs.length/2+1<=n.pairs.length:=by omega
 generalize hmm:n.pairs.length/2=m at *
 generalize n.pairs.getD m (0,0)=y at *
 (repeat refine za ?_);refine zag ?_;refine zda ?_ (by simp(disch:=omega)only[go_sem,hmn,hmv,hd0,hle2,zc,zk,zAA9]<;>rfl);refine zdl ?_ (by simp(disch:=omega)only[go_sem,hmn,zCC9,zCJ9,zCD9,zCM9,zCZ9,Nat.reduceBEq,zac,zad,zP]<;>rfl) (by first|exact trivial|simp only[go_sem,hmn,zCC9,zCJ9,zCD9,zCM9,zCZ9,Nat.reduceBEq,zac,zad,zP]);refine zM ?_;simp only[zi,zS,zb,go_sem];refine za (zbA (Q:=fun y' s'=>y'=.norm/\s'.tm 1=iv b/\s'.tm 8=.ptr 0 0 0 0 6/\s'.tm 10=iv m/\s'.tm 11=.ptr 1 0 0 0 6/\s'.df=[]/\s'.H=[.row 124 6 0 0 [zZ 0 n],.row 124 6 0 0 [.agg [iv n.level,iv n.sib,uv y.1,uv (if 0<n.level then y.2 else 9223372036854775808:Nat),iv 0,psv 0 (if 0<n.level then n.pairs.drop (m+1)else n.pairs.drop m)]]]) ?_ ?_)
 ·by_cases hz:0<n.level
  ·have g:(0:Int)<n.level:=by omega
   rw[if_pos hz,if_pos hz];have e5:(m:Int)+1=((m+1:Nat):Int):=by omega
   (repeat(first|refine za ?_|refine zgo ?_ (by simp(disch:=omega)only[go_sem,g,zc,zk]<;>rfl)));refine zfc ?_ ?_;rotate_left
   ·intro h;cases h
   intro _;(repeat refine za ?_);refine zag ?_;refine zda ?_ (by simp(disch:=omega)only[go_sem,hmn,hmv,e5,hd1,hle3,zc,zk,zAA9]<;>rfl);refine zda ?_ (by simp(disch:=omega)only[go_sem,hmn,hmv,e5,hd1,hle3,zc,zk,zAA9]<;>rfl);refine zdl ?_ (by simp(disch:=omega)only[go_sem,hmn,zCC9,zCJ9,zCD9,zCM9,zCZ9,Nat.reduceBEq,zac,zad,zP]<;>rfl) (by first|exact trivial|simp only[go_sem,hmn,zCC9,zCJ9,zCD9,zCM9,zCZ9,Nat.reduceBEq,zac,zad,zP]);refine zM ?_;simp only[zi,zS,zb,go_sem]
  ·have g:¬(0:Int)<n.level:=by omega
   rw[if_neg hz,if_neg hz];(repeat(first|refine za ?_|refine zgo ?_ (by simp(disch:=omega)only[go_sem,g,zc,zk]<;>rfl)));refine zfc ?_ ?_
   ·intro h;cases h
   intro _;refine zF ?_;exact⟨rfl,by simp[upd,zo],by simp[upd],by simp[upd],by simp[upd],rfl,rfl⟩
 rintro y' ⟨tm,df,H⟩ ⟨rfl,h1,h8,h10,h11,rfl,rfl⟩;dsimp only at h1 h8 h10 h11;simp only[zb,zf,ze,zd,zi,zg,if_true,reduceIte];have w1:IntKind.u64.wrap (b:Int)=(b:Int):=zJ (by omega) (by omega);(repeat(first|refine za ?_|refine zgo ?_ (by simp(disch:=omega)only[go_sem,h1,h8,w1,zc,zk,zAA9]<;>rfl)));generalize hNV:PV.agg [iv n.level,iv n.sib,uv y.1,uv (if 0<n.level then y.2 else 9223372036854775808:Nat),iv 0,psv 0 (if 0<n.level then n.pairs.drop (m+1)else n.pairs.drop m)]=NV at *
 generalize hD:(1,b)::zfj m n.pairs.length=D;refine zD (zas (fun k s=>∃(V:List PV) (g:Nat) (G:List zn),m<=k/\k<=n.pairs.length/\V.length<=1+(n.pairs.length-k)/\D.map zat=V++(zfj m k).map zat/\s.tm 10=iv m/\s.tm 11=.ptr 1 0 0 0 6/\s.tm 12=.sl 2 g 0 V.length (2*V.length) 2/\s.tm 13=iv ((k:Int)-1)/\s.df=[]/\s.H=.row 124 6 0 0 [zZ 0 n]::.row 124 6 0 0 [NV]::.row 83 2 g 0 V::G) (n:=n.pairs.length) ?_ ?_)
 ·exact⟨[zat (1,b)],0,[],by omega,zAM9 _,by simp,by rw[<- hD];rfl,by simp[upd,h10],by simp[upd,h11],by simp[upd],by simp[upd],rfl,rfl⟩
 ·clear h1 h8 h10 h11;rintro k ⟨tm,df,H⟩ ⟨V,g,G,hmk,hkL,hVl,hDV,h10,h11,h12',h13,rfl,rfl⟩;dsimp only at h10 h11 h12' h13
  by_cases hk:m<k
  ·obtain⟨q,rfl⟩:∃q,k=q+1:=⟨k-1,by omega⟩
   rw[show ((q+1:Nat):Int)-1=(q:Nat) by omega]at h13;rw[zfj,if_pos (by omega)]at hDV;have g4:(m:Int)<=(q:Nat):=by omega
   have w2:IntKind.i64.wrap (2*(q:Int))=((2*q:Nat):Int):=by rw[wrap_i64 (by omega) (by omega)];omega
   have w3:IntKind.i64.wrap (9+((2*q:Nat):Int))=((9+2*q:Nat):Int):=by rw[wrap_i64 (by omega) (by omega)];omega
   have hb:(V.length+1)*17<=140737488355328:=by omega
   (try refine zK ?_);refine za (zr ?_);refine zfx ?_ (by simp(disch:=omega)only[go_sem,h10,h13,g4]<;>rfl);refine zh ?_;refine zN (by simp only[go_sem]<;>rfl) ?_ ?_
   ·intro _;(repeat refine za ?_);refine zD ?_;(repeat refine za ?_);refine zrg ?_ (by simp(disch:=omega)only[go_sem,h12',h13,w2,w3,hb,zc]<;>rfl);refine zy ?_;simp only[zb,zf,ze,zd,zi,zg,if_true,↓reduceIte];(repeat refine za ?_);refine zrg ?_ (by simp(disch:=omega)only[go_sem,h13]<;>rfl);refine zy ?_;simp only[zb,zf,ze,zd,zi,zg,if_true,↓reduceIte];refine⟨q,zBT9 _,V++[zat (9+2*q,0)],g+1,?G2,by omega,by omega,by simp;omega,(by rw[hDV];simp),by simp[upd,h10],by simp[upd,h11],by simp[upd],by simp[upd,h13],trivial,?H⟩
    case H=>rfl
   ·intro h;cases h
  ·obtain rfl:k=m:=by omega
   have g4:¬(k:Int)<=(k:Int)-1:=by omega
   have hup:zfj k k=[]:=by cases k with
    | zero=>rfl
    | succ q=>rw[zfj,if_neg (by omega)]
   rw[hup,zBX9,zEB9]at hDV;(try refine zK ?_);refine za (zr ?_);refine zfx ?_ (by simp(disch:=omega)only[go_sem,h10,h13,g4]<;>rfl);refine zh ?_;refine zN (by simp only[go_sem]<;>rfl) ?_ ?_
   ·intro h;cases h
   intro _;simp only[zb,zf,ze,zd,zi,zg,if_true,reduceIte];subst hNV;(repeat refine za ?_);refine zrg ?_ (by simp(disch:=omega)only[go_sem,h11]<;>rfl);refine zca hW ?_;refine zfx ?_ (by simp(disch:=omega)only[go_sem,h12']<;>rfl);refine zh ?_;refine zq ?_;(try simp only[zb,zf,ze,zd,zg]);refine zj (by simp only[T121,zE,go_sem]<;>rfl) ?_;simp only[zG];refine Frz.tupL ⟨.list _ _ _,?_,.int _ _,trivial⟩;rw[hDV];exact Frz.whole rfl rfl rfl (zAM9 _) (fun v hv=>by rw[<- hDV]at hv;obtain⟨x,_,rfl⟩:=zAP9.1 hv;rfl) (by rw[<- hDV];exact zc8)
def zoU (w:List Nat)(a:Int):FE:=if zbh w=0 then ziR (zaa w) a else .ret (.tuple [wv 0 [],.list 0 2 (([]:List Pr).map zat),iv (zbh w:Nat)])
theorem zq8 (p:Nat)(a:Int)(w:List Nat)(hw:za2 w.length):FN ET 121 [wv p w,iv a] (zoU w a):=by
 have hC:=zfv p w hw;have hO:=ze5 p w hw;unfold zoU
 by_cases hc:zbh w=0
 ·rw[if_pos hc];rw[zej _ (zc7 hc)]at hO;rw[hc]at hC;have hb:=zdz (zc7 hc);exact zqW p a w _ hb.1 hb.2.1 (zck w) hC hO
 ·rw[if_neg hc];exact zq3 p a w _ hc hC
theorem f97:ET.funcs.get 97=some T97:=zL Tryz.func97
theorem f49:ET.funcs.get 49=some T49:=zL Tryz.func49
theorem zsL (p q:Nat)(w:List Nat)(x:Pr)(hw:w.length<1000000)(hx:x.1<w.length):FN ET 97 [wv p w,iv 1,.list q 2 [zat x]] (.ret (.tuple [wv 0 (w.set x.1 x.2),iv 0])):=by
 refine zfn f97 (Lb.two (Lb.uvs _) (.int _ _)) ?_;have hb:w.length*9<=140737488355328:=by omega
 have hne:¬w.length=0:=by omega
 have hxv:([zat x]:List PV)[0]?=some (zat x):=rfl;have g0:¬((x.1:Nat):Int)<0:=by omega
 have g1:((x.1:Nat):Int)<(w.length:Nat):=by omega
 have g2:¬((w.length:Nat):Int)<=(x.1:Nat):=by omega
 obtain⟨o,ho⟩:∃old,w[x.1]?=some old:=⟨_,zAB9 hx⟩
 have z1:(w.map uv)[x.1]?=some (uv o):=by rw[zAG9,ho];rfl
 have y1:(w.map uv).set x.1 (.int .u64 (x.2:Int))=(w.set x.1 x.2).map uv:=zET9.symm;(repeat(first|refine za ?_|refine zgo ?_ (by simp(disch:=omega)only[go_sem,hb,hne,zAA9,zAL9,zAN9]<;>rfl)));refine zfc ?_ ?_
 ·intro h;cases h
 intro _;refine zF ?_;show W _ _ _ _ _ _;(repeat(first|refine za ?_|refine zgo ?_ (by simp(disch:=omega)only[go_sem,hb,hne,zAA9,zAL9,zAN9]<;>rfl)));refine zD (zas (fun m s=>∃(i M:Nat) (K:List Nat),m=1-i/\i<=1/\M<=1/\(i=0->K=w)/\(i=1->K=w.set x.1 x.2)/\s.tm 1=iv 1/\s.tm 2=.list q 2 [zat x]/\s.tm 8=.sl 0 1 0 w.length (2*w.length) 1/\s.tm 9=iv i/\s.df=[]/\s.H=[.row 24 1 1 M (K.map uv)]) (n:=1) ?_ ?_)
 ·exact⟨0,0,w,rfl,zAS9 _,by decide,fun _=>rfl,fun h=>absurd h (by decide),by simp[upd,zo],by simp[upd,zo],by simp[upd],by simp[upd],rfl,rfl⟩
 ·rintro m ⟨tm,df,Hx⟩ ⟨i,M,K,rfl,hi,hM,hK0,hK1,h1,h2,h8,h9,rfl,rfl⟩;dsimp only at h1 h2 h8 h9;obtain rfl|rfl:i=0\/i=1:=by omega
  ·obtain rfl:=hK0 rfl;(try refine zK ?_);refine za (zr ?_);refine zfx ?_ (by simp(disch:=omega)only[go_sem,h1,h9]<;>rfl);refine zh ?_;refine zN (by simp only[go_sem]<;>rfl) ?_ ?_
   ·intro _;(repeat refine za ?_);refine zD ?_;(repeat refine za ?_);generalize K.map uv=K0 at *
    (repeat refine za ?_);refine zgo ?_ (by simp(disch:=omega)only[go_sem,h2,h8,h9,hxv,g0,g1,g2]<;>rfl);refine zfc ?_ ?_
    ·intro h;cases h
    intro _;refine zF ?_;show W _ _ _ _ _ _;refine zag ?_;refine zda ?_ (by simp(disch:=omega)only[go_sem,h2,h8,h9,hxv,hx,hM,z1,y1]<;>rfl);refine zdl ?_ (by simp(disch:=omega)only[go_sem,h8]<;>rfl);refine zM ?_;simp only[zi,zS,zb,go_sem];(repeat refine za ?_);refine zrg ?_ (by simp(disch:=omega)only[go_sem,h9]<;>rfl);refine zy ?_;simp only[zb,zf,ze,zd,zi,zg,if_true,↓reduceIte];refine⟨_,?m,1,1,K.set x.1 x.2,rfl,zAM9 _,zAM9 _,fun h=>absurd h (by decide),fun _=>rfl,by simp[upd,h1],by simp[upd,h2],by simp[upd,h8],by simp[upd,h9],trivial,rfl⟩
    case m=>omega
   ·intro h;cases h
  ·obtain rfl:=hK1 rfl;(try refine zK ?_);refine za (zr ?_);refine zfx ?_ (by simp(disch:=omega)only[go_sem,h1,h9]<;>rfl);refine zh ?_;refine zN (by simp only[go_sem]<;>rfl) ?_ ?_
   ·intro h;cases h
   intro _;simp only[zb,zf,ze,zd,zi,zg,if_true,reduceIte];(repeat(first|refine za ?_|refine zgo ?_ (by simp(disch:=omega)only[go_sem,h8]<;>rfl)));refine zq ?_;(try simp only[zb,zf,ze,zd,zg]);refine zj (by simp only[T97,zE,go_sem]<;>rfl) ?_;simp only[zG];exact Frz.tupL ⟨Frz.wholeM rfl hM rfl (by simp) (by simp) (fun v hv=>by obtain⟨x,_,rfl⟩:=zAP9.1 hv;rfl) zif,.int _ _,trivial⟩
section mid
variable {α:Type}
theorem ga0 (G l:List α)(a:α):(G++a::l)[G.length]?=some a:=by simp
theorem ga1 (G l:List α)(a b:α):(G++a::b::l)[G.length+1]?=some b:=by simp
theorem ga2 (G l:List α)(a b c:α):(G++a::b::c::l)[G.length+1+1]?=some c:=by
 rw[zAO9 (by omega),show G.length+1+1-G.length=2 by omega];rfl
theorem sa0 (G l:List α)(a x:α):(G++a::l).set G.length x=G++x::l:=by
 rw[zBV9 _ _ (zAM9 _),Nat.sub_self];rfl
theorem sa1 (G l:List α)(a b x:α):(G++a::b::l).set (G.length+1) x=G++a::x::l:=by
 rw[zBV9 _ _ (by omega),show G.length+1-G.length=1 by omega];rfl
theorem sa2 (G l:List α)(a b c x:α):(G++a::b::c::l).set (G.length+1+1) x=G++a::b::x::l:=by
 rw[zBV9 _ _ (by omega),show G.length+1+1-G.length=2 by omega];rfl
theorem ga3 (G l:List α)(a b c d:α):(G++a::b::c::d::l)[G.length+3]?=some d:=by
 rw[zAO9 (by omega),show G.length+3-G.length=3 by omega];rfl
end mid
structure Wk where
 p:Nat
 q:Nat
 W:List Nat
 L:List Pr
 fr:PV
 used:Nat
def wkv (x:Wk):PV:=.agg [wv x.p x.W,.list x.q 2 (x.L.map zat),x.fr,iv x.used]
def Wk.one (x:Wk)(c:Pr):Wk:=⟨0,0,x.W.set c.1 c.2,x.L++[c],x.fr,x.used⟩
def Wk.does (x:Wk)(l:List Pr):Wk:=l.foldl Wk.one x
def zbn (a:Nat)(l:List Pr):List Pr:=l.map fun c=>(a+c.1,c.2)
theorem ztw (x:Wk)(l:List Pr)(c:Pr):x.does (l++[c])=(x.does l).one c:=by unfold Wk.does;rw[List.foldl_append];rfl
theorem zcH:∀(l:List Pr) (x:Wk),(x.does l).W.length=x.W.length/\(x.does l).L.length=x.L.length+l.length/\(x.does l).fr=x.fr/\(x.does l).used=x.used
 | [],x=>⟨rfl,rfl,rfl,rfl⟩
 | c::l,x=>by
  have h:=zcH l (x.one c);have e:x.does (c::l)=(x.one c).does l:=rfl;rw[e];refine⟨h.1.trans (by simp[Wk.one]),h.2.1.trans (by simp[Wk.one];omega),h.2.2.1,h.2.2.2⟩
theorem zcL {x:Wk}(h:Id0 x.fr):Id0 (wkv x):=.agg fun v hv=>by
 simp at hv;rcases hv with rfl|rfl|rfl|rfl
 ·exact .list _ _ _
 ·exact .list _ _ _
 ·exact h
 ·exact .int _ _
set_option maxHeartbeats 2000000 in
theorem zfg (x:Wk)(hfr:Id0 x.fr)(a r:Nat)(l:List Pr)(hl:x.L.length+l.length<1000000)(hw:x.W.length<1000000)(hin:∀c∈l,a+c.1<x.W.length):FP ET 49 [wkv x,iv a,.list r 2 (l.map zat)] (.ret (wkv (x.does (zbn a l)))):=by
 refine zfp f49 ?_;(repeat(first|refine za ?_|refine zgo ?_));refine zD (zas (fun m s=>∃(i:Nat) (G:List zn),m=l.length-i/\i<=l.length/\s.tm 1=iv a/\s.tm 2=.list r 2 (l.map zat)/\s.tm 3=.ptr 0 0 0 0 4/\s.tm 6=.ptr 1 0 0 0 4/\s.tm 7=iv i/\s.df=[]/\s.H=.row 107 4 0 0 [wkv (x.does (zbn a (l.take i)))]::.row 107 4 0 0 [.agg [.nilsl,.nilsl,.nilsl,iv 0]]::G) (n:=l.length) ?_ ?_)
 ·exact⟨0,[],rfl,zAS9 _,by simp[upd,zo],by simp[upd,zo],by simp[upd],by simp[upd],by simp[upd],rfl,rfl⟩
 ·rintro m ⟨tm,df,Hx⟩ ⟨i,G,rfl,hi,h1,h2,h3,h6,h7,rfl,rfl⟩;dsimp only at h1 h2 h3 h6 h7;(try refine zK ?_);refine za (zr ?_);refine zfx ?_ (by simp(disch:=omega)only[go_sem,h2,h7,zAA9]<;>rfl);refine zh ?_;refine zN (by simp only[go_sem]<;>rfl) ?_ ?_;rotate_left
  ·intro hlt;have hlt:¬i<l.length:=by have:=of_decide_eq_false hlt;omega
   obtain rfl:i=l.length:=by omega
   simp only[zb,zf,ze,zd,zi,zg,if_true,reduceIte];rw[zBK9];unfold wkv;(repeat(first|refine za ?_|refine zgo ?_ (by simp(disch:=omega)only[go_sem,h3,h6]<;>rfl)));refine zq ?_;refine zj (vs:=[wkv (x.does (zbn a l))]) ?_ ?_
   ·simp[T49,xT,zE,okv,upd,h6,zae,zaC,zaJ,PV.cells,wkv]
   ·exact(zcL (by rw[(zcH _ x).2.2.1];exact hfr)).frz
  intro hlt;have hlt:i<l.length:=by have:=of_decide_eq_true hlt;omega
  obtain⟨c,hc⟩:∃c,l[i]?=some c:=⟨_,zAB9 hlt⟩
  have hcv:(l.map zat)[i]?=some (zat c):=by rw[zAG9,hc];rfl
  have hcin:=hin c (zAK9 hc);have htk:x.does (zbn a (l.take (i+1)))=(x.does (zbn a (l.take i))).one (a+c.1,c.2):=by
   rw[<- ztw,zBM9,hc];simp[zbn]
  obtain⟨d1,d2,d3,d4⟩:=zcH (zbn a (l.take i)) x;have hol:(zbn a (l.take i)).length<=l.length:=by simp[zbn];omega
  generalize x.does (zbn a (l.take i))=y at *
  have w1:IntKind.i64.wrap ((a:Int)+((c.1:Nat):Int))=((a+c.1:Nat):Int):=by rw[wrap_i64 (by omega) (by omega)];omega
  (repeat refine za ?_);refine zD ?_;(repeat refine za ?_);refine zag ?_;unfold wkv;refine zda ?_ (by simp(disch:=omega)only[go_sem,h1,h2,h7,hcv,hlt,w1,ga0,sa0,zAF9,zAI9,zAL9,zAC9,zAE9,zAH9,zAN9,zc,zk,zAA9]<;>rfl);refine zdl ?_ (by simp(disch:=omega)only[go_sem,h7]<;>rfl);refine zM ?_;simp only[zi,zS,zb,go_sem];have hbb:y.L.length*17<=140737488355328:=by omega
  have hbc:(y.L.length+1)*17<=140737488355328:=by omega
  refine za (zbA (Q:=fun yy s'=>yy=.norm/\∃g,s'.tm 1=iv a/\s'.tm 2=.list r 2 (l.map zat)/\s'.tm 3=.ptr 0 0 0 0 4/\s'.tm 6=.ptr 1 0 0 0 4/\s'.tm 7=iv i/\s'.tm 8=.ptr (G.length+1+1) 0 0 0 2/\s'.df=[]/\s'.H=.row 107 4 0 0 [.agg [wv y.p y.W,.sl (G.length+1+1+1) g 0 (y.L.length+1) (2*(y.L.length+1)) 2,y.fr,iv y.used]]::.row 107 4 0 0 [.agg [.nilsl,.nilsl,.nilsl,iv 0]]::(G++.row 83 2 0 0 [zat (a+c.1,c.2)]::.row 83 2 g 0 (y.L.map zat++[zat (a+c.1,c.2)])::.row 83 2 0 0 [zat (a+c.1,c.2)]::[])) (zag ?_) ?_)
  ·by_cases hy:y.L=[]
   ·have hy0:y.L.length=0:=by rw[hy];rfl
    rw[hy];refine zda ?_ (by simp(disch:=omega)only[go_sem,hbb,hbc,h1,h2,h3,h6,h7,ga0,ga1,ga2,sa0,sa1,sa2,zAF9,zAI9,zAL9,zAC9,zAE9,zAH9,zBX9,zAN9,zbF,zbH,zbE,zbG,zAA9]<;>rfl) (by first|exact trivial|simp only[go_sem,hbb,hbc,h1,h2,h3,h6,h7,ga0,ga1,ga2,sa0,sa1,sa2,zAF9,zAI9,zAL9,zAC9,zAE9,zAH9,zBX9,zAN9,zbF,zbH,zbE,zbG,zAA9]);refine zda ?_ (by simp(disch:=omega)only[go_sem,hbb,hbc,h1,h2,h3,h6,h7,ga0,ga1,ga2,sa0,sa1,sa2,zAF9,zAI9,zAL9,zAC9,zAE9,zAH9,zBX9,zAN9,zbF,zbH,zbE,zbG,zAA9]<;>rfl) (by first|exact trivial|simp only[go_sem,hbb,hbc,h1,h2,h3,h6,h7,ga0,ga1,ga2,sa0,sa1,sa2,zAF9,zAI9,zAL9,zAC9,zAE9,zAH9,zBX9,zAN9,zbF,zbH,zbE,zbG,zAA9]);refine zda ?_ (by simp(disch:=omega)only[go_sem,hbb,hbc,h1,h2,h3,h6,h7,ga0,ga1,ga2,sa0,sa1,sa2,zAF9,zAI9,zAL9,zAC9,zAE9,zAH9,zBX9,zAN9,zbF,zbH,zbE,zbG,zAA9]<;>rfl) (by first|exact trivial|simp only[go_sem,hbb,hbc,h1,h2,h3,h6,h7,ga0,ga1,ga2,sa0,sa1,sa2,zAF9,zAI9,zAL9,zAC9,zAE9,zAH9,zBX9,zAN9,zbF,zbH,zbE,zbG,zAA9]);refine zdl ?_ (by simp(disch:=omega)only[go_sem,h1,h2,h3,h6,h7,ga0,ga1,ga2,sa0,sa1,sa2,zAF9,zAI9,zAL9,zAC9,zAE9,zAH9,zBX9,zAN9,zbF,zbH,zbE,zbG,zAA9]<;>rfl) (by first|exact trivial|simp only[go_sem,h1,h2,h3,h6,h7,ga0,ga1,ga2,sa0,sa1,sa2,zAF9,zAI9,zAL9,zAC9,zAE9,zAH9,zBX9,zAN9,zbF,zbH,zbE,zbG,zAA9]);refine zM ?_;simp only[zi,zS,zb,go_sem];exact⟨1,h1,h2,h3,h6,h7,rfl⟩
   ·have hy0:¬y.L.length=0:=by simpa using hy
    refine zda ?_ (by simp(disch:=omega)only[go_sem,hy0,hbb,hbc,h1,h2,h3,h6,h7,ga0,ga1,ga2,sa0,sa1,sa2,zAF9,zAI9,zAL9,zAC9,zAE9,zAH9,zBX9,zAN9,zbF,zbH,zbE,zbG,zAA9]<;>rfl) (by first|exact trivial|simp only[go_sem,hy0,hbb,hbc,h1,h2,h3,h6,h7,ga0,ga1,ga2,sa0,sa1,sa2,zAF9,zAI9,zAL9,zAC9,zAE9,zAH9,zBX9,zAN9,zbF,zbH,zbE,zbG,zAA9]);refine zda ?_ (by simp(disch:=omega)only[go_sem,hy0,hbb,hbc,h1,h2,h3,h6,h7,ga0,ga1,ga2,sa0,sa1,sa2,zAF9,zAI9,zAL9,zAC9,zAE9,zAH9,zBX9,zAN9,zbF,zbH,zbE,zbG,zAA9]<;>rfl) (by first|exact trivial|simp only[go_sem,hy0,hbb,hbc,h1,h2,h3,h6,h7,ga0,ga1,ga2,sa0,sa1,sa2,zAF9,zAI9,zAL9,zAC9,zAE9,zAH9,zBX9,zAN9,zbF,zbH,zbE,zbG,zAA9]);refine zda ?_ (by simp(disch:=omega)only[go_sem,hy0,hbb,hbc,h1,h2,h3,h6,h7,ga0,ga1,ga2,sa0,sa1,sa2,zAF9,zAI9,zAL9,zAC9,zAE9,zAH9,zBX9,zAN9,zbF,zbH,zbE,zbG,zAA9]<;>rfl) (by first|exact trivial|simp only[go_sem,hy0,hbb,hbc,h1,h2,h3,h6,h7,ga0,ga1,ga2,sa0,sa1,sa2,zAF9,zAI9,zAL9,zAC9,zAE9,zAH9,zBX9,zAN9,zbF,zbH,zbE,zbG,zAA9]);refine zdl ?_ (by simp(disch:=omega)only[go_sem,h1,h2,h3,h6,h7,ga0,ga1,ga2,sa0,sa1,sa2,zAF9,zAI9,zAL9,zAC9,zAE9,zAH9,zBX9,zAN9,zbF,zbH,zbE,zbG,zAA9]<;>rfl) (by first|exact trivial|simp only[go_sem,h1,h2,h3,h6,h7,ga0,ga1,ga2,sa0,sa1,sa2,zAF9,zAI9,zAL9,zAC9,zAE9,zAH9,zBX9,zAN9,zbF,zbH,zbE,zbG,zAA9]);refine zM ?_;simp only[zi,zS,zb,go_sem];exact⟨2,h1,h2,h3,h6,h7,rfl⟩
  clear h1 h2 h3 h6 h7;rintro yy ⟨tm,df,H⟩ ⟨rfl,g,h1,h2,h3,h6,h7,h8,rfl,rfl⟩;dsimp only at h1 h2 h3 h6 h7 h8;simp only[zb,zf,ze,zd,zi,zg,if_true,reduceIte];have hV:y.L.map zat++[zat (a+c.1,c.2)]=(y.L++[(a+c.1,c.2)]).map zat:=by simp
  have hVl:y.L.length+1=(y.L++[(a+c.1,c.2)]).length:=by simp
  rw[hV,hVl];refine zqL 0 (G.length+1+1+1) (v':=.agg [wv y.p y.W,.list 0 2 ((y.L++[(a+c.1,c.2)]).map zat),y.fr,iv y.used]) rfl (by simp only[zAY9,ga1]<;>rfl) (by omega) rfl rfl (fun k u v hu hv=>?_) ?_
  ·match k with
   | 0=>injection hu with hu;injection hv with hv;subst hu hv;exact .inl rfl
   | 1 =>
    injection hu with hu;injection hv with hv;subst hu hv;exact .inr (Frz.whole (zfU (by simp only[zAY9,ga1]<;>rfl)) rfl (by simp) (by simp) (fun v hv=>by obtain⟨x,_,rfl⟩:=zAP9.1 hv;rfl) zc8)
   | 2=>injection hu with hu;injection hv with hv;subst hu hv;exact .inl rfl
   | 3=>injection hu with hu;injection hv with hv;subst hu hv;exact .inl rfl
   | k+4=>simp[PV.cells]at hu
  simp only[zCK9,zCX9,sa1];have hap:=zsL y.p 1 y.W (a+c.1,c.2) (by omega) (by dsimp only;omega);(repeat refine za ?_);refine zr ?_;refine zfx ?_ (by simp(disch:=omega)only[go_sem,h3,h8,ga0,zAF9,zAI9,zAL9,zAC9,zAE9,zAH9,zAN9]<;>rfl);refine zcl hap ?_ ?_;(repeat(first|exact trivial|refine And.intro ?_ ?_|exact .int _ _|exact .bool _|exact .list _ _ _|exact .elem _|exact .nilsl|exact .nil _ _|exact .str _|refine Frz.aggL ?_|refine Frz.fnL ?_|refine Frz.tupL ?_|refine .iface ?_|exact zbv rfl rfl (by assumption)))
  ·exact Frz.whole (l:=[zat (a+c.1,c.2)]) (by simp only[zAY9,ga3]<;>rfl) rfl rfl (zAM9 _) (fun v hv=>by obtain rfl:=zBL9.1 hv;rfl) (zc8 (l:=[(a+c.1,c.2)]))
  ·(repeat(first|exact trivial|refine And.intro ?_ ?_|exact .int _ _|exact .bool _|exact .list _ _ _|exact .elem _|exact .nilsl|exact .nil _ _|exact .str _|refine Frz.aggL ?_|refine Frz.fnL ?_|refine Frz.tupL ?_|refine .iface ?_|exact zbv rfl rfl (by assumption)))
  refine zfx ?_;refine zh ?_;(repeat refine za ?_);(repeat refine za ?_);refine zrg ?_ (by simp(disch:=omega)only[go_sem,h3]<;>rfl);refine zy ?_;simp only[zb,zf,ze,zd,zi,zg,if_true,↓reduceIte];(repeat refine za ?_);refine zrg ?_ (by simp(disch:=omega)only[go_sem,h7]<;>rfl);refine zy ?_;simp only[zb,zf,ze,zd,zi,zg,if_true,↓reduceIte];refine⟨_,?m,i+1,?G,rfl,hlt,by simp[upd,h1],by simp[upd,h2],by simp[upd,h3],by simp[upd,h6],by simp[upd,h7],trivial,?H⟩
  case m=>omega
  case H=>rw[htk];rfl
theorem f51:ET.funcs.get 51=some T51:=zL Tryz.func51
theorem f143:ET.funcs.get 143=some T143:=zL Tryz.func143
set_option maxHeartbeats 1000000 in
theorem zik (p q:Nat)(bs:List Nat)(L:List zB)(hl:L.length<1000000)(hp:∀n∈L,n.pairs.length<=28)(hall:(zbQ L).length<1000000):FN ET 51 [zbk p q bs L] (zfw L):=by
 refine zfn f51 ?_ ?_
 ·unfold zfw;split
  ·exact Lb.two (Lb.pvs _) (.bool _)
  ·exact Lb.two (Lb.pvs _) (.bool _)
 (repeat(first|refine za ?_|refine zgo ?_));refine zcd 66 2 (i:=4) rfl ?_;simp only[lzy,zAE9,zAH9,zAI9,zAL9];(repeat(first|refine za ?_|refine zgo ?_));refine zD (zas (fun m s=>∃(i:Nat) (acc:List Pr) (G:List zn),m=L.length-i/\i<=L.length/\zbQ L=acc++zbQ (L.drop i)/\zbi acc=true/\s.tm 1=.ptr 0 0 0 0 2/\s.tm 4=.sl 1 acc.length 0 acc.length (2*acc.length) 2/\s.tm 5=iv i/\s.df=[]/\s.H=.row 116 2 0 0 [zbk p q bs L]::.row 66 2 acc.length 0 (acc.map pv)::G) (n:=L.length) ?_ ?_)
 ·exact⟨0,[],[],rfl,by omega,rfl,rfl,by simp[upd,zo],by simp[upd],by simp[upd],rfl,rfl⟩
 ·rintro m ⟨tm,df,H⟩ ⟨i,acc,G,rfl,hi,hac,hri,h1,h4,h5,rfl,rfl⟩;dsimp only at h1 h4 h5;(try refine zK ?_);refine za (zr ?_);refine zfx ?_ (by simp(disch:=omega)only[go_sem,h1,h5,zAA9]<;>rfl);refine zh ?_;refine zN (by simp only[go_sem]<;>rfl) ?_ ?_
  ·intro hlt;have hlt:i<L.length:=by have:=of_decide_eq_true hlt;omega
   have hLi:=zAB9 hlt;rw[zn5 L i hlt]at hac;have hn28:=hp _ (zBP9 hlt);have hLiv:(L.map (zZ q))[i]?=some (zZ q L[i]):=by rw[zAG9,hLi];rfl
   generalize L[i]=n at *
   (repeat refine za ?_);refine zD ?_;(repeat(first|refine za ?_|refine zgo ?_ (by simp(disch:=omega)only[go_sem,h1,h5,hLiv,hlt,zAA9]<;>rfl)));generalize hR:zbQ (List.drop (i+1) L)=R at hac;refine zD (zas (fun m s=>∃(j:Nat) (acc:List Pr) (G:List zn),m=n.pairs.length-j/\j<=n.pairs.length/\zbQ L=acc++((n.pairs.drop j).filter (zdG L[i+1]?)++R)/\zbi acc=true/\s.tm 1=.ptr 0 0 0 0 2/\s.tm 4=.sl 1 acc.length 0 acc.length (2*acc.length) 2/\s.tm 5=iv i/\s.tm 6=psv q n.pairs/\s.tm 7=iv j/\s.df=[]/\s.H=.row 116 2 0 0 [zbk p q bs L]::.row 66 2 acc.length 0 (acc.map pv)::G) (n:=n.pairs.length) ?_ ?_)
   ·exact⟨0,acc,_,rfl,by omega,hac,hri,by simp[upd,h1],by simp[upd,h4],by simp[upd,h5],by simp[upd],by simp[upd],rfl,rfl⟩
   ·clear h1 h4 h5 hac hri;rintro m ⟨tm,df,H⟩ ⟨j,acc,G,rfl,hj,hac,hri,h1,h4,h5,h6,h7,rfl,rfl⟩;dsimp only at h1 h4 h5 h6 h7;(try refine zK ?_);refine za (zr ?_);refine zfx ?_ (by simp(disch:=omega)only[go_sem,h6,h7,zAA9]<;>rfl);refine zh ?_;refine zN (by simp only[go_sem]<;>rfl) ?_ ?_
    ·intro hltj;have hltj:j<n.pairs.length:=by have:=of_decide_eq_true hltj;omega
     have hxj:=zAB9 hltj;rw[zAU9 hltj,zCC9]at hac;have hxv:(n.pairs.map pv)[j]?=some (pv n.pairs[j]):=by rw[zAG9,hxj];rfl
     generalize n.pairs[j]=x at *
     (repeat refine za ?_);refine zD ?_;(repeat refine za ?_);refine zbA (Q:=fun y s'=>y=.norm/\s'.tm 1=.ptr 0 0 0 0 2/\s'.tm 4=.sl 1 acc.length 0 acc.length (2*acc.length) 2/\s'.tm 5=iv i/\s'.tm 6=psv q n.pairs/\s'.tm 7=iv j/\s'.tm 48=.bool (!zdG L[i+1]? x)/\s'.df=[]/\s'.H=.row 116 2 0 0 [zbk p q bs L]::.row 66 2 acc.length 0 (acc.map pv)::G) (zag ?_) ?_
     ·have e1:((i:Int)+1)=((i+1:Nat):Int):=by omega
      by_cases hi1:i+1<L.length
      ·have g1:((i+1:Nat):Int)<(L.length:Nat):=by omega
       have hz:=zAB9 hi1;have hzv:(L.map (zZ q))[i+1]?=some (zZ q L[i+1]):=by rw[zAG9,hz];rfl
       rw[hz];generalize L[i+1]=z at *
       refine zdl ?_ (by simp(disch:=omega)only[go_sem,h1,h5,h6,h7,e1,g1,hzv,hxv,hltj,hi1,zAA9]<;>rfl);refine zM ?_;simp only[zi,zS,zb,go_sem];exact⟨h1,h4,h5,h6,h7,by simp[zdG]⟩
      ·have g1:¬((i+1:Nat):Int)<(L.length:Nat):=by omega
       have hz:L[i+1]?=none:=zBQ9 (by omega);rw[hz];refine zdl ?_ (by simp(disch:=omega)only[go_sem,h1,h5,h6,h7,e1,g1,hltj,zAA9]<;>rfl);refine zM ?_;simp only[zi,zS,zb,go_sem];exact⟨h1,h4,h5,h6,h7,by simp[zdG]⟩
     ·clear h1 h4 h5 h6 h7;rintro y ⟨tm,df,H⟩ ⟨rfl,h1,h4,h5,h6,h7,h48,rfl,rfl⟩;dsimp only at h1 h4 h5 h6 h7 h48;simp only[zb,zf,ze,zd,zi,zg,if_true,reduceIte]
      by_cases hk:zdG L[i+1]? x=true
      rotate_left
      ·rw[if_neg hk]at hac;have hk:zdG L[i+1]? x=false:=by simpa using hk
       refine zfc ?_ ?_ (by simp only[go_sem,h48]<;>rfl)
       ·intro _;refine zgh ?_;simp only[zb,zf,ze,zd,zi,zg,if_true,reduceIte];(repeat refine za ?_);refine zrg ?_ (by simp(disch:=omega)only[go_sem,h7]<;>rfl);refine zy ?_;simp only[zb,zf,ze,zd,zi,zg,if_true,↓reduceIte];refine⟨_,?m1,j+1,acc,_,rfl,hltj,hac,hri,by simp[upd,h1],by simp[upd,h4],by simp[upd,h5],by simp[upd,h6],by simp[upd,h7],trivial,rfl⟩
        case m1=>omega
       ·rw[hk];intro h;cases h
      rw[if_pos hk]at hac;refine zfc ?_ ?_ (by simp only[go_sem,h48]<;>rfl)
      ·rw[hk];intro h;cases h
      intro _;refine zF ?_;show W _ _ _ _ _ _;(repeat(first|refine za ?_|refine zgo ?_ (by simp(disch:=omega)only[go_sem,h4,zAA9]<;>rfl)));have hal:acc.length<1000000:=by have:=congrArg List.length hac;simp only[zAC9]at this;omega
      refine zbA (Q:=fun y s'=>y=.norm/\s'.tm 1=.ptr 0 0 0 0 2/\s'.tm 4=.sl 1 acc.length 0 acc.length (2*acc.length) 2/\s'.tm 5=iv i/\s'.tm 6=psv q n.pairs/\s'.tm 7=iv j/\s'.tm 66=.bool (zdq acc x)/\s'.df=[]/\s'.H=.row 116 2 0 0 [zbk p q bs L]::.row 66 2 acc.length 0 (acc.map pv)::G) (zag ?_) ?_
      ·by_cases ha0:acc.length=0
       ·have g1:¬(0:Int)<(acc.length:Nat):=by omega
        have g2:¬(0:Int)<=(acc.length:Int)-1:=by omega
        refine zdl ?_ (by simp(disch:=omega)only[go_sem,h4,h6,h7,g1,g2,hltj,hxv,zAA9]<;>rfl);refine zM ?_;simp only[zi,zS,zb,go_sem];obtain rfl:acc=[]:=zCG9 ha0;exact⟨h1,h4,h5,h6,h7,rfl⟩
       ·have e1:(acc.length:Int)-1=((acc.length-1:Nat):Int):=by omega
        have g2:(0:Int)<=((acc.length-1:Nat):Int):=by omega
        have e2:acc.length-1<acc.length:=by omega
        obtain⟨y,hy⟩:∃y,acc.getLast?=some y:=by
         cases hh:acc.getLast? with
         | none=>rw[zCV9]at hh;subst hh;simp at ha0
         | some y=>exact⟨y,rfl⟩
        have hy2:acc[acc.length-1]?=some y:=by rw[<- zCF9];exact hy
        have hyv:(acc.map pv)[acc.length-1]?=some (pv y):=by rw[zAG9,hy2];rfl
        refine zdl ?_ (by simp(disch:=omega)only[go_sem,h4,h6,h7,e1,g2,e2,hyv,hltj,hxv,zAA9]<;>rfl);refine zM ?_;simp only[zi,zS,zb,go_sem];exact⟨h1,h4,h5,h6,h7,by simp[zdq,hy]⟩
      ·clear h1 h4 h5 h6 h7 h48;rintro y ⟨tm,df,H⟩ ⟨rfl,h1,h4,h5,h6,h7,h66,rfl,rfl⟩;dsimp only at h1 h4 h5 h6 h7 h66;simp only[zb,zf,ze,zd,zi,zg,if_true,reduceIte]
       by_cases hk2:zdq acc x=true
       ·refine zfc ?_ ?_ (by simp only[go_sem,h66]<;>rfl)
        ·intro _;(repeat(first|refine za ?_|refine zgo ?_));refine zq ?_;(try simp only[zb,zf,ze,zd,zg]);refine zj (by simp only[T51,zE,go_sem]<;>rfl) ?_;simp only[zG];exact zww hac (zls hk2)
        ·rw[hk2];intro h;cases h
       have hk2:zdq acc x=false:=by simpa using hk2
       refine zfc ?_ ?_ (by simp only[go_sem,h66]<;>rfl)
       ·rw[hk2];intro h;cases h
       intro _;refine zF ?_;simp only[zb,zf,ze,zd,zi,zg,if_true,reduceIte];have hbb:(acc.length+1)*17<=140737488355328:=by omega
       (repeat refine za ?_);refine zrg ?_ (by simp(disch:=omega)only[go_sem,h4,h6,h7,hxv,hltj,hbb,zc,zAA9]<;>rfl);refine zy ?_;simp only[zb,zf,ze,zd,zi,zg,if_true,↓reduceIte];(repeat refine za ?_);refine zrg ?_ (by simp(disch:=omega)only[go_sem,h7]<;>rfl);refine zy ?_;simp only[zb,zf,ze,zd,zi,zg,if_true,↓reduceIte];refine⟨_,?m3,j+1,acc++[x],?G3,rfl,hltj,by rw[hac];simp,zo2 hri hk2,by simp[upd,h1],by simp[upd],by simp[upd,h5],by simp[upd,h6],by simp[upd,h7],trivial,?H3⟩
       case m3=>omega
       case H3=>rw[zBZ9,zAC9];rfl
    ·intro hltj;have hltj:¬j<n.pairs.length:=by have:=of_decide_eq_false hltj;omega
     obtain rfl:j=n.pairs.length:=by omega
     simp only[zb,zf,ze,zd,zi,zg,if_true,reduceIte];(repeat refine za ?_);refine zrg ?_ (by simp(disch:=omega)only[go_sem,h5]<;>rfl);refine zy ?_;simp only[zb,zf,ze,zd,zi,zg,if_true,↓reduceIte];rw[zBG9,zCJ9,zAL9,<- hR]at hac;refine⟨_,?m9,i+1,acc,G,rfl,hlt,hac,hri,by simp[upd,h1],by simp[upd,h4],by simp[upd,h5],trivial,rfl⟩
     case m9=>omega
  ·intro hlt;have hlt:¬i<L.length:=by have:=of_decide_eq_false hlt;omega
   obtain rfl:i=L.length:=by omega
   simp only[zb,zf,ze,zd,zi,zg,if_true,reduceIte];(repeat(first|refine za ?_|refine zgo ?_ (by simp(disch:=omega)only[go_sem,h4]<;>rfl)));refine zq ?_;(try simp only[zb,zf,ze,zd,zg]);refine zj (by simp only[T51,zE,go_sem]<;>rfl) ?_;simp only[zG];rw[zBG9,zbQ,zEB9]at hac;unfold zfw;rw[hac,if_pos hri];refine Frz.tupL ⟨?_,.bool _,trivial⟩;exact Frz.whole (l:=acc.map pv) rfl rfl (by simp) (by simp) (fun v hv=>by obtain⟨x,_,rfl⟩:=zAP9.1 hv;rfl) zeL
theorem zqV (p:Nat)(w:List Nat)(b:Nat)(hw:za2 w.length):FN ET 143 [wv p w,uv b] (.ret (.bool (decide (1<=b)&&decide (b<w.length/64)))):=by
 refine zfn f143 (.bool _) ?_;unfold za2 at hw;have w1:IntKind.u64.wrap (((w.length/64:Nat):Int))=((w.length/64:Nat):Int):=zJ (by omega) (by omega);have hq:IntKind.i64.wrap ((w.length:Int)/64)=((w.length/64:Nat):Int):=by rw[wrap_i64 (by omega) (by omega)];omega
 have q1:IntKind.i64.wrap ((w.length:Int).tdiv 64)=((w.length/64:Nat):Int):=by rw[IntWalk.i64_quo _ _ (by omega)];omega
 by_cases h:1<=b
 ·have g:(1:Int)<=b:=by omega
  by_cases h2:b<w.length/64
  ·have g2:(b:Int)<((w.length/64:Nat):Int):=by omega
   (repeat(first|refine za ?_|refine zgo ?_ (by simp(disch:=omega)only[go_sem,g,q1,hq,w1,g2,zAA9]<;>rfl)));refine zq ?_;(try simp only[zb,zf,ze,zd,zg]);refine zj (by simp only[T143,zE,go_sem]<;>rfl) ?_;simp only[zG];exact zay.bool (by simp[h,h2])
  ·have g2:¬(b:Int)<((w.length/64:Nat):Int):=by omega
   (repeat(first|refine za ?_|refine zgo ?_ (by simp(disch:=omega)only[go_sem,g,q1,hq,w1,g2,zAA9]<;>rfl)));refine zq ?_;(try simp only[zb,zf,ze,zd,zg]);refine zj (by simp only[T143,zE,go_sem]<;>rfl) ?_;simp only[zG];exact zay.bool (by simp[h,h2])
 ·have g:¬(1:Int)<=b:=by omega
  (repeat(first|refine za ?_|refine zgo ?_ (by simp(disch:=omega)only[go_sem,g]<;>rfl)));refine zq ?_;(try simp only[zb,zf,ze,zd,zg]);refine zj (by simp only[T143,zE,go_sem]<;>rfl) ?_;simp only[zG];exact zay.bool (by simp[h])
theorem f98:ET.funcs.get 98=some T98:=zL Tryz.func98
def zfJ (w:List Nat)(lv:Int):Nat->List Nat->List Nat->List zB->Nat->List Nat×List zB×Bool
 | 0,_,bs,ns,b=>(bs,ns,decide (b=0) && !ns.isEmpty)
 | k+1,seen,bs,ns,b=>if b=0 then(bs,ns,!ns.isEmpty)else
  if decide (w.length/64<=b)||seen.contains b then(bs,ns,false)else
  if zbI (zu w b)&&zbM ns (zaa (zu w b)) lv then zfJ w lv k (b::seen) (bs++[b]) (ns++[zaa (zu w b)]) (zaa (zu w b)).sib else(bs,ns,false)
theorem znT {w:List Nat}{lv:Int}:∀(k:Nat) (seen bs:List Nat) (ns:List zB) (b:Nat),zbp w lv k seen bs ns b=none->(zfJ w lv k seen bs ns b).2.2=false
 | 0,seen,bs,ns,b,h=>by
  rw[zbp]at h;rw[zfJ]
  by_cases hb:b=0
  ·rw[if_pos hb]at h;cases h
  ·simp[hb]
 | k+1,seen,bs,ns,b,h=>by
  rw[zbp]at h;rw[zfJ]
  split
  ·rename_i hb;rw[if_pos hb]at h;cases h
  ·rename_i hb;rw[if_neg hb]at h
   split
   ·rfl
   ·rename_i h2;rw[if_neg h2]at h
    split
    ·rename_i h3;rw[if_pos h3]at h;exact znT k _ _ _ _ h
    ·rfl
theorem znJ {w:List Nat}{lv:Int}{r:List Nat×List Nat×List zB}:∀(k:Nat) (seen bs:List Nat) (ns:List zB) (b:Nat),zbp w lv k seen bs ns b=some r->zfJ w lv k seen bs ns b=(r.2.1,r.2.2,!r.2.2.isEmpty)
 | 0,seen,bs,ns,b,h=>by
  rw[zbp]at h;rw[zfJ]
  by_cases hb:b=0
  ·rw[if_pos hb]at h;injection h with h;subst h;simp[hb]
  ·rw[if_neg hb]at h;cases h
 | k+1,seen,bs,ns,b,h=>by
  rw[zbp]at h;rw[zfJ]
  split
  ·rename_i hb;rw[if_pos hb]at h;injection h with h;subst h;rfl
  ·rename_i hb;rw[if_neg hb]at h
   split
   ·rename_i h2;rw[if_pos h2]at h;cases h
   ·rename_i h2;rw[if_neg h2]at h
    split
    ·rename_i h3;rw[if_pos h3]at h;exact znJ k _ _ _ _ h
    ·rename_i h3;rw[if_neg h3]at h;cases h
theorem zjM (l:List Nat)(b:Nat):(l.map fun(x:Nat)=>(x:Int)).contains (b:Int)=l.contains b:=by
 rw[zDU9];simp only[zDB9,zAP9];exact⟨fun⟨a,h1,h2⟩=>by rw[show b=a by omega];exact h1,fun h=>⟨b,h,rfl⟩⟩
theorem zmE (l:List Nat):(l.map fun(x:Nat)=>(x:Int)).map iv=l.map fun(b:Nat)=>iv (b:Int):=by rw[zDM9];rfl
theorem znr (p:Nat)(l:List Nat)(n:Nat)(hl:l.length<4611686018427387904):FN ET 58 [.list p 1 (l.map fun(b:Nat)=>iv (b:Int)),iv (n:Nat)] (.ret (.bool (l.contains n))):=by
 have:=zms p (l.map fun(x:Nat)=>(x:Int)) n (by simpa using hl);rw[zmE,zjM]at this;exact this
theorem zxI (bs:List Nat)(ns:List zB):Lb (zbk 0 0 bs ns):=.agg fun x hx=>by
 simp at hx;rcases hx with rfl|rfl
 ·exact Lb.ivn _
 ·exact Lb.nodes _
def lvH (z:PV)(bs:List Nat)(ns:List zB)(G:List zn):List zn :=
 .row 116 2 0 0 [z]::.row 116 2 0 0 [.agg [.sl 2 bs.length 0 bs.length (2*bs.length) 1,.sl 3 ns.length 0 ns.length (2*ns.length) 6]]::.row 3 1 bs.length 0 (bs.map fun(b:Nat)=>iv (b:Int))::.row 124 6 ns.length 0 (ns.map (zZ 0))::G
theorem zrM (z:PV)(bs:List Nat)(ns:List zB)(G:List zn)(lab:Nat):LF (lvH z bs ns G) lab [.sl 2 bs.length 0 bs.length (2*bs.length) 1,.sl 3 ns.length 0 ns.length (2*ns.length) 6] [.list lab 1 (bs.map fun(b:Nat)=>iv (b:Int)),.list lab 6 (ns.map (zZ 0))] :=
  ⟨Frz.whole (e:=3) (z':=1) (G:=bs.length) (l:=bs.map fun(b:Nat)=>iv (b:Int)) rfl rfl (by simp) (by simp) (fun v hv=>by obtain⟨x,_,rfl⟩:=zAP9.1 hv;rfl) ze2,
   Frz.whole (e:=124) (z':=6) (G:=ns.length) (l:=ns.map (zZ 0)) rfl rfl (by simp) (by simp) (fun v hv=>by obtain⟨x,_,rfl⟩:=zAP9.1 hv;rfl) zgr,trivial⟩
theorem zh2 {bs:List Nat}{ns:List zB}{G:List zn}{tm:Nat->PV}{b:Bool}{R:List Nat×List zB×Bool}(h8:tm 8=.ptr 0 0 0 0 2)(h9:tm 9=.bool b)(hR:R=(bs,ns,b)):zcT ET T98 (fun e' H=>zay H 0 e' (.ret (.tuple [zbk 0 0 R.1 R.2.1,.bool R.2.2]))) .ret ⟨tm,[],lvH (.agg [.sl 2 bs.length 0 bs.length (2*bs.length) 1,.sl 3 ns.length 0 ns.length (2*ns.length) 6]) bs ns G⟩:=by
 subst hR;refine zj (vs:=[.agg [.sl 2 bs.length 0 bs.length (2*bs.length) 1,.sl 3 ns.length 0 ns.length (2*ns.length) 6],.bool b]) ?_ ?_
 ·simp[T98,xT,zE,okv,h8,h9,zae,zaC,zaJ,lvH,PV.cells]
 ·exact Frz.tupL ⟨Frz.aggL (zrM _ bs ns G 0),.bool _,trivial⟩
theorem zdk {E:Env}{caught:Tr Unit}{rnd:Option Nat}{code:zbl}{s:FSt}{Q:FX->FSt->Prop}(F:(Nat->PV)->Prop)(hF:F s.tm)(k:∀tm,F tm->W E caught rnd code ⟨tm,s.df,s.H⟩ Q):W E caught rnd code s Q:=k s.tm hF
set_option maxHeartbeats 4000000 in
theorem zti (p r:Nat)(w:List Nat)(hw:64<=w.length/\w.length<=131072)(b:Nat)(lv:Int)(sR seen:List Nat)(hs:∀x,x∈sR↔x∈seen)(hsl:sR.length<1000000)(R:List Nat×List zB×Bool)(hR:zfJ w lv (w.length/64) seen [] [] b=R) :
  FN ET 98 [wv p w,uv b,iv lv,.list r 1 (sR.map fun(b:Nat)=>iv (b:Int))] (.ret (.tuple [zbk 0 0 R.1 R.2.1,.bool R.2.2])):=by
 refine zfn f98 (Lb.two (zxI _ _) (.bool _)) ?_;(repeat(first|refine za ?_|refine zgo ?_));refine zgn 3 1 (id:=1) (v:=.agg [.nilsl,.nilsl]) (v':=.agg [.sl 2 0 0 0 0 1,.nilsl]) (e0:=116) (z0:=2) (G:=0) (M:=0) rfl rfl (fun k x y hx hy=>?_) ?_
 ·match k with
  | 0=>injection hx with hx;injection hy with hy;subst hx hy;exact .inr ⟨rfl,by simp[lzy]⟩
  | 1=>injection hx with hx;injection hy with hy;subst hx hy;exact .inl rfl
  | k+2=>simp[PV.cells]at hx
 simp only[zCK9,zCX9,zAI9,zAL9];refine zgn 124 6 (id:=1) (v:=.agg [.sl 2 0 0 0 0 1,.nilsl]) (v':=.agg [.sl 2 0 0 0 0 1,.sl 3 0 0 0 0 6]) (e0:=116) (z0:=2) (G:=0) (M:=0) rfl rfl (fun k x y hx hy=>?_) ?_
 ·match k with
  | 0=>injection hx with hx;injection hy with hy;subst hx hy;exact .inl rfl
  | 1=>injection hx with hx;injection hy with hy;subst hx hy;exact .inr ⟨rfl,by simp[lzy]⟩
  | k+2=>simp[PV.cells]at hx
 simp only[zCK9,zCX9,zAI9,zAL9];have hnb:w.length/64<=2048:=by omega
 have hsm:za2 w.length:=by unfold za2;omega
 refine zD (zas (fun m s=>∃(k:Nat) (S:List Nat) (bs:List Nat) (ns:List zB) (b2:Nat) (G:List zn),m=k/\zdg (w.length/64) S<=k/\zfJ w lv k S bs ns b2=R/\bs.length=ns.length/\bs.length+k<=2048/\(∀x,x∈S↔x∈sR\/x∈bs)/\(∀n∈ns,lv<0\/(n.level:Int)=lv)/\b2<2048+b+1/\s.tm 0=wv p w/\s.tm 1=uv b2/\s.tm 2=iv lv/\s.tm 3=.list r 1 (sR.map fun(b:Nat)=>iv (b:Int))/\s.tm 8=.ptr 0 0 0 0 2/\s.tm 10=.ptr 1 0 0 0 2/\s.df=[]/\s.H=lvH (.agg [.nilsl,.nilsl]) bs ns G) (n:=w.length/64) ?_ ?_)
 ·exact⟨_,seen,[],[],b,[],rfl,ziz _ _,hR,rfl,by simpa using hnb,fun x=>by simp[hs x],fun n hn=>by simp at hn,by omega,by simp[upd,zo],by simp[upd,zo],by simp[upd,zo],by simp[upd,zo],by simp[upd],by simp[upd],rfl,rfl⟩
 ·clear hR;rintro m ⟨tm,df,H⟩ ⟨k,S,bs,ns,b2,G,rfl,hun,hR,hbn,hbk,hS,hlvs,hb2,h0,h1,h2,h3,h8,h10,rfl,rfl⟩;dsimp only at h0 h1 h2 h3 h8 h10;(try refine zK ?_);refine za (zr ?_);refine zfx ?_ (by simp(disch:=omega)only[go_sem,h1]<;>rfl);refine zh ?_;refine zN (by simp only[go_sem]<;>rfl) ?_ ?_;rotate_left
  ·intro hb0;have hb0:b2=0:=by simpa using hb0
   subst hb0;have hR2:R=(bs,ns,!ns.isEmpty):=by rw[<- hR];cases m<;>simp[zfJ]
   simp only[zb,zf,ze,zd,zi,zg,if_true,reduceIte];unfold lvH;(repeat refine za ?_);refine zag ?_
   by_cases hne:ns=[]
   ·subst hne;refine zda ?_ (by simp(disch:=omega)only[go_sem,h8,h10,zAH9]<;>rfl);refine zdl ?_ (by simp(disch:=omega)only[go_sem,h8,zCC9,zCJ9,zCD9,zCM9,zCZ9,Nat.reduceBEq,zac,zad,zP]<;>rfl) (by first|exact trivial|simp only[go_sem,h8,zCC9,zCJ9,zCD9,zCM9,zCZ9,Nat.reduceBEq,zac,zad,zP]);refine zM ?_;simp only[zi,zS,zb,go_sem];refine zq ?_;exact zh2 (by simp[upd,h8]) (by simp[upd]) hR2
   ·have g:(0:Int)<(ns.length:Nat):=by have:=zBO9.2 hne;omega
    refine zda ?_ (by simp(disch:=omega)only[go_sem,h8,h10,g]<;>rfl);refine zdl ?_ (by simp(disch:=omega)only[go_sem,h8,g,zCC9,zCJ9,zCD9,zCM9,zCZ9,Nat.reduceBEq,zac,zad,zP]<;>rfl) (by first|exact trivial|simp only[go_sem,h8,g,zCC9,zCJ9,zCD9,zCM9,zCZ9,Nat.reduceBEq,zac,zad,zP]);refine zM ?_;simp only[zi,zS,zb,go_sem];refine zq ?_;exact zh2 (b:=true) (by simp[upd,h8]) (by simp[upd]) (by rw[hR2];simp[hne])
  intro hb0;have hb0:¬b2=0:=by simpa using hb0
  (repeat refine za ?_);refine zD ?_;(repeat refine za ?_);have hth:=zqV p w b2 hsm;have hb1:1<=b2:=by omega
  rw[decide_eq_true hb1,zCA9]at hth;refine zbA (Q:=fun y s'=>y=.norm/\s'.tm 0=wv p w/\s'.tm 1=uv b2/\s'.tm 2=iv lv/\s'.tm 3=.list r 1 (sR.map fun(b:Nat)=>iv (b:Int))/\s'.tm 8=.ptr 0 0 0 0 2/\s'.tm 10=.ptr 1 0 0 0 2/\s'.tm 32=.bool (decide (w.length/64<=b2)||S.contains b2)/\s'.df=[]/\s'.H=lvH (.agg [.nilsl,.nilsl]) bs ns G) (zr ?_) ?_
  ·by_cases hge:b2<w.length/64
   rotate_left
   ·rw[decide_eq_false hge]at hth;refine zfx ?_ (by simp(disch:=omega)only[go_sem,h0,h1]<;>rfl);refine zca hth ?_;refine zfx ?_;refine zy ?_;simp only[zb,zf,ze,zd,zi,zg,if_true,↓reduceIte];exact⟨trivial,h0,h1,h2,h3,h8,h10,by simp[upd];omega,trivial,(by first|exact trivial|rfl)⟩
   rw[decide_eq_true hge]at hth;have w1:IntKind.i64.wrap (b2:Int)=(b2:Int):=wrap_i64 (by omega) (by omega);have hh1:=znr r sR b2 (by omega);have hh2:=znr 1 bs b2 (by omega);have hSc:S.contains b2=(sR.contains b2||bs.contains b2):=by
    rw[zDU9];simp[hS b2]
   have hng:decide (w.length/64<=b2)=false:=decide_eq_false (by omega);rw[hSc,hng,Bool.false_or];refine zfx ?_ (by simp(disch:=omega)only[go_sem,h0,h1]<;>rfl);refine zca hth ?_;refine zfx ?_ (by simp(disch:=omega)only[go_sem,h1,h3,w1]<;>rfl);refine zca hh1 ?_
   by_cases hc1:sR.contains b2=true
   ·rw[hc1,Bool.true_or];refine zfx ?_;refine zy ?_;simp only[zb,zf,ze,zd,zi,zg,if_true,↓reduceIte];exact⟨trivial,h0,h1,h2,h3,h8,h10,by simp[upd],trivial,(by first|exact trivial|rfl)⟩
   have hc1:sR.contains b2=false:=by simpa using hc1
   rw[hc1,Bool.false_or];unfold lvH;refine zfx ?_ (by simp(disch:=omega)only[go_sem,h1,h10,w1]<;>rfl);refine zcl hh2 ?_ ?_;(repeat(first|exact trivial|refine And.intro ?_ ?_|exact .int _ _|exact .bool _|exact .list _ _ _|exact .elem _|exact .nilsl|exact .nil _ _|exact .str _|refine Frz.aggL ?_|refine Frz.fnL ?_|refine Frz.tupL ?_|refine .iface ?_|exact zbv rfl rfl (by assumption)))
   ·exact(zrM (.agg [.nilsl,.nilsl]) bs ns G 1).1
   ·(repeat(first|exact trivial|refine And.intro ?_ ?_|exact .int _ _|exact .bool _|exact .list _ _ _|exact .elem _|exact .nilsl|exact .nil _ _|exact .str _|refine Frz.aggL ?_|refine Frz.fnL ?_|refine Frz.tupL ?_|refine .iface ?_|exact zbv rfl rfl (by assumption)))
   refine zfx ?_;refine zy ?_;simp only[zb,zf,ze,zd,zi,zg,if_true,↓reduceIte];exact⟨trivial,h0,h1,h2,h3,h8,h10,by simp[upd],trivial,(by first|exact trivial|rfl)⟩
  clear h0 h1 h2 h3 h8 h10;rintro y ⟨tm,df,H⟩ ⟨rfl,h0,h1,h2,h3,h8,h10,h32,rfl,rfl⟩;dsimp only at h0 h1 h2 h3 h8 h10 h32;simp only[zb,zf,ze,zd,zi,zg,if_true,reduceIte]
  by_cases hbad:(decide (w.length/64<=b2)||S.contains b2)=true
  ·rw[hbad]at h32;refine zfc ?_ ?_ (by simp only[go_sem,h32]<;>rfl);rotate_left
   ·intro h;cases h
   intro _;unfold lvH;(repeat(first|refine za ?_|refine zgo ?_ (by simp(disch:=omega)only[go_sem,h8,h10]<;>rfl)));refine zq ?_;exact zh2 (b:=false) (by simp[upd,h8]) (by simp[upd]) (by
    rw[<- hR]
    cases m with
    | zero=>rw[zfJ];simp[hb0]
    | succ m=>rw[zfJ,if_neg hb0,if_pos hbad])
  have hbad:(decide (w.length/64<=b2)||S.contains b2)=false:=by simpa using hbad
  rw[hbad]at h32;refine zfc ?_ ?_ (by simp only[go_sem,h32]<;>rfl)
  ·intro h;cases h
  intro _;refine zF ?_;show W _ _ _ _ _ _;have hbl:b2<w.length/64:=by
   cases h:decide (w.length/64<=b2)with
   | true=>rw[h]at hbad;cases hbad
   | false=>have:=of_decide_eq_false h;omega
  have hbs:¬S.contains b2=true:=by intro h;rw[h,Bool.or_true]at hbad;cases hbad
  have hm1:∃m',m=m'+1:=by
   cases m with
   | zero=>exact absurd (zhM _ b2 S (by omega) hbl) hbs
   | succ m=>exact⟨m,rfl⟩
  obtain⟨m',rfl⟩:=hm1;rw[zfJ,if_neg hb0,if_neg (by rw[hbad];decide)]at hR;have hOf:=ze5 p (zu w b2) (by unfold zu za2;simp;omega);have e1:IntKind.u64.wrap ((64:Int)*(b2:Int))=((64*b2:Nat):Int):=by rw[zJ (by omega) (by omega)];omega
  have e2:IntKind.u64.wrap (((64*b2:Nat):Int)+64)=((64*b2+64:Nat):Int):=by rw[zJ (by omega) (by omega)];omega
  have e3:64*b2<=64*b2+64:=by omega
  have e4:64*b2+64<=w.length:=by omega
  have e6:0<w.length:=by omega
  have e5:List.drop (64*b2) (List.take (64*b2+64) (List.map uv w))=(zu w b2).map uv:=by simp[zu,zCQ9,zDN9]
  (repeat refine za ?_);refine zr ?_;refine zfx ?_ (by simp(disch:=omega)only[go_sem,h0,h1,e1,e2,e3,e4,e5,e6,zAA9]<;>rfl)
  by_cases hh:zbI (zu w b2)=true
  rotate_left
  ·have hh:zbI (zu w b2)=false:=by simpa using hh
   rw[zk7 hh]at hOf;rw[hh,zEI9,if_neg (by decide)]at hR;refine zca hOf ?_;unfold lvH;refine zfx ?_;refine zh ?_;(repeat(first|refine za ?_|refine zgo ?_ (by simp(disch:=omega)only[go_sem,h10,zc,zk]<;>rfl)));refine zdk (fun tm=>tm 8=.ptr 0 0 0 0 2/\tm 10=.ptr 1 0 0 0 2/\tm 12=iv 210) ⟨by simp[upd,h8],by simp[upd,h10],by simp[upd]⟩ ?_;clear h8 h10;rintro tm ⟨h8,h10,h12⟩;refine(zbA (Q:=fun y s'=>y=.norm/\s'.tm 8=.ptr 0 0 0 0 2/\s'.tm 10=.ptr 1 0 0 0 2/\s'.tm 95=.bool true/\s'.df=[]/\∃G2,s'.H=lvH (.agg [.nilsl,.nilsl]) bs ns G2) (zag ?_) ?_)
   ·have g210:¬(210:Int)=0:=by decide
    refine zdl ?_ (by simp(disch:=omega)only[go_sem,h12,g210]<;>rfl);refine zM ?_;simp only[zi,zS,zb,go_sem];exact⟨h8,h10,G++_,rfl⟩
   rintro y ⟨tm,df,H⟩ ⟨rfl,h8,h10,h95,rfl,G2,rfl⟩;dsimp only at h8 h10 h95;simp only[zb,zf,ze,zd,zi,zg,if_true,reduceIte];refine zfc ?_ ?_ (by simp only[go_sem,h95]<;>rfl);rotate_left
   ·intro h;cases h
   intro _;unfold lvH;(repeat(first|refine za ?_|refine zgo ?_ (by simp(disch:=omega)only[go_sem,h8,h10]<;>rfl)));refine zq ?_;exact zh2 (b:=false) (by simp[upd,h8]) (by simp[upd]) hR.symm
  obtain⟨b12,b2048,bw⟩:=zdz hh;rw[zej _ hh]at hOf;rw[hh,zCA9]at hR;generalize zaa (zu w b2)=nd at hOf hR b12 b2048 bw;refine zca hOf ?_;unfold lvH;refine zfx ?_;refine zh ?_;(repeat(first|refine za ?_|refine zgo ?_ (by simp(disch:=omega)only[go_sem,h10,zc,zk]<;>rfl)));refine zdk (fun tm=>tm 0=wv p w/\tm 1=uv b2/\tm 2=iv lv/\tm 3=.list r 1 (sR.map fun(b:Nat)=>iv (b:Int))/\tm 8=.ptr 0 0 0 0 2/\tm 10=.ptr 1 0 0 0 2/\tm 11=.ptr (G.length+1+1+1+1) 0 0 0 6/\tm 12=iv 0/\tm 13=iv ((ns.length:Int)-1)) ⟨by simp[upd,h0],by simp[upd,h1],by simp[upd,h2],by simp[upd,h3],by simp[upd,h8],by simp[upd,h10],by simp[upd],by simp[upd],by simp[upd]⟩ ?_;clear h0 h1 h2 h3 h8 h10 h32;rintro tm ⟨h0,h1,h2,h3,h8,h10,h11,h12,h13⟩;refine(zbA (Q:=fun y s'=>y=.norm/\s'.tm 0=wv p w/\s'.tm 1=uv b2/\s'.tm 2=iv lv/\s'.tm 3=.list r 1 (sR.map fun(b:Nat)=>iv (b:Int))/\s'.tm 8=.ptr 0 0 0 0 2/\s'.tm 10=.ptr 1 0 0 0 2/\s'.tm 11=.ptr (G.length+1+1+1+1) 0 0 0 6/\s'.tm 95=.bool (!zbM ns nd lv)/\s'.df=[]/\s'.H=lvH (.agg [.nilsl,.nilsl]) bs ns (G++[.row 124 6 0 0 [zZ 0 nd]])) (zag ?_) ?_)
  --CASES
  ·skip
   by_cases g0:(0:Int)<=lv
   ·by_cases g1:(nd.level:Int)=lv
    rotate_left
    ·have hgo:zbM ns nd lv=false:=by
      rw[zbM]
      cases hh:ns.getLast? with
      | none=>simp;intro _;omega
      | some z =>
       have hzl:=hlvs z (zFS9 hh);simp;intro _;omega
     refine zdl ?_ (by simp(disch:=omega)only[go_sem,h2,g0,g1,h10,h11,h12,h13,ga0,ga1,zc,zAF9,zAI9,zAL9,zAC9,zAE9,zAH9,zAN9,zAA9]<;>rfl);refine zM ?_;simp only[zi,zS,zb,go_sem];have hgv:zbM ns nd lv=!true:=(by rw[hgo];rfl)
     exact⟨h0,h1,h2,h3,h8,h10,h11,by first|(simp[hgv,lvH];done)|(simp[hgv,lvH];omega)⟩
    by_cases hns:ns=[]
    ·have hn0:ns.length=0:=by rw[hns];rfl
     have c0:(ns.length:Int)-1<0:=by omega
     have c1:¬(0:Int)<=(ns.length:Int)-1:=by omega
     by_cases hz:nd.low=0
     ·have c2:(nd.low:Int)=0:=by omega
      refine zdl ?_ (by simp(disch:=omega)only[go_sem,h2,g0,g1,c0,c1,c2,h10,h11,h12,h13,ga0,ga1,zc,zAF9,zAI9,zAL9,zAC9,zAE9,zAH9,zAN9,zAA9]<;>rfl);refine zM ?_;simp only[zi,zS,zb,go_sem];have hgv:zbM ns nd lv=!false:=(by rw[zbM,hns];simp[hz];omega)
      exact⟨h0,h1,h2,h3,h8,h10,h11,by first|(simp[hgv,lvH];done)|(simp[hgv,lvH];omega)⟩
     ·have c2:¬(nd.low:Int)=0:=by omega
      refine zdl ?_ (by simp(disch:=omega)only[go_sem,h2,g0,g1,c0,c1,c2,h10,h11,h12,h13,ga0,ga1,zc,zAF9,zAI9,zAL9,zAC9,zAE9,zAH9,zAN9,zAA9]<;>rfl);refine zM ?_;simp only[zi,zS,zb,go_sem];have hgv:zbM ns nd lv=!true:=(by rw[zbM,hns];simp[hz])
      exact⟨h0,h1,h2,h3,h8,h10,h11,by first|(simp[hgv,lvH];done)|(simp[hgv,lvH];omega)⟩
    have hnl:0<ns.length:=zBO9.2 hns;obtain⟨z,hz⟩:∃z,ns.getLast?=some z:=by
     cases hh:ns.getLast? with
     | none=>rw[zCV9]at hh;exact absurd hh hns
     | some z=>exact⟨z,rfl⟩
    have hz2:ns[ns.length-1]?=some z:=by rw[<- zCF9];exact hz
    have hzv:(ns.map (zZ 0))[ns.length-1]?=some (zZ 0 z):=by rw[zAG9,hz2];rfl
    have hzl:=hlvs z (zAK9 hz2);have d0:(ns.length:Int)-1=((ns.length-1:Nat):Int):=by omega
    have d1:¬((ns.length-1:Nat):Int)<0:=by omega
    have d2:(0:Int)<=((ns.length-1:Nat):Int):=by omega
    have d3:ns.length-1<ns.length:=by omega
    have hgo:zbM ns nd lv=(decide (z.low<nd.low)&&decide (nd.level=z.level)):=by rw[zbM,hz]
    by_cases b1:z.low<nd.low
    rotate_left
    ·have d4:(nd.low:Int)<=z.low:=by omega
     refine zdl ?_ (by simp(disch:=omega)only[go_sem,h2,g0,g1,d0,d1,d2,d3,d4,hzv,h10,h11,h12,h13,ga0,ga1,zc,zAF9,zAI9,zAL9,zAC9,zAE9,zAH9,zAN9,zAA9]<;>rfl);refine zM ?_;simp only[zi,zS,zb,go_sem];have hgv:zbM ns nd lv=!true:=(by rw[hgo];simp[b1])
     exact⟨h0,h1,h2,h3,h8,h10,h11,by first|(simp[hgv,lvH];done)|(simp[hgv,lvH];omega)⟩
    have d4:¬(nd.low:Int)<=z.low:=by omega
    by_cases b2':nd.level=z.level
    ·have d5:(z.level:Int)=nd.level:=by omega
     refine zdl ?_ (by simp(disch:=omega)only[go_sem,h2,g0,g1,d0,d1,d2,d3,d4,d5,hzv,h10,h11,h12,h13,ga0,ga1,zc,zAF9,zAI9,zAL9,zAC9,zAE9,zAH9,zAN9,zAA9]<;>rfl);refine zM ?_;simp only[zi,zS,zb,go_sem];have hgv:zbM ns nd lv=!false:=(by rw[hgo];simp[b1,b2'])
     exact⟨h0,h1,h2,h3,h8,h10,h11,by first|(simp[hgv,lvH];done)|(simp[hgv,lvH];omega)⟩
    ·have d5:¬(z.level:Int)=nd.level:=by omega
     refine zdl ?_ (by simp(disch:=omega)only[go_sem,h2,g0,g1,d0,d1,d2,d3,d4,d5,hzv,h10,h11,h12,h13,ga0,ga1,zc,zAF9,zAI9,zAL9,zAC9,zAE9,zAH9,zAN9,zAA9]<;>rfl);refine zM ?_;simp only[zi,zS,zb,go_sem];have hgv:zbM ns nd lv=!true:=(by rw[hgo];simp[b1,b2'])
     exact⟨h0,h1,h2,h3,h8,h10,h11,by first|(simp[hgv,lvH];done)|(simp[hgv,lvH];omega)⟩
   ·have g0:¬(0:Int)<=lv:=g0
    by_cases hns:ns=[]
    ·have hn0:ns.length=0:=by rw[hns];rfl
     have c0:(ns.length:Int)-1<0:=by omega
     have c1:¬(0:Int)<=(ns.length:Int)-1:=by omega
     by_cases hz:nd.low=0
     ·have c2:(nd.low:Int)=0:=by omega
      refine zdl ?_ (by simp(disch:=omega)only[go_sem,h2,g0,c0,c1,c2,h10,h11,h12,h13,ga0,ga1,zc,zAF9,zAI9,zAL9,zAC9,zAE9,zAH9,zAN9,zAA9]<;>rfl);refine zM ?_;simp only[zi,zS,zb,go_sem];have hgv:zbM ns nd lv=!false:=(by rw[zbM,hns];simp[hz];omega)
      exact⟨h0,h1,h2,h3,h8,h10,h11,by first|(simp[hgv,lvH];done)|(simp[hgv,lvH];omega)⟩
     ·have c2:¬(nd.low:Int)=0:=by omega
      refine zdl ?_ (by simp(disch:=omega)only[go_sem,h2,g0,c0,c1,c2,h10,h11,h12,h13,ga0,ga1,zc,zAF9,zAI9,zAL9,zAC9,zAE9,zAH9,zAN9,zAA9]<;>rfl);refine zM ?_;simp only[zi,zS,zb,go_sem];have hgv:zbM ns nd lv=!true:=(by rw[zbM,hns];simp[hz])
      exact⟨h0,h1,h2,h3,h8,h10,h11,by first|(simp[hgv,lvH];done)|(simp[hgv,lvH];omega)⟩
    have hnl:0<ns.length:=zBO9.2 hns;obtain⟨z,hz⟩:∃z,ns.getLast?=some z:=by
     cases hh:ns.getLast? with
     | none=>rw[zCV9]at hh;exact absurd hh hns
     | some z=>exact⟨z,rfl⟩
    have hz2:ns[ns.length-1]?=some z:=by rw[<- zCF9];exact hz
    have hzv:(ns.map (zZ 0))[ns.length-1]?=some (zZ 0 z):=by rw[zAG9,hz2];rfl
    have hzl:=hlvs z (zAK9 hz2);have d0:(ns.length:Int)-1=((ns.length-1:Nat):Int):=by omega
    have d1:¬((ns.length-1:Nat):Int)<0:=by omega
    have d2:(0:Int)<=((ns.length-1:Nat):Int):=by omega
    have d3:ns.length-1<ns.length:=by omega
    have hgo:zbM ns nd lv=(decide (z.low<nd.low)&&decide (nd.level=z.level)):=by rw[zbM,hz]
    by_cases b1:z.low<nd.low
    rotate_left
    ·have d4:(nd.low:Int)<=z.low:=by omega
     refine zdl ?_ (by simp(disch:=omega)only[go_sem,h2,g0,d0,d1,d2,d3,d4,hzv,h10,h11,h12,h13,ga0,ga1,zc,zAF9,zAI9,zAL9,zAC9,zAE9,zAH9,zAN9,zAA9]<;>rfl);refine zM ?_;simp only[zi,zS,zb,go_sem];have hgv:zbM ns nd lv=!true:=(by rw[hgo];simp[b1])
     exact⟨h0,h1,h2,h3,h8,h10,h11,by first|(simp[hgv,lvH];done)|(simp[hgv,lvH];omega)⟩
    have d4:¬(nd.low:Int)<=z.low:=by omega
    by_cases b2':nd.level=z.level
    ·have d5:(z.level:Int)=nd.level:=by omega
     refine zdl ?_ (by simp(disch:=omega)only[go_sem,h2,g0,d0,d1,d2,d3,d4,d5,hzv,h10,h11,h12,h13,ga0,ga1,zc,zAF9,zAI9,zAL9,zAC9,zAE9,zAH9,zAN9,zAA9]<;>rfl);refine zM ?_;simp only[zi,zS,zb,go_sem];have hgv:zbM ns nd lv=!false:=(by rw[hgo];simp[b1,b2'])
     exact⟨h0,h1,h2,h3,h8,h10,h11,by first|(simp[hgv,lvH];done)|(simp[hgv,lvH];omega)⟩
    ·have d5:¬(z.level:Int)=nd.level:=by omega
     refine zdl ?_ (by simp(disch:=omega)only[go_sem,h2,g0,d0,d1,d2,d3,d4,d5,hzv,h10,h11,h12,h13,ga0,ga1,zc,zAF9,zAI9,zAL9,zAC9,zAE9,zAH9,zAN9,zAA9]<;>rfl);refine zM ?_;simp only[zi,zS,zb,go_sem];have hgv:zbM ns nd lv=!true:=(by rw[hgo];simp[b1,b2'])
     exact⟨h0,h1,h2,h3,h8,h10,h11,by first|(simp[hgv,lvH];done)|(simp[hgv,lvH];omega)⟩
  --ENDCASES
  clear h0 h1 h2 h3 h8 h10 h11 h12 h13;rintro y ⟨tm,df,H⟩ ⟨rfl,h0,h1,h2,h3,h8,h10,h11,h95,rfl,rfl⟩;dsimp only at h0 h1 h2 h3 h8 h10 h11 h95;simp only[zb,zf,ze,zd,zi,zg,if_true,reduceIte]
  by_cases hg:zbM ns nd lv=true
  rotate_left
  ·have hg:zbM ns nd lv=false:=by simpa using hg
   rw[hg]at hR h95;rw[if_neg (by decide)]at hR;refine zfc ?_ ?_ (by simp only[go_sem,h95]<;>rfl);rotate_left
   ·intro h;cases h
   intro _;unfold lvH;(repeat(first|refine za ?_|refine zgo ?_ (by simp(disch:=omega)only[go_sem,h8,h10]<;>rfl)));refine zq ?_;exact zh2 (b:=false) (by simp[upd,h8]) (by simp[upd]) hR.symm
  rw[hg]at hR h95;rw[if_pos rfl]at hR;refine zfc ?_ ?_ (by simp only[go_sem,h95]<;>rfl)
  ·intro h;cases h
  intro _;refine zF ?_;show W _ _ _ _ _ _;unfold lvH;have hba:(bs.length+1)*9<=140737488355328:=by omega
  have hbb:(ns.length+1)*65<=140737488355328:=by omega
  have w1:IntKind.i64.wrap (b2:Int)=(b2:Int):=wrap_i64 (by omega) (by omega);(repeat refine za ?_);refine zag ?_;refine zda ?_ (by simp(disch:=omega)only[go_sem,h1,h10,h11,w1,hba,hbb,zbF,zbH,zbE,zbG,zac,zad,zP,ga0,ga1,ga2,zc,zAF9,zAI9,zAL9,zAC9,zAE9,zAH9,zAN9]<;>rfl) (by first|exact trivial|simp only[go_sem,h1,h10,h11,w1,hba,hbb,zbF,zbH,zbE,zbG,zac,zad,zP,ga0,ga1,ga2,zc,zAF9,zAI9,zAL9,zAC9,zAE9,zAH9,zAN9]);refine zda ?_ (by simp(disch:=omega)only[go_sem,h1,h10,h11,w1,hba,hbb,zbF,zbH,zbE,zbG,zac,zad,zP,ga0,ga1,ga2,zc,zAF9,zAI9,zAL9,zAC9,zAE9,zAH9,zAN9]<;>rfl) (by first|exact trivial|simp only[go_sem,h1,h10,h11,w1,hba,hbb,zbF,zbH,zbE,zbG,zac,zad,zP,ga0,ga1,ga2,zc,zAF9,zAI9,zAL9,zAC9,zAE9,zAH9,zAN9]);refine zda ?_ (by simp(disch:=omega)only[go_sem,h1,h10,h11,w1,hba,hbb,zbF,zbH,zbE,zbG,zac,zad,zP,ga0,ga1,ga2,zc,zAF9,zAI9,zAL9,zAC9,zAE9,zAH9,zAN9]<;>rfl) (by first|exact trivial|simp only[go_sem,h1,h10,h11,w1,hba,hbb,zbF,zbH,zbE,zbG,zac,zad,zP,ga0,ga1,ga2,zc,zAF9,zAI9,zAL9,zAC9,zAE9,zAH9,zAN9]);refine zda ?_ (by simp(disch:=omega)only[go_sem,h1,h10,h11,w1,hba,hbb,zbF,zbH,zbE,zbG,zac,zad,zP,ga0,ga1,ga2,zc,zAF9,zAI9,zAL9,zAC9,zAE9,zAH9,zAN9]<;>rfl) (by first|exact trivial|simp only[go_sem,h1,h10,h11,w1,hba,hbb,zbF,zbH,zbE,zbG,zac,zad,zP,ga0,ga1,ga2,zc,zAF9,zAI9,zAL9,zAC9,zAE9,zAH9,zAN9]);refine zdl ?_ (by simp(disch:=omega)only[go_sem,h1,h10,h11,w1,hba,hbb,zbF,zbH,zbE,zbG,zac,zad,zP,ga0,ga1,ga2,zc,zAF9,zAI9,zAL9,zAC9,zAE9,zAH9,zAN9]<;>rfl) (by first|exact trivial|simp only[go_sem,h1,h10,h11,w1,hba,hbb,zbF,zbH,zbE,zbG,zac,zad,zP,ga0,ga1,ga2,zc,zAF9,zAI9,zAL9,zAC9,zAE9,zAH9,zAN9]);refine zM ?_;simp only[zi,zS,zb,go_sem];(repeat refine za ?_);refine zrg ?_ (by simp(disch:=omega)only[go_sem,h11,ga0,zc]<;>rfl);refine zy ?_;simp only[zb,zf,ze,zd,zi,zg,if_true,↓reduceIte];refine⟨_,?m,m',b2::S,bs++[b2],ns++[nd],nd.sib,?G,rfl,?hu,hR,?b1,?b2,?sx,?lev,?nb,by simp[upd,h0],by simp[upd],by simp[upd,h2],by simp[upd,h3],by simp[upd,h8],by simp[upd,h10],trivial,?H⟩
  case m=>omega
  case hu=>have:=zjx _ _ _ hbl hbs;omega
  case b1=>simp;omega
  case b2=>simp;omega
  case sx=>intro x;simp[hS x];constructor<;>(intro h;rcases h with h|h|h<;>simp[h])
  case nb=>omega
  case lev =>
   intro n hn;rcases zBF9.1 hn with hn|hn
   ·exact hlvs n hn
   ·obtain rfl:=zBL9.1 hn;rw[zbM]at hg
    cases hh:ns.getLast? with
    | none=>rw[hh]at hg;simp at hg;omega
    | some z=>rw[hh]at hg;simp at hg;have:=hlvs z (zFS9 hh);omega
  case H =>
   simp only[zAC9,zAE9,zAH9,zAN9,zBZ9,zCH9,zBX9];rfl
theorem f50:ET.funcs.get 50=some T50:=zL Tryz.func50
def zdj (w:List Nat):Nat->List Nat->List Lev->Nat->Int->List Lev×Bool
 | 0,_,_,_,_=>([],false)
 | d+1,seen,acc,b,lv=>match zbp w lv (w.length/64) seen [] [] b with
  | none=>([],false)
  | some (_,_,[])=>([],false)
  | some (seen',bs,n::ns)=>if n.level=0 then(acc++[(bs,n::ns)],zbi (zbQ (n::ns)))else zdj w d seen' (acc++[(bs,n::ns)]) n.left ((n.level:Int)-1)
def zbL (w:List Nat)(a:Nat):List Lev×Bool:=zdj w 14 [] [] (w.getD a 0) (-1)
theorem zqF {w:List Nat}:∀(d:Nat) (seen:List Nat) (acc:List Lev) (b:Nat) (lv:Int),(zdj w d seen acc b lv).2=(zbD w d seen acc b lv).2/\((zdj w d seen acc b lv).2=true->(zdj w d seen acc b lv).1=(zbD w d seen acc b lv).1)
 | 0,seen,acc,b,lv=>⟨rfl,fun h=>by cases h⟩
 | d+1,seen,acc,b,lv=>by
  rw[zdj,zbD]
  cases hr:zbp w lv (w.length/64) seen [] [] b with
  | none=>exact⟨rfl,fun h=>by cases h⟩
  | some r =>
   obtain⟨s',bs,ns⟩:=r
   cases ns with
   | nil=>exact⟨rfl,fun h=>by cases h⟩
   | cons n ns =>
    simp only
    by_cases hl:n.level=0
    ·rw[if_pos hl,if_pos hl];exact⟨rfl,fun _=>rfl⟩
    ·rw[if_neg hl,if_neg hl];exact zqF d _ _ _ _
theorem zee (w:List Nat)(a:Nat):(zbL w a).2=(zO w a).2/\((zO w a).2=true->(zbL w a).1=(zO w a).1):=by
 have:=zqF (w:=w) 14 [] [] (w.getD a 0) (-1);exact⟨this.1,fun h=>this.2 (by rw[this.1];exact h)⟩
theorem ztI {T:List Lev}:∀v∈(T.map fun L=>zbk 0 0 L.1 L.2).flatMap PV.cells,Id0 v:=fun v hv=>by
 obtain⟨y,hy,hv⟩:=zBC9.1 hv;obtain⟨L,_,rfl⟩:=zAP9.1 hy;simp[PV.cells]at hv;rcases hv with rfl|rfl<;>exact .list _ _ _
theorem zgd {w:List Nat}{lv:Int}:∀(k:Nat) (seen bs:List Nat) (ns:List zB) (b:Nat) (r:List Nat×List Nat×List zB),zbp w lv k seen bs ns b=some r->∃X,r.2.1=bs++X/\r.1=X.reverse++seen/\X.Nodup/\∀x∈X,x ∉ seen/\x≠0
 | 0,seen,bs,ns,b,r,h=>by
  rw[zbp]at h
  split at h
  ·injection h with h;subst h;exact⟨[],by simp,by simp,List.nodup_nil,fun x hx=>by simp at hx⟩
  ·cases h
 | k+1,seen,bs,ns,b,r,h=>by
  rw[zbp]at h
  split at h
  ·injection h with h;subst h;exact⟨[],by simp,by simp,List.nodup_nil,fun x hx=>by simp at hx⟩
  rename_i hb0
  split at h
  ·cases h
  rename_i hbad
  split at h
  rotate_left
  ·cases h
  obtain⟨X,h1,h2,h3,h4⟩:=zgd k _ _ _ _ r h;have hbs:b ∉ seen:=fun hm=>hbad (by simp[hm]);refine⟨b::X,by rw[h1];simp,by rw[h2];simp,zEZ9.2 ⟨fun hm=>(h4 b hm).1 (zAV9 ..),h3⟩,fun x hx=>?_⟩;rcases zAX9.1 hx with rfl|hx
  ·exact⟨hbs,hb0⟩
  ·obtain⟨k1,k2⟩:=h4 x hx;exact⟨fun hm=>k1 (zAT9 _ hm),k2⟩
set_option maxHeartbeats 2000000 in
theorem zd9 (p:Nat)(w:List Nat)(hw:64<=w.length/\w.length<=131072)(a:Nat)(ha:a<w.length):FN ET 50 [wv p w,iv a] (.ret (.tuple [zbK (zbL w a).1,.bool (zbL w a).2])):=by
 refine zfn f50 (Lb.two (zki _) (.bool _)) ?_;have hwa:=zcr ha;unfold zbL;generalize w.getD a 0=b0 at *
 obtain⟨R,hR⟩:∃R,zdj w 14 [] [] b0 (-1)=R:=⟨_,rfl⟩
 rw[hR];(repeat(first|refine za ?_|refine zgo ?_ (by simp(disch:=omega)only[go_sem,hwa,ha,zAA9]<;>rfl)));refine zcd 116 2 (i:=6) rfl ?_;refine zcd 3 1 (i:=7) rfl ?_;simp only[lzy,zAC9,zAE9,zAH9,zAN9,zAF9,zAI9,zAL9];refine zD (zas (fun m s=>∃(d:Nat) (seen:List Nat) (acc:List Lev) (b:Nat) (lv:Int) (sR:List Nat) (g:Nat) (G:List zn),m=d/\d<=14/\((0<=lv/\lv+1<=d)\/14<=d)/\zdj w d seen acc b lv=R/\(∀x,x∈sR↔x∈seen)/\acc.length+d=14/\sR.length<=2048*acc.length/\s.tm 0=wv p w/\s.tm 6=.sl 0 acc.length 0 acc.length (2*acc.length) 2/\s.tm 7=.sl 1 g 0 sR.length (2*sR.length) 1/\s.tm 8=uv b/\s.tm 9=iv lv/\s.tm 10=iv ((14-d:Nat):Int)/\s.df=[]/\s.H=.row 116 2 acc.length 0 (acc.map fun L=>zbk 0 0 L.1 L.2)::.row 3 1 g 0 (sR.map fun(b:Nat)=>iv (b:Int))::G) (n:=14) ?_ ?_)
 ·exact⟨14,[],[],b0,-1,[],0,[],rfl,zAM9 _,.inr (zAM9 _),hR,fun x=>Iff.rfl,rfl,zAS9 _,by simp[upd,zo],by simp[upd],by simp[upd],by simp[upd],by simp[upd],by simp[upd],rfl,rfl⟩
 ·clear hR;rintro m ⟨tm,df,H⟩ ⟨d,seen,acc,b,lv,sR,g,G,rfl,hd14,hd,hR,hS,had,hsl,h0,h6,h7,h8,h9,h10,rfl,rfl⟩;dsimp only at h0 h6 h7 h8 h9 h10;obtain⟨d,rfl⟩:∃e,m=e+1:=⟨m-1,by omega⟩
  have g10:((14-(d+1):Nat):Int)<20:=by omega
  (try refine zK ?_);refine za (zr ?_);refine zfx ?_ (by simp(disch:=omega)only[go_sem,h10,g10]<;>rfl);refine zh ?_;refine zN (by simp only[go_sem]<;>rfl) ?_ ?_;rotate_left
  ·intro h;cases h
  intro _;(repeat refine za ?_);refine zD ?_;have hc:=zti p 1 w hw b lv sR seen hS (by omega) _ rfl;rw[zdj]at hR;have fz:Frz (.row 116 2 acc.length 0 (acc.map fun L=>zbk 0 0 L.1 L.2)::.row 3 1 g 0 (sR.map fun(b:Nat)=>iv (b:Int))::G) 1 (.sl 1 g 0 sR.length (2*sR.length) 1) (.list 1 1 (sR.map fun(b:Nat)=>iv (b:Int))) :=
   Frz.whole (e:=3) (z':=1) (l:=sR.map fun(b:Nat)=>iv (b:Int)) rfl rfl (by simp) (by simp) (fun v hv=>by obtain⟨x,_,rfl⟩:=zAP9.1 hv;rfl) ze2
  cases hr:zbp w lv (w.length/64) seen [] [] b with
  | none =>
   rw[hr]at hR;have hf:=znT _ _ _ _ _ hr;generalize zfJ w lv (w.length/64) seen [] [] b=R0 at hc hf;rw[hf]at hc;(repeat refine za ?_);refine zr ?_;refine zfx ?_ (by simp(disch:=omega)only[go_sem,h0,h7,h8,h9]<;>rfl);refine zcl hc ?_ ?_;(repeat(first|exact trivial|refine And.intro ?_ ?_|exact .int _ _|exact .bool _|exact .list _ _ _|exact .elem _|exact .nilsl|exact .nil _ _|exact .str _|refine Frz.aggL ?_|refine Frz.fnL ?_|refine Frz.tupL ?_|refine .iface ?_|exact zbv rfl rfl (by assumption)))
   ·exact fz
   ·(repeat(first|exact trivial|refine And.intro ?_ ?_|exact .int _ _|exact .bool _|exact .list _ _ _|exact .elem _|exact .nilsl|exact .nil _ _|exact .str _|refine Frz.aggL ?_|refine Frz.fnL ?_|refine Frz.tupL ?_|refine .iface ?_|exact zbv rfl rfl (by assumption)))
   refine zfx ?_;refine zh ?_;(repeat(first|refine za ?_|refine zgo ?_ (by simp(disch:=omega)only[go_sem,zc,zk]<;>rfl)));refine zfc ?_ ?_;rotate_left
   ·intro h;cases h
   intro _;(repeat(first|refine za ?_|refine zgo ?_));refine zq ?_;(try simp only[zb,zf,ze,zd,zg]);refine zj (by simp only[T50,zE,go_sem]<;>rfl) ?_;simp only[zG];rw[<- hR];exact Frz.tupL ⟨.nil _ _,.bool _,trivial⟩
  | some r =>
   obtain⟨s',bs,ns⟩:=r;rw[hr]at hR;rw[znJ _ _ _ _ _ hr]at hc;obtain⟨X,x1,x2,x3,x4⟩:=zgd _ _ _ _ _ _ hr;obtain⟨hF,hfst,hbl⟩:=zey (N:=2048) _ _ _ _ _ _ hr (LvF.nil w) (fun n hn=>by simp at hn) (by simp;omega);dsimp only at x1 x2 hF hfst hbl hc;rw[zAL9]at x1;subst x1
   cases ns with
   | nil =>
    simp only[List.isEmpty_nil,Bool.not_true]at hc;(repeat refine za ?_);refine zr ?_;refine zfx ?_ (by simp(disch:=omega)only[go_sem,h0,h7,h8,h9]<;>rfl);refine zcl hc ?_ ?_;(repeat(first|exact trivial|refine And.intro ?_ ?_|exact .int _ _|exact .bool _|exact .list _ _ _|exact .elem _|exact .nilsl|exact .nil _ _|exact .str _|refine Frz.aggL ?_|refine Frz.fnL ?_|refine Frz.tupL ?_|refine .iface ?_|exact zbv rfl rfl (by assumption)))
    ·exact fz
    ·(repeat(first|exact trivial|refine And.intro ?_ ?_|exact .int _ _|exact .bool _|exact .list _ _ _|exact .elem _|exact .nilsl|exact .nil _ _|exact .str _|refine Frz.aggL ?_|refine Frz.fnL ?_|refine Frz.tupL ?_|refine .iface ?_|exact zbv rfl rfl (by assumption)))
    refine zfx ?_;refine zh ?_;(repeat(first|refine za ?_|refine zgo ?_ (by simp(disch:=omega)only[go_sem,zc,zk]<;>rfl)));refine zfc ?_ ?_;rotate_left
    ·intro h;cases h
    intro _;(repeat(first|refine za ?_|refine zgo ?_));refine zq ?_;(try simp only[zb,zf,ze,zd,zg]);refine zj (by simp only[T50,zE,go_sem]<;>rfl) ?_;simp only[zG];rw[<- hR];exact Frz.tupL ⟨.nil _ _,.bool _,trivial⟩
   | cons nd ns =>
    simp only[List.isEmpty_cons,Bool.not_false]at hc;simp only at hR;have hlen:=hF.len;obtain⟨hpp,b12,b2048⟩:=hF.node (zAV9 ..);have hfl:=hfst nd rfl;(repeat refine za ?_);refine zr ?_;refine zfx ?_ (by simp(disch:=omega)only[go_sem,h0,h7,h8,h9]<;>rfl);refine zcl hc ?_ ?_;(repeat(first|exact trivial|refine And.intro ?_ ?_|exact .int _ _|exact .bool _|exact .list _ _ _|exact .elem _|exact .nilsl|exact .nil _ _|exact .str _|refine Frz.aggL ?_|refine Frz.fnL ?_|refine Frz.tupL ?_|refine .iface ?_|exact zbv rfl rfl (by assumption)))
    ·exact fz
    ·(repeat(first|exact trivial|refine And.intro ?_ ?_|exact .int _ _|exact .bool _|exact .list _ _ _|exact .elem _|exact .nilsl|exact .nil _ _|exact .str _|refine Frz.aggL ?_|refine Frz.fnL ?_|refine Frz.tupL ?_|refine .iface ?_|exact zbv rfl rfl (by assumption)))
    refine zfx ?_;refine zh ?_;(repeat(first|refine za ?_|refine zgo ?_ (by simp(disch:=omega)only[go_sem,zc,zk]<;>rfl)));refine zfc ?_ ?_
    ·intro h;cases h
    intro _;refine zF ?_;show W _ _ _ _ _ _;have hba:(acc.length+1)*49<=140737488355328:=by omega
    have hbb:(sR.length+bs.length)*9<=140737488355328:=by omega
    (repeat refine za ?_);refine zag ?_;have hXne:¬bs.length=0:=by rw[hlen];simp
    refine zda ?_ (by simp(disch:=omega)only[go_sem,hXne,h6,h7,hba,hbb,zbF,zbH,zbE,zbG,zac,zad,zP,ga0,ga1,ga2,zc,zAF9,zAI9,zAL9,zAC9,zAE9,zAH9,zAN9,zAA9]<;>rfl) (by first|exact trivial|simp only[go_sem,hXne,h6,h7,hba,hbb,zbF,zbH,zbE,zbG,zac,zad,zP,ga0,ga1,ga2,zc,zAF9,zAI9,zAL9,zAC9,zAE9,zAH9,zAN9,zAA9]);refine zda ?_ (by simp(disch:=omega)only[go_sem,hXne,h6,h7,hba,hbb,zbF,zbH,zbE,zbG,zac,zad,zP,ga0,ga1,ga2,zc,zAF9,zAI9,zAL9,zAC9,zAE9,zAH9,zAN9,zAA9]<;>rfl) (by first|exact trivial|simp only[go_sem,hXne,h6,h7,hba,hbb,zbF,zbH,zbE,zbG,zac,zad,zP,ga0,ga1,ga2,zc,zAF9,zAI9,zAL9,zAC9,zAE9,zAH9,zAN9,zAA9]);refine zdl ?_ (by simp(disch:=omega)only[go_sem,h6,h7,hba,hbb,zbF,zbH,zbE,zbG,zac,zad,zP,ga0,ga1,ga2,zc,zAF9,zAI9,zAL9,zAC9,zAE9,zAH9,zAN9,zAA9]<;>rfl) (by first|exact trivial|simp only[go_sem,h6,h7,hba,hbb,zbF,zbH,zbE,zbG,zac,zad,zP,ga0,ga1,ga2,zc,zAF9,zAI9,zAL9,zAC9,zAE9,zAH9,zAN9,zAA9]);refine zM ?_;simp only[zi,zS,zb,go_sem];have hg0:(List.map (zZ 0) (nd::ns))[0]?=some (zZ 0 nd):=rfl;have hi0:0<(nd::ns).length:=zCO9 _;generalize hNS:nd::ns=NS at *
    have hll:=ze1 NS fun n hn=>(hF.node hn).1;have hfew:NS.length<=2048:=by omega
    by_cases hlv:nd.level=0
    ·have g1:(nd.level:Int)-1<0:=by omega
     rw[if_pos hlv]at hR;(repeat(first|refine za ?_|refine zgo ?_ (by simp(disch:=omega)only[go_sem,hg0,hi0,g1,ga0,zc,zAA9]<;>rfl)));refine zfc ?_ ?_;rotate_left
     ·intro h;cases h
     intro _;have hlp:=zik 0 0 bs NS (by omega) (fun n hn=>(hF.node hn).1) (by omega);unfold zfw at hlp;have fzL:∀(G:List zn),Frz (.row 116 2 (acc.length+1) 0 ((acc.map fun L=>zbk 0 0 L.1 L.2)++[zbk 0 0 bs NS])::G) 0 (.sl 0 (acc.length+1) 0 (acc.length+1) (2*(acc.length+1)) 2) (zbK (acc++[(bs,NS)])):=fun G=>by
      have e:(acc.map fun L=>zbk 0 0 L.1 L.2)++[zbk 0 0 bs NS]=(acc++[(bs,NS)]).map fun L=>zbk 0 0 L.1 L.2:=by simp
      rw[e];exact Frz.whole rfl rfl (by simp) (by simp) (fun v hv=>by obtain⟨x,_,rfl⟩:=zAP9.1 hv;rfl) ztI
     by_cases hri:zbi (zbQ NS)=true
     ·rw[if_pos hri]at hlp;(repeat refine za ?_);refine zr ?_;refine zfx ?_ (by simp(disch:=omega)only[go_sem,ga0,zc]<;>rfl);refine zca hlp ?_;refine zfx ?_;refine zh ?_;(repeat(first|refine za ?_|refine zgo ?_ (by simp(disch:=omega)only[go_sem,h6]<;>rfl)));refine zq ?_;(try simp only[zb,zf,ze,zd,zg]);refine zj (by simp only[T50,zE,go_sem]<;>rfl) ?_;simp only[zG];rw[<- hR,hri];exact Frz.tupL ⟨fzL _,.bool _,trivial⟩
     ·rw[if_neg hri]at hlp;(repeat refine za ?_);refine zr ?_;refine zfx ?_ (by simp(disch:=omega)only[go_sem,ga0,zc]<;>rfl);refine zca hlp ?_;refine zfx ?_;refine zh ?_;(repeat(first|refine za ?_|refine zgo ?_ (by simp(disch:=omega)only[go_sem,h6]<;>rfl)));refine zq ?_;(try simp only[zb,zf,ze,zd,zg]);refine zj (by simp only[T50,zE,go_sem]<;>rfl) ?_;simp only[zG];rw[<- hR,show zbi (zbQ NS)=false by simpa using hri];exact Frz.tupL ⟨fzL _,.bool _,trivial⟩
    ·have g1:¬(nd.level:Int)-1<0:=by omega
     rw[if_neg hlv]at hR;(repeat(first|refine za ?_|refine zgo ?_ (by simp(disch:=omega)only[go_sem,hg0,hi0,g1,ga0,zc,zAA9]<;>rfl)));refine zfc ?_ ?_
     ·intro h;cases h
     intro _;refine zF ?_;show W _ _ _ _ _ _;(repeat refine za ?_);refine zrg ?_ (by simp(disch:=omega)only[go_sem,hg0,hi0,ga0,zc,zAA9]<;>rfl);refine zy ?_;simp only[zb,zf,ze,zd,zi,zg,if_true,↓reduceIte];have e14:((14-(d+1):Nat):Int)+1=((14-d:Nat):Int):=by omega
     (repeat refine za ?_);refine zrg ?_ (by simp(disch:=omega)only[go_sem,h10,e14]<;>rfl);refine zy ?_;simp only[zb,zf,ze,zd,zi,zg,if_true,↓reduceIte];refine⟨d,zBT9 _,d,s',acc++[(bs,NS)],nd.left,(nd.level:Int)-1,sR++bs,g+1,?G,rfl,?c1,?c2,hR,?c3,?c4,?c5,by simp[upd,h0],by simp[upd],by simp[upd],by simp[upd],by simp[upd],by simp[upd,h10],trivial,?H⟩
     case c1=>omega
     case c2=>omega
     case c3=>intro x;rw[x2];simp[hS x,or_comm]
     case c4=>simp;omega
     case c5=>simp;omega
     case H=>simp only[zAC9,zAE9,zAH9,zAN9,zBZ9,zCH9,zBX9];rfl
theorem f62:ET.funcs.get 62=some T62:=zL Tryz.func62
section mid2
variable {α:Type}
theorem gb0 (G G2 l:List α)(a b:α):(G++a::(G2++b::l))[G.length+(G2.length+1)]?=some b:=by
 rw[zAO9 (by omega),show G.length+(G2.length+1)-G.length=G2.length+1 by omega,zAY9];exact ga0 _ _ _
theorem gb1 (G G2 l:List α)(a b c:α):(G++a::(G2++b::c::l))[G.length+(G2.length+1)+1]?=some c:=by
 rw[zAO9 (by omega),show G.length+(G2.length+1)+1-G.length=G2.length+1+1 by omega,zAY9];exact ga1 _ _ _ _
theorem ztd (G G2 l:List α)(a b c:α):(G++a::(G2++b::c::l))[G.length+(G2.length+1+1)]?=some c:=gb1 G G2 l a b c
end mid2
@[reducible] def kP (K:List Pr):List PV:=K.map fun x=>uv x.2
@[reducible] def kL (K:List Pr):List PV:=K.map fun x=>uv x.1
def chH (z:PV)(K:List Pr)(G:List zn):List zn:=.row 116 2 0 0 [z]::.row 24 1 K.length 0 (kP K)::.row 24 1 K.length 0 (kL K)::G
set_option maxHeartbeats 2000000 in
theorem zoA (p q:Nat)(bs:List Nat)(L:List zB)(hl:L.length<=3000)(hp:∀n∈L,n.pairs.length<=28):FN ET 62 [zbk p q bs L] (.ret (.tuple [.list 0 1 (kP (L.flatMap zcn)),.list 0 1 (kL (L.flatMap zcn))])):=by
 have lbk:∀(f:Pr->Nat) (K:List Pr),Lb (.list 0 1 (K.map fun x=>uv (f x))):=fun f K=>by
  have:(K.map fun x=>uv (f x))=(K.map f).map uv:=by rw[zDM9];rfl
  rw[this];exact Lb.uvs _
 refine zfn f62 (Lb.two (lbk _ _) (lbk _ _)) ?_;(repeat(first|refine za ?_|refine zgo ?_));refine zcd 24 1 (i:=4) rfl ?_;refine zcd 24 1 (i:=5) rfl ?_;simp only[lzy,zAC9,zAE9,zAH9,zAN9,zAF9,zAI9,zAL9];(repeat(first|refine za ?_|refine zgo ?_));refine zD (zas (fun m s=>∃(i:Nat) (K:List Pr) (G:List zn),m=L.length-i/\i<=L.length/\K=(L.take i).flatMap zcn/\s.tm 1=.ptr 0 0 0 0 2/\s.tm 4=.sl 1 K.length 0 K.length (2*K.length) 1/\s.tm 5=.sl 2 K.length 0 K.length (2*K.length) 1/\s.tm 6=iv i/\s.df=[]/\s.H=chH (zbk p q bs L) K G) (n:=L.length) ?_ ?_)
 ·exact⟨0,[],[],rfl,by omega,rfl,by simp[upd],by simp[upd],by simp[upd],by simp[upd],rfl,rfl⟩
 ·rintro m ⟨tm,df,H⟩ ⟨i,K,G,rfl,hi,hK,h1,h4,h5,h6,rfl,rfl⟩;dsimp only at h1 h4 h5 h6;unfold chH;(try refine zK ?_);refine za (zr ?_);refine zfx ?_ (by simp(disch:=omega)only[go_sem,h1,h6,zAA9]<;>rfl);refine zh ?_;refine zN (by simp only[go_sem]<;>rfl) ?_ ?_;rotate_left
  ·intro hlt;have hlt:¬i<L.length:=by have:=of_decide_eq_false hlt;omega
   obtain rfl:i=L.length:=by omega
   rw[zBK9]at hK;simp only[zb,zf,ze,zd,zi,zg,if_true,reduceIte];(repeat(first|refine za ?_|refine zgo ?_ (by simp(disch:=omega)only[go_sem,h4,h5]<;>rfl)));refine zq ?_;(try simp only[zb,zf,ze,zd,zg]);refine zj (by simp only[T62,zE,go_sem]<;>rfl) ?_;simp only[zG];rw[<- hK];have fk:∀(f:Pr->Nat),∀v∈(K.map fun x=>uv (f x)).flatMap PV.cells,Id0 v:=fun f v hv=>by
    obtain⟨y,hy,hv⟩:=zBC9.1 hv;obtain⟨x,_,rfl⟩:=zAP9.1 hy;simp[PV.cells]at hv;subst hv;exact .int _ _
   refine Frz.tupL ⟨?_,?_,trivial⟩
   ·exact Frz.whole (l:=kP K) rfl rfl (by simp) (by simp) (fun v hv=>by obtain⟨x,_,rfl⟩:=zAP9.1 hv;rfl) (fk _)
   ·exact Frz.whole (l:=kL K) rfl rfl (by simp) (by simp) (fun v hv=>by obtain⟨x,_,rfl⟩:=zAP9.1 hv;rfl) (fk _)
  intro hlt;have hlt:i<L.length:=by have:=of_decide_eq_true hlt;omega
  obtain⟨n,hn⟩:∃n,L[i]?=some n:=⟨_,zAB9 hlt⟩
  have hnv:(L.map (zZ q))[i]?=some (zZ q n):=by rw[zAG9,hn];rfl
  have hp28:=hp n (zAK9 hn);have hK2:(L.take (i+1)).flatMap zcn=(K++[(n.low,n.left)])++n.pairs:=by
   rw[zBM9,hn,zCT9,<- hK];simp[zcn]
  have hKl:K.length<=29*i:=by
   rw[hK];have:∀M:List zB,(∀n∈M,n.pairs.length<=28)->(M.flatMap zcn).length<=29*M.length:=fun M=>by
    induction M with
    | nil=>intro _;simp
    | cons z M ih =>
     intro h;have h1:=h z (zAV9 ..);have h2:=ih fun n hn=>h n (zAT9 _ hn);rw[zBS9,zAC9,zAE9];simp only[zcn,zAE9];omega
   have:=this (L.take i) fun n hn=>hp n (zCE9 hn);rw[zBB9]at this;omega
  (repeat refine za ?_);refine zD ?_;(repeat(first|refine za ?_|refine zgo ?_ (by simp(disch:=omega)only[go_sem,h1,h6,hnv,hlt,zc,zk,zAA9]<;>rfl)));have hbb:(K.length+1)*9<=140737488355328:=by omega
  (repeat refine za ?_);refine zag ?_;refine zda ?_ (by simp(disch:=omega)only[go_sem,h1,h4,h5,h6,hbb,zbF,zbH,zbE,zbG,zac,zad,zP,ga0,ga1,ga2,zc,zAF9,zAI9,zAL9,zAC9,zAE9,zAH9,zAN9,zAA9]<;>rfl) (by first|exact trivial|simp only[go_sem,h1,h4,h5,h6,hbb,zbF,zbH,zbE,zbG,zac,zad,zP,ga0,ga1,ga2,zc,zAF9,zAI9,zAL9,zAC9,zAE9,zAH9,zAN9,zAA9]);refine zda ?_ (by simp(disch:=omega)only[go_sem,h1,h4,h5,h6,hbb,zbF,zbH,zbE,zbG,zac,zad,zP,ga0,ga1,ga2,zc,zAF9,zAI9,zAL9,zAC9,zAE9,zAH9,zAN9,zAA9]<;>rfl) (by first|exact trivial|simp only[go_sem,h1,h4,h5,h6,hbb,zbF,zbH,zbE,zbG,zac,zad,zP,ga0,ga1,ga2,zc,zAF9,zAI9,zAL9,zAC9,zAE9,zAH9,zAN9,zAA9]);refine zdl ?_ (by simp(disch:=omega)only[go_sem,h1,h4,h5,h6,hbb,zbF,zbH,zbE,zbG,zac,zad,zP,ga0,ga1,ga2,zc,zAF9,zAI9,zAL9,zAC9,zAE9,zAH9,zAN9,zAA9]<;>rfl) (by first|exact trivial|simp only[go_sem,h1,h4,h5,h6,hbb,zbF,zbH,zbE,zbG,zac,zad,zP,ga0,ga1,ga2,zc,zAF9,zAI9,zAL9,zAC9,zAE9,zAH9,zAN9,zAA9]);refine zM ?_;simp only[zi,zS,zb,go_sem];(repeat(first|refine za ?_|refine zgo ?_));have hKa:K.length+1=(K++[(n.low,n.left)]).length:=by simp
  have hKb:kP K++[uv n.left]=kP (K++[(n.low,n.left)]):=by simp
  have hKc:kL K++[uv n.low]=kL (K++[(n.low,n.left)]):=by simp
  refine zD (zas (fun m s=>∃(j:Nat) (K2:List Pr) (G2:List zn),m=n.pairs.length-j/\j<=n.pairs.length/\K2=K++[(n.low,n.left)]++n.pairs.take j/\s.tm 1=.ptr 0 0 0 0 2/\s.tm 4=.sl 1 K2.length 0 K2.length (2*K2.length) 1/\s.tm 5=.sl 2 K2.length 0 K2.length (2*K2.length) 1/\s.tm 6=iv i/\s.tm 7=.ptr (G.length+1+1+1) 0 0 0 6/\s.tm 8=iv j/\s.df=[]/\s.H=chH (zbk p q bs L) K2 (G++.row 124 6 0 0 [zZ q n]::G2)) (n:=n.pairs.length) ?_ ?_)
  ·refine⟨0,K++[(n.low,n.left)],?G0,rfl,zAS9 _,by simp,by simp[upd,h1],by simp[upd],by simp[upd],by simp[upd,h6],by simp[upd],by simp[upd],rfl,?H0⟩
   case H0 =>
    unfold chH;rw[<- hKa,<- hKb,<- hKc]
  ·clear h1 h4 h5 h6;rintro m ⟨tm,df,H⟩ ⟨j,K2,G2,rfl,hj,hK3,h1,h4,h5,h6,h7,h8,rfl,rfl⟩;dsimp only at h1 h4 h5 h6 h7 h8;have hK2l:K2.length<=100000:=by rw[hK3];simp;omega
   have hbb:(K2.length+1)*9<=140737488355328:=by omega
   unfold chH;(try refine zK ?_);refine za (zr ?_);refine zfx ?_ (by simp(disch:=omega)only[go_sem,h7,h8,ga0,zAA9]<;>rfl);refine zh ?_;refine zN (by simp only[go_sem]<;>rfl) ?_ ?_;rotate_left
   ·intro hltj;have hltj:¬j<n.pairs.length:=by have:=of_decide_eq_false hltj;omega
    obtain rfl:j=n.pairs.length:=by omega
    simp only[zb,zf,ze,zd,zi,zg,if_true,reduceIte];(repeat refine za ?_);refine zrg ?_ (by simp(disch:=omega)only[go_sem,h6]<;>rfl);refine zy ?_;simp only[zb,zf,ze,zd,zi,zg,if_true,↓reduceIte];refine⟨_,?m9,i+1,K2,_,rfl,hlt,by rw[hK2,hK3,zBK9],by simp[upd,h1],by simp[upd,h4],by simp[upd,h5],by simp[upd,h6],trivial,rfl⟩
    case m9=>omega
   intro hltj;have hltj:j<n.pairs.length:=by have:=of_decide_eq_true hltj;omega
   obtain⟨x,hx⟩:∃x,n.pairs[j]?=some x:=⟨_,zAB9 hltj⟩
   have hxv:(n.pairs.map pv)[j]?=some (pv x):=by rw[zAG9,hx];rfl
   (repeat refine za ?_);refine zD ?_;(repeat refine za ?_);refine zag ?_;refine zda ?_ (by simp(disch:=omega)only[go_sem,hxv,hltj,h7,h8,gb0,gb1,ztd,h1,h4,h5,h6,hbb,zbF,zbH,zbE,zbG,zac,zad,zP,ga0,ga1,ga2,zc,zAF9,zAI9,zAL9,zAC9,zAE9,zAH9,zAN9,zAA9]<;>rfl) (by first|exact trivial|simp only[go_sem,hxv,hltj,h7,h8,gb0,gb1,ztd,h1,h4,h5,h6,hbb,zbF,zbH,zbE,zbG,zac,zad,zP,ga0,ga1,ga2,zc,zAF9,zAI9,zAL9,zAC9,zAE9,zAH9,zAN9,zAA9]);refine zda ?_ (by simp(disch:=omega)only[go_sem,hxv,hltj,h7,h8,gb0,gb1,ztd,h1,h4,h5,h6,hbb,zbF,zbH,zbE,zbG,zac,zad,zP,ga0,ga1,ga2,zc,zAF9,zAI9,zAL9,zAC9,zAE9,zAH9,zAN9,zAA9]<;>rfl) (by first|exact trivial|simp only[go_sem,hxv,hltj,h7,h8,gb0,gb1,ztd,h1,h4,h5,h6,hbb,zbF,zbH,zbE,zbG,zac,zad,zP,ga0,ga1,ga2,zc,zAF9,zAI9,zAL9,zAC9,zAE9,zAH9,zAN9,zAA9]);refine zdl ?_ (by simp(disch:=omega)only[go_sem,h1,h4,h5,h6,hbb,zbF,zbH,zbE,zbG,zac,zad,zP,ga0,ga1,ga2,zc,zAF9,zAI9,zAL9,zAC9,zAE9,zAH9,zAN9,zAA9]<;>rfl) (by first|exact trivial|simp only[go_sem,h1,h4,h5,h6,hbb,zbF,zbH,zbE,zbG,zac,zad,zP,ga0,ga1,ga2,zc,zAF9,zAI9,zAL9,zAC9,zAE9,zAH9,zAN9,zAA9]);refine zM ?_;simp only[zi,zS,zb,go_sem];(repeat refine za ?_);refine zrg ?_ (by simp(disch:=omega)only[go_sem,h8]<;>rfl);refine zy ?_;simp only[zb,zf,ze,zd,zi,zg,if_true,↓reduceIte];refine⟨_,?m8,j+1,K2++[x],?G8,rfl,hltj,?k8,by simp[upd,h1],by simp[upd],by simp[upd],by simp[upd,h6],by simp[upd,h7],by simp[upd,h8],trivial,?H8⟩
   case m8=>omega
   case k8=>rw[hK3,zBM9,hx];simp
   case H8 =>
    simp only[zAC9,zAE9,zAH9,zAN9,zBZ9,zCH9,zBX9];rfl
end Fv
end Go.Proofs.YtfomlmhnmheenaaGreat
