/- part 8 of the proof of tree_reads. -/
import Derived.Test.YtfomlmhnmheenaaGreatTR7
set_option linter.unusedSimpArgs false
set_option linter.unusedVariables false
namespace Go.Proofs.YtfomlmhnmheenaaGreat
namespace Fv
open Tw
attribute [local go_sem] zaZ zaz zab zap evs ev okv zbj zT.cls za5 za7 za9 zQ zR upd zo zaS zaQ zaR zax zaL zaP zaT zaM zaY zaO zar zaV zaU zaX zaW zaK zaN zae zaC zaJ zal zak zbg PV.cells ofC za6 zV zao okF zaf spl zaB zaF bnd zai zam zan za3 zbb zU zau zaH zaj za8 zbd zW lenP zc zk zah zba PV.toT zaA zH Nat.mul_mod_right Int.reduceOfNat Int.reduceToNat Int.cast_ofNat_Int Int.reduceLE Int.reduceLT Int.reduceAdd Int.reduceSub Int.reduceMul Int.reduceNegSucc Nat.reduceEqDiff if_true if_false ite_true ite_false decide_true decide_false Bool.not_true Bool.not_false and_true true_and and_self false_and and_false or_false false_or or_true true_or or_self List.length_cons List.length_nil List.length_map List.getElem?_cons_zero List.getElem?_cons_succ List.getElem?_map List.getElem?_nil Option.map_some Option.map_none Option.getD_some List.append_nil List.nil_append List.cons_append List.take_succ_cons List.take_zero List.drop_zero List.drop_succ_cons List.set_cons_zero List.set_cons_succ Int.toNat_natCast Int.natCast_nonneg Nat.le_refl Nat.zero_le Nat.reduceAdd Nat.reduceSub Nat.reduceMul Nat.reduceLeDiff Nat.reduceLT Bool.false_eq_true Bool.true_eq_false Nat.add_zero Nat.zero_add List.all_cons List.all_nil Bool.and_true Bool.and_self Bool.true_and Nat.reduceMod Nat.reduceDiv eq_self zaq zaD zX za4 evN za0 dpF zaI zbf zaw za1 zbe zaE List.filter_cons List.filter_nil List.contains_cons List.contains_nil Nat.reduceBEq zac zad zP Option.some.injEq Option.isSome_some wrap_i64 zJ zaG Bool.or_self Bool.or_false Bool.false_or daF dnF xT T4 T5 T8 T9 T10 T11 T12 T13 T14 T15 T16 T17 T18 T19 T20 T21 T22 T23 T24 T25 T26 T27 T28 T30 T33 T34 T36 T37 T38 T39 T40 T41 T42 T43 T44 T45 T46 T47 T48 T49 T50 T51 T52 T53 T54 T55 T56 T57 T58 T59 T60 T61 T62 T63 T64 T65 T66 T67 T68 T69 T70 T71 T72 T73 T75 T76 T77 T80 T81 T82 T83 T84 T85 T86 T87 T88 T89 T90 T91 T92 T93 T94 T95 T96 T97 T98 T99 T100 T101 T102 T103 T104 T105 T106 T107 T108 T109 T110 T111 T112 T113 T114 T115 T116 T119 T120 T121 T122 T123 T124 T125 T126 T129 T130 T131 T132 T133 T134 T135 T136 T137 T138 T139 T140 T141 T142 T143 T144 T145 T146 T147 T148 T149 T150 T151 T152 T153 T154 T155 T156 T157 T158 T159 T160 T161 T162 T163 T164 T165 T166 T167 T168 T169 T170 T171 T173 T174 T175 T176 T177 T178 T181 T182 T183 T184 T185 T186 T187 T188 T189 T190 T191 T192 T193 T194 T195 T196 T197 T198 T199 T200 T201 T202 T203 T204 T205 T206 T207 T208 T209 T210 T211 T212 T213 T214 T215 T216 T217 T218 T219 T220 T222 T223
attribute [local go_sem ↓] reduceIte
set_option maxRecDepth 100000
theorem f57:ET.funcs.get 57=some T57:=zL Tryz.func57
theorem f22:ET.funcs.get 22=some T22:=zL Tryz.func22
theorem zfy (p:Nat)(w:List Nat)(a:Int)(hw:za2 w.length):FN ET 57 [wv p w,iv a] (.ret (.bool (zbw w.length a))):=by
 refine zfn f57 (.bool _) ?_
 by_cases h1:64<=w.length
 rotate_left
 ·have g1:¬(64:Int)<=w.length:=by omega
  (repeat(first|refine za ?_|refine zgo ?_ (by simp(disch:=omega)only[go_sem,g1,zAA9]<;>rfl)));refine zq ?_;(try simp only[zb,zf,ze,zd,zg]);refine zj (by simp only[T57,zE,go_sem]<;>rfl) ?_;simp only[zG];exact zay.bool (by simp[zbw,h1])
 have g1:(64:Int)<=w.length:=by omega
 by_cases h2:w.length%64=0
 rotate_left
 ·have g2:¬(w.length:Int).tmod 64=0:=by rw[IntWalk.rem_in _ _ (by omega)];omega
  (repeat(first|refine za ?_|refine zgo ?_ (by simp(disch:=omega)only[go_sem,g1,g2,zAA9]<;>rfl)));refine zq ?_;(try simp only[zb,zf,ze,zd,zg]);refine zj (by simp only[T57,zE,go_sem]<;>rfl) ?_;simp only[zG];exact zay.bool (by simp[zbw,h1,h2])
 have g2:(w.length:Int).tmod 64=0:=by rw[IntWalk.rem_in _ _ (by omega)];omega
 by_cases h3:w.length<=131072
 rotate_left
 ·have g3:¬(w.length:Int)<=131072:=by omega
  (repeat(first|refine za ?_|refine zgo ?_ (by simp(disch:=omega)only[go_sem,g1,g2,g3,zAA9]<;>rfl)));refine zq ?_;(try simp only[zb,zf,ze,zd,zg]);refine zj (by simp only[T57,zE,go_sem]<;>rfl) ?_;simp only[zG];exact zay.bool (by simp[zbw,h1,h2,h3])
 have g3:(w.length:Int)<=131072:=by omega
 by_cases h4:(0:Int)<=a
 rotate_left
 ·(repeat(first|refine za ?_|refine zgo ?_ (by simp(disch:=omega)only[go_sem,g1,g2,g3,h4,zAA9]<;>rfl)));refine zq ?_;(try simp only[zb,zf,ze,zd,zg]);refine zj (by simp only[T57,zE,go_sem]<;>rfl) ?_;simp only[zG];exact zay.bool (by simp[zbw,h1,h2,h3,h4])
 (repeat(first|refine za ?_|refine zgo ?_ (by simp(disch:=omega)only[go_sem,g1,g2,g3,h4,zAA9]<;>rfl)));refine zq ?_;(try simp only[zb,zf,ze,zd,zg]);refine zj (by simp only[T57,zE,go_sem]<;>rfl) ?_;simp only[zG];exact zay.bool (by simp[zbw,h1,h2,h3,h4])
theorem zpV (w:List Nat)(bs:List Nat)(ns:List zB)(k:Nat)(h:ns.length<=k):zb4 w (bs.drop k) (ns.drop k)=true:=by
 rw[zEQ9 h]
 cases bs.drop k<;>rfl
theorem zpv (w:List Nat)(T:List Lev)(i:Nat)(L:Lev)(hL:T[i]?=some L):zbP w (T.drop i)=(zb4 w L.1 L.2&&(match T[i+1]? with|some M=>decide (L.2.flatMap zcn=zcv M)&&zbP w (T.drop (i+1))|none=>true)):=by
 have hi:=(zAD9.1 hL).1;have e:T.drop i=L::T.drop (i+1):=by
  rw[zAU9 hi];rw[zAB9 hi]at hL;injection hL with hL;rw[hL]
 rw[e]
 cases hM:T[i+1]? with
 | none=>rw[zEQ9 (by have:=List.getElem?_eq_none_iff.1 hM;omega)];simp[zbP]
 | some M =>
  have hi1:=(zAD9.1 hM).1;have e1:T.drop (i+1)=M::T.drop (i+2):=by
   rw[zAU9 hi1];rw[zAB9 hi1]at hM;injection hM with hM;rw[hM]
  rw[e1,zbP,Bool.and_assoc]
def zjt (w:List Nat)(b:Nat)(n:zB)(z:Option zB):Bool:=decide (zbh (zu w b)=0)&&zcW n z
set_option maxHeartbeats 4000000 in
theorem zth (p:Nat)(w:List Nat)(a:Int)(hw:64<=w.length/\w.length<=131072)(T:List Lev)(hr:FN ET 57 [wv p w,iv a] (.ret (.bool true)))(hl:FN ET 50 [wv p w,iv a] (.ret (.tuple [zbK T,.bool true])))(f1:∀L∈T,zgu w L)(f3:T ≠ [])(f5:T.length<=14) :
  FN ET 22 [wv p w,iv a] (.ret (iv ((if zeQ w T=true then 0 else 220:Nat):Int))):=by
 refine zfn f22 (.int _ _) ?_;obtain⟨L0,R,rfl⟩:∃L0 R,T=L0::R:=by
  cases T with
  | nil=>exact absurd rfl f3
  | cons a l=>exact⟨a,l,rfl⟩
 have hT0:(List.map (fun L=>zbk 0 0 L.1 L.2) (L0::R))[0]?=some (zbk 0 0 L0.1 L0.2):=rfl;obtain⟨n0,hn0,hsb⟩:∃n0:zB,(L0.2.map (zZ 0))[0]?=some (zZ 0 n0)/\zo7 (L0::R)=decide (n0.sib=0):=by
  have:=(f1 L0 (zAV9 ..)).ne;obtain⟨bs,ns⟩:=L0
  cases ns with
  | nil=>exact absurd rfl this
  | cons n ns=>exact⟨n,rfl,rfl⟩
 have hnl:0<L0.2.length:=zBO9.2 (f1 L0 (zAV9 ..)).ne;have hrl:0<R.length+1:=zCO9 _;(repeat(first|refine za ?_|refine zgo ?_));(repeat refine za ?_);refine zrg ?_;refine zca hr ?_;refine zfx ?_;refine zh ?_;refine zfc ?_ ?_
 ·intro h;cases h
 intro _;refine zF ?_;show W _ _ _ _ _ _;(repeat refine za ?_);refine zrg ?_;refine zca hl ?_;refine zfx ?_;refine zh ?_
 by_cases hsib:n0.sib=0
 rotate_left
 ·have g:¬(n0.sib:Int)=0:=by omega
  (repeat(first|refine za ?_|refine zgo ?_ (by simp(disch:=omega)only[go_sem,hT0,hn0,hnl,hrl,g,zAA9,zAE9]<;>rfl)));refine zfc ?_ ?_;rotate_left
  ·intro h;cases h
  intro _;(repeat(first|refine za ?_|refine zgo ?_));refine zq ?_;(try simp only[zb,zf,ze,zd,zg]);refine zj (by simp only[T22,zE,go_sem]<;>rfl) ?_;simp only[zG];rw[if_neg (by unfold zeQ;rw[hsb];simp[hsib])];exact Frz.int _ _
 have g:(n0.sib:Int)=0:=by omega
 (repeat(first|refine za ?_|refine zgo ?_ (by simp(disch:=omega)only[go_sem,hT0,hn0,hnl,hrl,g,zAA9,zAE9]<;>rfl)));refine zfc ?_ ?_
 ·intro h;cases h
 intro _;refine zF ?_;show W _ _ _ _ _ _;(repeat(first|refine za ?_|refine zgo ?_));have hset:zeQ w (L0::R)=zbP w (L0::R):=by unfold zeQ;rw[hsb,hsib];rfl
 rw[hset];clear hset hsb hT0 hn0 hnl hrl g hsib;have hTpos:0<(L0::R).length:=zCO9 _;have hTl:(L0::R).length=R.length+1:=rfl;generalize L0::R=T at *
 have bad:∀H,zbP w T=false->zay H 0 (.ret (iv 220)) (.ret (iv ((if zbP w T=true then 0 else 220:Nat):Int))):=fun H h=>by rw[h];exact Frz.int _ _
 have good:zbP w T=true->((if zbP w T=true then 0 else 220:Nat):Int)=0:=fun h=>by rw[h];rfl
 refine zD (zas (fun m s=>∃(i:Nat) (H:List zn),m=T.length-i/\i<T.length/\zbP w T=zbP w (T.drop i)/\s.tm 0=wv p w/\s.tm 5=zbK T/\s.tm 7=iv i/\s.df=[]/\s.H=H) (n:=T.length) ?_ ?_)
 ·exact⟨0,_,rfl,hTpos,rfl,by simp[upd,zo],by simp[upd],by simp[upd],rfl,rfl⟩
 ·rintro m ⟨tm,df,H⟩ ⟨i,H',rfl,hlt,hls,h0,h5,h7,rfl,rfl⟩;dsimp only at h0 h5 h7;have g7:(i:Int)<(T.length:Nat):=by omega
  (try refine zK ?_);refine za (zr ?_);refine zfx ?_ (by simp(disch:=omega)only[go_sem,h5,h7,g7,zAA9]<;>rfl);refine zh ?_;refine zN (by simp only[go_sem]<;>rfl) ?_ ?_;rotate_left
  ·intro h;exact absurd h (by simp[hlt])
  intro _;obtain⟨L,hL⟩:∃L,T[i]?=some L:=⟨_,zAB9 hlt⟩
  have hLT:(T.map fun L=>zbk 0 0 L.1 L.2)[i]?=some (zbk 0 0 L.1 L.2):=by rw[zAG9,hL];rfl
  have hLF:=f1 L (zAK9 hL);rw[zpv w T i L hL]at hls;have hbl:=hLF.lv.len;have hfew:=hLF.few;(repeat refine za ?_);refine zD ?_;(repeat refine za ?_);(repeat(first|refine za ?_|refine zgo ?_));refine zD (zas (fun m s=>∃(k:Nat) (H:List zn),m=L.2.length-k/\k<=L.2.length/\zb4 w L.1 L.2=zb4 w (L.1.drop k) (L.2.drop k)/\s.tm 0=wv p w/\s.tm 5=zbK T/\s.tm 7=iv i/\s.tm 8=iv k/\s.df=[]/\s.H=H) (n:=L.2.length) ?_ ?_)
  ·exact⟨0,_,rfl,zAS9 _,rfl,by simp[upd,h0],by simp[upd,h5],by simp[upd,h7],by simp[upd],rfl,rfl⟩
  clear h0 h5 h7;rintro m ⟨tm,df,H⟩ ⟨k,H',rfl,hk,hns,h0,h5,h7,h8,rfl,rfl⟩;dsimp only at h0 h5 h7 h8;(try refine zK ?_);refine za (zr ?_);refine zfx ?_ (by simp(disch:=omega)only[go_sem,h5,h7,h8,hLT,hlt,zAA9]<;>rfl);refine zh ?_;refine zN (by simp only[go_sem]<;>rfl) ?_ ?_
  ·intro hltk;have hltk:k<L.2.length:=by have:=of_decide_eq_true hltk;omega
   obtain⟨n,hn⟩:∃n,L.2[k]?=some n:=⟨_,zAB9 hltk⟩
   obtain⟨b,hb⟩:∃b,L.1[k]?=some b:=⟨_,zAB9 (by omega)⟩
   have hnv:(L.2.map (zZ 0))[k]?=some (zZ 0 n):=by rw[zAG9,hn];rfl
   have hbv:(L.1.map fun(b:Nat)=>iv (b:Int))[k]?=some (iv b):=by rw[zAG9,hb];rfl
   have hltb:k<L.1.length:=by omega
   have hbb:=(hLF.lv.each b (zAK9 hb)).1;rw[ziX w L.1 L.2 k b n hb hn]at hns;have w1:IntKind.i64.wrap ((64:Int)*(b:Int))=((64*b:Nat):Int):=by rw[wrap_i64 (by omega) (by omega)];omega
   (repeat refine za ?_);refine zD ?_;(repeat(first|refine za ?_|refine zgo ?_ (by simp(disch:=omega)only[go_sem,h5,h7,h8,hLT,hlt,hnv,hbv,hltk,hltb,w1,zAA9]<;>rfl)));have e2:((64*b:Nat):Int)+64=((64*b+64:Nat):Int):=by omega
   have e3:64*b<=64*b+64:=by omega
   have e4:64*b+64<=w.length:=by omega
   have e6:0<w.length:=by omega
   have e5:List.drop (64*b) (List.take (64*b+64) (List.map uv w))=(zu w b).map uv:=by simp[zu,zCQ9,zDN9]
   have hC:=zfv p (zu w b) (by unfold zu za2;simp;omega);refine zdk (fun tm=>tm 0=wv p w/\tm 5=zbK T/\tm 7=iv i/\tm 8=iv k/\tm 9=iv (64*b:Nat)/\tm 10=psv 0 n.pairs) ⟨by simp[upd,h0],by simp[upd,h5],by simp[upd,h7],by simp[upd,h8],by simp[upd],by simp[upd]⟩ ?_;clear h0 h5 h7 h8;rintro tm ⟨h0,h5,h7,h8,h9,h10⟩;refine zbA (Q:=fun y s'=>y=.norm/\s'.tm 0=wv p w/\s'.tm 5=zbK T/\s'.tm 7=iv i/\s'.tm 8=iv k/\s'.tm 112=.bool (!zjt w b n L.2[k+1]?)/\s'.df=[]) (zag ?_) ?_
   ·have e1:(k:Int)+1=((k+1:Nat):Int):=by omega
    unfold zjt;generalize zbh (zu w b)=c at *
    refine zdn hC ?_ (by simp(disch:=omega)only[go_sem,h9,h0,e2,e3,e4,e5,e6,zAA9]<;>rfl)
    by_cases hc:c=0
    rotate_left
    ·have gc:¬(c:Int)=0:=by omega
     refine zdl ?_ (by simp(disch:=omega)only[go_sem,gc]<;>rfl);refine zM ?_;simp only[zi,zS,zb,go_sem];exact⟨h0,h5,h7,h8,by simp[hc]⟩
    have gc:(c:Int)=0:=by omega
    rw[decide_eq_true hc,zCA9]
    by_cases hk1:k+1<L.2.length
    rotate_left
    ·have g1:¬((k+1:Nat):Int)<(L.2.length:Nat):=by omega
     have hz:L.2[k+1]?=none:=zBQ9 (by omega);refine zdl ?_ (by simp(disch:=omega)only[go_sem,gc,g1,h0,h5,h7,h8,h9,h10,e1,hLT,hlt,zAA9]<;>rfl);refine zM ?_;simp only[zi,zS,zb,go_sem];exact⟨h0,h5,h7,h8,by rw[hz];unfold zcW;cases n.pairs.getLast? <;> rfl⟩
    have g1:((k+1:Nat):Int)<(L.2.length:Nat):=by omega
    obtain⟨z,hz⟩:∃z,L.2[k+1]?=some z:=⟨_,zAB9 hk1⟩
    have hzv:(L.2.map (zZ 0))[k+1]?=some (zZ 0 z):=by rw[zAG9,hz];rfl
    rw[hz]
    by_cases hp0:n.pairs=[]
    ·have g2:¬(0:Int)<(n.pairs.length:Nat):=by rw[hp0];simp
     refine zdl ?_ (by simp(disch:=omega)only[go_sem,gc,g1,g2,h0,h5,h7,h8,h9,h10,e1,hLT,hlt,zAA9]<;>rfl);refine zM ?_;simp only[zi,zS,zb,go_sem];have hll:zcW n (some z)=true:=by unfold zcW;rw[hp0];rfl
     exact⟨h0,h5,h7,h8,by rw[hll];rfl⟩
    have hn28:=(hLF.lv.node (zAK9 hn)).1;have hpl:0<n.pairs.length:=zBO9.2 hp0;have g2:(0:Int)<(n.pairs.length:Nat):=by omega
    obtain⟨q,hq⟩:∃q,n.pairs.getLast?=some q:=by
     cases hh:n.pairs.getLast? with
     | none=>rw[zCV9]at hh;exact absurd hh hp0
     | some q=>exact⟨q,rfl⟩
    have hq2:n.pairs[n.pairs.length-1]?=some q:=by rw[<- zCF9];exact hq
    have hqv:(n.pairs.map pv)[n.pairs.length-1]?=some (pv q):=by rw[zAG9,hq2];rfl
    have g3:(n.pairs.length:Int)-1=((n.pairs.length-1:Nat):Int):=by omega
    have g4:n.pairs.length-1<n.pairs.length:=by omega
    have hll:zcW n (some z)=decide (q.1<z.low):=by unfold zcW;rw[hq]
    rw[hll]
    by_cases hqz:q.1<z.low
    ·have g5:¬(z.low:Int)<=q.1:=by omega
     refine zdl ?_ (by simp(disch:=omega)only[go_sem,gc,g1,g2,g3,g4,g5,hk1,hzv,hqv,h0,h5,h7,h8,h9,h10,e1,hLT,hlt,zAA9]<;>rfl);refine zM ?_;simp only[zi,zS,zb,go_sem];exact⟨h0,h5,h7,h8,by simp[hqz]⟩
    ·have g5:(z.low:Int)<=q.1:=by omega
     refine zdl ?_ (by simp(disch:=omega)only[go_sem,gc,g1,g2,g3,g4,g5,hk1,hzv,hqv,h0,h5,h7,h8,h9,h10,e1,hLT,hlt,zAA9]<;>rfl);refine zM ?_;simp only[zi,zS,zb,go_sem];exact⟨h0,h5,h7,h8,by simp[hqz]⟩
   clear h0 h5 h7 h8 h9 h10;rintro y ⟨tm,df,H⟩ ⟨rfl,h0,h5,h7,h8,h112,rfl⟩;dsimp only at h0 h5 h7 h8 h112;simp only[zb,zf,ze,zd,zi,zg,if_true,reduceIte]
   cases hok:zjt w b n L.2[k+1]? with
   | false =>
    rw[hok]at h112;refine zfc ?_ ?_ (by simp only[go_sem,h112]<;>rfl);rotate_left
    ·intro h;cases h
    intro _;(repeat(first|refine za ?_|refine zgo ?_));refine zq ?_;(try simp only[zb,zf,ze,zd,zg]);refine zj (by simp only[T22,zE,go_sem]<;>rfl) ?_;simp only[zG];exact bad _ (by rw[hls,hns];unfold zjt at hok;rw[hok];rfl)
   | true =>
    rw[hok]at h112;refine zfc ?_ ?_ (by simp only[go_sem,h112]<;>rfl)
    ·intro h;cases h
    intro _;refine zF ?_;simp only[zb,zf,ze,zd,zi,zg,if_true,reduceIte];(repeat refine za ?_);refine zrg ?_ (by simp(disch:=omega)only[go_sem,h8]<;>rfl);refine zy ?_;simp only[zb,zf,ze,zd,zi,zg,if_true,↓reduceIte];unfold zjt at hok;refine⟨_,?m1,k+1,_,rfl,hltk,by rw[hns,hok,zCA9],by simp[upd,h0],by simp[upd,h5],by simp[upd,h7],by simp[upd,h8],trivial,rfl⟩
    case m1=>omega
  ·intro hltk;have hltk:¬k<L.2.length:=by have:=of_decide_eq_false hltk;omega
   rw[zpV w L.1 L.2 k (by omega)]at hns;rw[hns,zCA9]at hls;simp only[zb,zf,ze,zd,zi,zg,if_true,reduceIte];have gT:(T.length:Int)-1=((T.length-1:Nat):Int):=by omega
   by_cases hi1:i+1<T.length
   rotate_left
   ·have g1:(i:Int)=((T.length-1:Nat):Int):=by omega
    have hM:T[i+1]?=none:=zBQ9 (by omega);rw[hM]at hls;(repeat(first|refine za ?_|refine zgo ?_ (by simp(disch:=omega)only[go_sem,h5,h7,gT,g1,zAA9]<;>rfl)));refine zfc ?_ ?_;rotate_left
    ·intro h;cases h
    intro _;refine zgh ?_;simp only[zb,zf,ze,zd,zi,zg,if_true,reduceIte];(repeat(first|refine za ?_|refine zgo ?_));refine zq ?_;(try simp only[zb,zf,ze,zd,zg]);refine zj (by simp only[T22,zE,go_sem]<;>rfl) ?_;simp only[zG];rw[good hls];exact Frz.int _ _
   have g1:¬(i:Int)=((T.length-1:Nat):Int):=by omega
   obtain⟨M,hM⟩:∃M,T[i+1]?=some M:=⟨_,zAB9 hi1⟩
   rw[hM]at hls;dsimp only at hls;have hMT:(T.map fun L=>zbk 0 0 L.1 L.2)[i+1]?=some (zbk 0 0 M.1 M.2):=by rw[zAG9,hM];rfl
   have hMF:=f1 M (zAK9 hM);have hml:=hMF.lv.len;have hMfew:=hMF.few;have hch:=zoA 0 0 L.1 L.2 (by omega) fun n hn=>(hLF.lv.node hn).1;generalize L.2.flatMap zcn=K at *
   have e1:(i:Int)+1=((i+1:Nat):Int):=by omega
   (repeat(first|refine za ?_|refine zgo ?_ (by simp(disch:=omega)only[go_sem,h5,h7,gT,g1,zAA9]<;>rfl)));refine zfc ?_ ?_
   ·intro h;cases h
   intro _;refine zF ?_;show W _ _ _ _ _ _;(repeat refine za ?_);refine zr ?_;refine zfx ?_ (by simp(disch:=omega)only[go_sem,h5,h7,hLT,hlt,zAA9]<;>rfl);refine zca hch ?_;refine zfx ?_;refine zh ?_;have hlow:(zcv M).length=M.2.length:=by unfold zcv;simp[hml]
   by_cases hKl:K.length=M.2.length
   rotate_left
   ·have g2:¬(K.length:Int)=(M.2.length:Nat):=by omega
    (repeat(first|refine za ?_|refine zgo ?_ (by simp(disch:=omega)only[go_sem,h5,h7,e1,hMT,hi1,g2,zAA9]<;>rfl)));refine zfc ?_ ?_;rotate_left
    ·intro h;cases h
    intro _;(repeat(first|refine za ?_|refine zgo ?_));refine zq ?_;(try simp only[zb,zf,ze,zd,zg]);refine zj (by simp only[T22,zE,go_sem]<;>rfl) ?_;simp only[zG];refine bad _ ?_;rw[hls,decide_eq_false (fun h=>hKl (by rw[h,hlow])),zEI9]
   have g2:(K.length:Int)=(M.2.length:Nat):=by omega
   (repeat(first|refine za ?_|refine zgo ?_ (by simp(disch:=omega)only[go_sem,h5,h7,e1,hMT,hi1,g2,zAA9]<;>rfl)));refine zfc ?_ ?_
   ·intro h;cases h
   intro _;refine zF ?_;show W _ _ _ _ _ _;(repeat(first|refine za ?_|refine zgo ?_));refine zD (zas (fun m s=>∃(j:Nat) (H:List zn),m=K.length-j/\j<=K.length/\(∀q,q<j->K[q]?=(zcv M)[q]?)/\s.tm 0=wv p w/\s.tm 5=zbK T/\s.tm 7=iv i/\s.tm 11=.list 0 1 (kP K)/\s.tm 12=.list 0 1 (kL K)/\s.tm 13=iv j/\s.df=[]/\s.H=H) (n:=K.length) ?_ ?_)
   ·exact⟨0,_,rfl,zAS9 _,fun q hq=>absurd hq (zEY9 _),by simp[upd,h0],by simp[upd,h5],by simp[upd,h7],by simp[upd],by simp[upd],by simp[upd],rfl,rfl⟩
   clear h0 h5 h7 h8 hns hch;rintro m ⟨tm,df,H⟩ ⟨j,H',rfl,hj,hsame,h0,h5,h7,h11,h12,h13,rfl,rfl⟩;dsimp only at h0 h5 h7 h11 h12 h13;(try refine zK ?_);refine za (zr ?_);refine zfx ?_ (by simp(disch:=omega)only[go_sem,h11,h13,zAA9]<;>rfl);refine zh ?_;refine zN (by simp only[go_sem]<;>rfl) ?_ ?_;rotate_left
   ·intro hltj;have hltj:¬j<K.length:=by have:=of_decide_eq_false hltj;omega
    have hKM:K=zcv M:=zES9 fun q=>by
     by_cases hq:q<j
     ·exact hsame q hq
     ·rw[zBQ9 (by omega),zBQ9 (by omega)]
    rw[decide_eq_true hKM,zCA9]at hls;simp only[zb,zf,ze,zd,zi,zg,if_true,reduceIte];(repeat refine za ?_);refine zrg ?_ (by simp(disch:=omega)only[go_sem,h7,e1]<;>rfl);refine zy ?_;simp only[zb,zf,ze,zd,zi,zg,if_true,↓reduceIte];refine⟨_,?m2,i+1,_,rfl,hi1,hls,by simp[upd,h0],by simp[upd,h5],by simp[upd,h7],trivial,rfl⟩
    case m2=>omega
   intro hltj;have hltj:j<K.length:=by have:=of_decide_eq_true hltj;omega
   obtain⟨x,hx⟩:∃x,K[j]?=some x:=⟨_,zAB9 hltj⟩
   obtain⟨z,hz⟩:∃z,M.2[j]?=some z:=⟨_,zAB9 (by omega)⟩
   obtain⟨b,hb0⟩:∃b,M.1[j]?=some b:=⟨_,zAB9 (by omega)⟩
   have hKv:(kP K)[j]?=some (uv x.2):=by rw[zAG9,hx];rfl
   have hLv:(kL K)[j]?=some (uv x.1):=by rw[zAG9,hx];rfl
   have hzv:(M.2.map (zZ 0))[j]?=some (zZ 0 z):=by rw[zAG9,hz];rfl
   have hbv:(M.1.map fun(b:Nat)=>iv (b:Int))[j]?=some (iv b):=by rw[zAG9,hb0];rfl
   have hb:j<M.1.length:=by omega
   have hzl:j<M.2.length:=by omega
   have hbb:=(hMF.lv.each b (zAK9 hb0)).1;have w1:IntKind.u64.wrap (b:Int)=(b:Int):=zJ (by omega) (by omega);have hlj:(zcv M)[j]?=some (z.low,b):=by unfold zcv;rw[zDK9];exact⟨by rw[zAG9,hz];rfl,hb0⟩
   have hKf:¬x=(z.low,b)->zbP w T=false:=fun h=>by
    rw[hls,decide_eq_false (fun e=>h (by rw[e,hlj]at hx;injection hx with hx;exact hx.symm)),zEI9]
   (repeat refine za ?_);refine zD ?_;refine za (zbA (Q:=fun y s'=>y=.norm/\s'.tm 0=wv p w/\s'.tm 5=zbK T/\s'.tm 7=iv i/\s'.tm 11=.list 0 1 (kP K)/\s'.tm 12=.list 0 1 (kL K)/\s'.tm 13=iv j/\s'.tm 173=.bool (!decide (x=(z.low,b)))/\s'.df=[]) (zag ?_) ?_)
   ·by_cases c1:x.2=b
    rotate_left
    ·have d1:¬(x.2:Int)=b:=by omega
     refine zdl ?_ (by simp(disch:=omega)only[go_sem,d1,h5,h7,h11,h12,h13,e1,hMT,hi1,hKv,hLv,hltj,hbv,hb,w1,zAA9]<;>rfl);refine zM ?_;simp only[zi,zS,zb,go_sem];exact⟨h0,h5,h7,h11,h12,h13,by rw[decide_eq_false (fun e=>c1 (by rw[e]))];rfl⟩
    have d1:(x.2:Int)=b:=by omega
    by_cases c2:x.1=z.low
    rotate_left
    ·have d2:¬(x.1:Int)=z.low:=by omega
     refine zdl ?_ (by simp(disch:=omega)only[go_sem,d1,d2,hzv,hzl,h5,h7,h11,h12,h13,e1,hMT,hi1,hKv,hLv,hltj,hbv,hb,w1,zAA9]<;>rfl);refine zM ?_;simp only[zi,zS,zb,go_sem];exact⟨h0,h5,h7,h11,h12,h13,by rw[decide_eq_false (fun e=>c2 (by rw[e]))];rfl⟩
    have d2:(x.1:Int)=z.low:=by omega
    refine zdl ?_ (by simp(disch:=omega)only[go_sem,d1,d2,hzv,hzl,h5,h7,h11,h12,h13,e1,hMT,hi1,hKv,hLv,hltj,hbv,hb,w1,zAA9]<;>rfl);refine zM ?_;simp only[zi,zS,zb,go_sem];exact⟨h0,h5,h7,h11,h12,h13,by rw[decide_eq_true (Prod.ext c2 c1)];rfl⟩
   clear h0 h5 h7 h11 h12 h13;rintro y ⟨tm,df,H⟩ ⟨rfl,h0,h5,h7,h11,h12,h13,h173,rfl⟩;dsimp only at h0 h5 h7 h11 h12 h13 h173;simp only[zb,zf,ze,zd,zi,zg,if_true,reduceIte]
   by_cases hxe:x=(z.low,b)
   rotate_left
   ·rw[decide_eq_false hxe]at h173;refine zfc ?_ ?_ (by simp only[go_sem,h173]<;>rfl);rotate_left
    ·intro h;cases h
    intro _;(repeat(first|refine za ?_|refine zgo ?_));refine zq ?_;(try simp only[zb,zf,ze,zd,zg]);refine zj (by simp only[T22,zE,go_sem]<;>rfl) ?_;simp only[zG];exact bad _ (hKf hxe)
   rw[decide_eq_true hxe]at h173;refine zfc ?_ ?_ (by simp only[go_sem,h173]<;>rfl)
   ·intro h;cases h
   intro _;refine zF ?_;simp only[zb,zf,ze,zd,zi,zg,if_true,reduceIte];(repeat refine za ?_);refine zrg ?_ (by simp(disch:=omega)only[go_sem,h13]<;>rfl);refine zy ?_;simp only[zb,zf,ze,zd,zi,zg,if_true,↓reduceIte];refine⟨_,?m3,j+1,_,rfl,hltj,fun q hq=>?q3,by simp[upd,h0],by simp[upd,h5],by simp[upd,h7],by simp[upd,h11],by simp[upd,h12],by simp[upd,h13],trivial,rfl⟩
   case m3=>omega
   case q3 =>
    rcases zCP9 q j with h|h
    ·exact hsame q h
    ·obtain rfl:q=j:=by omega
     rw[hx,hlj,hxe]
theorem zmh (p:Nat)(w:List Nat)(a:Int)(hs:za2 w.length):FN ET 22 [wv p w,iv a] (.ret (iv (zc9 w a:Nat))):=by
 have hr:=zfy p w a hs;unfold zc9
 by_cases h:zbw w.length a=true
 rotate_left
 ·rw[if_neg h];rw[show zbw w.length a=false by simpa using h]at hr;refine zfn f22 (.int _ _) ?_;(repeat(first|refine za ?_|refine zgo ?_));(repeat refine za ?_);refine zrg ?_;refine zca hr ?_;refine zfx ?_;refine zh ?_;refine zfc ?_ ?_;rotate_left
  ·intro h;cases h
  intro _;(repeat(first|refine za ?_|refine zgo ?_));refine zq ?_;(try simp only[zb,zf,ze,zd,zg]);refine zj (by simp only[T22,zE,go_sem]<;>rfl) ?_;simp only[zG];exact Frz.int _ _
 rw[if_pos h];have hb:=(zcC _ _).1 h;rw[h]at hr;obtain⟨n,rfl⟩:∃n:Nat,a=n:=⟨a.toNat,by omega⟩
 rw[zCU9];have hl:=zd9 p w ⟨hb.1,hb.2.2.1⟩ n (by omega);obtain⟨e1,e2⟩:=zee w n
 by_cases ht:(zO w n).2=true
 rotate_left
 ·rw[if_neg ht];rw[e1,show (zO w n).2=false by simpa using ht]at hl;generalize (zbL w n).1=T at hl;refine zfn f22 (.int _ _) ?_;(repeat(first|refine za ?_|refine zgo ?_));(repeat refine za ?_);refine zrg ?_;refine zca hr ?_;refine zfx ?_;refine zh ?_;refine zfc ?_ ?_
  ·intro h;cases h
  intro _;refine zF ?_;show W _ _ _ _ _ _;(repeat refine za ?_);refine zrg ?_;refine zca hl ?_;refine zfx ?_;refine zh ?_;(repeat(first|refine za ?_|refine zgo ?_));refine zfc ?_ ?_;rotate_left
  ·intro h;cases h
  intro _;(repeat(first|refine za ?_|refine zgo ?_));refine zq ?_;(try simp only[zb,zf,ze,zd,zg]);refine zj (by simp only[T22,zE,go_sem]<;>rfl) ?_;simp only[zG];exact Frz.int _ _
 rw[if_pos ht];rw[e1,e2 ht,ht]at hl;obtain⟨f1,f2,f3,f4,f5⟩:=zbW (w:=w) (T:=(zO w n).1) (by omega) n (by rw[<- ht]);exact zth p w n ⟨hb.1,hb.2.2.1⟩ _ hr hl f1 f3 f5
theorem f92:ET.funcs.get 92=some T92:=zL Tryz.func92
theorem f45:ET.funcs.get 45=some T45:=zL Tryz.func45
theorem f46:ET.funcs.get 46=some T46:=zL Tryz.func46
def znI (n:Nat)(fr:List Int)(i:Nat)(f:Int):Bool:=decide (1<=f)&&decide (f<n) && !(fr.take i).contains f
def zf9 (n:Nat)(fr:List Int)(k:Nat):Bool:=(List.range k).all fun i=>znI n fr i (fr.getD i 0)
theorem zl7 (n:Nat)(fr:List Int)(k:Nat):zf9 n fr (k+1)=(zf9 n fr k&&znI n fr k (fr.getD k 0)):=by
 unfold zf9;rw[zDJ9,List.all_append];simp
theorem zpO (n:Nat)(fr:List Int)(j:Nat):∀k,zf9 n fr (j+k)=true->zf9 n fr j=true
 | 0,h=>h
 | k+1,h=>by rw[<- zDF9,zl7,zAR9]at h;exact zpO n fr j k h.1
def zoR (L:Lev)(fr:List Int):Bool:=fr.all fun f=>!(L.1.map fun(b:Nat)=>(b:Int)).contains f
def zgV (T:List Lev)(fr:List Int):Bool:=T.all fun L=>zoR L fr
def zkg (w:List Nat)(a:Nat)(fr:List Int):Bool:=zf9 (w.length/64) fr fr.length&&(!(zbL w a).2||zgV (zbL w a).1 fr)
set_option maxHeartbeats 4000000 in
theorem zuG (p r:Nat)(w:List Nat)(hw:64<=w.length/\w.length<=131072)(a:Nat)(ha:a<w.length)(fr:List Int)(hfl:fr.length<1000000)(hT:(zbL w a).1.length<=100)(hTb:∀L∈(zbL w a).1,L.1.length<=100000) :
  FN ET 92 [wv p w,iv a,.list r 1 (fr.map iv)] (.ret (.bool (zkg w a fr))):=by
 refine zfn f92 (.bool _) ?_;have hl:=zd9 p w hw a ha;unfold zkg;generalize (zbL w a).1=T at *
 generalize (zbL w a).2=fine at *
 (repeat(first|refine za ?_|refine zgo ?_));refine zD (zas (fun m s=>∃(i:Nat) (H:List zn),m=fr.length-i/\i<=fr.length/\zf9 (w.length/64) fr i=true/\s.tm 0=wv p w/\s.tm 1=iv a/\s.tm 2=.list r 1 (fr.map iv)/\s.tm 7=iv i/\s.df=[]/\s.H=H) (n:=fr.length) ?_ ?_)
 ·exact⟨0,_,rfl,zAS9 _,rfl,by simp[upd,zo],by simp[upd,zo],by simp[upd,zo],by simp[upd],rfl,rfl⟩
 rintro m ⟨tm,df,H⟩ ⟨i,H',rfl,hi,hok,h0,h1,h2,h7,rfl,rfl⟩;dsimp only at h0 h1 h2 h7;(try refine zK ?_);refine za (zr ?_);refine zfx ?_ (by simp(disch:=omega)only[go_sem,h2,h7,zAA9]<;>rfl);refine zh ?_;refine zN (by simp only[go_sem]<;>rfl) ?_ ?_
 ·intro hlt;have hlt:i<fr.length:=by have:=of_decide_eq_true hlt;omega
  obtain⟨f,hf⟩:∃f,fr[i]?=some f:=⟨_,zAB9 hlt⟩
  have hfv:(fr.map iv)[i]?=some (iv f):=by rw[zAG9,hf];rfl
  have hfd:fr.getD i 0=f:=by rw[zAQ9,hf];rfl
  have hs:=zl7 (w.length/64) fr i;rw[hok,zCA9,hfd]at hs;have q1:IntKind.i64.wrap ((w.length:Int).tdiv 64)=((w.length/64:Nat):Int):=by rw[IntWalk.i64_quo _ _ (by omega)];omega
  have hq:IntKind.i64.wrap ((w.length:Int)/64)=((w.length/64:Nat):Int):=by rw[wrap_i64 (by omega) (by omega)];omega
  have htk:List.take i (fr.map iv)=(fr.take i).map iv:=by rw[zDN9]
  have hile:i<=fr.length:=hi;have hh:=zms r (fr.take i) f (by rw[zBB9];omega);(repeat refine za ?_);refine zD ?_;(repeat refine za ?_);refine zbA (Q:=fun y s'=>y=.norm/\s'.tm 0=wv p w/\s'.tm 1=iv a/\s'.tm 2=.list r 1 (fr.map iv)/\s'.tm 7=iv i/\s'.tm 42=.bool (!znI (w.length/64) fr i f)/\s'.df=[]) (zag ?_) ?_
  ·unfold znI
   by_cases c1:(1:Int)<=f
   rotate_left
   ·have d1:f<1:=by omega
    refine zez (by first|exact trivial|simp only[go_sem,d1,h0,h2,h7,hfv,hlt,zAA9]) (by simp(disch:=omega)only[go_sem,d1,h0,h2,h7,hfv,hlt,zAA9]<;>rfl) rfl (by simp only[go_sem,d1,h0,h2,h7,hfv,hlt,zAA9]<;>rfl) (by simp only[go_sem]<;>rfl) ?_;refine zdl ?_ (by simp(disch:=omega)only[go_sem,h7]<;>rfl);refine zM ?_;simp only[zi,zS,zb,go_sem];exact⟨h0,h1,h2,h7,by rw[decide_eq_false c1];rfl⟩
   have d1:¬f<1:=by omega
   rw[decide_eq_true c1,zCA9]
   by_cases c2:f<((w.length/64:Nat):Int)
   rotate_left
   ·have d2:((w.length/64:Nat):Int)<=f:=by omega
    refine zez (by first|exact trivial|simp only[go_sem,d1,d2,q1,h0,h2,h7,hfv,hlt,zAA9]) (by simp(disch:=omega)only[go_sem,d1,d2,q1,h0,h2,h7,hfv,hlt,zAA9]<;>rfl) rfl (by simp only[go_sem,d1,d2,q1,h0,h2,h7,hfv,hlt,zAA9]<;>rfl) (by simp only[go_sem]<;>rfl) ?_;refine zdl ?_ (by simp(disch:=omega)only[go_sem,h7]<;>rfl);refine zM ?_;simp only[zi,zS,zb,go_sem];exact⟨h0,h1,h2,h7,by rw[decide_eq_false c2];rfl⟩
   have d2:¬((w.length/64:Nat):Int)<=f:=by omega
   rw[decide_eq_true c2,zCA9,Bool.not_not];refine zdn hh ?_ (by simp(disch:=omega)only[go_sem,d1,d2,q1,htk,hile,h0,h2,h7,hfv,hlt,zAA9]<;>rfl);refine zdl ?_ (by simp(disch:=omega)only[go_sem,h7]<;>rfl);refine zM ?_;simp only[zi,zS,zb,go_sem];exact⟨h0,h1,h2,h7⟩
  clear h0 h1 h2 h7;rintro y ⟨tm,df,H⟩ ⟨rfl,h0,h1,h2,h7,h42,rfl⟩;dsimp only at h0 h1 h2 h7 h42;simp only[zb,zf,ze,zd,zi,zg,if_true,reduceIte]
  cases hv:znI (w.length/64) fr i f with
  | false =>
   rw[hv]at h42 hs;refine zfc ?_ ?_ (by simp only[go_sem,h42]<;>rfl);rotate_left
   ·intro h;cases h
   intro _;(repeat(first|refine za ?_|refine zgo ?_));refine zq ?_;(try simp only[zb,zf,ze,zd,zg]);refine zj (by simp only[T92,zE,go_sem]<;>rfl) ?_;simp only[zG];refine zay.bool ?_
   cases hk:zf9 (w.length/64) fr fr.length with
   | false=>rfl
   | true =>
    obtain⟨d,hd⟩:∃d,fr.length=i+1+d:=⟨fr.length-(i+1),by omega⟩
    rw[hd]at hk;rw[zpO _ _ _ _ hk]at hs
    cases hs
  | true =>
   rw[hv]at h42 hs;refine zfc ?_ ?_ (by simp only[go_sem,h42]<;>rfl)
   ·intro h;cases h
   intro _;refine zF ?_;simp only[zb,zf,ze,zd,zi,zg,if_true,reduceIte];(repeat refine za ?_);refine zrg ?_ (by simp(disch:=omega)only[go_sem,h7]<;>rfl);refine zy ?_;simp only[zb,zf,ze,zd,zi,zg,if_true,↓reduceIte];refine⟨_,?m1,i+1,_,rfl,hlt,hs,by simp[upd,h0],by simp[upd,h1],by simp[upd,h2],by simp[upd,h7],trivial,rfl⟩
   case m1=>omega
 intro hlt;have hlt:¬i<fr.length:=by have:=of_decide_eq_false hlt;omega
 obtain rfl:i=fr.length:=by omega
 rw[hok,zCA9];simp only[zb,zf,ze,zd,zi,zg,if_true,reduceIte];(repeat refine za ?_);refine zr ?_;refine zfx ?_ (by simp(disch:=omega)only[go_sem,h0,h1]<;>rfl);refine zca hl ?_;refine zfx ?_;refine zh ?_;(repeat(first|refine za ?_|refine zgo ?_));refine zD (zas (fun m s=>∃(j:Nat) (H:List zn),m=T.length-j/\j<=T.length/\(fine=true->zgV (T.take j) fr=true)/\(j=0\/fine=true)/\s.tm 2=.list r 1 (fr.map iv)/\s.tm 8=zbK T/\s.tm 9=.bool fine/\s.tm 10=iv j/\s.df=[]/\s.H=H) (n:=T.length) ?_ ?_)
 ·exact⟨0,_,rfl,zAS9 _,fun _=>rfl,.inl rfl,by simp[upd,h2],by simp[upd],by simp[upd],by simp[upd],rfl,rfl⟩
 clear h0 h1 h2 h7 hl;rintro m ⟨tm,df,H⟩ ⟨j,H',rfl,hj,hno,hj0,h2,h8,h9,h10,rfl,rfl⟩;dsimp only at h2 h8 h9 h10
 by_cases hgo:j<T.length/\fine=true
 rotate_left
 ·have hend:(!fine||zgV T fr)=true:=by
   cases fine with
   | false=>rfl
   | true =>
    obtain rfl:j=T.length:=by have:¬j<T.length:=fun h=>hgo ⟨h,rfl⟩;omega
    have h3:=hno rfl;rw[zBK9]at h3;rw[h3];rfl
  rw[hend]
  by_cases hlj:j<T.length
  ·have g:(j:Int)<(T.length:Nat):=by omega
   obtain rfl:fine=false:=by cases fine with|false=>rfl|true=>exact absurd ⟨hlj,rfl⟩ hgo
   (try refine zK ?_);refine za (zr ?_);refine zfx ?_ (by simp(disch:=omega)only[go_sem,h8,h9,h10,g,zAA9]<;>rfl);refine zh ?_;refine zN (by simp only[go_sem]<;>rfl) ?_ ?_
   ·intro h;cases h
   intro _;simp only[zb,zf,ze,zd,zi,zg,if_true,reduceIte];(repeat(first|refine za ?_|refine zgo ?_));refine zq ?_;(try simp only[zb,zf,ze,zd,zg]);refine zj (by simp only[T92,zE,go_sem]<;>rfl) ?_;simp only[zG];exact Frz.bool _
  ·have g:¬(j:Int)<(T.length:Nat):=by omega
   (try refine zK ?_);refine za (zr ?_);refine zfx ?_ (by simp(disch:=omega)only[go_sem,h8,h9,h10,g,zAA9]<;>rfl);refine zh ?_;refine zN (by simp only[go_sem]<;>rfl) ?_ ?_
   ·intro h;cases h
   intro _;simp only[zb,zf,ze,zd,zi,zg,if_true,reduceIte];(repeat(first|refine za ?_|refine zgo ?_));refine zq ?_;(try simp only[zb,zf,ze,zd,zg]);refine zj (by simp only[T92,zE,go_sem]<;>rfl) ?_;simp only[zG];exact Frz.bool _
 obtain⟨hlj,rfl⟩:=hgo;have hno:=hno rfl;have g:(j:Int)<(T.length:Nat):=by omega
 (try refine zK ?_);refine za (zr ?_);refine zfx ?_ (by simp(disch:=omega)only[go_sem,h8,h9,h10,g,zAA9]<;>rfl);refine zh ?_;refine zN (by simp only[go_sem]<;>rfl) ?_ ?_;rotate_left
 ·intro h;cases h
 intro _;obtain⟨L,hL⟩:∃L,T[j]?=some L:=⟨_,zAB9 hlj⟩
 have hLT:(T.map fun L=>zbk 0 0 L.1 L.2)[j]?=some (zbk 0 0 L.1 L.2):=by rw[zAG9,hL];rfl
 have hLb:=hTb L (zAK9 hL);(repeat refine za ?_);refine zD ?_;(repeat(first|refine za ?_|refine zgo ?_));refine zD (zas (fun m s=>∃(k:Nat) (H:List zn),m=fr.length-k/\k<=fr.length/\(∀f∈fr.take k,¬(L.1.map fun(b:Nat)=>(b:Int)).contains f=true)/\s.tm 2=.list r 1 (fr.map iv)/\s.tm 8=zbK T/\s.tm 9=.bool true/\s.tm 10=iv j/\s.tm 11=iv k/\s.df=[]/\s.H=H) (n:=fr.length) ?_ ?_)
 ·exact⟨0,_,rfl,zAS9 _,fun f hf=>by simp at hf,by simp[upd,h2],by simp[upd,h8],by simp[upd,h9],by simp[upd,h10],by simp[upd],rfl,rfl⟩
 clear h2 h8 h9 h10;rintro m ⟨tm,df,H⟩ ⟨k,H',rfl,hk,hnk,h2,h8,h9,h10,h11,rfl,rfl⟩;dsimp only at h2 h8 h9 h10 h11;(try refine zK ?_);refine za (zr ?_);refine zfx ?_ (by simp(disch:=omega)only[go_sem,h2,h11,zAA9]<;>rfl);refine zh ?_;refine zN (by simp only[go_sem]<;>rfl) ?_ ?_;rotate_left
 ·intro hlt;have hlt:¬k<fr.length:=by have:=of_decide_eq_false hlt;omega
  obtain rfl:k=fr.length:=by omega
  rw[zBK9]at hnk;simp only[zb,zf,ze,zd,zi,zg,if_true,reduceIte];(repeat refine za ?_);refine zrg ?_ (by simp(disch:=omega)only[go_sem,h10]<;>rfl);refine zy ?_;simp only[zb,zf,ze,zd,zi,zg,if_true,↓reduceIte];refine⟨_,?m3,j+1,_,rfl,hlj,fun _=>?n3,.inr trivial,by simp[upd,h2],by simp[upd,h8],by simp[upd,h9],by simp[upd,h10],trivial,rfl⟩
  case m3=>omega
  case n3 =>
   unfold zgV at hno⊢;rw[zBM9,hL,List.all_append,hno,zCA9];simp only[Option.toList_some,List.all_cons,List.all_nil,Bool.and_true];unfold zoR;rw[zBI9];intro f hf;simpa using hnk f hf
 intro hlt;have hlt:k<fr.length:=by have:=of_decide_eq_true hlt;omega
 obtain⟨f,hf⟩:∃f,fr[k]?=some f:=⟨_,zAB9 hlt⟩
 have hfv:(fr.map iv)[k]?=some (iv f):=by rw[zAG9,hf];rfl
 have hh:=zms 0 (L.1.map fun(b:Nat)=>(b:Int)) f (by rw[zAA9];omega);rw[zmE]at hh;(repeat refine za ?_);refine zD ?_;(repeat refine za ?_);refine zag ?_;refine zdn hh ?_ (by simp(disch:=omega)only[go_sem,h2,h8,h10,h11,hLT,hlj,hfv,hlt,zAA9]<;>rfl);refine zdl ?_ (by simp(disch:=omega)only[go_sem,h2]<;>rfl);refine zM ?_;simp only[zi,zS,zb,go_sem]
 cases hc:(L.1.map fun(b:Nat)=>(b:Int)).contains f with
 | true =>
  refine zfc ?_ ?_;rotate_left
  ·intro h;cases h
  intro _;(repeat(first|refine za ?_|refine zgo ?_));refine zq ?_;(try simp only[zb,zf,ze,zd,zg]);refine zj (by simp only[T92,zE,go_sem]<;>rfl) ?_;simp only[zG];refine zay.bool ?_;rw[eq_comm];(first|(rw[Bool.or_eq_false_iff];refine⟨rfl,?_⟩)|skip);unfold zgV;rw[List.all_eq_false];refine⟨L,zAK9 hL,?_⟩;unfold zoR;rw[zBI9];intro h;have:=h f (zAK9 hf);rw[hc]at this;cases this
 | false =>
  refine zfc ?_ ?_
  ·intro h;cases h
  intro _;refine zF ?_;simp only[zb,zf,ze,zd,zi,zg,if_true,reduceIte];(repeat refine za ?_);refine zrg ?_ (by simp(disch:=omega)only[go_sem,h11]<;>rfl);refine zy ?_;simp only[zb,zf,ze,zd,zi,zg,if_true,↓reduceIte];refine⟨_,?m4,k+1,_,rfl,hlt,?n4,by simp[upd,h2],by simp[upd,h8],by simp[upd,h9],by simp[upd,h10],by simp[upd,h11],trivial,rfl⟩
  case m4=>omega
  case n4 =>
   intro g hg;rw[zBM9,hf]at hg;rcases zBF9.1 hg with hg|hg
   ·exact hnk g hg
   ·obtain rfl:g=f:=by simpa using hg
    rw[hc];decide
theorem zox {w:List Nat}:∀(d:Nat) (seen:List Nat) (acc:List Lev) (b:Nat) (lv:Int),(zdj w d seen acc b lv).1=[]\/(zdj w d seen acc b lv).1=(zbD w d seen acc b lv).1
 | 0,seen,acc,b,lv=>.inl rfl
 | d+1,seen,acc,b,lv=>by
  rw[zdj,zbD]
  cases hr:zbp w lv (w.length/64) seen [] [] b with
  | none=>exact .inl rfl
  | some r =>
   obtain⟨s',bs,ns⟩:=r
   cases ns with
   | nil=>exact .inl rfl
   | cons n ns =>
    simp only
    by_cases hl:n.level=0
    ·rw[if_pos hl,if_pos hl];exact .inr rfl
    ·rw[if_neg hl,if_neg hl];exact zox d _ _ _ _
theorem zhY {w:List Nat}(hw:w.length<=131072)(a:Nat):(∀L∈(zbL w a).1,zgu w L)/\(zbL w a).1.length<=14:=by
 have hle:=zf7 w 14 [] [] (w.getD a 0) (-1);have hf:=(zeV hw 14 [] [] (w.getD a 0) (-1) (fun L hL=>by simp at hL)).1;rcases zox (w:=w) 14 [] [] (w.getD a 0) (-1)with h|h
 ·unfold zbL;rw[h];exact⟨fun L hL=>by simp at hL,zAS9 _⟩
 ·unfold zbL;rw[h];exact⟨hf,by simpa using hle⟩
def zih (w:List Nat)(a:Int)(fr:List Int):Nat:=if zbw w.length a=true then if zkg w a.toNat fr=true then zc9 w a else 2 else 2
theorem zl5 (p r:Nat)(w:List Nat)(a:Int)(fr:List Int)(hs:za2 w.length)(hfl:fr.length<1000000):FN ET 45 [wv p w,iv a,.list r 1 (fr.map iv)] (.ret (iv (zih w a fr:Nat))):=by
 have hr:=zfy p w a hs;have hc:=zmh p w a hs;unfold zih
 by_cases h:zbw w.length a=true
 rotate_left
 ·rw[if_neg h];rw[show zbw w.length a=false by simpa using h]at hr;refine zfn f45 (.int _ _) ?_;(repeat(first|refine za ?_|refine zgo ?_));(repeat refine za ?_);refine zrg ?_;refine zca hr ?_;refine zfx ?_;refine zh ?_;refine zfc ?_ ?_;rotate_left
  ·intro h;cases h
  intro _;(repeat(first|refine za ?_|refine zgo ?_));refine zq ?_;(try simp only[zb,zf,ze,zd,zg]);refine zj (by simp only[T45,zE,go_sem]<;>rfl) ?_;simp only[zG];exact Frz.int _ _
 rw[if_pos h];have hb:=(zcC _ _).1 h;rw[h]at hr;obtain⟨n,rfl⟩:∃n:Nat,a=n:=⟨a.toNat,by omega⟩
 rw[zCU9];obtain⟨t1,t2⟩:=zhY (w:=w) hb.2.2.1 n;have hf:=zuG p r w ⟨hb.1,hb.2.2.1⟩ n (by omega) fr hfl (by omega) fun L hL=>by have:=t1 L hL;have h1:=this.lv.len;have h2:=this.few;omega
 by_cases h2:zkg w n fr=true
 rotate_left
 ·rw[if_neg h2];rw[show zkg w n fr=false by simpa using h2]at hf;refine zfn f45 (.int _ _) ?_;(repeat(first|refine za ?_|refine zgo ?_));(repeat refine za ?_);refine zrg ?_;refine zca hr ?_;refine zfx ?_;refine zca hf ?_;refine zfx ?_;refine zh ?_;refine zfc ?_ ?_;rotate_left
  ·intro h;cases h
  intro _;(repeat(first|refine za ?_|refine zgo ?_));refine zq ?_;(try simp only[zb,zf,ze,zd,zg]);refine zj (by simp only[T45,zE,go_sem]<;>rfl) ?_;simp only[zG];exact Frz.int _ _
 rw[if_pos h2];rw[h2]at hf;refine zfn f45 (.int _ _) ?_;(repeat(first|refine za ?_|refine zgo ?_));(repeat refine za ?_);refine zrg ?_;refine zca hr ?_;refine zfx ?_;refine zca hf ?_;refine zfx ?_;refine zh ?_;refine zfc ?_ ?_
 ·intro h;cases h
 intro _;refine zF ?_;show W _ _ _ _ _ _;(repeat refine za ?_);refine zrg ?_;refine zca hc ?_;refine zfx ?_;refine zh ?_;refine zq ?_;(try simp only[zb,zf,ze,zd,zg]);refine zj (by simp only[T45,zE,go_sem]<;>rfl) ?_;simp only[zG];exact Frz.int _ _
structure zwE (w:List Nat)(b0 key:Nat)(ws:List Nat):Prop where
 first:ws[0]?=some b0
 inn:∀b∈ws,64*b+64<=w.length
 next:∀(i:Nat) (b c:Nat),ws[i]?=some b->ws[i+1]?=some c->zcS (zu w b) key=(c,0)
 last:∀b,ws.getLast?=some b->¬(zcS (zu w b) key).2=0
 few:ws.length<=20
set_option maxHeartbeats 2000000 in
theorem zpB (p:Nat)(w:List Nat)(a key:Nat)(ws:List Nat)(hw:w.length<=131072)(ha:a<w.length)(hW:zwE w (w.getD a 0) key ws):FN ET 46 [wv p w,iv a,uv key] (.ret (.list 0 1 (ws.map fun(b:Nat)=>iv (b:Int)))):=by
 refine zfn f46 (Lb.ivn _) ?_;have hwa:=zcr ha;obtain⟨h1,h2,h3,h4,h5⟩:=hW;generalize w.getD a 0=b0 at *
 have hne:0<ws.length:=(zAD9.1 h1).1;have hb0:=h2 b0 (zAK9 h1);have w1:IntKind.i64.wrap (b0:Int)=(b0:Int):=wrap_i64 (by omega) (by omega);(repeat(first|refine za ?_|refine zgo ?_ (by simp(disch:=omega)only[go_sem,hwa,ha,w1,zAA9]<;>rfl)));refine zD (zas (fun m s=>∃(i:Nat) (V:List Nat) (G:List zn),m=ws.length-i/\i<ws.length/\V=ws.take (i+1)/\s.tm 0=wv p w/\s.tm 2=uv key/\s.tm 7=.sl 0 i 0 V.length (2*V.length) 1/\s.tm 8=iv i/\s.df=[]/\s.H=.row 3 1 i 0 (V.map fun(b:Nat)=>iv (b:Int))::G) (n:=ws.length) ?_ ?_)
 ·refine⟨0,[b0],[],rfl,hne,?v0,by simp[upd,zo],by simp[upd,zo],by simp[upd],by simp[upd],rfl,rfl⟩
  case v0=>rw[zBM9,h1];rfl
 rintro m ⟨tm,df,H⟩ ⟨i,V,G,rfl,hi,hV,t0,t2,t7,t8,rfl,rfl⟩;dsimp only at t0 t2 t7 t8;have hVl:V.length=i+1:=by rw[hV,zBB9];omega
 have g:(i:Int)<20:=by omega
 (try refine zK ?_);refine za (zr ?_);refine zfx ?_ (by simp(disch:=omega)only[go_sem,t8,g]<;>rfl);refine zh ?_;refine zN (by simp only[go_sem]<;>rfl) ?_ ?_;rotate_left
 ·intro h;cases h
 intro _;obtain⟨b,hb⟩:∃b,ws[i]?=some b:=⟨_,zAB9 hi⟩
 have hbb:=h2 b (zAK9 hb);have hVb:V[i]?=some b:=by rw[hV,zBD9,if_pos (by omega)];exact hb
 have hVv:(V.map fun(b:Nat)=>iv (b:Int))[i]?=some (iv b):=by rw[zAG9,hVb];rfl
 have e0:(V.length:Int)-1=(i:Int):=by omega
 have e7:i<V.length:=by omega
 have e1:IntKind.i64.wrap ((64:Int)*(b:Int))=((64*b:Nat):Int):=by rw[wrap_i64 (by omega) (by omega)];omega
 have e2:((64*b:Nat):Int)+64=((64*b+64:Nat):Int):=by omega
 have e3:64*b<=64*b+64:=by omega
 have e6:0<w.length:=by omega
 have e5:List.drop (64*b) (List.take (64*b+64) (List.map uv w))=(zu w b).map uv:=by simp[zu,zCQ9,zDN9]
 have hC:=zsG p key (zu w b) (by unfold zu za2;simp;omega);(repeat refine za ?_);refine zD ?_;(repeat refine za ?_);refine zgo ?_ (by simp(disch:=omega)only[go_sem,t7,t8,e0,e7,hVv,zAA9]<;>rfl);(repeat refine za ?_);refine zrg ?_ (by simp(disch:=omega)only[go_sem,t0,t2,e1,e2,e3,e5,e6,hbb,zAA9]<;>rfl);refine zca hC ?_
 by_cases hc:(zcS (zu w b) key).2=0
 rotate_left
 ·have g2:¬(((zcS (zu w b) key).2:Nat):Int)=0:=by omega
  refine zfx ?_;refine zh ?_;(repeat(first|refine za ?_|refine zgo ?_ (by simp(disch:=omega)only[go_sem,g2]<;>rfl)));refine zfc ?_ ?_;rotate_left
  ·intro h;cases h
  intro _;refine zgh ?_;simp only[zb,zf,ze,zd,zi,zg,if_true,reduceIte];(repeat(first|refine za ?_|refine zgo ?_ (by simp(disch:=omega)only[go_sem,t7]<;>rfl)));refine zq ?_;(try simp only[zb,zf,ze,zd,zg]);refine zj (by simp only[T46,zE,go_sem]<;>rfl) ?_;simp only[zG];have hil:i+1=ws.length:=by
   rcases zCP9 (i+1) ws.length with h|h
   ·have:=h3 i b _ hb (zAB9 h);rw[this]at hc;exact absurd rfl hc
   ·omega
  have hVw:V=ws:=by rw[hV,hil,zBK9]
  subst hVw;exact Frz.whole (e:=3) (z':=1) (l:=V.map fun(b:Nat)=>iv (b:Int)) rfl rfl (by simp) (by simp) (fun v hv=>by obtain⟨x,_,rfl⟩:=zAP9.1 hv;rfl) ze2
 have hil:i+1<ws.length:=by
  rcases zCP9 (i+1) ws.length with h|h
  ·exact h
  ·exact absurd hc (h4 b (by rw[zCF9,show ws.length-1=i by omega];exact hb))
 obtain⟨c,hcc⟩:∃c,ws[i+1]?=some c:=⟨_,zAB9 hil⟩
 have hch:=h3 i b c hb hcc;rw[hch];refine zfx ?_;refine zh ?_;(repeat(first|refine za ?_|refine zgo ?_));refine zfc ?_ ?_
 ·intro h;cases h
 intro _;refine zF ?_;show W _ _ _ _ _ _;have hbb2:(V.length+1)*9<=140737488355328:=by omega
 (repeat refine za ?_);(repeat refine za ?_);refine zrg ?_ (by simp(disch:=omega)only[go_sem,t7,hbb2,zc]<;>rfl);refine zy ?_;simp only[zb,zf,ze,zd,zi,zg,if_true,↓reduceIte];(repeat refine za ?_);refine zrg ?_ (by simp(disch:=omega)only[go_sem,t8]<;>rfl);refine zy ?_;simp only[zb,zf,ze,zd,zi,zg,if_true,↓reduceIte];refine⟨_,?m,i+1,V++[c],?G,rfl,hil,?hV,by simp[upd,t0],by simp[upd,t2],by simp[upd],by simp[upd,t8],trivial,?H⟩
 case m=>omega
 case hV=>rw[zBM9 (i:=i+1),hcc,<- hV];rfl
 case H=>rw[zBZ9];rfl
theorem f48:ET.funcs.get 48=some T48:=zL Tryz.func48
theorem f124:ET.funcs.get 124=some T124:=zL Tryz.func124
theorem f122:ET.funcs.get 122=some T122:=zL Tryz.func122
theorem zq5 {E:Env}{caught:Tr Unit}{ops:List zY}{s:FSt}{Q:FX->FSt->Prop}(i n:Nat){w:PV}{o:zn}(hn:s.H[n]?=some o)(hw:Frz (zfi n s.H) 0 (s.tm i) w)(k:WO E caught ops ⟨upd s.tm i w,s.df,s.H.set n .void⟩ Q):WO E caught ops s Q:=fun B c t hs=>by
 have hlt:=(zAD9.1 hn).1;obtain⟨m,hr,hcf⟩:=hs.hr.frz (H':=s.H.set n .void) (n:=n) (by simp) (by simp[hlt]) (fun id o o' ho ho'=>by
  by_cases hi:n=id
  ·subst hi;simp[hlt]at ho';subst ho';exact .void _
  ·rw[zAZ9 hi,ho]at ho';injection ho' with ho';subst ho';exact .same _ (Ne.symm hi))
 obtain⟨r,x,s',c',t',e1,q1,m1,k1,fin⟩:=k B _ t ⟨hr,fun j=>by
  dsimp only;unfold upd
  by_cases hj:j=i
  ·subst hj;rw[if_pos rfl];rcases hs.tm j with h2|⟨u,u1,u2⟩
   ·rw[h2]at hw;cases hw
   ·exact .inr ⟨u,u1,hcf _ _ _ u2 (.inr hw)⟩
  ·rw[if_neg hj];exact(hs.tm.mono m) j,hs.df.mono m⟩
 exact⟨r,x,s',c',t',e1,q1,m.trans m1,k1,fin⟩
theorem zfO (x:Wk)(hfr:Id0 x.fr)(b:Nat)(hb:64*b+64<=x.W.length)(hW:x.W.length<=131072):FP ET 48 [wkv x,iv b] (.ret (wv x.p (zu x.W b))):=by
 refine zfp f48 ?_;have e1:IntKind.i64.wrap ((64:Int)*(b:Int))=((64*b:Nat):Int):=by rw[wrap_i64 (by omega) (by omega)];omega
 have e2:((64*b:Nat):Int)+64=((64*b+64:Nat):Int):=by omega
 have e3:64*b<=64*b+64:=by omega
 have e6:0<x.W.length:=by omega
 have e5:List.drop (64*b) (List.take (64*b+64) (List.map uv x.W))=(zu x.W b).map uv:=by simp[zu,zCQ9,zDN9]
 unfold wkv;(repeat(first|refine za ?_|refine zgo ?_ (by simp(disch:=omega)only[go_sem,e1,e2,e3,e5,e6,hb,zAA9]<;>rfl)));refine zq ?_;(try simp only[zb,zf,ze,zd,zg]);refine zj (by simp only[T48,zE,go_sem]<;>rfl) ?_;simp only[zG];exact Frz.list _ _ _
def ofN (w:List Nat):zB:=if zbI w=true then zaa w else zd0
theorem zqk (w:List Nat):∃no:Nat,zdB w=.ret (.tuple [zZ 0 (ofN w),iv no]):=by
 unfold ofN
 by_cases h:zbI w=true
 ·exact⟨0,by rw[zej _ h,if_pos h];rfl⟩
 ·exact⟨210,by rw[zk7 (by simpa using h),if_neg h];rfl⟩
theorem zwo (w:List Nat):(ofN w).level<=12/\(ofN w).sib<2048/\(ofN w).pairs.length<=28:=by
 unfold ofN
 by_cases h:zbI w=true
 ·rw[if_pos h];have:=zdz h;exact⟨this.1,this.2.1,zck w⟩
 ·rw[if_neg h];decide
theorem zci (w:List Nat)(b:Nat)(h:64*b+64<=w.length):(zu w b).length=64:=by unfold zu;simp;omega
theorem ztf (x:Wk)(hfr:Id0 x.fr)(b:Nat)(hb:64*b+64<=x.W.length)(hW:x.W.length<=131072):FN ET 124 [wkv x,iv b] (.ret (.bool (decide (27<=(ofN (zu x.W b)).pairs.length)))):=by
 refine zfn f124 (.bool _) ?_;have hat:=zfO x hfr b hb hW;have hO:=ze5 x.p (zu x.W b) (by rw[zci _ _ hb];decide);obtain⟨no,hno⟩:=zqk (zu x.W b);rw[hno]at hO;have hbnd:=(zwo (zu x.W b)).2.2;generalize ofN (zu x.W b)=n at *
 have hid:=zcL hfr;unfold wkv at hid hat⊢;(repeat(first|refine za ?_|refine zgo ?_));(repeat refine za ?_);refine zrg ?_;refine zcg (by first|rfl|(simp only[go_sem]<;>rfl)) (by simp only[go_sem]<;>rfl) hat rfl ?_ ?_;(repeat(first|exact trivial|refine And.intro ?_ ?_|exact Id0.int _ _|exact Id0.bool _|exact Id0.list _ _ _|exact Id0.elem _|exact Id0.nilsl|exact Id0.str _|exact zcj _ _ _))
 ·exact hid
 ·(repeat(first|exact trivial|refine And.intro ?_ ?_|exact Id0.int _ _|exact Id0.bool _|exact Id0.list _ _ _|exact Id0.elem _|exact Id0.nilsl|exact Id0.str _|exact zcj _ _ _))
 refine zfx ?_;refine zca hO ?_;refine zfx ?_;refine zh ?_;(repeat(first|refine za ?_|refine zgo ?_ (by simp(disch:=omega)only[go_sem,zc,zk,zAA9]<;>rfl)));refine zq ?_;(try simp only[zb,zf,ze,zd,zg]);refine zj (by simp only[T124,zE,go_sem]<;>rfl) ?_;simp only[zG];refine zay.bool ?_;rw[zDU9];simp;omega
def zbV (w:List Nat):List Pr:=(List.range w.length).map fun i=>(i,w.getD i 0)
theorem zuo (w:List Nat)(i:Nat)(h:i<w.length):(zbV w)[i]?=some (i,w.getD i 0):=by
 unfold zbV;rw[zAG9,zEL9 h];rfl
theorem zet (w:List Nat):(zbV w).length=w.length:=by unfold zbV;simp
set_option maxHeartbeats 2000000 in
theorem zkK (x:Wk)(hfr:Id0 x.fr)(b r:Nat)(w:List Nat)(hl:x.L.length+w.length<1000000)(hw:x.W.length<1000000)(hin:64*b+w.length<=x.W.length):FP ET 122 [wkv x,iv b,wv r w] (.ret (wkv (x.does (zbn (64*b) (zbV w))))):=by
 refine zfp f122 ?_;have hid:=zcL hfr;(repeat(first|refine za ?_|refine zgo ?_));refine zcd 83 2 (i:=7) rfl ?_;simp only[lzy,zAC9,zAE9,zAH9,zAN9,zAF9,zAI9,zAL9];(repeat(first|refine za ?_|refine zgo ?_));refine zD (zas (fun m s=>∃(i:Nat) (V:List Pr) (G:List zn),m=w.length-i/\i<=w.length/\V=(zbV w).take i/\s.tm 1=iv b/\s.tm 2=wv r w/\s.tm 3=.ptr 0 0 0 0 4/\s.tm 6=.ptr 1 0 0 0 4/\s.tm 7=.sl 2 i 0 V.length (2*V.length) 2/\s.tm 8=iv i/\s.df=[]/\s.H=.row 107 4 0 0 [wkv x]::.row 107 4 0 0 [.agg [.nilsl,.nilsl,.nilsl,iv 0]]::.row 83 2 i 0 (V.map zat)::G) (n:=w.length) ?_ ?_)
 ·exact⟨0,[],[],rfl,zAS9 _,by simp,by simp[upd,zo],by simp[upd,zo],by simp[upd],by simp[upd],by simp[upd],by simp[upd],rfl,rfl⟩
 rintro m ⟨tm,df,H⟩ ⟨i,V,G,rfl,hi,hV,h1,h2,h3,h6,h7,h8,rfl,rfl⟩;dsimp only at h1 h2 h3 h6 h7 h8;have hVl:V.length=i:=by rw[hV,zBB9,zet];omega
 (try refine zK ?_);refine za (zr ?_);refine zfx ?_ (by simp(disch:=omega)only[go_sem,h2,h8,zAA9]<;>rfl);refine zh ?_;refine zN (by simp only[go_sem]<;>rfl) ?_ ?_
 ·intro hlt;have hlt:i<w.length:=by have:=of_decide_eq_true hlt;omega
  have hwi:=zcr hlt;have hbb:(V.length+1)*17<=140737488355328:=by omega
  (repeat refine za ?_);refine zD ?_;(repeat refine za ?_);refine zrg ?_ (by simp(disch:=omega)only[go_sem,h2,h7,h8,hlt,hwi,hbb,zc,zAA9]<;>rfl);refine zy ?_;simp only[zb,zf,ze,zd,zi,zg,if_true,↓reduceIte];(repeat refine za ?_);refine zrg ?_ (by simp(disch:=omega)only[go_sem,h8]<;>rfl);refine zy ?_;simp only[zb,zf,ze,zd,zi,zg,if_true,↓reduceIte];refine⟨_,?m,i+1,V++[(i,w.getD i 0)],?G,rfl,hlt,?hV,by simp[upd,h1],by simp[upd,h2],by simp[upd,h3],by simp[upd,h6],by simp[upd],by simp[upd,h8],trivial,?H⟩
  case m=>omega
  case hV=>rw[zBM9,zuo _ _ hlt,<- hV];rfl
  case H=>rw[zBZ9];rfl
 ·intro hlt;have hlt:¬i<w.length:=by have:=of_decide_eq_false hlt;omega
  obtain rfl:i=w.length:=by omega
  have hVw:V=zbV w:=by rw[hV,<- zet,zBK9]
  subst hVw;clear hV;have hd:=zfg x hfr (64*b) 0 (zbV w) (by rw[zet];exact hl) hw fun c hc=>by
   unfold zbV at hc;obtain⟨j,hj,rfl⟩:=zAP9.1 hc;have:=zDC9.1 hj;dsimp only;omega
  have w1:IntKind.i64.wrap ((64:Int)*(b:Int))=((64*b:Nat):Int):=by rw[wrap_i64 (by omega) (by omega)];omega
  simp only[zb,zf,ze,zd,zi,zg,if_true,reduceIte];refine zdk (fun tm=>tm 1=iv b/\tm 3=.ptr 0 0 0 0 4/\tm 6=.ptr 1 0 0 0 4/\tm 7=.sl 2 w.length 0 (zbV w).length (2*(zbV w).length) 2) ⟨by simp[upd,h1],by simp[upd,h3],by simp[upd,h6],by simp[upd,h7]⟩ ?_;clear h1 h2 h3 h6 h7 h8;rintro tm ⟨h1,h3,h6,h7⟩;refine zfm 7 2 (w:=.list 0 2 ((zbV w).map zat)) rfl (by
   dsimp only;rw[h7];exact Frz.whole (zfU rfl) rfl (by simp) (by simp) (fun v hv=>by obtain⟨x,_,rfl⟩:=zAP9.1 hv;rfl) zc8) ?_
  simp only[zCK9,zCX9];have hyf:Id0 (wkv (x.does (zbn (64*b) (zbV w)))):=zcL (by rw[(zcH _ x).2.2.1];exact hfr);generalize x.does (zbn (64*b) (zbV w))=y at *
  unfold wkv at hd hyf hid⊢;(repeat refine za ?_);refine zr ?_;refine zfx ?_ (by simp(disch:=omega)only[go_sem,h1,h3,w1]<;>rfl);refine zcg (by first|rfl|(simp only[go_sem]<;>rfl)) (by simp only[go_sem]<;>rfl) hd rfl ?_ ?_;(repeat(first|exact trivial|refine And.intro ?_ ?_|exact Id0.int _ _|exact Id0.bool _|exact Id0.list _ _ _|exact Id0.elem _|exact Id0.nilsl|exact Id0.str _|exact zcj _ _ _))
  ·exact hid
  ·(repeat(first|exact trivial|refine And.intro ?_ ?_|exact Id0.int _ _|exact Id0.bool _|exact Id0.list _ _ _|exact Id0.elem _|exact Id0.nilsl|exact Id0.str _|exact zcj _ _ _))
  refine zfx ?_ (by simp(disch:=omega)only[go_sem,h6]<;>rfl);refine zh ?_;refine zq ?_;refine zj (vs:=[wkv y]) ?_ ?_
  ·simp[T122,xT,zE,okv,upd,h6,zae,zaC,zaJ,PV.cells,wkv]
  ·unfold wkv;exact hyf.frz
theorem f123:ET.funcs.get 123=some T123:=zL Tryz.func123
@[reducible] def frV (r:Nat) (fr:List Nat):PV:=.list r 1 (fr.map fun (b:Nat)=>iv (b:Int))
def Wk.up (x:Wk):Wk:=⟨x.p,x.q,x.W,x.L,x.fr,x.used+1⟩
@[reducible] def zdC (n:zB) (b to low:Nat):zB:=⟨n.level + 1,0,0,b,0,[(low,to)]⟩
def Wk.root (x:Wk)(fr:List Nat)(at' b to low:Nat):Wk×Nat×Nat×Nat :=
 if fr.length<=x.used then(x,0,0,221)else
 if 12<=(ofN (zu x.W b)).level then(x.up,0,0,3)else
 ((x.up.does (zbn (64*fr.getD x.used 0) (zbV (zbr (zdC (ofN (zu x.W b)) b to low))))).does (zbn 0 [(at',fr.getD x.used 0)]),to,low,0)
@[reducible] def wk4 (R:Wk × Nat × Nat × Nat):PV:=.tuple [wkv R.1,iv (R.2.1:Nat),uv R.2.2.1,iv (R.2.2.2:Nat)]
theorem zf4 {H:List zn}{y:Wk}(h:Id0 y.fr)(a b c:Nat):Frz H 0 (.tuple [wkv y,iv (a:Int),uv b,iv (c:Int)]) (wk4 (y,a,b,c)):=Frz.tupL ⟨(zcL h).frz,.int _ _,.int _ _,.int _ _,trivial⟩
set_option maxHeartbeats 2000000 in
theorem zsm (x:Wk)(rr:Nat)(fr:List Nat)(hfr:x.fr=frV rr fr)(at' b to low:Nat)(hb:64*b+64<=x.W.length)(hW:x.W.length<=131072)(hat:at'<x.W.length)(hto:to<2048)(hfrN:∀f∈fr,64*f+64<=x.W.length)(hL:x.L.length+65<1000000)(hfl:fr.length<1000000) :
  FP ET 123 [wkv x,iv b,iv to,uv low,iv at'] (.ret (wk4 (x.root fr at' b to low))):=by
 refine zfp f123 ?_;have hid0:Id0 x.fr:=by rw[hfr];exact .list _ _ _
 have hid:Id0 (wkv x):=zcL hid0;have hidu:Id0 (wkv x.up):=zcL hid0;have hatu:=zfO x.up hid0 b hb hW;have hxv:wkv x=.agg [wv x.p x.W,.list x.q 2 (x.L.map zat),frV rr fr,iv x.used]:=by unfold wkv;rw[hfr]
 have huv:wkv x.up=.agg [wv x.p x.W,.list x.q 2 (x.L.map zat),frV rr fr,iv ((x.used+1:Nat):Int)]:=by rw[<- hfr];rfl
 rw[hxv];unfold Wk.root
 by_cases hus:fr.length<=x.used
 ·rw[if_pos hus];have g:(fr.length:Int)<=(x.used:Nat):=by omega
  (repeat(first|refine za ?_|refine zgo ?_ (by simp(disch:=omega)only[go_sem,g,zAA9]<;>rfl)));refine zfc ?_ ?_;rotate_left
  ·intro h;cases h
  intro _;(repeat(first|refine za ?_|refine zgo ?_));refine zq ?_;(try simp only[zb,zf,ze,zd,zi,zg,if_true,reduceIte]);refine zj (vs:=[wkv x,iv 0,uv 0,iv 221]) ?_ ?_
  ·rw[hxv];simp[T123,xT,zE,okv,upd,zo,zae,zaC,zaJ,PV.cells]
  ·exact zf4 hid0 0 0 221
 rw[if_neg hus];have g:¬(fr.length:Int)<=(x.used:Nat):=by omega
 have hul:x.used<fr.length:=by omega
 obtain⟨f,hf⟩:∃f,fr[x.used]?=some f:=⟨_,zAB9 hul⟩
 have hfv:(fr.map fun(b:Nat)=>iv (b:Int))[x.used]?=some (iv f):=by rw[zAG9,hf];rfl
 have hfd:fr.getD x.used 0=f:=by rw[zAQ9,hf];rfl
 have hfb:=hfrN f (zAK9 hf);rw[hfd];(repeat(first|refine za ?_|refine zgo ?_ (by simp(disch:=omega)only[go_sem,g,hul,hfv,zAA9]<;>rfl)));refine zfc ?_ ?_
 ·intro h;cases h
 intro _;refine zF ?_;show W _ _ _ _ _ _;have w2:(x.used:Int)+1=((x.used+1:Nat):Int):=by omega
 (repeat refine za ?_);refine zgo ?_ (by simp(disch:=omega)only[go_sem,g,hul,hfv,zAA9]<;>rfl);(repeat refine za ?_);refine zgo ?_ (by simp(disch:=omega)only[go_sem,w2]<;>rfl);rw[<- huv];have hO:=ze5 x.up.p (zu x.up.W b) (by rw[show (zu x.up.W b).length=64 from zci _ _ hb];decide);obtain⟨no,hno⟩:=zqk (zu x.up.W b);rw[hno]at hO;have hbnd:=zwo (zu x.up.W b);have hxuW:ofN (zu x.W b)=ofN (zu x.up.W b):=rfl;rw[hxuW];generalize ofN (zu x.up.W b)=n at *
 refine zdk (fun tm=>tm 1=iv b/\tm 2=iv to/\tm 3=uv low/\tm 4=iv at'/\tm 5=.ptr 0 0 0 0 4/\tm 10=.ptr 1 0 0 0 4/\tm 11=iv 0/\tm 12=uv 0/\tm 13=iv 0/\tm 14=iv f) ⟨by simp[upd,zo],by simp[upd,zo],by simp[upd,zo],by simp[upd,zo],by simp[upd,zo],by simp[upd,zo],by simp[upd,zo],by simp[upd,zo],by simp[upd,zo],by simp[upd,zo]⟩ ?_;rintro tm ⟨h1,h2,h3,h4,h5,h10,h11,h12,h13,h14⟩;rw[huv]at hidu hatu⊢;(repeat refine za ?_);refine zrg ?_ (by simp(disch:=omega)only[go_sem,h1,h5]<;>rfl);refine zcg (by first|rfl|(simp only[go_sem]<;>rfl)) (by simp only[go_sem]<;>rfl) hatu rfl ?_ ?_;(repeat(first|exact trivial|refine And.intro ?_ ?_|exact Id0.int _ _|exact Id0.bool _|exact Id0.list _ _ _|exact Id0.elem _|exact Id0.nilsl|exact Id0.str _|exact zcj _ _ _))
 ·exact hidu
 ·(repeat(first|exact trivial|refine And.intro ?_ ?_|exact Id0.int _ _|exact Id0.bool _|exact Id0.list _ _ _|exact Id0.elem _|exact Id0.nilsl|exact Id0.str _|exact zcj _ _ _))
 refine zfx ?_;refine zca hO ?_;refine zfx ?_;refine zh ?_
 by_cases h12':12<=n.level
 ·rw[if_pos h12'];have g2:(12:Int)<=(n.level:Nat):=by omega
  (repeat(first|refine za ?_|refine zgo ?_ (by simp(disch:=omega)only[go_sem,g2,zc,zk]<;>rfl)));refine zfc ?_ ?_;rotate_left
  ·intro h;cases h
  intro _;(repeat(first|refine za ?_|refine zgo ?_ (by simp(disch:=omega)only[go_sem,h5,h10]<;>rfl)));refine zq ?_;(try simp only[zb,zf,ze,zd,zi,zg,if_true,reduceIte]);refine zj (vs:=[wkv x.up,iv 0,uv 0,iv 3]) ?_ ?_
  ·rw[huv];simp[T123,xT,zE,okv,upd,h10,h11,h12,h13,zae,zaC,zaJ,PV.cells]
  ·exact zf4 (y:=x.up) hid0 0 0 3
 rw[if_neg h12'];have g2:¬(12:Int)<=(n.level:Nat):=by omega
 (repeat(first|refine za ?_|refine zgo ?_ (by simp(disch:=omega)only[go_sem,g2,zc,zk]<;>rfl)));refine zfc ?_ ?_
 ·intro h;cases h
 intro _;refine zF ?_;show W _ _ _ _ _ _;have w3:(n.level:Int)+1=((n.level+1:Nat):Int):=by omega
 have w4:IntKind.u64.wrap (b:Int)=(b:Int):=zJ (by omega) (by omega);have w5:IntKind.u64.wrap (to:Int)=(to:Int):=zJ (by omega) (by omega);have hWd:=ziB 1 (zdC n b to low) (by dsimp only;omega) (by dsimp only;omega) (zAS9 _) (by simp);have hbk:=zkK x.up hid0 f 0 (zbr (zdC n b to low)) (by rw[zdO];show x.L.length+64<1000000;omega) (by show x.W.length<1000000;omega) (by rw[zdO];exact hfb);rw[huv]at hbk;have hyf:Id0 (wkv (x.up.does (zbn (64*f) (zbV (zbr (zdC n b to low)))))):=zcL (by rw[(zcH _ x.up).2.2.1];exact hid0);have hyL:=zcH (zbn (64*f) (zbV (zbr (zdC n b to low)))) x.up;have hDl:(zbn (64*f) (zbV (zbr (zdC n b to low)))).length=64:=by unfold zbn;rw[zAA9,zet,zdO]
 generalize zbr (zdC n b to low)=LW at *
 generalize zbn (64*f) (zbV LW)=D at *
 generalize hYY:x.up.does D=y at *
 (repeat refine za ?_);refine zag ?_;refine zdi hWd ?_ ?_ (by simp(disch:=omega)only[go_sem,h1,h2,h3,h5,h14,w3,w4,w5]<;>rfl);(repeat(first|exact trivial|refine And.intro ?_ ?_|exact .int _ _|exact .bool _|exact .list _ _ _|exact .elem _|exact .nilsl|exact .nil _ _|exact .str _|refine Frz.aggL ?_|refine Frz.fnL ?_|refine Frz.tupL ?_|refine .iface ?_|exact zbv rfl rfl (by assumption)));(exact Frz.whole (l:=[pv (low,to)]) rfl rfl rfl (zAM9 _) (fun v hv=>by obtain rfl:=zBL9.1 hv;rfl) (zeL (l:=[(low,to)]));exact trivial;exact trivial);refine zdf hbk ⟨hidu,.int _ _,.list _ _ _,trivial⟩ ?_ (by simp(disch:=omega)only[go_sem,h1,h5,h14]<;>rfl);refine zda ?_ (by simp(disch:=omega)only[go_sem,h5]<;>rfl);refine zdl ?_ (by simp(disch:=omega)only[go_sem,h5]<;>rfl);refine zM ?_;simp only[zi,zS,zb,go_sem];have hy0:Id0 y.fr:=by rw[hyL.2.2.1];exact hid0
 have hyW:y.W.length=x.W.length:=hyL.1;have hdo:=zfg y hy0 0 0 [(at',f)] (by rw[hyL.2.1,hDl];show x.L.length+64+1<1000000;omega) (by omega) fun c hc=>by
  obtain rfl:=zBL9.1 hc;dsimp only;omega
 have hzf:Id0 (y.does (zbn 0 [(at',f)])).fr:=by rw[(zcH _ y).2.2.1];exact hy0
 have w6:IntKind.u64.wrap (f:Int)=(f:Int):=zJ (by omega) (by omega);generalize y.does (zbn 0 [(at',f)])=z at *
 unfold wkv at hdo hyf⊢;refine zdk (fun tm=>tm 2=iv to/\tm 3=uv low/\tm 4=iv at'/\tm 5=.ptr 0 0 0 0 4/\tm 10=.ptr 1 0 0 0 4/\tm 14=iv f) ⟨by simp[upd,h2],by simp[upd,h3],by simp[upd,h4],by simp[upd,h5],by simp[upd,h10],by simp[upd,h14]⟩ ?_;clear h1 h2 h3 h4 h5 h10 h11 h12 h13 h14;rintro tm ⟨h2,h3,h4,h5,h10,h14⟩;(repeat refine za ?_);refine zr ?_;refine zfx ?_ (by simp(disch:=omega)only[go_sem,h4,h5,h14,w6]<;>rfl);refine zq5 65 4 (w:=.list 0 2 ([(at',f)].map zat)) rfl (Frz.whole (l:=[zat (at',f)]) (zfU rfl) rfl rfl (zAM9 _) (fun v hv=>by obtain rfl:=zBL9.1 hv;rfl) (zc8 (l:=[(at',f)]))) ?_;simp only[zCK9,zCX9];refine zcg (by first|rfl|(simp only[go_sem]<;>rfl)) (by simp only[go_sem]<;>rfl) hdo rfl ?_ ?_;(repeat(first|exact trivial|refine And.intro ?_ ?_|exact Id0.int _ _|exact Id0.bool _|exact Id0.list _ _ _|exact Id0.elem _|exact Id0.nilsl|exact Id0.str _|exact zcj _ _ _))
 ·exact hyf
 ·(repeat(first|exact trivial|refine And.intro ?_ ?_|exact Id0.int _ _|exact Id0.bool _|exact Id0.list _ _ _|exact Id0.elem _|exact Id0.nilsl|exact Id0.str _|exact zcj _ _ _))
 refine zfx ?_ (by simp(disch:=omega)only[go_sem,h2,h3,h10]<;>rfl);refine zh ?_;refine zq ?_;(try simp only[zb,zf,ze,zd,zi,zg,if_true,reduceIte]);refine zj (vs:=[wkv z,iv to,uv low,iv 0]) ?_ ?_
 ·unfold wkv;simp[T123,xT,zE,okv,upd,h10,zae,zaC,zaJ,PV.cells]
 ·exact zf4 hzf to low 0
end Fv
end Go.Proofs.YtfomlmhnmheenaaGreat
namespace Go.Proofs.YtfomlmhnmheenaaGreat
namespace Fv
open Tw
theorem zuh (l:List Pr)(i:Nat):∀m,(upL l i m).length<=2*m/\∀y∈upL l i m,y.1<=2*m+1
 | 0=>⟨zAM9 _,fun y hy=>by simp[upL]at hy⟩
 | m+1=>by
  have ih:=zuh l i m;rw[upL]
  split
  ·refine⟨by simp;omega,fun y hy=>?_⟩;rcases zAX9.1 hy with rfl|hy
   ·simp;omega
   rcases zAX9.1 hy with rfl|hy
   ·simp;omega
   ·have:=ih.2 y hy;omega
  ·exact⟨by simp,fun y hy=>by simp at hy⟩
theorem zxu {left:Nat}{w:List Nat}{x:Pr}(hw:w.length=56)(h:(zdm left w x).2=0):(zdm left w x).1.length<=70/\∀y∈(zdm left w x).1,y.1<56:=by
 unfold zdm at h⊢
 by_cases hp:zce left w x=0
 rotate_left
 ·rw[if_neg hp]at h;exact absurd h hp
 rw[if_pos hp]at h⊢
 by_cases hs:sIs (zav left w) x.1=true
 ·rw[if_pos hs]at h;cases h
 rw[if_neg hs]at h⊢
 split at h
 ·cases h
 rename_i hlong;rw[if_neg hlong];have hf:=zkM (zav left w) x.1;generalize zav left w=L at *
 generalize zcB L x.1=i at *
 have hu:=zuh L i L.length;unfold zlY;refine⟨by simp;omega,fun y hy=>?_⟩;rcases zAX9.1 hy with rfl|hy
 ·simp;omega
 rcases zBF9.1 hy with hy|hy
 ·have:=hu.2 y hy;omega
 ·simp at hy;rcases hy with rfl|rfl|rfl<;>simp<;>omega
theorem zvp {left:Nat}{w:List Nat}{key:Nat}(hw:w.length=56)(h:(zc6 left w key).2=0):(zc6 left w key).1.length<=70/\∀y∈(zc6 left w key).1,y.1<56:=by
 unfold zc6 at h⊢
 by_cases hc:zbz left w=0
 rotate_left
 ·rw[if_neg hc]at h;exact absurd h hc
 rw[if_pos hc]at h⊢;have hr:=zgX hc;have hl:=zkH left w
 by_cases hs:sIs (zav left w) key=true
 rotate_left
 ·rw[if_neg hs]at h;cases h
 rw[if_pos hs];have hf:=zpT hs;generalize zav left w=L at *
 generalize zcB L key=i at *
 refine⟨by simp[zdt,zkd];omega,fun y hy=>?_⟩;rcases zAX9.1 hy with rfl|hy
 ·simp;omega
 unfold zdt at hy;rcases zBF9.1 hy with hy|hy
 ·unfold dnL at hy;obtain⟨q,hq,hy⟩:=zBC9.1 hy;have hq:=zDC9.1 hq;simp at hy;rcases hy with rfl|rfl<;>simp<;>omega
 ·simp at hy;subst hy;simp;omega
theorem ztn {w:List Nat}{v no:Nat}{r:List Pr×Nat}(h:r.2=0->r.1.length<=70/\∀y∈r.1,y.1<56):(chg w v no r).1.length<=71/\∀c∈(chg w v no r).1,c.1<64:=by
 unfold chg
 split
 ·split
  ·rename_i h2;obtain⟨k1,k2⟩:=h h2;have hw1:(zeg w v).length<=1:=by unfold zeg;split<;>simp
   refine⟨by simp[zcG];omega,fun c hc=>?_⟩;rcases zBF9.1 hc with hc|hc
   ·unfold zeg at hc
    split at hc
    ·simp at hc
    ·simp at hc;subst hc;simp
   ·unfold zcG at hc;obtain⟨y,hy,rfl⟩:=zAP9.1 hc;have:=k2 y hy;dsimp only;omega
  ·exact⟨by simp,fun c hc=>by simp at hc⟩
 ·exact⟨by simp,fun c hc=>by simp at hc⟩
theorem zh4 {w:List Nat}{x:Pr}(hw:w.length=64):(zb0 w x).1.length<=71/\∀c∈(zb0 w x).1,c.1<64:=ztn fun h=>zxu (by simp[hw]) h
theorem zk4 {w:List Nat}{key:Nat}(hw:w.length=64):(zdy w key).1.length<=71/\∀c∈(zdy w key).1,c.1<64:=ztn fun h=>zvp (by simp[hw]) h
theorem zrv (m:Nat):∀k,(zfj m k).length<=k/\∀c∈zfj m k,c.1<8+2*k
 | 0=>⟨zAM9 _,fun c hc=>by simp[zfj]at hc⟩
 | k+1=>by
  have ih:=zrv m k;rw[zfj]
  split
  ·refine⟨by simp;omega,fun c hc=>?_⟩;rcases zAX9.1 hc with rfl|hc
   ·dsimp only;omega
   ·have:=ih.2 c hc;omega
  ·exact⟨by simp,fun c hc=>by simp at hc⟩
theorem zrI {n:zB}(a:Nat)(h:n.pairs.length<=28):(zeP n a).length<=29/\∀c∈zeP n a,c.1<64:=by
 have:=zrv (n.pairs.length/2) n.pairs.length;unfold zeP;refine⟨by simp;omega,fun c hc=>?_⟩;rcases zAX9.1 hc with rfl|hc
 ·simp
 ·have:=this.2 c hc;omega
theorem zvU {w:List Nat}(hw:w.length=64):(zbV w).length=64/\∀c∈zbV w,c.1<64:=by
 refine⟨by rw[zet];exact hw,fun c hc=>?_⟩;unfold zbV at hc;obtain⟨j,hj,rfl⟩:=zAP9.1 hc;have:=zDC9.1 hj;dsimp only;omega
theorem zis:∀(l:List Pr) (x:Wk),(x.does l).W=zbo x.W l
 | [],_=>rfl
 | c::l,x=>zis l (x.one c)
theorem zky (c:Nat):∀(l:List Pr) (w:List Nat),(∀s∈l,s.1<64*c\/64*c+64<=s.1)->zu (zbo w l) c=zu w c
 | [],_,_=>rfl
 | s::l,w,h=>by
  have h1:=h s (zAV9 ..);have ih:=zky c l (w.set s.1 s.2) fun t ht=>h t (zAT9 _ ht);have e:zbo w (s::l)=zbo (w.set s.1 s.2) l:=rfl;rw[e,ih];unfold zu
  apply zES9
  intro j;rw[zCB9,zCB9,zBD9,zBD9]
  split
  ·rw[zAZ9 (by omega)]
  ·rfl
theorem zjF {b c:Nat}(hbc:b≠c)(l:List Pr)(w:List Nat)(h:∀s∈l,s.1<64):zu (zbo w (zbn (64*b) l)) c=zu w c :=
 zky c _ w fun s hs=>by
  unfold zbn at hs;obtain⟨y,hy,rfl⟩:=zAP9.1 hs;have:=h y hy;dsimp only;rcases Nat.lt_or_gt_of_ne hbc with h1|h1
  ·left;omega
  ·right;omega
theorem zfV (a:Nat)(l:List Pr):(zbn a l).length=l.length:=by unfold zbn;simp
structure zhK (fr:List Nat)(rr:Nat)(x:Wk)(way:List Nat):Prop where
 hfr:x.fr=frV rr fr
 hN:x.W.length<=131072
 inn:∀c∈way,64*c+64<=x.W.length
 nd:way.Nodup
 chk:∀c∈way,zbh (zu x.W c)=0
 ful:∀b,way.head?=some b->27<=(zaa (zu x.W b)).pairs.length
 frN:∀f∈fr,1<=f/\64*f+64<=x.W.length
 out:∀f∈fr,f ∉ way
 few:way.length<=20
 hL:x.L.length+300*way.length<900000
 hu:x.used<=fr.length
 fl:fr.length<100000
def Wk.cut (x:Wk)(b to:Nat):Wk:=(x.up.does (zbn (64*to) (zbV (zbr (zcb (zaa (zu x.W b))))))).does (zbn (64*b) (zeP (zaa (zu x.W b)) to))
def Wk.fin (y:Wk)(ab to low:Nat):Wk×Nat×Nat×Nat:=(y.does (zbn (64*ab) (zb0 (zu y.W ab) (low,to)).1),to,low,0)
def Wk.split (fr:List Nat)(at':Nat):List Nat->Wk->Wk×Nat×Nat×Nat
 | [],x=>(x,0,0,0)
 | [b],x=>if fr.length<=x.used then(x,0,0,221)else(x.cut b (fr.getD x.used 0)).root fr at' b (fr.getD x.used 0) ((zbr (zcb (zaa (zu x.W b)))).getD 2 0)
 | b::above::up,x=>if fr.length<=x.used then(x,0,0,221)else
  if 27<=(ofN (zu (x.cut b (fr.getD x.used 0)).W above)).pairs.length then
   (if(Wk.split fr at' (above::up) (x.cut b (fr.getD x.used 0))).2.2.2=0 then
    (Wk.split fr at' (above::up) (x.cut b (fr.getD x.used 0))).1.fin (if(Wk.split fr at' (above::up) (x.cut b (fr.getD x.used 0))).2.2.1<=(zbr (zcb (zaa (zu x.W b)))).getD 2 0 then(Wk.split fr at' (above::up) (x.cut b (fr.getD x.used 0))).2.1 else above) (fr.getD x.used 0) ((zbr (zcb (zaa (zu x.W b)))).getD 2 0)
   else(x.cut b (fr.getD x.used 0),0,0,(Wk.split fr at' (above::up) (x.cut b (fr.getD x.used 0))).2.2.2))
  else(x.cut b (fr.getD x.used 0)).fin above (fr.getD x.used 0) ((zbr (zcb (zaa (zu x.W b)))).getD 2 0)
theorem zud {w:List Nat}(h:zbh w=0):ofN w=zaa w:=by unfold ofN;rw[if_pos (zc7 h)]
end Fv
end Go.Proofs.YtfomlmhnmheenaaGreat
namespace Go.Proofs.YtfomlmhnmheenaaGreat
namespace Fv
open Tw
set_option maxRecDepth 100000
structure zxU (fr:List Nat)(x y:Wk)(b to:Nat):Prop where
 W:y.W.length=x.W.length
 fr':y.fr=x.fr
 used:y.used=x.used+1
 L:y.L.length<=x.L.length+93
 blk:∀c,c≠b->c≠to->zu y.W c=zu x.W c
theorem zfa (fr:List Nat)(x:Wk)(b to:Nat)(hp:(zaa (zu x.W b)).pairs.length<=28):zxU fr x (x.cut b to) b to:=by
 have e1:=zvU (zdO (zcb (zaa (zu x.W b))));have e2:=zrI (n:=zaa (zu x.W b)) to hp;unfold Wk.cut;generalize zbV (zbr (zcb (zaa (zu x.W b))))=A at *
 generalize zeP (zaa (zu x.W b)) to=B at *
 have d1:=zcH (zbn (64*to) A) x.up;have d2:=zcH (zbn (64*b) B) (x.up.does (zbn (64*to) A));rw[zfV]at d1 d2;refine⟨d2.1.trans d1.1,d2.2.2.1.trans d1.2.2.1,d2.2.2.2.trans d1.2.2.2,?_,fun c h1 h2=>?_⟩
 ·rw[d2.2.1,d1.2.1];show x.L.length+A.length+B.length<=_;omega
 ·rw[zis,zis,zjF (Ne.symm h1) _ _ e2.2,zjF (Ne.symm h2) _ _ e1.2];rfl
theorem zhK.to {fr:List Nat}{rr:Nat}{x:Wk}{way:List Nat}(h:zhK fr rr x way)(hu:x.used<fr.length):fr.getD x.used 0∈fr:=by
 rw[zAQ9,zAB9 hu];exact zBP9 hu
theorem zhK.cut {fr:List Nat}{rr:Nat}{x:Wk}{b above:Nat}{up:List Nat}(h:zhK fr rr x (b::above::up))(hu:x.used<fr.length)(hf:27<=(ofN (zu (x.cut b (fr.getD x.used 0)).W above)).pairs.length):zhK fr rr (x.cut b (fr.getD x.used 0)) (above::up):=by
 have c:=zfa fr x b (fr.getD x.used 0) (zck _);have hto:=h.to hu;generalize x.cut b (fr.getD x.used 0)=y at *
 have hnd:=zEZ9.1 h.nd;have hblk:∀k∈above::up,zu y.W k=zu x.W k:=fun k hk=>c.blk k (fun e=>hnd.1 (e ▸ hk)) fun e=>h.out _ hto (e ▸ zAT9 _ hk);have hchk:∀k∈above::up,zbh (zu y.W k)=0:=fun k hk=>by rw[hblk k hk];exact h.chk k (zAT9 _ hk)
 refine⟨c.fr'.trans h.hfr,by rw[c.W];exact h.hN,fun k hk=>by rw[c.W];exact h.inn k (zAT9 _ hk),hnd.2,hchk,fun k hk=>?_,fun f hf=>by rw[c.W];exact h.frN f hf,fun f hf hk=>h.out f hf (zAT9 _ hk),?_,?_,?_,h.fl⟩
 ·simp at hk;subst hk;rw[<- zud (hchk _ (zAV9 ..))];exact hf
 ·have:=h.few;simp at this⊢;omega
 ·have h1:=h.hL;have h2:=c.L;simp only[zAE9]at h1⊢;omega
 ·rw[c.used];omega
structure zvu (fr:List Nat)(x:Wk)(k:Nat)(R:Wk×Nat×Nat×Nat):Prop where
 W:R.1.W.length=x.W.length
 fr':R.1.fr=x.fr
 L:R.1.L.length<=x.L.length+300*k
 used:R.1.used<=fr.length
 inn:R.2.2.2=0->64*R.2.1+64<=x.W.length
theorem zqo {fr:List Nat}{x:Wk}(at' b to low:Nat)(hu:x.used<=fr.length)(hto:64*to+64<=x.W.length):(x.root fr at' b to low).1.W.length=x.W.length/\(x.root fr at' b to low).1.fr=x.fr/\(x.root fr at' b to low).1.L.length<=x.L.length+65/\(x.root fr at' b to low).1.used<=fr.length/\((x.root fr at' b to low).2.2.2=0->64*(x.root fr at' b to low).2.1+64<=x.W.length):=by
 unfold Wk.root
 split
 ·exact⟨rfl,rfl,Nat.le_add_right _ _,hu,fun h=>by cases h⟩
 rename_i h1
 split
 ·exact⟨rfl,rfl,by show x.L.length<=_;omega,by show x.used+1<=_;omega,fun h=>by cases h⟩
 have d1:=zcH (zbn (64*fr.getD x.used 0) (zbV (zbr (zdC (ofN (zu x.W b)) b to low)))) x.up;have d2:=zcH (zbn 0 [(at',fr.getD x.used 0)]) (x.up.does (zbn (64*fr.getD x.used 0) (zbV (zbr (zdC (ofN (zu x.W b)) b to low)))));rw[zfV]at d1 d2;rw[zet,zdO]at d1;refine⟨d2.1.trans d1.1,d2.2.2.1.trans d1.2.2.1,?_,?_,fun _=>hto⟩
 ·rw[d2.2.1,d1.2.1];show x.L.length+64+1<=_;omega
 ·rw[d2.2.2.2,d1.2.2.2];show x.used+1<=_;omega
theorem zrW {y:Wk}(ab to low:Nat)(hab:64*ab+64<=y.W.length):(y.fin ab to low).1.W.length=y.W.length/\(y.fin ab to low).1.fr=y.fr/\(y.fin ab to low).1.L.length<=y.L.length+71/\(y.fin ab to low).1.used=y.used:=by
 have n:=zh4 (x:=(low,to)) (zci y.W ab hab);unfold Wk.fin;have d:=zcH (zbn (64*ab) (zb0 (zu y.W ab) (low,to)).1) y;rw[zfV]at d;exact⟨d.1,d.2.2.1,by rw[d.2.1];omega,d.2.2.2⟩
theorem zjd {fr:List Nat}{rr at':Nat}:∀(up:List Nat) (b:Nat) (x:Wk),zhK fr rr x (b::up)->zvu fr x (up.length+1) (Wk.split fr at' (b::up) x)
 | [],b,x,h=>by
  unfold Wk.split
  split
  ·exact⟨rfl,rfl,Nat.le_add_right _ _,h.hu,fun h=>by cases h⟩
  rename_i hu;have hu:x.used<fr.length:=by omega
  have c:=zfa fr x b (fr.getD x.used 0) (zck _);have hto:=(h.frN _ (h.to hu)).2;generalize x.cut b (fr.getD x.used 0)=y at *
  have r:=zqo (fr:=fr) (x:=y) at' b (fr.getD x.used 0) ((zbr (zcb (zaa (zu x.W b)))).getD 2 0) (by rw[c.used];omega) (by rw[c.W];exact hto);exact⟨r.1.trans c.W,r.2.1.trans c.fr',by have:=r.2.2.1;have:=c.L;(try simp only[zAE9,zAH9]at *);omega,r.2.2.2.1,fun h=>by rw[<- c.W];exact r.2.2.2.2 h⟩
 | above::up,b,x,h=>by
  unfold Wk.split
  split
  ·exact⟨rfl,rfl,Nat.le_add_right _ _,h.hu,fun h=>by cases h⟩
  rename_i hu;have hu:x.used<fr.length:=by omega
  have c:=zfa fr x b (fr.getD x.used 0) (zck _);have hto:=(h.frN _ (h.to hu)).2;have hin:=h.inn above (by simp)
  split
  ·rename_i hf;have ih:=zjd (at':=at') up above _ (h.cut hu hf);generalize x.cut b (fr.getD x.used 0)=y at *
   generalize Wk.split fr at' (above::up) y=R at *
   have hL:=ih.L;have hcL:=c.L
   split
   ·rename_i h0;generalize hab:(if R.2.2.1<=(zbr (zcb (zaa (zu x.W b)))).getD 2 0 then R.2.1 else above)=ab;have hab2:64*ab+64<=R.1.W.length:=by
     rw[ih.W];subst hab
     split
     ·exact ih.inn h0
     ·rw[c.W];exact hin
    have f:=zrW (y:=R.1) ab (fr.getD x.used 0) ((zbr (zcb (zaa (zu x.W b)))).getD 2 0) hab2;exact⟨f.1.trans (ih.W.trans c.W),f.2.1.trans (ih.fr'.trans c.fr'),by have:=f.2.2.1;(try simp only[zAE9,zAH9]at *);omega,by rw[f.2.2.2];exact ih.used,fun _=>hto⟩
   ·rename_i h0;exact⟨c.W,c.fr',by(try simp only[zAE9,zAH9]at *);omega,by rw[c.used];omega,fun h=>absurd h h0⟩
  ·generalize x.cut b (fr.getD x.used 0)=y at *
   have f:=zrW (y:=y) above (fr.getD x.used 0) ((zbr (zcb (zaa (zu x.W b)))).getD 2 0) (by rw[c.W];exact hin);have hcL:=c.L;exact⟨f.1.trans c.W,f.2.1.trans c.fr',by have:=f.2.2.1;(try simp only[zAE9,zAH9]at *);omega,by rw[f.2.2.2,c.used];omega,fun _=>hto⟩
theorem zu6 {n:zB}{f:Nat}(h1:1<=f)(h2:f<=2047)(h3:2<=n.pairs.length):ziR n f=.ret (.tuple [wv 0 (zbr (zcb n)),.list 0 2 ((zeP n f).map zat),iv 0]):=by
 unfold ziR;rw[if_pos (by unfold ziv;simp;omega),zCU9]
theorem ztC {w:List Nat}{n:zB}(hn:zaa w=n){f:Nat}(hc:zbh w=0)(h1:1<=f)(h2:f<=2047)(h3:2<=n.pairs.length):zoU w f=.ret (.tuple [wv 0 (zbr (zcb n)),.list 0 2 ((zeP n f).map zat),iv 0]):=by
 unfold zoU;rw[if_pos hc,hn];exact zu6 h1 h2 h3
attribute [local go_sem] zaZ zaz zab zap evs ev okv zbj zT.cls za5 za7 za9 zQ zR upd zo zaS zaQ zaR zax zaL zaP zaT zaM zaY zaO zar zaV zaU zaX zaW zaK zaN zae zaC zaJ zal zak zbg PV.cells ofC za6 zV zao okF zaf spl zaB zaF bnd zai zam zan za3 zbb zU zau zaH zaj za8 zbd zW lenP zc zk zah zba PV.toT zaA zH Nat.mul_mod_right Int.reduceOfNat Int.reduceToNat Int.cast_ofNat_Int Int.reduceLE Int.reduceLT Int.reduceAdd Int.reduceSub Int.reduceMul Int.reduceNegSucc Nat.reduceEqDiff if_true if_false ite_true ite_false decide_true decide_false Bool.not_true Bool.not_false and_true true_and and_self false_and and_false or_false false_or or_true true_or or_self List.length_cons List.length_nil List.length_map List.getElem?_cons_zero List.getElem?_cons_succ List.getElem?_map List.getElem?_nil Option.map_some Option.map_none Option.getD_some List.append_nil List.nil_append List.cons_append List.take_succ_cons List.take_zero List.drop_zero List.drop_succ_cons List.set_cons_zero List.set_cons_succ Int.toNat_natCast Int.natCast_nonneg Nat.le_refl Nat.zero_le Nat.reduceAdd Nat.reduceSub Nat.reduceMul Nat.reduceLeDiff Nat.reduceLT Bool.false_eq_true Bool.true_eq_false Nat.add_zero Nat.zero_add List.all_cons List.all_nil Bool.and_true Bool.and_self Bool.true_and Nat.reduceMod Nat.reduceDiv eq_self zaq zaD zX za4 evN za0 dpF zaI zbf zaw za1 zbe zaE List.filter_cons List.filter_nil List.contains_cons List.contains_nil Nat.reduceBEq zac zad zP Option.some.injEq Option.isSome_some wrap_i64 zJ zaG Bool.or_self Bool.or_false Bool.false_or daF dnF xT T4 T5 T8 T9 T10 T11 T12 T13 T14 T15 T16 T17 T18 T19 T20 T21 T22 T23 T24 T25 T26 T27 T28 T30 T33 T34 T36 T37 T38 T39 T40 T41 T42 T43 T44 T45 T46 T47 T48 T49 T50 T51 T52 T53 T54 T55 T56 T57 T58 T59 T60 T61 T62 T63 T64 T65 T66 T67 T68 T69 T70 T71 T72 T73 T75 T76 T77 T80 T81 T82 T83 T84 T85 T86 T87 T88 T89 T90 T91 T92 T93 T94 T95 T96 T97 T98 T99 T100 T101 T102 T103 T104 T105 T106 T107 T108 T109 T110 T111 T112 T113 T114 T115 T116 T119 T120 T121 T122 T123 T124 T125 T126 T129 T130 T131 T132 T133 T134 T135 T136 T137 T138 T139 T140 T141 T142 T143 T144 T145 T146 T147 T148 T149 T150 T151 T152 T153 T154 T155 T156 T157 T158 T159 T160 T161 T162 T163 T164 T165 T166 T167 T168 T169 T170 T171 T173 T174 T175 T176 T177 T178 T181 T182 T183 T184 T185 T186 T187 T188 T189 T190 T191 T192 T193 T194 T195 T196 T197 T198 T199 T200 T201 T202 T203 T204 T205 T206 T207 T208 T209 T210 T211 T212 T213 T214 T215 T216 T217 T218 T219 T220 T222 T223
attribute [local go_sem ↓] reduceIte
theorem f81:ET.funcs.get 81=some T81:=zL Tryz.func81
@[reducible] def zd1 (ws:List Nat):List PV:=ws.map fun (b:Nat)=>iv (b:Int)
theorem ziY {fr:List Nat}{at' b:Nat}{up:List Nat}{x:Wk}(h:fr.length<=x.used):Wk.split fr at' (b::up) x=(x,0,0,221):=by
 cases up<;>(unfold Wk.split;rw[if_pos h])
structure UpF (fr:List Nat)(rr at':Nat)(N:Nat)(z:Wk)(R:Wk×Nat×Nat×Nat)(f low:Nat)(above:Nat)(up':List Nat)(fb:Bool):Prop where
 inn:64*above+64<=N
 full:FN ET 124 [wkv z,iv above] (.ret (.bool fb))
 no:fb=false->R=z.fin above f low
 yes:fb=true->∃S,R=(if S.2.2.2=0 then S.1.fin (if S.2.2.1<=low then S.2.1 else above) f low else(z,0,0,S.2.2.2))/\zvu fr z (up'.length+1) S/\∀r,FP ET 81 [wkv z,.list r 1 (zd1 (up'.reverse++[above])),iv at'] (.ret (wk4 S))
set_option maxHeartbeats 4000000 in
theorem zpy (fr:List Nat)(rr at' r:Nat)(up:List Nat)(b f:Nat)(x y z:Wk)(R:Wk×Nat×Nat×Nat)(p:Nat)(blk LW:List Nat)(D:List Pr)(hfr:x.fr=frV rr fr)(hN:x.W.length<=131072)(hat:at'<x.W.length)(hfew:up.length+1<=20)(hLb:x.L.length+300*(up.length+1)<900000)(hfl:fr.length<100000)(hul:x.used<fr.length)(hf:fr[x.used]?=some f)(hfb:64*f+64<=x.W.length)(hbin:64*b+64<=x.W.length)
  (hat48:FP ET 48 [wkv x.up,iv b] (.ret (wv p blk))) (hSp:FN ET 121 [wv p blk,iv f] (.ret (.tuple [wv 0 LW,.list 0 2 (D.map zat),iv 0]))) (hLW:LW.length=64) (hbk:FP ET 122 [wkv x.up,iv f,wv 0 LW] (.ret (wkv y))) (hyf:y.fr=frV rr fr) (hdo:FP ET 49 [wkv y,iv (64*b:Nat),.list 0 2 (D.map zat)] (.ret (wkv z))) (hzf:z.fr=frV rr fr) (c1:z.W.length=x.W.length) (c4:z.L.length<=x.L.length+93) (c3:z.used<=fr.length) (hfrN:∀g∈fr,64*g+64<=x.W.length)
  (hRn:up=[]->R=z.root fr at' b f (LW.getD 2 0)) (hRc:∀above up',up=above::up'->∃fb,UpF fr rr at' x.W.length z R f (LW.getD 2 0) above up' fb) :
  FP ET 81 [wkv x,.list r 1 (zd1 (up.reverse++[b])),iv at'] (.ret (wk4 R)):=by
 refine zfp f81 ?_;have hid0:Id0 x.fr:=by rw[hfr];exact .list _ _ _
 have hidu:Id0 (wkv x.up):=zcL hid0;have hxv:wkv x=.agg [wv x.p x.W,.list x.q 2 (x.L.map zat),frV rr fr,iv x.used]:=by unfold wkv;rw[hfr]
 have huv:wkv x.up=.agg [wv x.p x.W,.list x.q 2 (x.L.map zat),frV rr fr,iv ((x.used+1:Nat):Int)]:=by rw[<- hfr];rfl
 rw[hxv];obtain⟨WL,hWL⟩:∃WL,WL=zd1 (up.reverse++[b]):=⟨_,rfl⟩
 have hw1:WL.length=up.length+1:=by rw[hWL];simp
 have hw2:WL[up.length]?=some (iv b):=by rw[hWL,zAG9,zAO9 (by simp)];simp
 have hw3:WL.take up.length=zd1 up.reverse:=by rw[hWL];simp[List.take_append]
 have hw4:((up.length+1:Nat):Int)-1=(up.length:Nat):=by omega
 have hw5:up.length<up.length+1:=zBT9 _;rw[<- hWL];clear hWL;have g:¬(fr.length:Int)<=(x.used:Nat):=by omega
 have hfv:(fr.map fun(b:Nat)=>iv (b:Int))[x.used]?=some (iv f):=by rw[zAG9,hf];rfl
 (repeat(first|refine za ?_|refine zgo ?_ (by simp(disch:=omega)only[go_sem,g,hw1,hw2,hw4,hw5,zAA9]<;>rfl)));refine zfc ?_ ?_
 ·intro h;cases h
 intro _;refine zF ?_;show W _ _ _ _ _ _;have w2:(x.used:Int)+1=((x.used+1:Nat):Int):=by omega
 (repeat refine za ?_);refine zgo ?_ (by simp(disch:=omega)only[go_sem,g,hul,hfv,zAA9]<;>rfl);(repeat refine za ?_);refine zgo ?_ (by simp(disch:=omega)only[go_sem,w2]<;>rfl);have hy0:Id0 y.fr:=by rw[hyf];exact .list _ _ _
 have hidy:Id0 (wkv y):=zcL hy0;have hidz0:Id0 z.fr:=by rw[hzf];exact .list _ _ _
 have hidz:Id0 (wkv z):=zcL hidz0;rw[<- huv];have w1:IntKind.i64.wrap ((64:Int)*(b:Int))=((64*b:Nat):Int):=by rw[wrap_i64 (by omega) (by omega)];omega
 refine zdk (fun tm=>tm 1=.list r 1 WL/\tm 2=iv at'/\tm 3=.ptr 0 0 0 0 4/\tm 6=.ptr 1 0 0 0 4/\tm 10=iv b/\tm 11=iv f) ⟨by simp[upd,zo],by simp[upd,zo],by simp[upd,zo],by simp[upd,zo],by simp[upd,zo],by simp[upd,zo]⟩ ?_;rintro tm ⟨h1,h2,h3,h6,h10,h11⟩;rw[huv]at hidu hat48 hbk⊢;(repeat refine za ?_);refine zrg ?_ (by simp(disch:=omega)only[go_sem,h3,h10,h11]<;>rfl);refine zcg (by first|rfl|(simp only[go_sem]<;>rfl)) (by simp only[go_sem]<;>rfl) hat48 rfl ?_ ?_;(repeat(first|exact trivial|refine And.intro ?_ ?_|exact Id0.int _ _|exact Id0.bool _|exact Id0.list _ _ _|exact Id0.elem _|exact Id0.nilsl|exact Id0.str _|exact zcj _ _ _))
 ·exact hidu
 ·(repeat(first|exact trivial|refine And.intro ?_ ?_|exact Id0.int _ _|exact Id0.bool _|exact Id0.list _ _ _|exact Id0.elem _|exact Id0.nilsl|exact Id0.str _|exact zcj _ _ _))
 refine zfx ?_ (by simp(disch:=omega)only[go_sem,h11]<;>rfl);refine zca hSp ?_;refine zfx ?_;refine zh ?_;unfold wkv at hbk hdo hidy;rw[hzf]at hdo
 have hzv:wkv z=.agg [wv z.p z.W,.list z.q 2 (z.L.map zat),frV rr fr,iv z.used]:=by unfold wkv;rw[hzf]
 (repeat refine za ?_);refine zrg ?_ (by simp(disch:=omega)only[go_sem,h3,h10,h11,w1]<;>rfl);refine zcg (by first|rfl|(simp only[go_sem]<;>rfl)) (by simp only[go_sem]<;>rfl) hbk rfl ?_ ?_;(repeat(first|exact trivial|refine And.intro ?_ ?_|exact Id0.int _ _|exact Id0.bool _|exact Id0.list _ _ _|exact Id0.elem _|exact Id0.nilsl|exact Id0.str _|exact zcj _ _ _))
 ·exact hidu
 ·(repeat(first|exact trivial|refine And.intro ?_ ?_|exact Id0.int _ _|exact Id0.bool _|exact Id0.list _ _ _|exact Id0.elem _|exact Id0.nilsl|exact Id0.str _|exact zcj _ _ _))
 refine zfx ?_ (by simp(disch:=omega)only[go_sem,h10,w1]<;>rfl);refine zcg (by first|rfl|(simp only[go_sem]<;>rfl)) (by simp only[go_sem]<;>rfl) hdo rfl ?_ ?_;(repeat(first|exact trivial|refine And.intro ?_ ?_|exact Id0.int _ _|exact Id0.bool _|exact Id0.list _ _ _|exact Id0.elem _|exact Id0.nilsl|exact Id0.str _|exact zcj _ _ _))
 ·exact hidy
 ·(repeat(first|exact trivial|refine And.intro ?_ ?_|exact Id0.int _ _|exact Id0.bool _|exact Id0.list _ _ _|exact Id0.elem _|exact Id0.nilsl|exact Id0.str _|exact zcj _ _ _))
 refine zfx ?_ (by simp(disch:=omega)only[go_sem,h3]<;>rfl);refine zh ?_;refine zdk (fun tm=>tm 1=.list r 1 WL/\tm 2=iv at'/\tm 3=.ptr 0 0 0 0 4/\tm 6=.ptr 1 0 0 0 4/\tm 10=iv b/\tm 11=iv f/\tm 12=wv 0 LW) ⟨by simp[upd,h1],by simp[upd,h2],by simp[upd,h3],by simp[upd,h6],by simp[upd,h10],by simp[upd,h11],by simp[upd]⟩ ?_;clear h1 h2 h3 h6 h10 h11 hbk hdo hSp hat48 hidu huv;rintro tm ⟨h1,h2,h3,h6,h10,h11,h12⟩;have hL2:2<LW.length:=by omega
 have hLW2:=zcr hL2;have hlow:∃low,LW.getD 2 0=low:=⟨_,rfl⟩
 obtain⟨low,hlow⟩:=hlow;rw[hlow]at hLW2 hRn hRc;have hf48:f<2048:=by omega
 cases up with
 | nil =>
  have hw1:WL.length=1:=hw1;have hroot:=zsm z rr fr hzf at' b f low (by omega) (by omega) (by omega) hf48 (fun g hg=>by rw[c1];exact hfrN g hg) (by omega) (by omega);have hro:=zqo (fr:=fr) (x:=z) at' b f low (by omega) (by omega);rw[hRn rfl];generalize z.root fr at' b f low=RR at *
  obtain⟨R1,R2,R3,R4⟩:=RR;have hR0:Id0 R1.fr:=by rw[show R1.fr=z.fr from hro.2.1];exact hidz0
  have hR1v:wkv R1=.agg [wv R1.p R1.W,.list R1.q 2 (R1.L.map zat),frV rr fr,iv R1.used]:=by unfold wkv;rw[show R1.fr=z.fr from hro.2.1,hzf]
  clear hRn hRc hro;unfold wk4 at hroot;dsimp only at hroot;rw[hR1v,hzv]at hroot;rw[hzv]at hidz;(repeat(first|refine za ?_|refine zgo ?_ (by simp(disch:=omega)only[go_sem,h1,hw1]<;>rfl)));refine zfc ?_ ?_;rotate_left
  ·intro h;cases h
  intro _;(repeat refine za ?_);refine zag ?_;refine zdf hroot ⟨hidz,.int _ _,.int _ _,.int _ _,.int _ _,trivial⟩ ?_ (by simp(disch:=omega)only[go_sem,h2,h3,h10,h11,h12,hLW2,hL2,zAA9]<;>rfl);refine zda ?_ (by simp(disch:=omega)only[go_sem,h6]<;>rfl);refine zdl ?_ (by simp(disch:=omega)only[go_sem,h6,zCC9,zCJ9,zCD9,zCM9,zCZ9,Nat.reduceBEq,zac,zad,zP]<;>rfl);refine zM ?_;simp only[zi,zS,zb,go_sem];refine zq ?_;(try simp only[zb,zf,ze,zd,zi,zg,if_true,reduceIte]);refine zj (vs:=[wkv R1,iv R2,uv R3,iv R4]) ?_ ?_
  ·rw[hR1v];simp[T81,xT,zE,okv,upd,h6,zae,zaC,zaJ,PV.cells]
  ·exact zf4 hR0 R2 R3 R4
 | cons above up' =>
  obtain⟨fb,hU⟩:=hRc above up' rfl;obtain⟨u1,u2,u3,u4⟩:=hU;clear hRn hRc;simp only[zAE9]at hw1 hw2 hw3 hw4 hw5 hfew hLb;rw[zER9]at hw3;have g1:¬((up'.length+1+1:Nat):Int)=1:=by omega
  have hw6:up'.length+1<=up'.length+1+1:=by omega
  obtain⟨WU,hWU⟩:∃WU,WU=zd1 (up'.reverse++[above]):=⟨_,rfl⟩
  have hu1:WU.length=up'.length+1:=by rw[hWU];simp
  have hu2:WU[up'.length]?=some (iv above):=by rw[hWU,zAG9,zAO9 (by simp)];simp
  have hu4:((up'.length+1:Nat):Int)-1=(up'.length:Nat):=by omega
  have hu5:up'.length<up'.length+1:=zBT9 _;rw[<- hWU]at hw3 u4;clear hWU;(repeat(first|refine za ?_|refine zgo ?_ (by simp(disch:=omega)only[go_sem,h1,hw1,g1]<;>rfl)));refine zfc ?_ ?_
  ·intro h;cases h
  intro _;refine zF ?_;show W _ _ _ _ _ _;(repeat(first|refine za ?_|refine zgo ?_ (by simp(disch:=omega)only[go_sem,h1,hw1,hw3,hw4,hw6]<;>rfl)));(repeat(first|refine za ?_|refine zgo ?_ (by simp(disch:=omega)only[go_sem,hu1,hu2,hu4,hu5]<;>rfl)));rw[hzv]at u2 hidz;(repeat refine za ?_);refine zrg ?_ (by simp(disch:=omega)only[go_sem,h3]<;>rfl);refine zca u2 ?_;refine zfx ?_;refine zh ?_;have c1L:64*above+64<=z.W.length:=by omega
  (repeat refine za ?_);refine zbA (Q:=fun yy s'=>(yy=.norm/\∃(v:Wk) (ab:Nat) (G:List zn),R=v.fin ab f low/\v.fr=frV rr fr/\v.W.length=x.W.length/\v.L.length<=899900/\64*ab+64<=x.W.length/\s'.tm 3=.ptr 0 0 0 0 4/\s'.tm 6=.ptr 1 0 0 0 4/\s'.tm 11=iv f/\s'.tm 12=wv 0 LW/\s'.tm 16=iv ab/\s'.df=[]/\s'.H=.row 107 4 0 0 [.agg [wv v.p v.W,.list v.q 2 (v.L.map zat),frV rr fr,iv v.used]]::.row 107 4 0 0 [.agg [.nilsl,.nilsl,.nilsl,iv 0]]::G)\/(yy=.ret/\zcT ET T81 (fun e' H=>zay H 0 e' (.ret (wk4 R))) .ret s')) ?_ ?_
  ·cases fb with
   | false =>
    refine zfc ?_ ?_
    ·intro h;cases h
    intro _;refine zF ?_;refine .inl ⟨rfl,z,above,[],u3 rfl,hzf,c1,by omega,u1,by simp[upd,h3],by simp[upd,h6],by simp[upd,h11],by simp[upd,h12],by simp[upd],rfl,rfl⟩
   | true =>
    obtain⟨S,hS,hSO,hIH⟩:=u4 rfl;have hIH:=hIH r;obtain⟨S1,S2,S3,S4⟩:=S;obtain⟨o1,o2,o3,o4,o5⟩:=hSO;dsimp only at o1 o2 o3 o4 o5 hS;have hS1v:wkv S1=.agg [wv S1.p S1.W,.list S1.q 2 (S1.L.map zat),frV rr fr,iv S1.used]:=by unfold wkv;rw[o2,hzf]
    unfold wk4 at hIH;dsimp only at hIH;rw[hS1v,hzv]at hIH;refine zfc ?_ ?_;rotate_left
    ·intro h;cases h
    intro _;(repeat refine za ?_);refine zrg ?_ (by simp(disch:=omega)only[go_sem,h2,h3]<;>rfl);refine zcg (by first|rfl|(simp only[go_sem]<;>rfl)) (by simp only[go_sem]<;>rfl) hIH rfl ?_ ?_;(repeat(first|exact trivial|refine And.intro ?_ ?_|exact Id0.int _ _|exact Id0.bool _|exact Id0.list _ _ _|exact Id0.elem _|exact Id0.nilsl|exact Id0.str _|exact zcj _ _ _))
    ·exact hidz
    ·(repeat(first|exact trivial|refine And.intro ?_ ?_|exact Id0.int _ _|exact Id0.bool _|exact Id0.list _ _ _|exact Id0.elem _|exact Id0.nilsl|exact Id0.str _|exact zcj _ _ _))
    refine zfx ?_;refine zh ?_
    by_cases h0:S4=0
    rotate_left
    ·have g2:¬(S4:Int)=0:=by omega
     rw[if_neg h0]at hS;(repeat(first|refine za ?_|refine zgo ?_ (by simp(disch:=omega)only[go_sem,g2,zc,zk]<;>rfl)));refine zfc ?_ ?_;rotate_left
     ·intro h;cases h
     intro _;(repeat(first|refine za ?_|refine zgo ?_ (by simp(disch:=omega)only[go_sem,h3,h6,zc,zk]<;>rfl)));refine zq ?_;(try simp only[zb,zf,ze,zd,zi,zg,if_true,reduceIte]);refine .inr ⟨(by first|exact trivial|rfl),?_⟩;refine zj (vs:=[wkv z,iv 0,uv 0,iv S4]) ?_ ?_
     ·rw[hzv];simp[T81,xT,zE,okv,upd,h6,zae,zaC,zaJ,PV.cells]
     ·rw[hS];exact zf4 hidz0 0 0 S4
    have g2:(S4:Int)=0:=by omega
    rw[if_pos h0]at hS;(repeat(first|refine za ?_|refine zgo ?_ (by simp(disch:=omega)only[go_sem,g2,zc,zk]<;>rfl)));refine zfc ?_ ?_
    ·intro h;cases h
    intro _;refine zF ?_;show W _ _ _ _ _ _;have hS2in:=o5 h0
    by_cases hlo:S3<=low
    ·have g3:(S3:Int)<=(low:Nat):=by omega
     rw[if_pos hlo]at hS;(repeat(first|refine za ?_|refine zgo ?_ (by simp(disch:=omega)only[go_sem,h3,h12,hLW2,hL2,g3,zc,zk,zAA9]<;>rfl)));refine zfc ?_ ?_;rotate_left
     ·intro h;cases h
     intro _;(repeat refine za ?_);refine zrg ?_;refine zy ?_;simp only[zb,zf,ze,zd,zi,zg,if_true,↓reduceIte];refine .inl ⟨(by first|exact trivial|rfl),S1,S2,_,hS,by rw[o2,hzf],by omega,by omega,by omega,by simp[upd,h3],by simp[upd,h6],by simp[upd,h11],by simp[upd,h12],by simp[upd],trivial,rfl⟩
    ·have g3:¬(S3:Int)<=(low:Nat):=by omega
     rw[if_neg hlo]at hS;(repeat(first|refine za ?_|refine zgo ?_ (by simp(disch:=omega)only[go_sem,h3,h12,hLW2,hL2,g3,zc,zk,zAA9]<;>rfl)));refine zfc ?_ ?_
     ·intro h;cases h
     intro _;refine zF ?_;(try simp only[zb,zf,ze,zd,zi,zg,if_true,reduceIte]);refine .inl ⟨(by first|exact trivial|rfl),S1,above,_,hS,by rw[o2,hzf],by omega,by omega,by omega,by simp[upd,h3],by simp[upd,h6],by simp[upd,h11],by simp[upd,h12],by simp[upd],(by first|exact trivial|rfl),rfl⟩
  clear h1 h2 h3 h6 h10 h11 h12 u2 u3 u4 hidz hzv;rintro yy ⟨tm,df,H⟩ (⟨rfl,v,ab,G,hR,hvf,hvW,hvL,hab,h3,h6,h11,h12,h16,rfl,rfl⟩|⟨rfl,hfin⟩);rotate_left
  ·(try simp only[zb,zf,ze,zd,zi,zg,if_true,reduceIte]);exact hfin
  dsimp only at h3 h6 h11 h12 h16;simp only[zb,zf,ze,zd,zi,zg,if_true,reduceIte];have hv0:Id0 v.fr:=by rw[hvf];exact .list _ _ _
  have hvv:wkv v=.agg [wv v.p v.W,.list v.q 2 (v.L.map zat),frV rr fr,iv v.used]:=by unfold wkv;rw[hvf]
  have hidv:=zcL hv0;have hat2:=zfO v hv0 ab (by omega) (by omega);have hblen:=zci v.W ab (by omega);have hpu:=zk8 v.p (zu v.W ab) (low,f) (by rw[hblen];decide);have hpa:=zh4 (x:=(low,f)) hblen;have hdo2:=zfg v hv0 (64*ab) 0 (zb0 (zu v.W ab) (low,f)).1 (by omega) (by omega) fun c hc=>by have:=hpa.2 c hc;omega
  have hfv:v.fin ab f low=(v.does (zbn (64*ab) (zb0 (zu v.W ab) (low,f)).1),f,low,0):=rfl;rw[hfv]at hR;have hqf:(v.does (zbn (64*ab) (zb0 (zu v.W ab) (low,f)).1)).fr=frV rr fr:=(zcH _ v).2.2.1.trans hvf;generalize v.does (zbn (64*ab) (zb0 (zu v.W ab) (low,f)).1)=q at *
  have hqv:wkv q=.agg [wv q.p q.W,.list q.q 2 (q.L.map zat),frV rr fr,iv q.used]:=by unfold wkv;rw[hqf]
  generalize zb0 (zu v.W ab) (low,f)=pr at *
  have w3:IntKind.u64.wrap (f:Int)=(f:Int):=zJ (by omega) (by omega);have w4:IntKind.i64.wrap ((64:Int)*(ab:Int))=((64*ab:Nat):Int):=by rw[wrap_i64 (by omega) (by omega)];omega
  rw[hvv]at hat2 hidv hdo2;rw[hqv]at hdo2;(repeat refine za ?_);refine zag ?_;refine zdf hat2 ⟨hidv,.int _ _,trivial⟩ ?_ (by simp(disch:=omega)only[go_sem,h3,h11,h12,h16,hLW2,hL2,w3,zAA9]<;>rfl);refine zdn hpu ?_ (by simp(disch:=omega)only[go_sem,h3,h11,h12,h16,hLW2,hL2,w3,zAA9]<;>rfl);refine zdl ?_ (by simp(disch:=omega)only[go_sem,h3]<;>rfl);refine zM ?_;simp only[zi,zS,zb,go_sem];(repeat refine za ?_);refine zag ?_;refine zdf hdo2 ⟨hidv,.int _ _,.list _ _ _,trivial⟩ ?_ (by simp(disch:=omega)only[go_sem,h3,h11,h12,h16,hLW2,hL2,w4,zAA9]<;>rfl);refine zda ?_ (by simp(disch:=omega)only[go_sem,h6,h12]<;>rfl);refine zdl ?_ (by simp(disch:=omega)only[go_sem,h6,zCC9,zCJ9,zCD9,zCM9,zCZ9,Nat.reduceBEq,zac,zad,zP]<;>rfl);refine zM ?_;simp only[zi,zS,zb,go_sem];refine zq ?_;(try simp only[zb,zf,ze,zd,zi,zg,if_true,reduceIte]);refine zj (vs:=[wkv q,iv f,uv low,iv 0]) ?_ ?_
  ·rw[hqv];simp[T81,xT,zE,okv,upd,h6,zae,zaC,zaJ,PV.cells]
  ·rw[hR];exact zf4 (by rw[hqf];exact .list _ _ _) f low 0
theorem zhs (fr:List Nat)(rr at' r:Nat)(up:List Nat)(b:Nat)(x:Wk)(hfr:x.fr=frV rr fr)(hfew:up.length+1<=20)(hus:fr.length<=x.used) :
  FP ET 81 [wkv x,.list r 1 (zd1 (up.reverse++[b])),iv at'] (.ret (wk4 (x,0,0,221))):=by
 refine zfp f81 ?_;have hid0:Id0 x.fr:=by rw[hfr];exact .list _ _ _
 have hxv:wkv x=.agg [wv x.p x.W,.list x.q 2 (x.L.map zat),frV rr fr,iv x.used]:=by unfold wkv;rw[hfr]
 rw[hxv];obtain⟨WL,hWL⟩:∃WL,WL=zd1 (up.reverse++[b]):=⟨_,rfl⟩
 have hw1:WL.length=up.length+1:=by rw[hWL];simp
 have hw2:WL[up.length]?=some (iv b):=by rw[hWL,zAG9,zAO9 (by simp)];simp
 have hw4:((up.length+1:Nat):Int)-1=(up.length:Nat):=by omega
 have hw5:up.length<up.length+1:=zBT9 _;rw[<- hWL];clear hWL;have g:(fr.length:Int)<=(x.used:Nat):=by omega
 (repeat(first|refine za ?_|refine zgo ?_ (by simp(disch:=omega)only[go_sem,g,hw1,hw2,hw4,hw5,zAA9]<;>rfl)));refine zfc ?_ ?_;rotate_left
 ·intro h;cases h
 intro _;(repeat(first|refine za ?_|refine zgo ?_));refine zq ?_;(try simp only[zb,zf,ze,zd,zi,zg,if_true,reduceIte]);refine zj (vs:=[wkv x,iv 0,uv 0,iv 221]) ?_ ?_
 ·rw[hxv];simp[T81,xT,zE,okv,upd,zo,zae,zaC,zaJ,PV.cells]
 ·exact zf4 hid0 0 0 221
theorem zkt (fr:List Nat)(rr at' r:Nat)(up:List Nat)(b:Nat)(x:Wk)(n:zB)(hn:zaa (zu x.W b)=n)(hI:zhK fr rr x (b::up))(hat:at'<x.W.length)(hu:x.used<fr.length)(hcf:zxU fr x (x.cut b (fr.getD x.used 0)) b (fr.getD x.used 0))
  (hp1:2<=n.pairs.length) (hp2:n.pairs.length<=28) (hcut:x.cut b (fr.getD x.used 0)=(x.up.does (zbn (64*fr.getD x.used 0) (zbV (zbr (zcb n))))).does (zbn (64*b) (zeP n (fr.getD x.used 0)))) (R:Wk×Nat×Nat×Nat)
  (hRn:up=[]->R=(x.cut b (fr.getD x.used 0)).root fr at' b (fr.getD x.used 0) ((zbr (zcb n)).getD 2 0)) (hRc:∀above up',up=above::up'->∃fb,UpF fr rr at' x.W.length (x.cut b (fr.getD x.used 0)) R (fr.getD x.used 0) ((zbr (zcb n)).getD 2 0) above up' fb) :
  FP ET 81 [wkv x,.list r 1 (zd1 (up.reverse++[b])),iv at'] (.ret (wk4 R)):=by
 have hto:=hI.to hu;have hf:fr[x.used]?=some (fr.getD x.used 0):=by rw[zAQ9,zAB9 hu];rfl
 obtain⟨hf1,hfb⟩:=hI.frN _ hto;have hN:=hI.hN;have hbin:=hI.inn b (zAV9 ..);have hchk:=hI.chk b (zAV9 ..);have hLb:=hI.hL;have hid0:Id0 x.fr:=by rw[hI.hfr];exact .list _ _ _
 generalize fr.getD x.used 0=f at *
 have hSp:=zq8 x.up.p (f:Int) (zu x.W b) (by rw[zci _ _ hbin];decide);rw[ztC hn hchk hf1 (by omega) hp1]at hSp;have eB:=zrI f hp2;have hLW:=zdO (zcb n);have hbk:=zkK x.up hid0 f 0 (zbr (zcb n)) (by rw[hLW];show x.L.length+64<1000000;simp only[zAE9]at hLb;omega) (by show x.W.length<1000000;omega) (by rw[hLW];exact hfb);have hy:=zcH (zbn (64*f) (zbV (zbr (zcb n)))) x.up;rw[zfV,zet,hLW]at hy;have hy0:Id0 (x.up.does (zbn (64*f) (zbV (zbr (zcb n))))).fr:=by rw[hy.2.2.1];exact hid0
 have hdo:=zfg (x.up.does (zbn (64*f) (zbV (zbr (zcb n))))) hy0 (64*b) 0 (zeP n f) (by rw[hy.2.1];show x.L.length+64+_<1000000;simp only[zAE9]at hLb;omega) (by rw[hy.1];show x.W.length<1000000;omega) fun c hc=>by
  rw[hy.1];show 64*b+c.1<x.W.length;have:=eB.2 c hc;omega
 rw[<- hcut]at hdo
 exact zpy fr rr at' r up b f x _ _ R x.up.p (zu x.W b) (zbr (zcb n)) (zeP n f) hI.hfr hN hat hI.few (by simpa using hLb) hI.fl hu hf hfb hbin (zfO x.up hid0 b hbin hN) hSp hLW hbk (hy.2.2.1.trans hI.hfr) hdo (hcf.fr'.trans hI.hfr) hcf.W hcf.L (by rw[hcf.used];omega) (fun g hg=>(hI.frN g hg).2) hRn hRc
theorem zll (fr:List Nat)(rr at':Nat):∀(up:List Nat) (b:Nat) (x:Wk) (r:Nat),zhK fr rr x (b::up)->at'<x.W.length->FP ET 81 [wkv x,.list r 1 (zd1 (up.reverse++[b])),iv at'] (.ret (wk4 (Wk.split fr at' (b::up) x)))
 | [],b,x,r,hI,hat=>by
  by_cases hus:fr.length<=x.used
  ·rw[ziY hus];exact zhs fr rr at' r [] b x hI.hfr (by decide) hus
  have hu:x.used<fr.length:=by omega
  have hful:=hI.ful b rfl;have hcf:=zfa fr x b (fr.getD x.used 0) (zck _);have hR:Wk.split fr at' [b] x=(x.cut b (fr.getD x.used 0)).root fr at' b (fr.getD x.used 0) ((zbr (zcb (zaa (zu x.W b)))).getD 2 0):=by
   unfold Wk.split;rw[if_neg hus]
  obtain⟨n,hn⟩:∃n,zaa (zu x.W b)=n:=⟨_,rfl⟩
  have hp2:=zck (zu x.W b);have hcut:x.cut b (fr.getD x.used 0)=(x.up.does (zbn (64*fr.getD x.used 0) (zbV (zbr (zcb (zaa (zu x.W b))))))).does (zbn (64*b) (zeP (zaa (zu x.W b)) (fr.getD x.used 0))):=rfl;rw[hn]at hful hp2 hR hcut;exact zkt fr rr at' r [] b x n hn hI hat hu hcf (by omega) hp2 hcut _ (fun _=>hR) fun above up' e=>by cases e
 | above::up',b,x,r,hI,hat=>by
  by_cases hus:fr.length<=x.used
  ·rw[ziY hus];exact zhs fr rr at' r (above::up') b x hI.hfr hI.few hus
  have hu:x.used<fr.length:=by omega
  have hful:=hI.ful b rfl;have hcf:=zfa fr x b (fr.getD x.used 0) (zck _);have hSc:=hI.cut hu;have hR:Wk.split fr at' (b::above::up') x=if 27<=(ofN (zu (x.cut b (fr.getD x.used 0)).W above)).pairs.length then
   (if(Wk.split fr at' (above::up') (x.cut b (fr.getD x.used 0))).2.2.2=0 then
    (Wk.split fr at' (above::up') (x.cut b (fr.getD x.used 0))).1.fin (if(Wk.split fr at' (above::up') (x.cut b (fr.getD x.used 0))).2.2.1<=(zbr (zcb (zaa (zu x.W b)))).getD 2 0 then(Wk.split fr at' (above::up') (x.cut b (fr.getD x.used 0))).2.1 else above) (fr.getD x.used 0) ((zbr (zcb (zaa (zu x.W b)))).getD 2 0)
   else(x.cut b (fr.getD x.used 0),0,0,(Wk.split fr at' (above::up') (x.cut b (fr.getD x.used 0))).2.2.2))
  else(x.cut b (fr.getD x.used 0)).fin above (fr.getD x.used 0) ((zbr (zcb (zaa (zu x.W b)))).getD 2 0):=by
   conv=>lhs;unfold Wk.split
   rw[if_neg hus]
  obtain⟨n,hn⟩:∃n,zaa (zu x.W b)=n:=⟨_,rfl⟩
  have hp2:=zck (zu x.W b);have hcut:x.cut b (fr.getD x.used 0)=(x.up.does (zbn (64*fr.getD x.used 0) (zbV (zbr (zcb (zaa (zu x.W b))))))).does (zbn (64*b) (zeP (zaa (zu x.W b)) (fr.getD x.used 0))):=rfl;rw[hn]at hful hp2 hR hcut;have hin:=hI.inn above (by simp);have hN:=hI.hN;have hzf:(x.cut b (fr.getD x.used 0)).fr=frV rr fr:=hcf.fr'.trans hI.hfr;have hfu:=ztf (x.cut b (fr.getD x.used 0)) (by rw[hzf];exact .list _ _ _) above (by rw[hcf.W];exact hin) (by rw[hcf.W];exact hN);refine zkt fr rr at' r (above::up') b x n hn hI hat hu hcf (by omega) hp2 hcut _ (fun e=>by cases e) fun above2 up2 e=>?_;injection e with e1 e2;subst e1 e2;refine⟨decide (27<=(ofN (zu (x.cut b (fr.getD x.used 0)).W above)).pairs.length),hin,hfu,fun h=>?_,fun h=>?_⟩
  ·rw[hR,if_neg (of_decide_eq_false h)]
  ·have h:=of_decide_eq_true h;have hI2:=hSc h;refine⟨Wk.split fr at' (above::up') (x.cut b (fr.getD x.used 0)),by rw[hR,if_pos h],zjd up' above _ hI2,fun r2=>zll fr rr at' up' above _ r2 hI2 (by rw[hcf.W];exact hat)⟩
theorem zrc {w:List Nat}{lv:Int}:∀(k:Nat) (seen:List Nat) (b:Nat) (r:List Nat×List Nat×List zB),zbp w lv k seen [] [] b=some r->r.2.2 ≠ []->r.2.1.head?=some b
 | 0,seen,b,r,h,hr=>by
  rw[zbp]at h
  split at h
  ·injection h with h;subst h;exact absurd rfl hr
  ·cases h
 | k+1,seen,b,r,h,hr=>by
  rw[zbp]at h
  split at h
  ·injection h with h;subst h;exact absurd rfl hr
  split at h
  ·cases h
  split at h
  rotate_left
  ·cases h
  obtain⟨X,h1,_⟩:=zgd _ _ _ _ _ _ h;rw[h1];rfl
structure zyk (b:Nat)(X:List Lev):Prop where
 first:∃M,X.head?=some M/\M.1.head?=some b
 apart:X.Pairwise fun L M=>∀c∈L.1,c ∉ M.1
 leaf:∀L,X.getLast?=some L->∀n∈L.2,n.level=0
 pos:∀L∈X,∀c∈L.1,c≠0
theorem zji {w:List Nat}(hw:w.length<=131072):∀(d:Nat) (seen:List Nat) (acc:List Lev) (b:Nat) (lv:Int),(zbD w d seen acc b lv).2=true->∃X,(zbD w d seen acc b lv).1=acc++X/\zyk b X/\∀L∈X,∀c∈L.1,c ∉ seen
 | 0,_,_,_,_,h=>by cases h
 | d+1,seen,acc,b,lv,h=>by
  rw[zbD]at h⊢
  cases hr:zbp w lv (w.length/64) seen [] [] b with
  | none=>rw[hr]at h;cases h
  | some r =>
   obtain⟨s',bs,ns⟩:=r;rw[hr]at h
   cases ns with
   | nil=>cases h
   | cons n ns =>
    have hh:=zrc _ _ _ _ hr (by simp);obtain⟨X,x1,x2,x3,x4⟩:=zgd _ _ _ _ _ _ hr;obtain⟨hF,_,_⟩:=zey (N:=2048) _ _ _ _ _ _ hr (LvF.nil w) (fun n hn=>by simp at hn) (by simp;omega);dsimp only at hh x1 x2 hF h⊢;rw[zAL9]at x1;subst x1
    by_cases hl:n.level=0
    ·rw[if_pos hl]at h⊢;refine⟨[(bs,n::ns)],rfl,⟨⟨_,rfl,hh⟩,List.pairwise_singleton _ _,fun L hL m hm=>?_,fun L hL c hc=>?_⟩,fun L hL c hc=>?_⟩
     ·simp at hL;subst hL;exact(hF.same m hm n rfl).trans hl
     ·simp at hL;subst hL;exact(x4 c hc).2
     ·simp at hL;subst hL;exact(x4 c hc).1
    ·rw[if_neg hl]at h⊢;obtain⟨Y,y1,⟨y2,y3,y4,y6⟩,y5⟩:=zji hw d s' _ _ _ h;refine⟨(bs,n::ns)::Y,by rw[y1];simp,⟨⟨_,rfl,hh⟩,List.pairwise_cons.2 ⟨fun M hM c hc hcM=>y5 M hM c hcM ?_,y3⟩,fun L hL=>?_,fun L hL c hc=>?_⟩,fun L hL c hc=>?_⟩
     ·rw[x2];exact zEE9 _ (zEK9.2 hc)
     ·obtain⟨M,hM,_⟩:=y2
      cases Y with
      | nil=>cases hM
      | cons a Y=>exact y4 L (by rw[zDY9]at hL;exact hL)
     ·rcases zAX9.1 hL with rfl|hL
      ·exact(x4 c hc).2
      ·exact y6 L hL c hc
     ·rcases zAX9.1 hL with rfl|hL
      ·exact(x4 c hc).1
      ·intro hs;exact y5 L hL c hc (by rw[x2];exact zDP9 _ hs)
theorem zfo {w:List Nat}:∀{bs:List Nat} {ns:List zB},bs.length=ns.length->zb4 w bs ns=true->∀b∈bs,zbh (zu w b)=0
 | [],_,_,_,b,hb=>by simp at hb
 | b'::bs,[],h,_,_,_=>by simp at h
 | b'::bs,n::ns,h,hs,b,hb=>by
  rw[zb4,zAR9,zAR9]at hs;rcases zAX9.1 hb with rfl|hb
  ·exact of_decide_eq_true hs.1.1
  ·exact zfo (by simpa using h) hs.2 b hb
def zhL (w:List Nat)(key:Nat):List Lev->Nat->List Nat
 | [],_=>[]
 | [_],b=>[b]
 | _::M::T,b=>b::zhL w key (M::T) (zcS (zu w b) key).1
structure zyY (w:List Nat)(key:Nat)(T:List Lev)(b:Nat)(ws:List Nat):Prop where
 first:ws[0]?=some b
 next:∀(i:Nat) (b c:Nat),ws[i]?=some b->ws[i+1]?=some c->zcS (zu w b) key=(c,0)
 last:∀b,ws.getLast?=some b->¬(zcS (zu w b) key).2=0
 len:ws.length=T.length
 mem:∀(i c:Nat),ws[i]?=some c->∃L,T[i]?=some L/\c∈L.1
theorem zrS {w:List Nat}{key:Nat}:∀(T:List Lev) (b:Nat),(∀L∈T,zgu w L)->zbP w T=true->(∀L∈T.dropLast,zha L)->(∀L,T.getLast?=some L->∀n∈L.2,n.level=0)->(∃L,T.head?=some L/\b∈L.1)->zyY w key T b (zhL w key T b)
 | [],b,_,_,_,_,h=>by obtain⟨L,h,_⟩:=h;cases h
 | [L],b,hF,hs,_,hlf,h=>by
  obtain⟨L',h,hb⟩:=h;simp at h;subst h;have hLF:=hF L (zAV9 ..);rw[zbP]at hs;have hc:=zfo hLF.lv.len hs b hb;have hn:zaa (zu w b)∈L.2:=by rw[hLF.lv.is];exact zAP9.2 ⟨b,hb,rfl⟩
  have hl:=hlf L rfl _ hn;refine⟨rfl,fun i b' c h1 h2=>by simp[zhL]at h2,fun c hcc=>?_,rfl,fun i c hi=>?_⟩
  ·simp[zhL]at hcc;subst hcc;unfold zcS;rw[if_pos hc,if_pos hl]
   decide
  ·cases i with
   | zero=>simp[zhL]at hi;subst hi;exact⟨L,rfl,hb⟩
   | succ i=>simp[zhL]at hi
 | L::M::T,b,hF,hs,hp,hlf,h=>by
  obtain⟨L',h,hb⟩:=h;simp at h;subst h;have hLF:=hF L (zAV9 ..);have hMF:=hF M (zAT9 _ (zAV9 ..));rw[zbP,zAR9,zAR9]at hs;obtain⟨⟨hs1,hs2⟩,hs3⟩:=hs;have hs2:=of_decide_eq_true hs2;have hc:=zfo hLF.lv.len hs1 b hb;have hn:zaa (zu w b)∈L.2:=by rw[hLF.lv.is];exact zAP9.2 ⟨b,hb,rfl⟩
  have hl:0<(zaa (zu w b)).level:=hp L (by simp[List.dropLast]) _ hn;have hch:zcS (zu w b) key=(zeU (zaa (zu w b)).left (zaa (zu w b)).pairs key,0):=by
   unfold zcS;rw[if_pos hc,if_neg (by omega)]
  have hk:∃q∈zcn (zaa (zu w b)),zeU (zaa (zu w b)).left (zaa (zu w b)).pairs key=q.2:=by
   rcases zom (zaa (zu w b)).pairs key (zaa (zu w b)).left with h|⟨q,hq,h⟩
   ·exact⟨_,zAV9 ..,h⟩
   ·exact⟨q,zAT9 _ hq,h⟩
  obtain⟨q,hq,hk⟩:=hk;have hq2:q∈zcv M:=by rw[<- hs2];exact zBC9.2 ⟨_,hn,hq⟩
  have hcM:(zcS (zu w b) key).1∈M.1:=by
   rw[hch];dsimp only;rw[hk];unfold zcv at hq2;exact(zFA9 (show (q.1,q.2)∈_ from hq2)).2
  have ih:=zrS (key:=key) (M::T) (zcS (zu w b) key).1 (fun K hK=>hF K (zAT9 _ hK)) hs3 (fun K hK=>hp K (by rw[List.dropLast_cons_cons];exact zAT9 _ hK)) (fun K hK=>hlf K (by rw[zDY9];exact hK)) ⟨M,rfl,hcM⟩;have hw:zhL w key (L::M::T) b=b::zhL w key (M::T) (zcS (zu w b) key).1:=rfl;rw[hw];generalize zhL w key (M::T) (zcS (zu w b) key).1=ws at ih;obtain⟨i1,i2,i3,i4,i5⟩:=ih;refine⟨rfl,fun i b' c h1 h2=>?_,fun c hcc=>?_,by simp at i4⊢;exact i4,fun i c hi=>?_⟩
  ·cases i with
   | zero =>
    simp at h1 h2;subst h1;rw[zAB9]at i1;rotate_left
    ·simp at i4;omega
    have:ws[0]?=some c:=by simpa using h2
    rw[hch];rw[zAB9 (by simp at i4;omega)]at this;injection i1 with i1;injection this with this;rw[<- this,i1,hch]
   | succ i=>exact i2 i b' c (by simpa using h1) (by simpa using h2)
  ·cases ws with
   | nil=>simp at i1
   | cons a ws=>rw[zDY9]at hcc;exact i3 c hcc
  ·cases i with
   | zero=>simp at hi;subst hi;exact⟨L,rfl,hb⟩
   | succ i=>exact i5 i c (by simpa using hi)
theorem zkq {w:List Nat}:∀{T:List Lev},zbP w T=true->∀L∈T,zb4 w L.1 L.2=true
 | [],_,L,h=>by simp at h
 | [L],hs,K,h=>by simp at h;subst h;exact hs
 | L::M::T,hs,K,h=>by
  rw[zbP,zAR9,zAR9]at hs;rcases zAX9.1 h with rfl|h
  ·exact hs.1.1
  ·exact zkq hs.2 K h
structure zrs (w:List Nat)(n key:Nat)(fr:List Nat)(ws:List Nat):Prop where
 way:zwE w (w.getD n 0) key ws
 chk:∀b∈ws,zbh (zu w b)=0
 inn:∀b∈ws,b<w.length/64
 nd:ws.Nodup
 few:ws.length<=14
 ne:ws ≠ []
 frN:∀f∈fr,1<=f/\f<w.length/64
 out:∀f∈fr,f ∉ ws
 pos:∀b∈ws,b≠0
theorem zri {w:List Nat}{n:Nat}(key:Nat){fr:List Nat}(hw:w.length<=131072)(ht:(zO w n).2=true)(hs:zeQ w (zO w n).1=true)(hf1:∀f∈fr,1<=f/\f<w.length/64)(hf2:zgV (zO w n).1 (fr.map fun(b:Nat)=>(b:Int))=true):∃ws,zrs w n key fr ws:=by
 obtain⟨f1,f2,f3,f4,f5⟩:=zbW (w:=w) (T:=(zO w n).1) hw n (by rw[<- ht]);obtain⟨X,x1,⟨x2,x3,x4,x5⟩,_⟩:=zji hw 14 [] [] (w.getD n 0) (-1) ht;have hX:(zO w n).1=X:=by rw[show (zO w n).1=[]++X from x1,zAL9]
 rw[hX]at hs f1 f2 f3 f5 hf2;unfold zeQ at hs;rw[zAR9]at hs;obtain⟨M,hM,hMb⟩:=x2;have hmem:∃L,X.head?=some L/\w.getD n 0∈L.1:=⟨M,hM,by cases h:M.1 with|nil=>rw[h]at hMb;cases hMb|cons a l=>rw[h]at hMb;injection hMb with hMb;rw[hMb];exact zAV9 ..⟩
 have hwy:=zrS (w:=w) (key:=key) X (w.getD n 0) f1 hs.2 f2 x4 hmem;generalize zhL w key X (w.getD n 0)=ws at hwy;obtain⟨w1,w2,w3,w4,w5⟩:=hwy;have hin:∀b∈ws,∃L∈X,b∈L.1:=fun b hb=>by
  obtain⟨i,hi⟩:=zDO9.1 hb;obtain⟨L,hL,hbL⟩:=w5 i b hi;exact⟨L,zAK9 hL,hbL⟩
 have hlt:∀b∈ws,b<w.length/64:=fun b hb=>by
  obtain⟨L,hL,hbL⟩:=hin b hb;exact((f1 L hL).lv.each b hbL).1
 refine⟨ws,⟨w1,fun b hb=>by have:=hlt b hb;omega,w2,w3,by omega⟩,fun b hb=>?_,hlt,?_,by omega,fun e=>by subst e;simp at w1,hf1,fun f hf hfw=>?_,fun b hb=>?_⟩
 ·obtain⟨L,hL,hbL⟩:=hin b hb;exact zfo (f1 L hL).lv.len (zkq hs.2 L hL) b hbL
 ·refine zDQ9.2 fun i j hi hj hij e=>?_;obtain⟨L,hL,hbL⟩:=w5 i _ (zAB9 hi);obtain⟨K,hK,hbK⟩:=w5 j _ (zAB9 hj);rw[e]at hbL;obtain⟨hi1,hi2⟩:=zAD9.1 hL;obtain⟨hj1,hj2⟩:=zAD9.1 hK;have:=(zDQ9.1 x3) i j hi1 hj1 hij;rw[hi2,hj2]at this;exact this _ hbL hbK
 ·obtain⟨L,hL,hbL⟩:=hin f hfw;unfold zgV at hf2;have h1:=zBI9.1 hf2 L hL;unfold zoR at h1;have h2:=zBI9.1 h1 (f:Int) (zAP9.2 ⟨f,hf,rfl⟩);rw[zjM]at h2;simp[hbL]at h2
 ·obtain⟨L,hL,hbL⟩:=hin b hb;exact x5 L hL b hbL
theorem zsp {n:Nat}{fr:List Int}(h:zf9 n fr fr.length=true):∀f∈fr,1<=f/\f<n:=fun f hf=>by
 obtain⟨i,hi⟩:=zDO9.1 hf;have hlt:=(zAD9.1 hi).1;unfold zf9 at h;have:=zBI9.1 h i (zDC9.2 hlt);rw[zAQ9,hi]at this;unfold znI at this;simp only[zEU9,zAR9,decide_eq_true_eq]at this;exact this.1
theorem zpG {w:List Nat}{a:Int}{fr:List Int}(key:Nat)(h:zih w a fr=0):∃(n:Nat) (frN ws:List Nat),a=n/\n<w.length/\64<=w.length/\w.length<=131072/\fr=frN.map (fun(b:Nat)=>(b:Int))/\(zO w n).2=true/\zeQ w (zO w n).1=true/\zrs w n key frN ws:=by
 unfold zih at h
 split at h
 rotate_left
 ·cases h
 rename_i hr;have hb:=(zcC _ _).1 hr;obtain⟨n,rfl⟩:∃n:Nat,a=n:=⟨a.toNat,by omega⟩
 rw[zCU9]at h
 split at h
 rotate_left
 ·cases h
 rename_i hf;unfold zc9 at h;rw[if_pos hr,zCU9]at h
 split at h
 rotate_left
 ·cases h
 rename_i ht
 split at h
 rotate_left
 ·cases h
 rename_i hs;unfold zkg at hf;obtain⟨e1,e2⟩:=zee w n;rw[e1,ht,e2 ht,zAR9,Bool.not_true,Bool.false_or]at hf;have he:=zsp hf.1;have hfr:fr=(fr.map Int.toNat).map (fun(b:Nat)=>(b:Int)):=by
  rw[zDM9]
  conv=>lhs;rw[<- List.map_id fr]
  exact zDZ9 fun f hf=>by have:=he f hf;simp;omega
 have hf1:∀f∈fr.map Int.toNat,1<=f/\f<w.length/64:=fun f hf=>by
  obtain⟨g,hg,rfl⟩:=zAP9.1 hf;have:=he g hg;omega
 obtain⟨ws,hS⟩:=zri key hb.2.2.1 ht hs hf1 (by rw[<- hfr];exact hf.2);exact⟨n,fr.map Int.toNat,ws,rfl,by omega,hb.1,hb.2.2.1,hfr,ht,hs,hS⟩
theorem ztk {left:Nat}{w:List Nat}{x:Pr}(h:(zdm left w x).2=3):w.length/2<=(zav left w).length+1/\zbu left w.length=true:=by
 unfold zdm at h
 by_cases hp:zce left w x=0
 ·rw[if_pos hp]at h;have:=(zf1 hp).1
  split at h
  ·cases h
  split at h
  ·exact⟨by assumption,this⟩
  ·cases h
 ·rw[if_neg hp]at h;dsimp only at h;unfold zce at h
  split at h
  ·split at h
   ·cases h
   ·unfold zbz at h
    split at h
    ·split at h<;>cases h
    ·cases h
  ·cases h
theorem ztJ {w:List Nat}{x:Pr}(h:(zb0 w x).2=3):27<=(zaa w).pairs.length:=by
 unfold zb0 chg at h
 by_cases hc:zeS w x=0
 ·rw[if_pos hc]at h;have hl:=zij (zi1 hc);have h3:(zdm (w.getD 3 0) (w.drop 8) x).2=3:=by
   split at h
   ·cases h
   ·exact h
  obtain⟨h1,h2⟩:=ztk h3;have hp:(zaa w).pairs=zav (w.getD 3 0) (w.drop 8):=by unfold zaa zbB;dsimp only;rw[if_pos h2]
  rw[hp];rw[zCI9,hl]at h1;omega
 ·rw[if_neg hc]at h;dsimp only at h;unfold zeS at h
  split at h
  ·split at h<;>cases h
  ·unfold zbh at h
   split at h
   ·split at h<;>cases h
   ·cases h
theorem zem:∀(l:List Pr) (x:Wk),x.q=0->(x.does l).q=0
 | [],_,h=>h
 | c::l,x,_=>zem l (x.one c) rfl
theorem zxX {fr:List Nat}{x:Wk}{at' b to low:Nat}(h:x.q=0):(x.root fr at' b to low).1.q=0:=by
 unfold Wk.root
 split
 ·exact h
 split
 ·exact h
 ·exact zem _ _ (zem _ x.up h)
theorem zrL {fr:List Nat}{at':Nat}:∀(up:List Nat) (b:Nat) (x:Wk),x.q=0->(Wk.split fr at' (b::up) x).1.q=0
 | [],b,x,h=>by
  unfold Wk.split
  split
  ·exact h
  ·exact zxX (zem _ _ (zem _ x.up h))
 | above::up,b,x,h=>by
  unfold Wk.split;have hc:∀to,(x.cut b to).q=0:=fun to=>zem _ _ (zem _ x.up h)
  split
  ·exact h
  split
  ·split
   ·exact zem _ _ (zrL up above _ (hc _))
   ·exact hc _
  ·exact zem _ _ (hc _)
theorem f33:ET.funcs.get 33=some T33:=zL Tryz.func33
theorem HR.nilBox {B:Ba}{c:Cx}{H:List zn}{h:TH}(k:HR B c H h){b e z G M:Nat}{v v':PV}(hb:H[b]?=some (.row e z G M [v]))(hl:v'.cells.length=v.cells.length)
  (hw:∀(i:Nat) (x y:PV),v.cells[i]?=some x->v'.cells[i]?=some y->y=x\/(x=.nilsl/\∃p z,y=.list p z [])):HR B c (H.set b (.row e z G M [v'])) h:=by
 have hlt:=(zAD9.1 hb).1;refine⟨k.le,k.keep,k.old,fun p b' hb'=>⟨(k.S p b' hb').1,fun id x hx e'=>?_⟩,fun id x hx=>by rw[zCS9];exact k.own id x hx,fun id hx=>by rw[zCS9];exact k.lz id hx,k.inj,fun id o ho=>?_⟩
 ·have:=(k.S p b' hb').2 id x hx e';rw[zAZ9 (fun e''=>by subst e'';rw[hb]at this;cases this)];exact this
 ·by_cases hi:b=id
  ·subst hi;rw[zBH9 hlt]at ho;injection ho with ho;subst ho;rcases k.obj _ _ hb with⟨h1,_⟩|⟨b1,d,G',M',cells,cs,r1,r2,r3,r4,r5,r6⟩
   ·cases h1
   ·refine .inr ⟨b1,d,G',M',cells,cs,r1,r2,r3,r4,r5,ER.one' (by rw[hl];exact r6.one v (by simp)) ?_⟩;have hall:LR (VR c h) v.cells cs:=by have:=r6.all;simpa using this
    refine⟨by rw[hl];exact hall.1,fun j x y hx hy=>?_⟩;obtain⟨x0,hx0⟩:∃x0,v.cells[j]?=some x0:=⟨_,zAB9 (by rw[<- hl];exact(zAD9.1 hx).1)⟩
    have hv:=hall.2 j x0 y hx0 hy;rcases hw j x0 x hx0 hx with rfl|⟨rfl,p,z,rfl⟩
    ·exact hv
    ·obtain rfl:y=.nilsl:=by cases hv with|pure hv=>cases hv;rfl
     exact .pure (.listnil _ _)
  ·rw[zAZ9 hi]at ho;exact k.obj id o ho
theorem zpX {E:Env}{caught:Tr Unit}{rnd:Option Nat}{code:zbl}{s:FSt}{Q:FX->FSt->Prop}(b:Nat){e z G M:Nat}{v v':PV}(hb:s.H[b]?=some (.row e z G M [v]))(hl:v'.cells.length=v.cells.length)
  (hw:∀(i:Nat) (x y:PV),v.cells[i]?=some x->v'.cells[i]?=some y->y=x\/(x=.nilsl/\∃p z,y=.list p z []))
  (k:W E caught rnd code ⟨s.tm,s.df,s.H.set b (.row e z G M [v'])⟩ Q):W E caught rnd code s Q:=fun B c t rnd' hs hn =>
 k B c t rnd' ⟨hs.hr.nilBox hb hl hw,hs.tm,hs.df⟩ hn
theorem zp5 (p r:Nat)(w:List Nat)(f:PV):∀(i:Nat) (x y:PV),(PV.agg [wv p w,.nilsl,f,iv 0]).cells[i]?=some x->(PV.agg [wv p w,.list r 2 [],f,iv 0]).cells[i]?=some y->y=x\/(x=.nilsl/\∃p z,y=.list p z []):=fun i x y hx hy=>by
 match i with
 | 0=>injection hx with hx;injection hy with hy;subst hx hy;exact .inl rfl
 | 1=>injection hx with hx;injection hy with hy;subst hx hy;exact .inr ⟨rfl,_,_,rfl⟩
 | 2=>injection hx with hx;injection hy with hy;subst hx hy;exact .inl rfl
 | 3=>injection hx with hx;injection hy with hy;subst hx hy;exact .inl rfl
 | k+4=>simp[PV.cells]at hx
@[reducible] def zka (R:List Pr × Nat × Nat):PV:=.tuple [.list 0 2 (R.1.map zat),iv (R.2.1:Nat),iv (R.2.2:Nat)]
theorem zr5 (R:List Pr×Nat×Nat):Lb (zka R):=Lb.three (zdc _) (.int _ _) (.int _ _)
theorem zv2 (p r:Nat)(w:List Nat)(a:Int)(pr:Pr)(fr:List Int)(no:Nat)(hno:¬no=0)(hA:FN ET 45 [wv p w,iv a,.list r 1 (fr.map iv)] (.ret (iv (no:Nat)))):FN ET 33 [wv p w,iv a,pv pr,.list r 1 (fr.map iv)] (.ret (zka ([],0,no))):=by
 refine zfn f33 (zr5 _) ?_;have g:¬(no:Int)=0:=by omega
 (repeat(first|refine za ?_|refine zgo ?_));(repeat refine za ?_);refine zrg ?_;refine zca hA ?_;refine zfx ?_;refine zh ?_;(repeat(first|refine za ?_|refine zgo ?_ (by simp(disch:=omega)only[go_sem,g]<;>rfl)));refine zfc ?_ ?_;rotate_left
 ·intro h;cases h
 intro _;(repeat(first|refine za ?_|refine zgo ?_));refine zq ?_;(try simp only[zb,zf,ze,zd,zg]);refine zj (by simp only[T33,zE,go_sem]<;>rfl) ?_;simp only[zG];exact Frz.tupL ⟨.nil _ _,.int _ _,.int _ _,trivial⟩
def Wk.put (y:Wk)(lf:Nat)(pr:Pr):List Pr×Nat×Nat:=((y.does (zbn (64*lf) (zb0 (zu y.W lf) pr).1)).L,y.used,0)
structure zse (fr:List Nat)(r:Nat)(N:Nat)(y:Wk):Prop where
 fr':y.fr=frV r fr
 W:y.W.length=N
 L:y.L.length<=899900
 q:y.q=0
set_option maxHeartbeats 4000000 in
theorem zsv (p r n:Nat)(w:List Nat)(pr:Pr)(fr ws:List Nat)(leaf:Nat)(x0:Wk)(pu:List Pr×Nat)(S:Wk×Nat×Nat×Nat)(R:List Pr×Nat×Nat)(hN:w.length<=131072)(hx0:x0=⟨p,0,w,[],frV r fr,0⟩)
  (hA:FN ET 45 [wv p w,iv n,frV r fr] (.ret (iv (0:Nat)))) (hW:FN ET 46 [wv p w,iv n,uv pr.1] (.ret (.list 0 1 (zd1 ws)))) (hwl:ws.length<=20) (hlf:ws[ws.length-1]?=some leaf) (hne:0<ws.length) (hin:64*leaf+64<=w.length)
  (hpu:FN ET 80 [wv p (zu w leaf),pv pr] (.ret (.tuple [.list 0 2 (pu.1.map zat),iv (pu.2:Nat)])))
  (h3:pu.2=3->FP ET 81 [wkv x0,.list 0 1 (zd1 ws),iv n] (.ret (wk4 S))/\S.1.fr=frV r fr/\(S.2.2.2=0->zse fr r w.length S.1/\64*S.2.1+64<=w.length))
  (hR1:¬pu.2=0->¬pu.2=3->R=([],0,pu.2)) (hR2:pu.2=3->¬S.2.2.2=0->R=([],0,S.2.2.2)) (hR3:pu.2=3->S.2.2.2=0->R=S.1.put (if S.2.2.1<=pr.1 then S.2.1 else leaf) pr) (hR4:pu.2=0->R=x0.put leaf pr) :
  FN ET 33 [wv p w,iv n,pv pr,frV r fr] (.ret (zka R)):=by
 refine zfn f33 (zr5 _) ?_;have hx0f:Id0 x0.fr:=by rw[hx0];exact .list _ _ _
 have hidx:Id0 (wkv x0):=zcL hx0f;have hxv:wkv x0=.agg [wv p w,.list 0 2 [],frV r fr,iv 0]:=by rw[hx0];rfl
 have hxW:x0.W=w:=by rw[hx0]
 have hxp:x0.p=p:=by rw[hx0]
 have hat0:=zfO x0 hx0f leaf (by rw[hxW];exact hin) (by rw[hxW];exact hN);rw[hxp,hxW,hxv]at hat0;have hput0:zse fr r w.length x0:=⟨by rw[hx0],by rw[hxW],by rw[hx0];exact zAS9 _,by rw[hx0]⟩
 rw[hxv]at hidx;have hlv:(zd1 ws)[ws.length-1]?=some (iv leaf):=by rw[zAG9,hlf];rfl
 have e1:(ws.length:Int)-1=((ws.length-1:Nat):Int):=by omega
 have e2:ws.length-1<ws.length:=by omega
 (repeat(first|refine za ?_|refine zgo ?_));(repeat refine za ?_);refine zrg ?_;refine zca hA ?_;refine zfx ?_;refine zh ?_;(repeat(first|refine za ?_|refine zgo ?_));refine zfc ?_ ?_
 ·intro h;cases h
 intro _;refine zF ?_;show W _ _ _ _ _ _;(repeat refine za ?_);refine zrg ?_;refine zca hW ?_;refine zfx ?_;refine zh ?_;(repeat(first|refine za ?_|refine zgo ?_ (by simp(disch:=omega)only[go_sem,hlv,e1,e2,zc,zk,zAA9]<;>rfl)));refine zpX 1 (v':=.agg [wv p w,.list 0 2 [],frV r fr,iv 0]) rfl rfl (zp5 p 0 w _) ?_;simp only[zCK9,zCX9];refine zdk (fun tm=>tm 1=iv n/\tm 6=.ptr 0 0 0 0 2/\tm 12=.list 0 1 (zd1 ws)/\tm 13=iv leaf/\tm 14=.ptr 1 0 0 0 4) ⟨by simp[upd,zo],by simp[upd,zo],by simp[upd,zo],by simp[upd,zo],by simp[upd,zo]⟩ ?_;rintro tm ⟨h1,h6,h12,h13,h14⟩;(repeat refine za ?_);refine zag ?_;refine zdf hat0 ⟨hidx,.int _ _,trivial⟩ ?_ (by simp(disch:=omega)only[go_sem,h6,h13,h14,zAA9]<;>rfl);refine zdn hpu ?_ (by simp(disch:=omega)only[go_sem,h6,h13,h14,zAA9]<;>rfl);refine zdl ?_ (by simp(disch:=omega)only[go_sem,h6]<;>rfl);refine zM ?_;simp only[zi,zS,zb,go_sem];refine zdk (fun tm=>tm 1=iv n/\tm 6=.ptr 0 0 0 0 2/\tm 12=.list 0 1 (zd1 ws)/\tm 13=iv leaf/\tm 14=.ptr 1 0 0 0 4/\tm 16=iv pu.2) ⟨by simp[upd,h1],by simp[upd,h6],by simp[upd,h12],by simp[upd,h13],by simp[upd,h14],by simp[upd]⟩ ?_;clear h1 h6 h12 h13 h14;rintro tm ⟨h1,h6,h12,h13,h14,h16⟩
 by_cases hbad:¬pu.2=0/\¬pu.2=3
 ·rw[hR1 hbad.1 hbad.2];have g1:¬((pu.2:Nat):Int)=0:=by omega
  have g2:¬((pu.2:Nat):Int)=3:=by omega
  (repeat(first|refine za ?_|refine zgo ?_ (by simp(disch:=omega)only[go_sem,h16,g1,g2]<;>rfl)));refine zfc ?_ ?_;rotate_left
  ·intro h;cases h
  intro _;(repeat(first|refine za ?_|refine zgo ?_ (by simp(disch:=omega)only[go_sem,h16]<;>rfl)));refine zq ?_;(try simp only[zb,zf,ze,zd,zg]);refine zj (by simp only[T33,zE,go_sem]<;>rfl) ?_;simp only[zG];exact Frz.tupL ⟨.nil _ _,.int _ _,.int _ _,trivial⟩
 have h03:pu.2=0\/pu.2=3:=by omega
 clear hbad;(repeat refine za ?_);refine zbA (Q:=fun yy s'=>yy=.norm/\s'.tm 1=iv n/\s'.tm 6=.ptr 0 0 0 0 2/\s'.tm 12=.list 0 1 (zd1 ws)/\s'.tm 13=iv leaf/\s'.tm 14=.ptr 1 0 0 0 4/\s'.tm 16=iv pu.2/\s'.tm 57=.bool false/\s'.df=[]/\s'.H=[.row 66 2 0 0 [pv pr],.row 107 4 0 0 [.agg [wv p w,.list 0 2 [],frV r fr,iv 0]]]) (zr ?_) ?_
 ·rcases h03 with h|h
  ·have g1:((pu.2:Nat):Int)=0:=by omega
   refine zfx ?_ (by simp(disch:=omega)only[go_sem,h16,g1]<;>rfl);refine zy ?_;simp only[zb,zf,ze,zd,zi,zg,if_true,↓reduceIte];exact⟨trivial,h1,h6,h12,h13,h14,by simp[upd,h16],by simp[upd],(by first|exact trivial|rfl),(by first|exact trivial|rfl)⟩
  ·have g1:¬((pu.2:Nat):Int)=0:=by omega
   have g2:=eq_true (show ((pu.2:Nat):Int)=3 by omega);refine zfx ?_ (by simp(disch:=omega)only[go_sem,h16,g1,g2]<;>rfl);refine zy ?_;simp only[zb,zf,ze,zd,zi,zg,if_true,↓reduceIte];exact⟨trivial,h1,h6,h12,h13,h14,by simp[upd,h16],by simp[upd],(by first|exact trivial|rfl),(by first|exact trivial|rfl)⟩
 clear h1 h6 h12 h13 h14 h16;rintro yy ⟨tm,df,H⟩ ⟨rfl,h1,h6,h12,h13,h14,h16,h57,rfl,rfl⟩;dsimp only at h1 h6 h12 h13 h14 h16 h57;simp only[zb,zf,ze,zd,zi,zg,if_true,reduceIte];refine zfc ?_ ?_ (by simp only[go_sem,h57]<;>rfl)
 ·intro h;cases h
 intro _;refine zF ?_;show W _ _ _ _ _ _;(repeat refine za ?_);refine zbA (Q:=fun yy s'=>yy=.norm/\s'.tm 1=iv n/\s'.tm 6=.ptr 0 0 0 0 2/\s'.tm 12=.list 0 1 (zd1 ws)/\s'.tm 13=iv leaf/\s'.tm 14=.ptr 1 0 0 0 4/\s'.tm 16=iv pu.2/\s'.tm 60=.bool (decide (pu.2=3))/\s'.df=[]/\s'.H=[.row 66 2 0 0 [pv pr],.row 107 4 0 0 [.agg [wv p w,.list 0 2 [],frV r fr,iv 0]]]) (zr ?_) ?_
 ·rcases h03 with h|h
  ·have g1:¬((pu.2:Nat):Int)=3:=by omega
   refine zfx ?_ (by simp(disch:=omega)only[go_sem,h16,g1]<;>rfl);refine zy ?_;simp only[zb,zf,ze,zd,zi,zg,if_true,↓reduceIte];exact⟨trivial,h1,h6,h12,h13,h14,by simp[upd,h16],by simp[upd,h],(by first|exact trivial|rfl),(by first|exact trivial|rfl)⟩
  ·have g2:=eq_true (show ((pu.2:Nat):Int)=3 by omega);refine zfx ?_ (by simp(disch:=omega)only[go_sem,h16,g2]<;>rfl);refine zy ?_;simp only[zb,zf,ze,zd,zi,zg,if_true,↓reduceIte];exact⟨trivial,h1,h6,h12,h13,h14,by simp[upd,h16],by simp[upd,h],(by first|exact trivial|rfl),(by first|exact trivial|rfl)⟩
 clear h1 h6 h12 h13 h14 h16 h57;rintro yy ⟨tm,df,H⟩ ⟨rfl,h1,h6,h12,h13,h14,h16,h60,rfl,rfl⟩;dsimp only at h1 h6 h12 h13 h14 h16 h60;simp only[zb,zf,ze,zd,zi,zg,if_true,reduceIte];refine zbA (Q:=fun yy s'=>(yy=.norm/\∃(v:Wk) (lf:Nat) (G:List zn),R=v.put lf pr/\zse fr r w.length v/\64*lf+64<=w.length/\s'.tm 6=.ptr 0 0 0 0 2/\s'.tm 13=iv lf/\s'.tm 14=.ptr 1 0 0 0 4/\s'.df=[]/\s'.H=.row 66 2 0 0 [pv pr]::.row 107 4 0 0 [.agg [wv v.p v.W,.list v.q 2 (v.L.map zat),frV r fr,iv v.used]]::G)\/(yy=.ret/\zcT ET T33 (fun e' H=>zay H 0 e' (.ret (zka R))) .ret s')) ?_ ?_
 ·rcases h03 with h|h
  ·rw[h]at h60;refine zfc ?_ ?_ (by simp only[go_sem,h60]<;>rfl)
   ·intro h;cases h
   intro _;refine zF ?_;(try simp only[zb,zf,ze,zd,zi,zg,if_true,reduceIte]);exact .inl ⟨(by first|exact trivial|rfl),x0,leaf,[],hR4 h,hput0,hin,h6,h13,h14,(by first|exact trivial|rfl),by rw[hx0];rfl⟩
  ·obtain⟨hsp,hSf,hSp⟩:=h3 h;have hR2:=hR2 h;have hR3:=hR3 h;rw[h]at h60;obtain⟨S1,S2,S3,S4⟩:=S;dsimp only at hSf hSp hR2 hR3;have hS1v:wkv S1=.agg [wv S1.p S1.W,.list S1.q 2 (S1.L.map zat),frV r fr,iv S1.used]:=by unfold wkv;rw[hSf]
   unfold wk4 at hsp;dsimp only at hsp;rw[hS1v,hxv]at hsp;refine zfc ?_ ?_ (by simp only[go_sem,h60]<;>rfl);rotate_left
   ·intro h;cases h
   intro _;(repeat refine za ?_);refine zrg ?_ (by simp(disch:=omega)only[go_sem,h1,h12,h14]<;>rfl);refine zcg (by first|rfl|(simp only[go_sem]<;>rfl)) (by simp only[go_sem]<;>rfl) hsp rfl ?_ ?_;(repeat(first|exact trivial|refine And.intro ?_ ?_|exact Id0.int _ _|exact Id0.bool _|exact Id0.list _ _ _|exact Id0.elem _|exact Id0.nilsl|exact Id0.str _|exact zcj _ _ _))
   ·exact hidx
   ·(repeat(first|exact trivial|refine And.intro ?_ ?_|exact Id0.int _ _|exact Id0.bool _|exact Id0.list _ _ _|exact Id0.elem _|exact Id0.nilsl|exact Id0.str _|exact zcj _ _ _))
   refine zfx ?_;refine zh ?_
   by_cases h0:S4=0
   rotate_left
   ·have g2:¬(S4:Int)=0:=by omega
    rw[hR2 h0];(repeat(first|refine za ?_|refine zgo ?_ (by simp(disch:=omega)only[go_sem,g2,zc,zk]<;>rfl)));refine zfc ?_ ?_;rotate_left
    ·intro h;cases h
    intro _;(repeat(first|refine za ?_|refine zgo ?_));refine zq ?_;(try simp only[zb,zf,ze,zd,zi,zg,if_true,reduceIte]);refine .inr ⟨(by first|exact trivial|rfl),?_⟩;refine zj (vs:=[.nilsl,iv 0,iv S4]) ?_ ?_
    ·simp[T33,xT,zE,okv,upd]
    ·exact Frz.tupL ⟨.nil _ _,.int _ _,.int _ _,trivial⟩
   have g2:(S4:Int)=0:=by omega
   obtain⟨hSp1,hSp2⟩:=hSp h0;have hR3:=hR3 h0;(repeat(first|refine za ?_|refine zgo ?_ (by simp(disch:=omega)only[go_sem,g2,zc,zk]<;>rfl)));refine zfc ?_ ?_
   ·intro h;cases h
   intro _;refine zF ?_;show W _ _ _ _ _ _
   by_cases hlo:S3<=pr.1
   ·have g3:(S3:Int)<=(pr.1:Nat):=by omega
    rw[if_pos hlo]at hR3;(repeat(first|refine za ?_|refine zgo ?_ (by simp(disch:=omega)only[go_sem,h6,h14,g3,zc,zk]<;>rfl)));refine zfc ?_ ?_;rotate_left
    ·intro h;cases h
    intro _;(repeat refine za ?_);refine zrg ?_;refine zy ?_;simp only[zb,zf,ze,zd,zi,zg,if_true,↓reduceIte];refine .inl ⟨(by first|exact trivial|rfl),S1,S2,_,hR3,hSp1,hSp2,by simp[upd,h6],by simp[upd],by simp[upd,h14],(by first|exact trivial|rfl),rfl⟩
   ·have g3:¬(S3:Int)<=(pr.1:Nat):=by omega
    rw[if_neg hlo]at hR3;(repeat(first|refine za ?_|refine zgo ?_ (by simp(disch:=omega)only[go_sem,h6,h14,g3,zc,zk]<;>rfl)));refine zfc ?_ ?_
    ·intro h;cases h
    intro _;refine zF ?_;(try simp only[zb,zf,ze,zd,zi,zg,if_true,reduceIte]);refine .inl ⟨(by first|exact trivial|rfl),S1,leaf,_,hR3,hSp1,hin,by simp[upd,h6],by simp[upd,h13],by simp[upd,h14],(by first|exact trivial|rfl),rfl⟩
 clear h1 h6 h12 h13 h14 h16 h60;rintro yy ⟨tm,df,H⟩ (⟨rfl,v,lf,G,hR,hv,hlin,h6,h13,h14,rfl,rfl⟩|⟨rfl,hfin⟩);rotate_left
 ·(try simp only[zb,zf,ze,zd,zi,zg,if_true,reduceIte]);exact hfin
 dsimp only at h6 h13 h14;simp only[zb,zf,ze,zd,zi,zg,if_true,reduceIte];obtain⟨hvf,hvW,hvL,hvq⟩:=hv;have hv0:Id0 v.fr:=by rw[hvf];exact .list _ _ _
 have hvv:wkv v=.agg [wv v.p v.W,.list v.q 2 (v.L.map zat),frV r fr,iv v.used]:=by unfold wkv;rw[hvf]
 have hidv:=zcL hv0;have hat2:=zfO v hv0 lf (by omega) (by omega);have hblen:=zci v.W lf (by omega);have hpu2:=zk8 v.p (zu v.W lf) pr (by rw[hblen];decide);have hpa:=zh4 (x:=pr) hblen;have hdo2:=zfg v hv0 (64*lf) 0 (zb0 (zu v.W lf) pr).1 (by omega) (by omega) fun c hc=>by have:=hpa.2 c hc;omega
 unfold Wk.put at hR;have hqf:(v.does (zbn (64*lf) (zb0 (zu v.W lf) pr).1)).fr=frV r fr:=(zcH _ v).2.2.1.trans hvf;have hqu:(v.does (zbn (64*lf) (zb0 (zu v.W lf) pr).1)).used=v.used:=(zcH _ v).2.2.2;have hqq:=zem (zbn (64*lf) (zb0 (zu v.W lf) pr).1) v hvq;generalize v.does (zbn (64*lf) (zb0 (zu v.W lf) pr).1)=q at *
 have hqv:wkv q=.agg [wv q.p q.W,.list q.q 2 (q.L.map zat),frV r fr,iv q.used]:=by unfold wkv;rw[hqf]
 generalize zb0 (zu v.W lf) pr=pr2 at *
 have w4:IntKind.i64.wrap ((64:Int)*(lf:Int))=((64*lf:Nat):Int):=by rw[wrap_i64 (by omega) (by omega)];omega
 rw[hvv]at hat2 hidv hdo2;rw[hqv]at hdo2;(repeat refine za ?_);refine zag ?_;refine zdf hat2 ⟨hidv,.int _ _,trivial⟩ ?_ (by simp(disch:=omega)only[go_sem,h6,h13,h14,zAA9]<;>rfl);refine zdn hpu2 ?_ (by simp(disch:=omega)only[go_sem,h6,h13,h14,zAA9]<;>rfl);refine zdl ?_ (by simp(disch:=omega)only[go_sem,h6]<;>rfl);refine zM ?_;simp only[zi,zS,zb,go_sem];(repeat refine za ?_);refine zrg ?_ (by simp(disch:=omega)only[go_sem,h13,h14,w4]<;>rfl);refine zcg (by first|rfl|(simp only[go_sem]<;>rfl)) (by simp only[go_sem]<;>rfl) hdo2 rfl ?_ ?_;(repeat(first|exact trivial|refine And.intro ?_ ?_|exact Id0.int _ _|exact Id0.bool _|exact Id0.list _ _ _|exact Id0.elem _|exact Id0.nilsl|exact Id0.str _|exact zcj _ _ _))
 ·exact hidv
 ·(repeat(first|exact trivial|refine And.intro ?_ ?_|exact Id0.int _ _|exact Id0.bool _|exact Id0.list _ _ _|exact Id0.elem _|exact Id0.nilsl|exact Id0.str _|exact zcj _ _ _))
 refine zfx ?_ (by simp(disch:=omega)only[go_sem,h14]<;>rfl);refine zh ?_;(repeat refine za ?_);refine zag ?_;refine zdl ?_ (by simp(disch:=omega)only[go_sem,h14]<;>rfl);refine zM ?_;simp only[zi,zS,zb,go_sem];refine zq ?_;(try simp only[zb,zf,ze,zd,zi,zg,if_true,reduceIte]);refine zj (vs:=[.list q.q 2 (q.L.map zat),iv q.used,iv 0]) ?_ ?_
 ·simp[T33,xT,zE,okv,upd]
 ·rw[hR,hqq,<- hqu];exact Frz.tupL ⟨.list _ _ _,.int _ _,.int _ _,trivial⟩
@[reducible] def LtU (x:Nat):Prop:=x < 18446744073709551616
def WB (w:List Nat):Prop:=∀x∈w,LtU x
def PB (l:List Pr):Prop:=∀c∈l,LtU c.1/\LtU c.2
def BB (l:List Pr):Prop:=∀c∈l,LtU c.2
theorem WB.get {w:List Nat}(h:WB w)(i:Nat):LtU (w.getD i 0):=by
 rw[zAQ9]
 cases hx:w[i]? with
 | none=>exact zCO9 _
 | some x=>exact h x (zAK9 hx)
theorem PB.get {l:List Pr}(h:PB l)(i:Nat):LtU (l.getD i (0,0)).1/\LtU (l.getD i (0,0)).2:=by
 rw[zAQ9]
 cases hx:l[i]? with
 | none=>exact⟨zCO9 _,zCO9 _⟩
 | some x=>exact h x (zAK9 hx)
theorem WB.set {w:List Nat}(h:WB w){v:Nat}(hv:LtU v)(i:Nat):WB (w.set i v):=fun x hx=>by
 rcases List.mem_or_eq_of_mem_set hx with h1|rfl
 ·exact h x h1
 ·exact hv
theorem WB.drop {w:List Nat}(h:WB w)(n:Nat):WB (w.drop n):=fun x hx=>h x (zBY9 hx)
theorem WB.block {w:List Nat}(h:WB w)(b:Nat):WB (zu w b):=fun x hx=>h x (zCE9 (zBY9 hx))
theorem PB.nil:PB []:=fun c hc=>by simp at hc
theorem PB.snoc {l:List Pr}(h:PB l){a b:Nat}(ha:LtU a)(hb:LtU b):PB (l++[(a,b)]):=fun c hc=>by
 rcases zBF9.1 hc with hc|hc
 ·exact h c hc
 ·simp only[zAX9,zDG9,or_false]at hc;subst hc;exact⟨ha,hb⟩
theorem BB.nil:BB []:=fun c hc=>by simp at hc
theorem BB.cons {c:Pr}{l:List Pr}(h:LtU c.2)(k:BB l):BB (c::l):=fun x hx=>by
 rcases zAX9.1 hx with rfl|hx
 ·exact h
 ·exact k x hx
theorem BB.app {l m:List Pr}(h:BB l)(k:BB m):BB (l++m):=fun x hx=>by
 rcases zBF9.1 hx with hx|hx
 ·exact h x hx
 ·exact k x hx
theorem zhy:∀(l:List Nat) (prev:Nat),WB l->PB (zav prev l)
 | [],_,_=>fun c hc=>by simp[zav]at hc
 | [_],_,_=>fun c hc=>by simp[zav]at hc
 | k::p::l,prev,h=>by
  have h2:WB l:=fun x hx=>h x (zAT9 _ (zAT9 _ hx));rw[zav]
  split
  ·exact fun c hc=>by simp at hc
  ·split
   ·exact zhy l p h2
   ·intro c hc;rcases zAX9.1 hc with rfl|hc
    ·exact⟨h _ (by simp),h _ (by simp)⟩
    ·exact zhy l p h2 c hc
theorem zwh (left:Nat){l:List Nat}(h:WB l):PB (zbB left l):=by
 unfold zbB
 split
 ·exact zhy _ _ h
 ·exact fun c hc=>by simp at hc
structure NB (n:zB):Prop where
 low:LtU n.low
 left:LtU n.left
 pairs:PB n.pairs
theorem zqx {w:List Nat}(h:WB w):NB (zaa w):=⟨h.get 2,h.get 3,zwh _ (h.drop 8)⟩
theorem zqn {n:zB}(h:NB n)(h1:n.level<=100)(h2:n.sib<2048)(h3:n.way<=2):∀i,WB (zbY n i)
 | 0=>fun x hx=>by rw[zbY]at hx;rw[zFD9 hx];exact zCO9 _
 | i+1=>by
  rw[zbY];refine(zqn h h1 h2 h3 i).set ?_ _
  match i with
  | 0=>show 7522529147838689024+n.level<_;omega
  | 1=>show n.sib<_;omega
  | 2=>exact h.low
  | 3=>exact h.left
  | i+4=>show n.way<_;omega
theorem zpM {n:zB}(h:NB n)(h1:n.level<=100)(h2:n.sib<2048)(h3:n.way<=2):∀i,WB (zcO n i)
 | 0=>zqn h h1 h2 h3 5
 | i+1=>by
  rw[zcO];exact((zpM h h1 h2 h3 i).set (h.pairs.get i).1 _).set (h.pairs.get i).2 _
theorem zld {n:zB}(h:NB n)(h1:n.level<=100)(h2:n.sib<2048)(h3:n.way<=2):WB (zbr n):=zpM h h1 h2 h3 _
theorem ztx {l:List Pr}(h:PB l)(i:Nat):∀m,BB (upL l i m)
 | 0=>BB.nil
 | m+1=>by
  unfold upL
  split
  ·exact .cons (h.get m).2 (.cons (h.get m).1 (ztx h i m))
  ·exact BB.nil
theorem zoj {left:Nat}{w:List Nat}(hw:WB w)(hl:LtU left)(j:Nat):LtU (zbU left w j):=by
 unfold zbU
 split
 ·exact hl
 ·exact hw.get _
theorem zwT {left:Nat}{w:List Nat}{x:Pr}(hw:WB w)(hl:LtU left)(hx:LtU x.1/\LtU x.2):BB (zdm left w x).1:=by
 have hp:=zhy w left hw;unfold zdm
 split
 ·split
  ·exact BB.nil
  ·split
   ·exact BB.nil
   ·exact .cons (zCO9 _) ((ztx hp _ _).app (.cons (zoj hw hl _) (.cons hx.1 (.cons hx.2 BB.nil))))
 ·exact BB.nil
theorem zt5 {w:List Nat}(hw:WB w)(d m:Nat):BB (zdt w d m):=by
 unfold zdt dnL;refine BB.app (fun c hc=>?_) (.cons (zCO9 _) BB.nil);obtain⟨q,_,hc⟩:=zBC9.1 hc;simp only[zAX9,zDG9,or_false]at hc;rcases hc with rfl|rfl<;>exact hw.get _
theorem zv4 {left:Nat}{w:List Nat}(hw:WB w)(hl:LtU left)(key:Nat):BB (zc6 left w key).1:=by
 unfold zc6
 split
 ·split
  ·exact .cons (zoj hw hl _) (zt5 hw _ _)
  ·exact BB.nil
 ·exact BB.nil
theorem zub {w:List Nat}{v no:Nat}{r:List Pr×Nat}(hv:LtU v)(h:BB r.1):BB (chg w v no r).1:=by
 unfold chg
 split
 ·split
  ·refine BB.app ?_ fun c hc=>?_
   ·unfold zeg;split
    ·exact BB.nil
    ·exact .cons hv BB.nil
   ·obtain⟨x,hx,rfl⟩:=zAP9.1 hc;exact h x hx
  ·exact BB.nil
 ·exact BB.nil
theorem zrZ {w:List Nat}{x:Pr}(hw:WB w)(hx:LtU x.1/\LtU x.2):BB (zb0 w x).1:=zub (by decide) (zwT (hw.drop 8) (hw.get 3) hx)
theorem zvG {w:List Nat}(hw:WB w)(key:Nat):BB (zdy w key).1:=zub (by decide) (zv4 (hw.drop 8) (hw.get 3) key)
theorem zrt (m:Nat):∀k,BB (zfj m k)
 | 0=>BB.nil
 | k+1=>by
  unfold zfj
  split
  ·exact .cons (zCO9 _) (zrt m k)
  ·exact BB.nil
theorem zwM (n:zB){a:Nat}(ha:a<2048):BB (zeP n a):=.cons (show a<_ by omega) (zrt _ _)
theorem zxE {n:zB}(h:NB n):NB (zcb n):=by
 refine⟨(h.pairs.get _).1,?_,fun c hc=>?_⟩
 ·show LtU (if _ then _ else _)
  split
  ·exact(h.pairs.get _).2
  ·decide
 ·have hc:c∈(if 0<n.level then n.pairs.drop (n.pairs.length/2+1)else n.pairs.drop (n.pairs.length/2)):=hc
  split at hc<;>exact h.pairs c (zBY9 hc)
theorem zp6 {w:List Nat}(h:WB w):BB (zbV w):=fun c hc=>by
 obtain⟨i,_,rfl⟩:=zAP9.1 hc;exact h.get i
theorem BB.off {l:List Pr}(h:BB l)(a:Nat):BB (zbn a l):=fun c hc=>by
 obtain⟨x,hx,rfl⟩:=zAP9.1 hc;exact h x hx
structure KB (x:Wk):Prop where
 W:WB x.W
 L:BB x.L
theorem KB.does:∀{l:List Pr} {x:Wk},KB x->BB l->KB (x.does l)
 | [],x,h,_=>h
 | c::l,x,h,k=>by
  show KB ((x.one c).does l);exact KB.does ⟨h.W.set (k c (by simp)) _,h.L.app (.cons (k c (by simp)) BB.nil)⟩ fun y hy=>k y (zAT9 _ hy)
theorem KB.up {x:Wk}(h:KB x):KB x.up:=⟨h.W,h.L⟩
theorem zx4 {w:List Nat}(h:zbh w=0):(zaa w).level<=12/\(zaa w).sib<2048/\(zaa w).way<=2:=zdz (zc7 h)
theorem zmK {x:Wk}(h:KB x){b:Nat}(hc:zbh (zu x.W b)=0):WB (zbr (zcb (zaa (zu x.W b)))):=by
 have:=zx4 hc;have hn:=zxE (zqx (h.W.block b));generalize zaa (zu x.W b)=n at *
 exact zld hn (show n.level<=100 by omega) (show n.sib<2048 by omega) (zAS9 _)
theorem KB.cut {x:Wk}(h:KB x){b to:Nat}(hc:zbh (zu x.W b)=0)(ht:to<2048):KB (x.cut b to) :=
 (h.up.does ((zp6 (zmK h hc)).off _)).does ((zwM _ ht).off _)
theorem zxW {w:List Nat}(h:WB w):(ofN w).level<=12:=by
 unfold ofN
 split
 ·exact(zdz (by assumption)).1
 ·exact zAS9 _
theorem KB.root {x:Wk}(h:KB x)(fr:List Nat){at' b to low:Nat}(hb:b<2048)(ht:to<2048)(hl:LtU low)(hf:fr.getD x.used 0<2048):KB (x.root fr at' b to low).1:=by
 unfold Wk.root
 split
 ·exact h
 split
 ·exact h.up
 have hn:NB (zdC (ofN (zu x.W b)) b to low):=⟨zCO9 _,show b<_ by omega,fun c hc=>by
  have hc:c∈[(low,to)]:=hc;simp only[zAX9,zDG9,or_false]at hc;subst hc;exact⟨hl,show to<_ by omega⟩⟩
 have hv:=zxW (h.W.block b);generalize ofN (zu x.W b)=n at *
 exact(h.up.does ((zp6 (zld hn (show n.level+1<=100 by omega) (show (0:Nat)<2048 by decide) (zAS9 _))).off _)).does (.off (.cons (show fr.getD x.used 0<_ by omega) BB.nil) _)
theorem KB.fin {y:Wk}(h:KB y)(ab:Nat){to low:Nat}(ht:to<2048)(hl:LtU low):KB (y.fin ab to low).1:=h.does ((zrZ (h.W.block ab) ⟨hl,show to<_ by omega⟩).off _)
theorem zpp {fr:List Nat}{rr at':Nat}:∀(up:List Nat) (b:Nat) (x:Wk),zhK fr rr x (b::up)->KB x->KB (Wk.split fr at' (b::up) x).1
 | [],b,x,h,k=>by
  unfold Wk.split
  split
  ·exact k
  rename_i hu;have hu:x.used<fr.length:=by omega
  have hto:=(h.frN _ (h.to hu)).2;have hN:=h.hN;have hb:=h.inn b (by simp);have c:=zfa fr x b (fr.getD x.used 0) (zck _);have hl:=(zmK k (h.chk b (by simp))).get 2;have kc:=k.cut (to:=fr.getD x.used 0) (h.chk b (by simp)) (by omega);refine kc.root fr (by omega) (by omega) hl ?_
  by_cases hx:(x.cut b (fr.getD x.used 0)).used<fr.length
  ·have:=(h.frN (fr.getD (x.cut b (fr.getD x.used 0)).used 0) (by rw[zAQ9,zAB9 hx];exact zBP9 hx)).2;omega
  ·rw[zAQ9,zBQ9 (by omega)];decide
 | above::up,b,x,h,k=>by
  unfold Wk.split
  split
  ·exact k
  rename_i hu;have hu:x.used<fr.length:=by omega
  have hto:=(h.frN _ (h.to hu)).2;have hN:=h.hN;have hl:=(zmK k (h.chk b (by simp))).get 2;have kc:=k.cut (to:=fr.getD x.used 0) (h.chk b (by simp)) (by omega)
  split
  ·rename_i hf;have ih:=zpp (at':=at') up above _ (h.cut hu hf) kc
   split
   ·exact ih.fin _ (by omega) hl
   ·exact kc
  ·exact kc.fin _ (by omega) hl
theorem zuA {y:Wk}(h:KB y)(lf:Nat){pr:Pr}(hp:LtU pr.1/\LtU pr.2):BB (y.put lf pr).1:=(h.does ((zrZ (h.W.block lf) hp).off _)).L
theorem zjK:∀{l:List Pr} {w:List Nat},WB w->BB l->WB (zbo w l)
 | [],w,h,_=>h
 | c::l,w,h,k=>by
  show WB (zbo (w.set c.1 c.2) l);exact zjK (h.set (k c (by simp)) _) fun y hy=>k y (zAT9 _ hy)
def LNB (l:List zB):Prop:=∀n∈l,NB n/\n.level<=100/\n.way<=2
theorem zso {l:List Pr}(h:PB l):LNB (zbX l):=by
 unfold zbX
 split
 ·intro n hn;simp only[zAX9,zDG9,or_false]at hn;subst hn;exact⟨⟨zCO9 _,show 9223372036854775808<_ by decide,fun c hc=>by simp at hc⟩,zAS9 _,zAS9 _⟩
 ·intro n hn;obtain⟨i,_,rfl⟩:=zAP9.1 hn;refine⟨⟨?_,show 9223372036854775808<_ by decide,fun c hc=>h c (zBY9 (zCE9 hc))⟩,zAS9 _,zAS9 _⟩;show LtU (if _ then _ else _)
  split
  ·exact(h.get _).1
  ·exact zCO9 _
theorem ztv {lv:Nat}(hv:lv<=100){l:List Pr}(h:PB l):LNB (zco lv l):=fun n hn=>by
 obtain⟨i,_,rfl⟩:=zAP9.1 hn;exact⟨⟨(h.get _).1,(h.get _).2,fun c hc=>h c (zBY9 (zCE9 (zBY9 hc)))⟩,hv,zAS9 _⟩
theorem zoe:∀{bs:List Nat} {ns:List zB},(∀b∈bs,b<2048)->LNB ns->∀n∈zbq bs ns,NB n/\n.level<=100/\n.sib<2048/\n.way<=2
 | [],ns,_,_=>fun n hn=>by simp[zbq]at hn
 | _::_,[],_,_=>fun n hn=>by simp[zbq]at hn
 | b::bs,n::ns,h,k=>fun m hm=>by
  rw[zbq]at hm;rcases zAX9.1 hm with rfl|hm
  ·obtain⟨k1,k2,k3⟩:=k n (by simp);refine⟨⟨k1.low,k1.left,k1.pairs⟩,k2,?_,k3⟩;show bs.headD 0<2048
   cases bs with
   | nil=>decide
   | cons a bs=>exact h a (by simp)
  ·exact zoe (fun b hb=>h b (zAT9 _ hb)) (fun n hn=>k n (zAT9 _ hn)) m hm
def TB (T:List Lev):Prop:=∀L∈T,∀n∈L.2,NB n/\n.level<=100/\n.sib<2048/\n.way<=2
theorem zrV {free:List Nat}(hf:∀b∈free,b<2048):∀(k:Nat) (l:List zB) (used:Nat) (T T':List Lev),T.length+k<=90->LNB l->TB T->zhU free k l used T=some T'->TB T'
 | 0,l,used,T,T',_,_,_,h=>by cases h
 | k+1,l,used,T,T',hk,hl,hT,h=>by
  have hbs:∀b∈(free.drop used).take l.length,b<2048:=fun b hb=>hf b (zBY9 (zCE9 hb));have hT2:TB (((free.drop used).take l.length,zbq ((free.drop used).take l.length) l)::T):=fun L hL=>by
   rcases zAX9.1 hL with rfl|hL
   ·exact zoe hbs hl
   ·exact hT L hL
  unfold zhU at h
  split at h
  ·cases h
  ·split at h
   ·injection h with h;subst h;exact hT2
   ·refine zrV hf k _ _ _ _ (by rw[zAE9];omega) (ztv (by omega) fun c hc=>?_) hT2 h;have h1:=zFA9 hc;obtain⟨n,hn,e⟩:=zAP9.1 h1.1;have h2:=hbs _ h1.2;exact⟨by rw[<- e];exact(hl n hn).1.low,by omega⟩
theorem zkC:∀{T:List Lev},TB T->BB (zdY T)
 | [],_=>BB.nil
 | L::T,h=>by
  refine BB.app (fun c hc=>?_) (zkC fun M hM=>h M (zAT9 _ hM));obtain⟨x,hx,hc⟩:=zBC9.1 hc;obtain⟨i,_,rfl⟩:=zAP9.1 hc;obtain⟨h1,h2,h3,h4⟩:=h L (zAV9 ..) _ (zFA9 hx).2;exact(zld h1 h2 h3 h4).get i
theorem zjA {α:Type}{l:List α}(h:l ≠ []):∃i a,l=i++[a]:=⟨l.dropLast,l.getLast h,(List.dropLast_concat_getLast h).symm⟩
theorem zvt (p r:Nat)(w:List Nat)(a:Int)(pr:Pr)(fr:List Int)(hs:za2 w.length)(hfl:fr.length<100000):∃R:List Pr×Nat×Nat,FN ET 33 [wv p w,iv a,pv pr,.list r 1 (fr.map iv)] (.ret (zka R))/\R.2.1<=fr.length/\R.1.length<=900000/\(WB w->LtU pr.1/\LtU pr.2->BB R.1):=by
 have hA:=zl5 p r w a fr hs (by omega)
 by_cases h0:zih w a fr=0
 rotate_left
 ·exact⟨_,zv2 p r w a pr fr _ h0 hA,zAS9 _,zAS9 _,fun _ _=>BB.nil⟩
 obtain⟨n,frN,ws,rfl,hn,h64,hN,rfl,ht,hset,hS⟩:=zpG pr.1 h0;rw[h0]at hA;rw[zmE]at hA⊢;obtain⟨s1,s2,s3,s4,s5,s6,s7,s8,s9⟩:=hS;have hW:=zpB p w n pr.1 ws hN hn s1;obtain⟨init,leaf,rfl⟩:=zjA s6;have hleaf:leaf∈init++[leaf]:=by simp
 have hin:64*leaf+64<=w.length:=by have:=s3 leaf hleaf;omega
 have hpu:=zk8 p (zu w leaf) pr (by rw[zci _ _ hin];decide);have hlong:=ztJ (w:=zu w leaf) (x:=pr);have hfn:frN.length<100000:=by simpa using hfl
 have hpa:=zh4 (x:=pr) (zci w leaf hin);obtain⟨x0,hx0⟩:∃x0:Wk,x0=⟨p,0,w,[],frV r frN,0⟩:=⟨_,rfl⟩
 have hxW:x0.W=w:=by rw[hx0]
 have hI:(zb0 (zu w leaf) pr).2=3->zhK frN r x0 (leaf::init.reverse):=fun h=>by
  have hrev:leaf::init.reverse=(init++[leaf]).reverse:=by simp
  refine⟨by rw[hx0],by rw[hxW];exact hN,fun c hc=>?_,?_,fun c hc=>?_,fun c hc=>?_,fun f hf=>?_,fun f hf hc=>?_,?_,?_,by rw[hx0];exact zAS9 _,hfn⟩
  ·rw[hrev,zEK9]at hc;have:=s3 c hc;rw[hxW];omega
  ·rw[hrev];exact List.pairwise_reverse.2 (s4.imp Ne.symm)
  ·rw[hrev,zEK9]at hc;rw[hxW];exact s2 c hc
  ·simp at hc;subst hc;rw[hxW];exact hlong h
  ·have:=s7 f hf;rw[hxW];omega
  ·rw[hrev,zEK9]at hc;exact s8 f hf hc
  ·rw[hrev,List.length_reverse];omega
  ·rw[hrev,List.length_reverse,hx0];show 0+300*_<900000;omega
 have hway:init.reverse.reverse++[leaf]=init++[leaf]:=by rw[List.reverse_reverse]
 obtain⟨S,hSd⟩:∃S,S=Wk.split frN n (leaf::init.reverse) x0:=⟨_,rfl⟩
 have hO:(zb0 (zu w leaf) pr).2=3->zvu frN x0 (init.reverse.length+1) S:=fun h=>by rw[hSd];exact zjd _ _ _ (hI h)
 have hq:S.1.q=0:=by rw[hSd];exact zrL _ _ _ (by rw[hx0])
 have hfp:(zb0 (zu w leaf) pr).2=3->FP ET 81 [wkv x0,.list 0 1 (zd1 (init++[leaf])),iv n] (.ret (wk4 S)):=fun h=>by
  rw[<- hway,hSd];exact zll frN r n init.reverse leaf x0 0 (hI h) (by rw[hxW];exact hn)
 have hil:(init.reverse.length+1)<=14:=by simpa using s5
 have hP:(zb0 (zu w leaf) pr).2=3->S.2.2.2=0->zse frN r w.length S.1/\64*S.2.1+64<=w.length:=fun h h2=>by
  have o:=hO h;refine⟨⟨o.fr'.trans (by rw[hx0]),o.W.trans (by rw[hxW]),?_,hq⟩,by have:=o.inn h2;rw[hxW]at this;exact this⟩;have:=o.L;have h0:x0.L.length=0:=by rw[hx0];rfl
  omega
 have hK0:WB w->KB x0:=fun h=>⟨by rw[hxW];exact h,by rw[hx0];exact BB.nil⟩
 have hSB:(zb0 (zu w leaf) pr).2=3->WB w->KB S.1:=fun h hw=>by rw[hSd];exact zpp _ _ _ (hI h) (hK0 hw)
 clear hSd hI hlong;obtain⟨R,hR1,hR2,hR3,hR4⟩:∃R:List Pr×Nat×Nat,(¬(zb0 (zu w leaf) pr).2=0->¬(zb0 (zu w leaf) pr).2=3->R=([],0,(zb0 (zu w leaf) pr).2))/\((zb0 (zu w leaf) pr).2=3->¬S.2.2.2=0->R=([],0,S.2.2.2))/\((zb0 (zu w leaf) pr).2=3->S.2.2.2=0->R=S.1.put (if S.2.2.1<=pr.1 then S.2.1 else leaf) pr)/\((zb0 (zu w leaf) pr).2=0->R=x0.put leaf pr):=by
  by_cases c0:(zb0 (zu w leaf) pr).2=0
  ·exact⟨_,fun h=>absurd c0 h,fun h=>absurd (c0.symm.trans h) (by decide),fun h=>absurd (c0.symm.trans h) (by decide),fun _=>rfl⟩
  by_cases c3:(zb0 (zu w leaf) pr).2=3
  ·by_cases c4:S.2.2.2=0
   ·exact⟨_,fun _ h=>absurd c3 h,fun _ h=>absurd c4 h,fun _ _=>rfl,fun h=>absurd h c0⟩
   ·exact⟨_,fun _ h=>absurd c3 h,fun _ _=>rfl,fun _ h=>absurd h c4,fun h=>absurd h c0⟩
  ·exact⟨_,fun _ _=>rfl,fun h=>absurd h c3,fun h=>absurd h c3,fun h=>absurd h c0⟩
 refine⟨R,zsv p r n w pr frN (init++[leaf]) leaf x0 _ S R hN hx0 hA hW (by omega) (by simp) (by simp) hin hpu (fun h=>⟨hfp h,(hO h).fr'.trans (by rw[hx0]),hP h⟩) hR1 hR2 hR3 hR4,and_assoc.1 ⟨?_,fun hw hp=>?_⟩⟩;rotate_left
 ·by_cases c0:(zb0 (zu w leaf) pr).2=0
  ·rw[hR4 c0];exact zuA (hK0 hw) _ hp
  by_cases c3:(zb0 (zu w leaf) pr).2=3
  ·by_cases c4:S.2.2.2=0
   ·rw[hR3 c3 c4];exact zuA (hSB c3 hw) _ hp
   ·rw[hR2 c3 c4];exact BB.nil
  ·rw[hR1 c0 c3];exact BB.nil
 rw[zAA9];have hputf:∀(y:Wk) (lf:Nat),64*lf+64<=y.W.length->y.L.length<=899900->y.used<=frN.length->(y.put lf pr).2.1<=frN.length/\(y.put lf pr).1.length<=900000:=fun y lf h1 h2 h3=>by
  have k:=zh4 (x:=pr) (zci y.W lf h1);have d:=zcH (zbn (64*lf) (zb0 (zu y.W lf) pr).1) y;rw[zfV]at d;unfold Wk.put;exact⟨h3,by dsimp only;rw[d.2.1];omega⟩
 by_cases c0:(zb0 (zu w leaf) pr).2=0
 ·rw[hR4 c0];exact hputf x0 leaf (by rw[hxW];exact hin) (by rw[hx0];exact zAS9 _) (by rw[hx0];exact zAS9 _)
 by_cases c3:(zb0 (zu w leaf) pr).2=3
 ·by_cases c4:S.2.2.2=0
  ·rw[hR3 c3 c4];obtain⟨hp1,hp2⟩:=hP c3 c4;refine hputf S.1 _ ?_ hp1.L (hO c3).used;rw[hp1.W]
   split
   ·exact hp2
   ·exact hin
  ·rw[hR2 c3 c4];exact⟨zAS9 _,zAS9 _⟩
 ·rw[hR1 c0 c3];exact⟨zAS9 _,zAS9 _⟩
structure zjH (n m:zB):Prop where
 level:m.level=n.level
 sib:m.sib=n.sib
 low:m.low=n.low
 left:m.left=n.left
def ziy (ns ms:List zB):Prop:=ns.length=ms.length/\∀(i:Nat) (n m:zB),ns[i]?=some n->ms[i]?=some m->zjH n m
theorem ziy.snoc {ns ms:List zB}{n m:zB}(h:ziy ns ms)(k:zjH n m):ziy (ns++[n]) (ms++[m]):=by
 refine⟨by simp[h.1],fun i a b ha hb=>?_⟩;rcases zCP9 i ns.length with hi|hi
 ·rw[zAW9 hi]at ha;rw[zAW9 (by rw[<- h.1];exact hi)]at hb;exact h.2 i a b ha hb
 ·rw[zAO9 hi]at ha;rw[zAO9 (by rw[<- h.1];exact hi)]at hb;obtain rfl:=zBL9.1 (zAK9 ha);obtain rfl:=zBL9.1 (zAK9 hb);exact k
theorem ziy.goes {ns ms:List zB}{n m:zB}{lv:Int}(h:ziy ns ms)(k:zjH n m):zbM ms m lv=zbM ns n lv:=by
 unfold zbM;rw[zCF9,zCF9,<- h.1]
 cases hn:ns[ns.length-1]? with
 | none =>
  have hm:ms[ns.length-1]?=none:=by
   rw[List.getElem?_eq_none_iff]at hn⊢;rw[<- h.1];exact hn
  rw[hm];simp only;rw[k.low,k.level]
 | some z =>
  have hlt:=(zAD9.1 hn).1;obtain⟨y,hy⟩:∃y,ms[ns.length-1]?=some y:=⟨_,zAB9 (by rw[<- h.1];exact hlt)⟩
  rw[hy];have e:=h.2 _ _ _ hn hy;simp only;rw[k.low,k.level,e.low,e.level]
structure zjw (w v:List Nat):Prop where
 len:v.length=w.length
 head:∀b,zbI (zu w b)=true->zbI (zu v b)=true/\zjH (zaa (zu w b)) (zaa (zu v b))
theorem zjL {w v:List Nat}(hwv:zjw w v){lv:Int}{s:List Nat}{B:List Nat}{N:List zB}:∀(k:Nat) (seen bs:List Nat) (ns ms:List zB) (b:Nat),ziy ns ms->zbp w lv k seen bs ns b=some (s,B,N)->∃M,zbp v lv k seen bs ms b=some (s,B,M)/\ziy N M
 | 0,seen,bs,ns,ms,b,h,hr=>by
  rw[zbp]at hr⊢
  split at hr
  ·rename_i hb;injection hr with hr;injection hr with r1 hr;injection hr with r2 r3;subst r1 r2 r3;exact⟨ms,by rw[if_pos hb],h⟩
  ·cases hr
 | k+1,seen,bs,ns,ms,b,h,hr=>by
  rw[zbp]at hr⊢
  split at hr
  ·rename_i hb;injection hr with hr;injection hr with r1 hr;injection hr with r2 r3;subst r1 r2 r3;exact⟨ms,by rw[if_pos hb],h⟩
  rename_i hb
  split at hr
  ·cases hr
  rename_i hbad
  split at hr
  rotate_left
  ·cases hr
  rename_i hg;rw[zAR9]at hg;obtain⟨e1,e2⟩:=hwv.head b hg.1;rw[if_neg hb,hwv.len,if_neg hbad,if_pos (by rw[zAR9];exact⟨e1,by rw[h.goes e2];exact hg.2⟩),e2.sib];exact zjL hwv k _ _ _ _ _ (h.snoc e2) hr
theorem zpP {w v:List Nat}(hwv:zjw w v):∀(d:Nat) (seen:List Nat) (acc acc':List Lev) (b:Nat) (lv:Int),(zdj w d seen acc b lv).1 ≠ []->(zdj v d seen acc' b lv).1 ≠ []
 | 0,_,_,_,_,_,h=>absurd rfl h
 | d+1,seen,acc,acc',b,lv,h=>by
  rw[zdj]at h⊢
  cases hr:zbp w lv (w.length/64) seen [] [] b with
  | none=>rw[hr]at h;exact absurd rfl h
  | some r =>
   obtain⟨s',bs,ns⟩:=r;obtain⟨M,hM,hA⟩:=zjL hwv _ _ _ _ [] _ ⟨rfl,fun i n m hn=>by simp at hn⟩ hr;rw[hr]at h;rw[hwv.len,hM]
   cases ns with
   | nil=>exact absurd rfl h
   | cons n ns =>
    cases M with
    | nil=>have:=hA.1;simp at this
    | cons m M =>
     have e:=hA.2 0 n m rfl rfl;simp only at h⊢;rw[e.level]
     by_cases hl:n.level=0
     ·rw[if_pos hl];simp
     ·rw[if_neg hl]at h⊢;rw[e.left];exact zpP hwv d _ _ _ _ _ h
theorem zlS (b:Nat):∀(l:List Pr) (w:List Nat),64*b+64<=w.length->(∀s∈l,s.1<64)->zu (zbo w (zbn (64*b) l)) b=zbo (zu w b) l
 | [],_,_,_=>rfl
 | s::l,w,hb,h=>by
  have h1:=h s (zAV9 ..);have e1:zbo w (zbn (64*b) (s::l))=zbo (w.set (64*b+s.1) s.2) (zbn (64*b) l):=rfl;have e2:zbo (zu w b) (s::l)=zbo ((zu w b).set s.1 s.2) l:=rfl;rw[e1,e2,zlS b l _ (by simpa using hb) fun t ht=>h t (zAT9 _ ht)]
  congr 1
  unfold zu
  apply zES9
  intro j;rw[zCB9,zBD9,zFK9,zFK9,zCB9,zBD9];simp only[zCI9,zBB9]
  by_cases hj:s.1=j
  ·subst hj;rw[if_pos (by omega),if_pos rfl,if_pos (by omega),if_pos rfl,if_pos (by omega)]
  ·rw[if_neg hj]
   by_cases hj2:64*b+j<64*b+64
   ·rw[if_pos hj2,if_neg (by omega),if_pos hj2]
   ·rw[if_neg hj2,if_neg hj2]
theorem zjC (i:Nat):∀(l:List Pr) (w:List Nat),(∀s∈l,s.1≠i)->(zbo w l).getD i 0=w.getD i 0
 | [],_,_=>rfl
 | s::l,w,h=>by
  have e:zbo w (s::l)=zbo (w.set s.1 s.2) l:=rfl;rw[e,zjC i l _ fun t ht=>h t (zAT9 _ ht),zAQ9,zAZ9 (h s (zAV9 ..)),<- zAQ9]
theorem zn3 (i x:Nat):∀(l:List Pr) (w:List Nat),(∀s∈l,s.1=i->s.2<=x)->w.getD i 0<=x->(zbo w l).getD i 0<=x
 | [],_,_,h=>h
 | s::l,w,h,hw=>by
  have e:zbo w (s::l)=zbo (w.set s.1 s.2) l:=rfl;rw[e];refine zn3 i x l _ (fun t ht=>h t (zAT9 _ ht)) ?_;rw[zAQ9,zFK9]
  split
  ·rename_i hi
   split
   ·exact h s (zAV9 ..) hi
   ·exact zAS9 _
  ·rw[<- zAQ9];exact hw
theorem ztp {w:List Nat}{v no:Nat}{r:List Pr×Nat}:∀c∈(chg w v no r).1,(c.1=4/\c.2=v)\/8<=c.1:=fun c hc=>by
 unfold chg at hc
 split at hc
 ·split at hc
  ·rcases zBF9.1 hc with hc|hc
   ·unfold zeg at hc
    split at hc
    ·simp at hc
    ·simp at hc;subst hc;exact .inl ⟨rfl,rfl⟩
   ·unfold zcG at hc;obtain⟨y,hy,rfl⟩:=zAP9.1 hc
    right;dsimp only;omega
  ·simp at hc
 ·simp at hc
theorem zvv {w:List Nat}{l:List Pr}(hw:zbI w=true)(h:∀c∈l,(c.1=4/\c.2<=2)\/8<=c.1):zbI (zbo w l)=true/\zjH (zaa w) (zaa (zbo w l)):=by
 have hg:∀i,i<8->i≠4->(zbo w l).getD i 0=w.getD i 0:=fun i hi h4=>zjC i l w fun s hs e=>by
  rcases h s hs with h|h<;>omega
 rw[zhJ,zAR9]at hw;obtain⟨h8,h1⟩:=hw;unfold zdR at h8;simp only[zAR9,decide_eq_true_eq]at h8;obtain⟨⟨⟨⟨⟨⟨⟨k0,k1⟩,k2⟩,k3⟩,k4⟩,k5⟩,k6⟩,k7⟩:=h8;have h4:(zbo w l).getD 4 0<=2:=zn3 4 2 l w (fun s hs e=>by rcases h s hs with h|h<;>omega) k4;refine⟨?_,⟨?_,?_,?_,?_⟩⟩
 ·rw[zhJ,zAR9];refine⟨?_,by rw[hg 0 (by decide) (by decide),hg 3 (by decide) (by decide)];exact h1⟩;unfold zdR;simp only[zAR9,decide_eq_true_eq];rw[zeF,hg 0 (by decide) (by decide),hg 1 (by decide) (by decide),hg 5 (by decide) (by decide),hg 6 (by decide) (by decide),hg 7 (by decide) (by decide)];exact⟨⟨⟨⟨⟨⟨⟨k0,k1⟩,k2⟩,k3⟩,h4⟩,k5⟩,k6⟩,k7⟩
 ·show zgw _=zgw _;rw[hg 0 (by decide) (by decide)]
 ·exact hg 1 (by decide) (by decide)
 ·exact hg 2 (by decide) (by decide)
 ·exact hg 3 (by decide) (by decide)
theorem zte {w:List Nat}{b key:Nat}(hb:64*b+64<=w.length):zjw w (zbo w (zbn (64*b) (zdy (zu w b) key).1)):=by
 have ha:=zk4 (key:=key) (zci w b hb);refine⟨zeF _ _,fun c hc=>?_⟩
 by_cases h:c=b
 ·subst h;rw[zlS c _ w hb ha.2];exact zvv hc fun s hs=>by
   rcases ztp s hs with h|h
   ·exact .inl ⟨h.1,by omega⟩
   ·exact .inr h
 ·rw[zjF (Ne.symm h) _ _ ha.2];exact⟨hc,⟨rfl,rfl,rfl,rfl⟩⟩
theorem zt8 {w:List Nat}{n b key:Nat}(hb:64*b+64<=w.length)(hn:(zbL w n).1 ≠ [])(hne:¬n/64=b):(zbL (zbo w (zbn (64*b) (zdy (zu w b) key).1)) n).1 ≠ []:=by
 have ha:=zk4 (key:=key) (zci w b hb);have hg:(zbo w (zbn (64*b) (zdy (zu w b) key).1)).getD n 0=w.getD n 0:=zjC n _ w fun s hs e=>by
  unfold zbn at hs;obtain⟨y,hy,rfl⟩:=zAP9.1 hs;have:=ha.2 y hy;dsimp only at e;omega
 unfold zbL at hn⊢;rw[hg];exact zpP (zte hb) _ _ _ _ _ _ hn
theorem f12:ET.funcs.get 12=some T12:=zL Tryz.func12
@[reducible] def znq (L:List Pr) (n:Nat) (bs:List Nat) (no:Nat):PV:=.tuple [.list 0 2 (L.map zat),iv n,.list 0 1 (bs.map fun (b:Nat)=>iv (b:Int)),iv no]
theorem zrq (L:List Pr)(n:Nat)(bs:List Nat)(no:Nat):Lb (znq L n bs no):=.tuple fun v hv=>by
 simp at hv;rcases hv with rfl|rfl|rfl|rfl
 ·exact zdc _
 ·exact .int _ _
 ·exact Lb.ivn _
 ·exact .int _ _
theorem zwk {H:List zn}(q:Nat)(hq:q=0)(L:List Pr)(n no:Nat):Frz H 0 (.tuple [.list q 2 (L.map zat),iv (n:Int),.nilsl,iv (no:Int)]) (znq L n [] no):=by
 subst hq;exact Frz.tupL ⟨.list _ _ _,.int _ _,.nil _ _,.int _ _,trivial⟩
theorem ztT (p r:Nat)(w:List Nat)(a:Int)(key:Nat)(fr:List Int)(no:Nat)(hno:¬no=0)(hA:FN ET 45 [wv p w,iv a,.list r 1 (fr.map iv)] (.ret (iv (no:Nat)))):FN ET 12 [wv p w,iv a,uv key,.list r 1 (fr.map iv)] (.ret (znq [] 0 [] no)):=by
 refine zfn f12 (zrq _ _ _ _) ?_;have g:¬(no:Int)=0:=by omega
 (repeat(first|refine za ?_|refine zgo ?_));(repeat refine za ?_);refine zrg ?_;refine zca hA ?_;refine zfx ?_;refine zh ?_;(repeat(first|refine za ?_|refine zgo ?_ (by simp(disch:=omega)only[go_sem,g]<;>rfl)));refine zfc ?_ ?_;rotate_left
 ·intro h;cases h
 intro _;(repeat(first|refine za ?_|refine zgo ?_));refine zq ?_;(try simp only[zb,zf,ze,zd,zg]);refine zj (by simp only[T12,zE,go_sem]<;>rfl) ?_;simp only[zG];exact Frz.tupL ⟨.nil _ _,.int _ _,.nil _ _,.int _ _,trivial⟩
theorem znV {w:List Nat}(hw:w.length<=131072):∀(d:Nat) (seen:List Nat) (acc:List Lev) (b:Nat) (lv:Int),(∀L∈acc,L.1.length<=w.length/64)->∀L∈(zdj w d seen acc b lv).1,L.1.length<=w.length/64
 | 0,_,_,_,_,_,L,hL=>by simp[zdj]at hL
 | d+1,seen,acc,b,lv,h,L,hL=>by
  rw[zdj]at hL
  cases hr:zbp w lv (w.length/64) seen [] [] b with
  | none=>rw[hr]at hL;simp at hL
  | some r =>
   obtain⟨s',bs,ns⟩:=r;obtain⟨_,_,hb⟩:=zey (N:=w.length/64) _ _ _ _ _ _ hr (LvF.nil w) (fun n hn=>by simp at hn) (by simp);rw[hr]at hL
   cases ns with
   | nil=>simp at hL
   | cons n ns =>
    simp only at hL;have h2:∀K∈acc++[(bs,n::ns)],K.1.length<=w.length/64:=fun K hK=>by
     rcases zBF9.1 hK with hK|hK
     ·exact h K hK
     ·obtain rfl:=zBL9.1 hK;exact hb
    by_cases hl:n.level=0
    ·rw[if_pos hl]at hL;exact h2 L hL
    ·rw[if_neg hl]at hL;exact znV hw d _ _ _ _ h2 L hL
theorem zxl (L:List zB):∃(P:List Pr) (f:Bool),zfw L=.ret (.tuple [psv 0 P,.bool f])/\P.length<=(zbQ L).length:=by
 unfold zfw
 split
 ·exact⟨_,_,rfl,zAM9 _⟩
 ·exact⟨[],_,rfl,zAS9 _⟩
set_option maxHeartbeats 4000000 in
theorem zqM (p r n key:Nat)(w:List Nat)(ws:List Nat)(leaf:Nat)(x0 x1:Wk)(tk:List Pr×Nat)(T:List Lev)(LL:Lev)(P:List Pr)(f f2:Bool)(hN:w.length<=131072)(hx0:x0=⟨p,0,w,[],frV r [],0⟩)
  (hA:FN ET 45 [wv p w,iv n,frV r []] (.ret (iv (0:Nat)))) (hW:FN ET 46 [wv p w,iv n,uv key] (.ret (.list 0 1 (zd1 ws)))) (hwl:ws.length<=20) (hlf:ws[ws.length-1]?=some leaf) (hne:0<ws.length) (hin:64*leaf+64<=w.length)
  (htk:FN ET 47 [wv p (zu w leaf),uv key] (.ret (.tuple [.list 0 2 (tk.1.map zat),iv (tk.2:Nat)])))
  (hdo:tk.2=0->FP ET 49 [wkv x0,iv (64*leaf:Nat),.list 0 2 (tk.1.map zat)] (.ret (wkv x1))/\x1.fr=frV r []/\x1.q=0/\x1.used=0)
  (hlv:tk.2=0->FN ET 50 [wv x1.p x1.W,iv n] (.ret (.tuple [zbK T,.bool f]))) (hT:T[T.length-1]?=some LL) (hTl:0<T.length/\T.length<=14) (hLL:LL.2.length<=40)
  (hpa:FN ET 51 [zbk 0 0 LL.1 LL.2] (.ret (.tuple [psv 0 P,.bool f2]))) (hP:P.length<=100000) :
  FN ET 12 [wv p w,iv n,uv key,frV r []] (.ret (znq (if tk.2=0 then x1.L else[]) 0 [] tk.2)):=by
 refine zfn f12 (zrq _ _ _ _) ?_;have hx0f:Id0 x0.fr:=by rw[hx0];exact .list _ _ _
 have hidx:Id0 (wkv x0):=zcL hx0f;have hxv:wkv x0=.agg [wv p w,.list 0 2 [],frV r [],iv 0]:=by rw[hx0];rfl
 have hxW:x0.W=w:=by rw[hx0]
 have hxp:x0.p=p:=by rw[hx0]
 have hat0:=zfO x0 hx0f leaf (by rw[hxW];exact hin) (by rw[hxW];exact hN);rw[hxp,hxW,hxv]at hat0;rw[hxv]at hidx hdo
 have hlvv:(zd1 ws)[ws.length-1]?=some (iv leaf):=by rw[zAG9,hlf];rfl
 have e1:(ws.length:Int)-1=((ws.length-1:Nat):Int):=by omega
 have e2:ws.length-1<ws.length:=by omega
 (repeat(first|refine za ?_|refine zgo ?_));(repeat refine za ?_);refine zrg ?_;refine zca hA ?_;refine zfx ?_;refine zh ?_;(repeat(first|refine za ?_|refine zgo ?_));refine zfc ?_ ?_
 ·intro h;cases h
 intro _;refine zF ?_;show W _ _ _ _ _ _;(repeat refine za ?_);refine zrg ?_;refine zca hW ?_;refine zfx ?_;refine zh ?_;(repeat(first|refine za ?_|refine zgo ?_ (by simp(disch:=omega)only[go_sem,hlvv,e1,e2,zc,zk,zAA9]<;>rfl)));refine zpX 0 (v':=.agg [wv p w,.list 0 2 [],frV r [],iv 0]) rfl rfl (zp5 p 0 w _) ?_;simp only[zCX9];refine zdk (fun tm=>tm 0=wv p w/\tm 1=iv n/\tm 2=uv key/\tm 3=frV r []/\tm 14=iv leaf/\tm 15=.ptr 0 0 0 0 4) ⟨by simp[upd,zo],by simp[upd,zo],by simp[upd,zo],by simp[upd,zo],by simp[upd,zo],by simp[upd,zo]⟩ ?_;rintro tm ⟨h0,h1,h2,h3,h14,h15⟩;(repeat refine za ?_);refine zrg ?_ (by simp(disch:=omega)only[go_sem,h14,h15]<;>rfl);refine zcg (by first|rfl|(simp only[go_sem]<;>rfl)) (by simp only[go_sem]<;>rfl) hat0 rfl ?_ ?_;(repeat(first|exact trivial|refine And.intro ?_ ?_|exact Id0.int _ _|exact Id0.bool _|exact Id0.list _ _ _|exact Id0.elem _|exact Id0.nilsl|exact Id0.str _|exact zcj _ _ _))
 ·exact hidx
 ·(repeat(first|exact trivial|refine And.intro ?_ ?_|exact Id0.int _ _|exact Id0.bool _|exact Id0.list _ _ _|exact Id0.elem _|exact Id0.nilsl|exact Id0.str _|exact zcj _ _ _))
 refine zfx ?_ (by simp(disch:=omega)only[go_sem,h2]<;>rfl);refine zca htk ?_;refine zfx ?_;refine zh ?_
 by_cases hok:tk.2=0
 rotate_left
 ·rw[if_neg hok];have g1:¬((tk.2:Nat):Int)=0:=by omega
  (repeat(first|refine za ?_|refine zgo ?_ (by simp(disch:=omega)only[go_sem,g1]<;>rfl)));refine zfc ?_ ?_;rotate_left
  ·intro h;cases h
  intro _;(repeat(first|refine za ?_|refine zgo ?_));refine zq ?_;(try simp only[zb,zf,ze,zd,zg]);refine zj (by simp only[T12,zE,go_sem]<;>rfl) ?_;simp only[zG];exact Frz.tupL ⟨.nil _ _,.int _ _,.nil _ _,.int _ _,trivial⟩
 rw[if_pos hok];have g1:((tk.2:Nat):Int)=0:=by omega
 obtain⟨hdo,hxf,hxq,hxu⟩:=hdo hok;have hlv:=hlv hok;have hx1v:wkv x1=.agg [wv x1.p x1.W,.list x1.q 2 (x1.L.map zat),frV r [],iv x1.used]:=by unfold wkv;rw[hxf]
 rw[hx1v]at hdo
 have w4:IntKind.i64.wrap ((64:Int)*(leaf:Int))=((64*leaf:Nat):Int):=by rw[wrap_i64 (by omega) (by omega)];omega
 (repeat(first|refine za ?_|refine zgo ?_ (by simp(disch:=omega)only[go_sem,g1]<;>rfl)));refine zfc ?_ ?_
 ·intro h;cases h
 intro _;refine zF ?_;show W _ _ _ _ _ _;(repeat refine za ?_);refine zrg ?_ (by simp(disch:=omega)only[go_sem,h14,h15,w4]<;>rfl);refine zcg (by first|rfl|(simp only[go_sem]<;>rfl)) (by simp only[go_sem]<;>rfl) hdo rfl ?_ ?_;(repeat(first|exact trivial|refine And.intro ?_ ?_|exact Id0.int _ _|exact Id0.bool _|exact Id0.list _ _ _|exact Id0.elem _|exact Id0.nilsl|exact Id0.str _|exact zcj _ _ _))
 ·exact hidx
 ·(repeat(first|exact trivial|refine And.intro ?_ ?_|exact Id0.int _ _|exact Id0.bool _|exact Id0.list _ _ _|exact Id0.elem _|exact Id0.nilsl|exact Id0.str _|exact zcj _ _ _))
 refine zfx ?_ (by simp(disch:=omega)only[go_sem,h15]<;>rfl);refine zh ?_;have hTv:(T.map fun L=>zbk 0 0 L.1 L.2)[T.length-1]?=some (zbk 0 0 LL.1 LL.2):=by rw[zAG9,hT];rfl
 have e3:(T.length:Int)-1=((T.length-1:Nat):Int):=by omega
 have e4:T.length-1<T.length:=by omega
 refine zdk (fun tm=>tm 1=iv n/\tm 3=frV r []/\tm 15=.ptr 0 0 0 0 4) ⟨by simp[upd,h1],by simp[upd,h3],by simp[upd,h15]⟩ ?_;clear h0 h1 h2 h3 h14 h15;rintro tm ⟨h1,h3,h15⟩;(repeat refine za ?_);refine zrg ?_ (by simp(disch:=omega)only[go_sem,h1,h15]<;>rfl);refine zca hlv ?_;refine zfx ?_;refine zh ?_;(repeat refine za ?_);refine zrg ?_ (by simp(disch:=omega)only[go_sem,hTv,e3,e4,zAA9]<;>rfl);refine zca hpa ?_;refine zfx ?_;refine zh ?_;refine zdk (fun tm=>tm 3=frV r []/\tm 15=.ptr 0 0 0 0 4/\tm 18=zbK T/\tm 20=psv 0 P) ⟨by simp[upd,h3],by simp[upd,h15],by simp[upd],by simp[upd]⟩ ?_;clear h1 h3 h15;rintro tm ⟨h3,h15,h18,h20⟩;(repeat refine za ?_);refine zbA (Q:=fun yy s'=>yy=.norm/\s'.tm 15=.ptr 0 0 0 0 4/\s'.tm 110=.bool true/\s'.df=[]/\s'.H=[.row 107 4 0 0 [.agg [wv x1.p x1.W,.list x1.q 2 (x1.L.map zat),frV r [],iv x1.used]]]) (zr ?_) ?_
 ·by_cases hT1:T.length=1
  ·have c1:=eq_true (show ((T.length:Nat):Int)=1 by omega);refine zfx ?_ (by simp(disch:=omega)only[go_sem,h18,h20,c1,zAA9]<;>rfl);refine zy ?_;simp only[zb,zf,ze,zd,zi,zg,if_true,↓reduceIte];exact⟨(by first|exact trivial|rfl),h15,by simp[upd],(by first|exact trivial|rfl),(by first|exact trivial|rfl)⟩
  have c1:¬((T.length:Nat):Int)=1:=by omega
  have w6:IntKind.i64.wrap ((6:Int)*(LL.2.length:Int))=((6*LL.2.length:Nat):Int):=by rw[wrap_i64 (by omega) (by omega)];omega
  by_cases hP6:6*LL.2.length<P.length
  ·have c2:((6*LL.2.length:Nat):Int)<(P.length:Nat):=by omega
   refine zfx ?_ (by simp(disch:=omega)only[go_sem,h18,h20,c1,c2,w6,hTv,e3,e4,zAA9]<;>rfl);refine zy ?_;simp only[zb,zf,ze,zd,zi,zg,if_true,↓reduceIte];exact⟨(by first|exact trivial|rfl),h15,by simp[upd],(by first|exact trivial|rfl),(by first|exact trivial|rfl)⟩
  have c2:¬((6*LL.2.length:Nat):Int)<(P.length:Nat):=by omega
  have hnd:=zpc P.length (by omega);have hn1:1<=zeo P.length:=by
   unfold zeo;rw[zek];have:=Nat.le_max_left 1 ((P.length+17)/18);omega
  have c3:(0:Int)<(zeo P.length:Nat):=by omega
  refine zfx ?_ (by simp(disch:=omega)only[go_sem,h18,h20,h3,c1,c2,w6,hTv,e3,e4,zAA9]<;>rfl);refine zca hnd ?_;refine zfx ?_ (by simp(disch:=omega)only[go_sem,h3,c3,zBX9,zAH9]<;>rfl);refine zy ?_;simp only[zb,zf,ze,zd,zi,zg,if_true,↓reduceIte];exact⟨(by first|exact trivial|rfl),h15,by simp[upd],(by first|exact trivial|rfl),(by first|exact trivial|rfl)⟩
 clear h3 h15 h18 h20;rintro yy ⟨tm,df,H⟩ ⟨rfl,h15,h110,rfl,rfl⟩;dsimp only at h15 h110;simp only[zb,zf,ze,zd,zi,zg,if_true,reduceIte];refine zfc ?_ ?_ (by simp only[go_sem,h110]<;>rfl);rotate_left
 ·intro h;cases h
 intro _;(repeat(first|refine za ?_|refine zgo ?_ (by simp(disch:=omega)only[go_sem,h15]<;>rfl)));refine zq ?_;(try simp only[zb,zf,ze,zd,zg]);refine zj (by simp only[T12,zE,go_sem]<;>rfl) ?_;simp only[zG];rw[hok];exact zwk _ hxq x1.L 0 0
theorem zsi (p r n key:Nat)(w:List Nat)(hw:w.length<=2560)(hn:n<64):∃(L:List Pr) (no:Nat),FN ET 12 [wv p w,iv n,uv key,.list r 1 []] (.ret (znq L 0 [] no))/\L.length<=900000/\(WB w->BB L):=by
 have hA:=zl5 p r w n [] (by unfold za2;omega) (by decide)
 by_cases h0:zih w n []=0
 rotate_left
 ·exact⟨_,_,ztT p r w n key [] _ h0 hA,zAS9 _,fun _=>BB.nil⟩
 obtain⟨n',frN,ws,hnn,hn2,h64,hN,hfr,ht,hset,hS⟩:=zpG key h0;obtain rfl:n'=n:=by omega
 obtain rfl:frN=[]:=by cases frN with|nil=>rfl|cons a l=>simp at hfr
 rw[h0]at hA;obtain⟨s1,s2,s3,s4,s5,s6,s7,s8,s9⟩:=hS;have hW:=zpB p w n' key ws hN hn2 s1;obtain⟨init,leaf,rfl⟩:=zjA s6;have hleaf:leaf∈init++[leaf]:=by simp
 have hin:64*leaf+64<=w.length:=by have:=s3 leaf hleaf;omega
 have hpos:=s9 leaf hleaf;have htk:=zt3 p key (zu w leaf) (by rw[zci _ _ hin];decide);have hta:=zk4 (key:=key) (zci w leaf hin);obtain⟨x0,hx0⟩:∃x0:Wk,x0=⟨p,0,w,[],frV r [],0⟩:=⟨_,rfl⟩
 have hxW:x0.W=w:=by rw[hx0]
 have hxL:x0.L.length=0:=by rw[hx0];rfl
 have hd:=zfg x0 (by rw[hx0];exact .list _ _ _) (64*leaf) 0 (zdy (zu w leaf) key).1 (by omega) (by rw[hxW];omega) fun c hc=>by have:=hta.2 c hc;rw[hxW];omega
 have hdf:=zcH (zbn (64*leaf) (zdy (zu w leaf) key).1) x0;have hdq:=zem (zbn (64*leaf) (zdy (zu w leaf) key).1) x0 (by rw[hx0]);have hdW:=zis (zbn (64*leaf) (zdy (zu w leaf) key).1) x0;rw[hxW]at hdW;rw[zfV]at hdf;obtain⟨t1,t2⟩:=zee w n';have hne0:(zbL w n').1 ≠ []:=by
  rw[t2 ht];exact(zbW (w:=w) (T:=(zO w n').1) hN n' (by rw[<- ht])).2.2.1
 have hne:=zt8 (key:=key) hin hne0 (by omega);rw[<- hdW]at hne;have hWl:(x0.does (zbn (64*leaf) (zdy (zu w leaf) key).1)).W.length=w.length:=hdf.1.trans (by rw[hxW]);have hxB:WB w->BB (x0.does (zbn (64*leaf) (zdy (zu w leaf) key).1)).L:=fun h=>(KB.does (x:=x0) ⟨by rw[hxW];exact h,by rw[hx0];exact BB.nil⟩ ((zvG (h.block leaf) key).off _)).L;generalize x0.does (zbn (64*leaf) (zdy (zu w leaf) key).1)=x1 at *
 have hlv:=zd9 x1.p x1.W ⟨by omega,by omega⟩ n' (by omega);obtain⟨tf1,tf2⟩:=zhY (w:=x1.W) (by omega) n';have tf3:∀L∈(zbL x1.W n').1,L.1.length<=x1.W.length/64:=znV (by omega) 14 [] [] _ _ fun L hL=>by simp at hL
 generalize (zbL x1.W n').1=T at *
 obtain⟨tinit,LL,rfl⟩:=zjA hne;have hLm:LL∈tinit++[LL]:=by simp
 have hLF:=tf1 LL hLm;have hL40:LL.2.length<=40:=by have:=tf3 LL hLm;have:=hLF.lv.len;omega
 have hp28:∀m∈LL.2,m.pairs.length<=28:=fun m hm=>(hLF.lv.node hm).1;have hll:=ze1 LL.2 hp28;have hpa:=zik 0 0 LL.1 LL.2 (by omega) hp28 (by omega);obtain⟨P,f2,hE,hPl⟩:=zxl LL.2;rw[hE]at hpa;refine⟨_,_,zqM p r n' key w (init++[leaf]) leaf x0 x1 (zdy (zu w leaf) key) (tinit++[LL]) LL P _ f2 hN hx0 hA hW (by omega) (by simp) (by simp) hin htk (fun _=>⟨hd,hdf.2.2.1.trans (by rw[hx0]),hdq,hdf.2.2.2.trans (by rw[hx0])⟩) (fun _=>hlv) (by simp) ⟨by simp,tf2⟩ hL40 hpa (by omega),?_⟩;refine⟨?_,fun hw=>?_⟩
 ·split
  ·rw[hdf.2.1];omega
  ·exact zAS9 _
 ·split
  ·exact hxB hw
  ·exact BB.nil
end Fv
end Go.Proofs.YtfomlmhnmheenaaGreat
namespace Go.Proofs.YtfomlmhnmheenaaGreat
namespace Fv
open Tw
attribute [local go_sem] zaZ zaz zab zap evs ev okv zbj zT.cls za5 za7 za9 zQ zR upd zo zaS zaQ zaR zax zaL zaP zaT zaM zaY zaO zar zaV zaU zaX zaW zaK zaN zae zaC zaJ zal zak zbg PV.cells ofC za6 zV zao okF zaf spl zaB zaF bnd zai zam zan za3 zbb zU zau zaH zaj za8 zbd zW lenP zc zk zah zba PV.toT zaA zH Nat.mul_mod_right Int.reduceOfNat Int.reduceToNat Int.cast_ofNat_Int Int.reduceLE Int.reduceLT Int.reduceAdd Int.reduceSub Int.reduceMul Int.reduceNegSucc Nat.reduceEqDiff if_true if_false ite_true ite_false decide_true decide_false Bool.not_true Bool.not_false and_true true_and and_self false_and and_false or_false false_or or_true true_or or_self List.length_cons List.length_nil List.length_map List.getElem?_cons_zero List.getElem?_cons_succ List.getElem?_map List.getElem?_nil Option.map_some Option.map_none Option.getD_some List.append_nil List.nil_append List.cons_append List.take_succ_cons List.take_zero List.drop_zero List.drop_succ_cons List.set_cons_zero List.set_cons_succ Int.toNat_natCast Int.natCast_nonneg Nat.le_refl Nat.zero_le Nat.reduceAdd Nat.reduceSub Nat.reduceMul Nat.reduceLeDiff Nat.reduceLT Bool.false_eq_true Bool.true_eq_false Nat.add_zero Nat.zero_add List.all_cons List.all_nil Bool.and_true Bool.and_self Bool.true_and Nat.reduceMod Nat.reduceDiv eq_self zaq zaD zX za4 evN za0 dpF zaI zbf zaw za1 zbe zaE List.filter_cons List.filter_nil List.contains_cons List.contains_nil Nat.reduceBEq zac zad zP Option.some.injEq Option.isSome_some wrap_i64 zJ zaG Bool.or_self Bool.or_false Bool.false_or daF dnF xT T4 T5 T8 T9 T10 T11 T12 T13 T14 T15 T16 T17 T18 T19 T20 T21 T22 T23 T24 T25 T26 T27 T28 T30 T33 T34 T36 T37 T38 T39 T40 T41 T42 T43 T44 T45 T46 T47 T48 T49 T50 T51 T52 T53 T54 T55 T56 T57 T58 T59 T60 T61 T62 T63 T64 T65 T66 T67 T68 T69 T70 T71 T72 T73 T75 T76 T77 T80 T81 T82 T83 T84 T85 T86 T87 T88 T89 T90 T91 T92 T93 T94 T95 T96 T97 T98 T99 T100 T101 T102 T103 T104 T105 T106 T107 T108 T109 T110 T111 T112 T113 T114 T115 T116 T119 T120 T121 T122 T123 T124 T125 T126 T129 T130 T131 T132 T133 T134 T135 T136 T137 T138 T139 T140 T141 T142 T143 T144 T145 T146 T147 T148 T149 T150 T151 T152 T153 T154 T155 T156 T157 T158 T159 T160 T161 T162 T163 T164 T165 T166 T167 T168 T169 T170 T171 T173 T174 T175 T176 T177 T178 T181 T182 T183 T184 T185 T186 T187 T188 T189 T190 T191 T192 T193 T194 T195 T196 T197 T198 T199 T200 T201 T202 T203 T204 T205 T206 T207 T208 T209 T210 T211 T212 T213 T214 T215 T216 T217 T218 T219 T220 T222 T223
attribute [local go_sem ↓] reduceIte
set_option maxRecDepth 100000
variable {E:Env}
def FNx (E:Env)(f:Nat)(args:List PV)(P:FE->Prop):Prop :=
 ∀S h us,(∀p b,S p b->b<h.next)->LR (PR S h) args us->∃e r h',P e/\Ev E (fun C _=>C.fn f us h=some (r,h'))/\h.next<=h'.next/\(∀b,b<h.next->h'.get b=h.get b)/\RE (PR (S0 S h.next h'.next) h') e r
theorem zye {f:Nat}{F:zC}(hF:E.funcs.get f=some F){args:List PV}(hn:args.length<=F.N){P:FE->Prop}(hl:∀e,P e->LbE e)(hW:W E E.caught none F.body ⟨zo args,[],[]⟩ (zcT E F fun e' H=>∃e,P e/\zay H 0 e' e)):FNx E f args P:=fun S h us hS ha=>by
 have hr:HR ⟨h.next,h,S⟩ ⟨S,fun _=>none,fun _=>False⟩ [] h:=⟨zAM9 _,fun _ _=>rfl,fun p b hb=>.inl hb,fun p b hb=>⟨hS p b hb,fun id x hx=>(by cases hx)⟩,fun id x hx=>(by cases hx),fun id hx=>hx.elim,fun id id' x x' hx=>(by cases hx),fun id o ho=>(by simp at ho)⟩
 obtain⟨r,h',e',H',c',e1,⟨e,hP,q1⟩,m1,hr1,re,_⟩:=zqc hF hn hW _ _ h us hr (LR.pure (c:=⟨S,fun _=>none,fun _=>False⟩) ha);have hkeep:∀b,b<h.next->h'.get b=h.get b:=fun b hb=>hr1.keep b hb;have hS1:∀p b,c'.S p b->S1 S h.next h'.next p b:=fun p b hb=>by
  rcases hr1.old p b hb with h1|⟨h1,h2⟩
  ·exact .inl h1
  ·exact .inr ⟨h1,h2,(hr1.S p b hb).1⟩
 have hown:∀id x,c'.ρ id=some x->S1 S h.next h'.next 0 x.1:=fun id x hx=>by
  obtain⟨h1,h2,_⟩:=hr1.own id x hx;exact .inr ⟨rfl,h1,h2⟩
 have hS0:∀b,S1 S h.next h'.next 0 b->S0 S h.next h'.next 0 b:=fun b hb=>by
  rcases hb with hb|⟨_,hb⟩
  ·exact⟨rfl,.inl hb⟩
  ·exact⟨rfl,.inr hb⟩
 have hle:=hl e hP;refine⟨e,r,h',hP,e1,hr1.le,hkeep,?_⟩
 cases e'<;>cases r<;>first|exact re.elim|skip
 ·cases e with
  | panic v=>exact q1.elim
  | ret w=>exact Lb.ok hS0 (Frz.ok hr1 hS1 hown q1 re) hle
 ·cases e with
  | ret v=>exact q1.elim
  | panic w=>exact Lb.ok hS0 (Frz.ok hr1 hS1 hown q1 re) hle
theorem znx {f:Nat}{F:zC}{c:zbl}{args:List PV}{P:FE->Prop}(hF:E.funcs.get f=some F)(hl:∀e,P e->LbE e)(hW:W E E.caught none c ⟨zo args,[],[]⟩ (zcT E F fun e' H=>∃e,P e/\zay H 0 e' e))(hc:F.body=c:=by simp only[go_sem]<;>rfl)(hn:args.length<=F.N:=by exact zBA9 rfl):FNx E f args P:=zye hF hn hl (by rw[hc];exact hW)
theorem FNx.FO {f:Nat}{args aS:List PV}{P:FE->Prop}{H:List zn}(k:FNx E f aS P)(hl:LF H 1 args aS):FO E f args H true (fun e' H'=>P e'/\H'=H):=fun B c h us hr ha=>by
 have h1:=LF.ok hr (S:=zs4 c) (fun p b hb=>.inl hb) (fun id x hx=>.inr ⟨rfl,id,x,hx,rfl⟩) hl ha;obtain⟨e,r,h',hP,e1,hn,hk,re⟩:=k (zs4 c) h us (fun p b hb=>by
  rcases hb with hb|⟨_,id,x,hx,rfl⟩
  ·exact(hr.S p b hb).1
  ·exact(hr.own _ _ hx).2.1) h1
 obtain⟨m,hr'⟩:=hr.grown hn hk;refine⟨r,h',e,H,c.lay h.next h'.next,e1,⟨hP,rfl⟩,m,hr',re.mono fun v u hv=>.pure (hv.mono (fun p b hb=>?_) fun _ _ _ _ _ _ _ hr=>hr),fun _ id x hx=>hk _ (hr.own _ _ hx).2.1⟩;obtain⟨rfl,hb|hb⟩:=hb
 ·rcases hb with hb|⟨h0,_⟩
  ·exact .inl hb
  ·cases h0
 ·exact .inr ⟨rfl,hb⟩
theorem zvc {caught:Tr Unit}{d:Option Nat}{args:List TOp}{g:Option (TOp×Bool)}{ops:List zY}{s:FSt}{Q:FX->FSt->Prop}{f:Nat}{caps vs aS:List PV}{P:FE->Prop}
  (hg:zab s.tm g=some true) (ha:evs s.tm args=some (.fn f caps::vs)) (k:FNx E f aS P) (hl:LF s.H 1 (vs++caps) aS) (hQ:∀e,P e->zvR E caught ops s d Q e s.H):WO E caught (⟨d,.call,args,g⟩::ops) s Q :=
 zhf hg ha ((FNx.FO k hl).mono fun e H' he=>by obtain⟨h1,rfl⟩:=he;exact hQ e h1)
theorem zkE (q:Nat)(H:List zn)(iw gw qw M0:Nat)(w:List Nat)(l:List Pr)(hl:l.length<10000000)(hw:0<w.length/\w.length<=1000000)(hM0:M0<=gw)(hr:H[iw]?=some (.row 24 1 gw M0 (w.map uv))):FO ET 28 [.sl iw gw 0 w.length qw 1,.list q 2 (l.map zat)] H false fun e H'=>zeD H H'/\∃id g M,e=.ret (.sl id g 0 w.length (2*w.length) 1)/\M<=g/\H'[id]?=some (.row 24 1 g M ((zbo w l).map uv)):=by
 refine zro f28 ?_;have hb:w.length*9<=140737488355328:=by omega
 have hne:¬w.length=0:=by omega
 have hX:∀X,(H++X)[iw]?=some (.row 24 1 gw M0 (w.map uv)):=fun X=>zbN hr;have hlw:(w.map uv).length=w.length:=zAA9 ..;have hle:w.length<=w.length:=zAM9 _;have htk:(w.map uv).take w.length=w.map uv:=by rw[<- hlw,zBK9]
 (repeat(first|refine za ?_|refine zgo ?_ (by simp(disch:=omega)only[go_sem,hb,hne,hX,hM0,hlw,hle,htk,zc,zk,zAL9,zAN9]<;>rfl)));refine zD (zas (fun m s=>∃(i M:Nat),m=l.length-i/\i<=l.length/\M<=1/\s.tm 1=.list q 2 (l.map zat)/\s.tm 5=.sl H.length 1 0 w.length (2*w.length) 1/\s.tm 6=iv i/\s.df=[]/\s.H=H++[.row 24 1 1 M ((zbo w (l.take i)).map uv)]) (n:=l.length) ?_ ?_)
 ·exact⟨0,0,rfl,zAS9 _,by decide,by simp[upd,zo],by simp[upd],by simp[upd],rfl,rfl⟩
 ·rintro m ⟨tm,df,Hx⟩ ⟨i,M,rfl,hi,hM,h1,h5,h6,rfl,rfl⟩;dsimp only at h1 h5 h6;have hal:=zeF (l.take i) w;(try refine zK ?_);refine za (zr ?_);refine zfx ?_ (by simp(disch:=omega)only[go_sem,h1,h6,zAA9]<;>rfl);refine zh ?_;refine zN (by simp only[go_sem]<;>rfl) ?_ ?_;rotate_left
  ·intro hlt;have hlt:¬i<l.length:=by have:=of_decide_eq_false hlt;omega
   obtain rfl:i=l.length:=by omega
   simp only[zb,zf,ze,zd,zi,zg,if_true,reduceIte];(repeat(first|refine za ?_|refine zgo ?_ (by simp(disch:=omega)only[go_sem,h5]<;>rfl)));refine zq ?_;(try simp only[zb,zf,ze,zd,zg]);refine zj (by simp only[T28,zE,go_sem]<;>rfl) ?_;simp only[zG];rw[zBK9]at hal⊢;exact⟨(zeD.refl H).app _,H.length,1,M,rfl,hM,by simp⟩
  intro hlt;have hlt:i<l.length:=by have:=of_decide_eq_true hlt;omega
  obtain⟨x,hx⟩:∃x,l[i]?=some x:=⟨_,zAB9 hlt⟩
  have hxv:(l.map zat)[i]?=some (zat x):=by rw[zAG9,hx];rfl
  have htk:zbo w (l.take (i+1))=(zbo w (l.take i)).set x.1 x.2:=by
   rw[zBM9,hx,zoB];rfl
  have g0:(0:Int)<=(x.1:Nat):=zFB9 _;(repeat refine za ?_);refine zD ?_
  by_cases hlx:x.1<w.length
  ·have g1:((x.1:Nat):Int)<(w.length:Nat):=by omega
   obtain⟨o,ho⟩:∃old,(zbo w (l.take i))[x.1]?=some old:=⟨_,zAB9 (by omega)⟩
   have z1:((zbo w (l.take i)).map uv)[x.1]?=some (uv o):=by rw[zAG9,ho];rfl
   have y1:((zbo w (l.take i)).map uv).set x.1 (.int .u64 (x.2:Int))=(zbo w (l.take (i+1))).map uv:=by rw[htk];exact zET9.symm
   generalize (zbo w (l.take i)).map uv=K0 at *
   (repeat refine za ?_);(repeat refine za ?_);refine zgo ?_ (by simp(disch:=omega)only[go_sem,h1,h5,h6,hxv,hlt,g0,g1,zAA9]<;>rfl);refine zfc ?_ ?_;rotate_left
   ·intro h;cases h
   intro _;refine zag ?_;refine zda ?_ (by simp(disch:=omega)only[go_sem,h1,h5,h6,hxv,hlt,hlx,hM,z1,y1,zc,zk,zAA9]<;>rfl);refine zdl ?_ (by simp(disch:=omega)only[go_sem,h5]<;>rfl);refine zM ?_;simp only[zi,zS,zb,go_sem];(repeat refine za ?_);refine zrg ?_ (by simp(disch:=omega)only[go_sem,h6]<;>rfl);refine zy ?_;simp only[zb,zf,ze,zd,zi,zg,if_true,↓reduceIte];refine⟨_,?m,i+1,1,rfl,hlt,zAM9 _,by simp[upd,h1],by simp[upd,h5],by simp[upd,h6],trivial,rfl⟩
   case m=>omega
  ·have g1:¬((x.1:Nat):Int)<(w.length:Nat):=by omega
   have y1:(zbo w (l.take (i+1)))=zbo w (l.take i):=by rw[htk,List.set_eq_of_length_le (by omega)]
   (repeat refine za ?_);(repeat refine za ?_);refine zgo ?_ (by simp(disch:=omega)only[go_sem,h1,h5,h6,hxv,hlt,g0,g1,zAA9]<;>rfl);refine zfc ?_ ?_
   ·intro h;cases h
   intro _;refine zF ?_;simp only[zb,zf,ze,zd,zi,zg,if_true,reduceIte];(repeat refine za ?_);refine zrg ?_ (by simp(disch:=omega)only[go_sem,h6]<;>rfl);refine zy ?_;simp only[zb,zf,ze,zd,zi,zg,if_true,↓reduceIte];refine⟨_,?m,i+1,M,rfl,hlt,hM,by simp[upd,h1],by simp[upd,h5],by simp[upd,h6],trivial,by rw[y1]⟩
   case m=>omega
end Fv
end Go.Proofs.YtfomlmhnmheenaaGreat
namespace Go.Proofs.YtfomlmhnmheenaaGreat
namespace Fv
open Tw
attribute [local go_sem] zaZ zaz zab zap evs ev okv zbj zT.cls za5 za7 za9 zQ zR upd zo zaS zaQ zaR zax zaL zaP zaT zaM zaY zaO zar zaV zaU zaX zaW zaK zaN zae zaC zaJ zal zak zbg PV.cells ofC za6 zV zao okF zaf spl zaB zaF bnd zai zam zan za3 zbb zU zau zaH zaj za8 zbd zW lenP zc zk zah zba PV.toT zaA zH Nat.mul_mod_right Int.reduceOfNat Int.reduceToNat Int.cast_ofNat_Int Int.reduceLE Int.reduceLT Int.reduceAdd Int.reduceSub Int.reduceMul Int.reduceNegSucc Nat.reduceEqDiff if_true if_false ite_true ite_false decide_true decide_false Bool.not_true Bool.not_false and_true true_and and_self false_and and_false or_false false_or or_true true_or or_self List.length_cons List.length_nil List.length_map List.getElem?_cons_zero List.getElem?_cons_succ List.getElem?_map List.getElem?_nil Option.map_some Option.map_none Option.getD_some List.append_nil List.nil_append List.cons_append List.take_succ_cons List.take_zero List.drop_zero List.drop_succ_cons List.set_cons_zero List.set_cons_succ Int.toNat_natCast Int.natCast_nonneg Nat.le_refl Nat.zero_le Nat.reduceAdd Nat.reduceSub Nat.reduceMul Nat.reduceLeDiff Nat.reduceLT Bool.false_eq_true Bool.true_eq_false Nat.add_zero Nat.zero_add List.all_cons List.all_nil Bool.and_true Bool.and_self Bool.true_and Nat.reduceMod Nat.reduceDiv eq_self zaq zaD zX za4 evN za0 dpF zaI zbf zaw za1 zbe zaE List.filter_cons List.filter_nil List.contains_cons List.contains_nil Nat.reduceBEq zac zad zP Option.some.injEq Option.isSome_some wrap_i64 zJ zaG Bool.or_self Bool.or_false Bool.false_or daF dnF xT T4 T5 T8 T9 T10 T11 T12 T13 T14 T15 T16 T17 T18 T19 T20 T21 T22 T23 T24 T25 T26 T27 T28 T30 T33 T34 T36 T37 T38 T39 T40 T41 T42 T43 T44 T45 T46 T47 T48 T49 T50 T51 T52 T53 T54 T55 T56 T57 T58 T59 T60 T61 T62 T63 T64 T65 T66 T67 T68 T69 T70 T71 T72 T73 T75 T76 T77 T80 T81 T82 T83 T84 T85 T86 T87 T88 T89 T90 T91 T92 T93 T94 T95 T96 T97 T98 T99 T100 T101 T102 T103 T104 T105 T106 T107 T108 T109 T110 T111 T112 T113 T114 T115 T116 T119 T120 T121 T122 T123 T124 T125 T126 T129 T130 T131 T132 T133 T134 T135 T136 T137 T138 T139 T140 T141 T142 T143 T144 T145 T146 T147 T148 T149 T150 T151 T152 T153 T154 T155 T156 T157 T158 T159 T160 T161 T162 T163 T164 T165 T166 T167 T168 T169 T170 T171 T173 T174 T175 T176 T177 T178 T181 T182 T183 T184 T185 T186 T187 T188 T189 T190 T191 T192 T193 T194 T195 T196 T197 T198 T199 T200 T201 T202 T203 T204 T205 T206 T207 T208 T209 T210 T211 T212 T213 T214 T215 T216 T217 T218 T219 T220 T222 T223
attribute [local go_sem ↓] reduceIte
set_option maxRecDepth 100000
theorem f8:ET.funcs.get 8=some T8:=zL Tryz.func8
def zoE (blocks:Int)(e:FE):Prop:=∃(ws:List Nat) (fr:List Int) (b:Bool),e=.ret (.tuple [wv 0 ws,.list 0 1 (fr.map iv),.bool b])/\(b=true->2<=blocks/\blocks<=40/\(ws.length:Int)=64*blocks/\fr.length<=40/\WB ws)
theorem zwQ {blocks:Int}:∀e,zoE blocks e->LbE e:=fun e h=>by
 obtain⟨ws,fr,b,rfl,_⟩:=h;refine Lb.three (Lb.uvs _) (.list fun x hx=>?_) (.bool _);obtain⟨y,hy,hx⟩:=zBC9.1 hx;obtain⟨n,_,rfl⟩:=zAP9.1 hy;simp[PV.cells]at hx;subst hx;exact .int _ _
theorem zxe {blocks:Int}{H:List zn}:∃e,zoE blocks e/\zay H 0 (.ret (.tuple [.nilsl,.nilsl,.bool false])) e:=⟨_,⟨[],[],false,rfl,fun h=>by cases h⟩,Frz.tupL ⟨.nil _ _,.nil _ _,.bool _,trivial⟩⟩
theorem ztu (l:List Pr)(fr:List Int)(hl:l.length<=500):∃(root used no:Nat) (puts:List Pr),zes l fr=.ret (.tuple [iv root,.list 0 2 (puts.map zat),iv used,iv no])/\puts.length<=64*fr.length/\used<=fr.length/\root<2048/\(PB l->BB puts):=by
 unfold zes
 by_cases hP:okP l=true
 rotate_left
 ·rw[show okP l=false by simpa using hP];exact⟨0,0,2,[],rfl,zAS9 _,zAS9 _,by decide,fun _=>BB.nil⟩
 by_cases hI:okI [] fr=true
 rotate_left
 ·rw[show okI [] fr=false by simpa using hI,Bool.and_false];exact⟨0,0,2,[],rfl,zAS9 _,zAS9 _,by decide,fun _=>BB.nil⟩
 rw[hP,hI];obtain⟨free,rfl,hF⟩:=zqf hI;have hfree:(free.map fun(b:Nat)=>(b:Int)).map Int.toNat=free:=by rw[zDM9];exact List.map_id free
 rw[hfree];simp only[Bool.and_self,if_true]
 cases hb:zgk l free with
 | none=>exact⟨0,0,221,[],rfl,zAS9 _,zAS9 _,by decide,fun _=>BB.nil⟩
 | some T =>
  have hT:=zup hP hF hl hb;obtain⟨used,hu,e⟩:=hT.blocks;obtain⟨b,n,T',hT1,_⟩:=hT.one;have hlen:(zdY T.reverse).length=64*(free.take used).length:=by
   rw[zjm _ fun M hM=>hT.len M (zEK9.1 hM),e]
  have hbm:b∈free:=zCE9 (i:=used) (by rw[<- e,hT1];simp);have hroot:zl8 T=b:=by rw[hT1];rfl
  refine⟨zl8 T,_,0,_,rfl,by rw[hlen,zBB9,zAA9];omega,by rw[e,zBB9,zAA9];omega,by rw[hroot];exact(((zg4 free).1 hF).1 b hbm).2,fun h=>zkC fun M hM=>zrV (fun b hb=>(((zg4 free).1 hF).1 b hb).2) 4 _ _ _ _ (by decide) (zso h) (fun L hL=>by simp at hL) hb M (zEK9.1 hM)⟩
theorem zmA (n m:Nat):(n+1==n+(m+1+1+1))=false:=by rw[beq_eq_false_iff_ne];omega
theorem zmO (n m:Nat):(n+(m+1+1+1)==n+1)=false:=by rw[beq_eq_false_iff_ne];omega
theorem zmZ (n m:Nat):(n+1+1==n+(m+1+1+1))=false:=by rw[beq_eq_false_iff_ne];omega
theorem znl (n m:Nat):(n+(m+1+1+1)==n+1+1)=false:=by rw[beq_eq_false_iff_ne];omega
theorem zwL {l:List Bool}:∀v∈(l.map PV.bool).flatMap PV.cells,Id0 v:=fun v hv=>by
 obtain⟨x,hx,hv⟩:=zBC9.1 hv;obtain⟨n,_,rfl⟩:=zAP9.1 hx;simp[PV.cells]at hv;subst hv;exact .bool _
section mid3
variable {α:Type}
theorem gc0 (G G2 l:List α)(a b c x:α):(G++a::b::c::(G2++x::l))[G.length+(G2.length+1+1+1)]?=some x:=by
 rw[zAO9 (by omega),show G.length+(G2.length+1+1+1)-G.length=G2.length+1+1+1 by omega];simp
theorem gc1 (G G2 l:List α)(a b c x y:α):(G++a::b::c::(G2++x::y::l))[G.length+(G2.length+1+1+1+1)]?=some y:=by
 rw[zAO9 (by omega),show G.length+(G2.length+1+1+1+1)-G.length=G2.length+1+1+1+1 by omega];simp
theorem gc2 (G G2 l:List α)(a b c x y z:α):(G++a::b::c::(G2++x::y::z::l))[G.length+(G2.length+1+1+1+1+1)]?=some z:=by
 rw[zAO9 (by omega),show G.length+(G2.length+1+1+1+1+1)-G.length=G2.length+1+1+1+1+1 by omega];simp[zAO9]
theorem sc0 (G G2 l:List α)(a b c x u:α):(G++a::b::c::(G2++x::l)).set (G.length+(G2.length+1+1+1)) u=G++a::b::c::(G2++u::l):=by
 rw[zBV9 _ _ (by omega),show G.length+(G2.length+1+1+1)-G.length=G2.length+1+1+1 by omega];simp
theorem gd0 (G G2 G3 l:List α)(a b c d x:α):(G++a::b::c::(G2++d::(G3++x::l)))[G.length+(G2.length+(G3.length+1)+1+1+1)]?=some x:=by
 rw[zAO9 (by omega),show G.length+(G2.length+(G3.length+1)+1+1+1)-G.length=G2.length+(G3.length+1)+1+1+1 by omega];simp only[zAY9];rw[zAO9 (by omega),show G2.length+(G3.length+1)-G2.length=G3.length+1 by omega,zAY9];simp
theorem gd1 (G G2 G3 l:List α)(a b c d x y:α):(G++a::b::c::(G2++d::(G3++x::y::l)))[G.length+(G2.length+(G3.length+1+1)+1+1+1)]?=some y:=by
 rw[zAO9 (by omega),show G.length+(G2.length+(G3.length+1+1)+1+1+1)-G.length=G2.length+(G3.length+1+1)+1+1+1 by omega];simp only[zAY9];rw[zAO9 (by omega),show G2.length+(G3.length+1+1)-G2.length=G3.length+1+1 by omega,zAY9];simp
end mid3
@[reducible] def zc5 (l:List Nat):List PV:=l.map fun (b:Nat)=>.int .u8 (b:Int)
@[reducible] def wdV (l:List (Int × Nat)):List PV:=l.map fun x=>.agg [iv x.1,uv x.2]
set_option maxHeartbeats 4000000 in
theorem zvh (q1 q2:Nat)(blocks:Int)(zbx:List Nat)(bent:List (Int×Nat))(hbw:∀x∈bent,LtU x.2):FNx ET 8 [iv blocks,.list q1 1 (zc5 zbx),.list q2 2 (wdV bent)] (zoE blocks):=by
 refine znx f8 zwQ ?_;have no:∀(tm:Nat->PV) (H:List zn),tm 6=.nilsl->tm 7=.nilsl->tm 8=.bool false->zcT ET T8 (fun e' H=>∃e,zoE blocks e/\zay H 0 e' e) .ret ⟨tm,[],H⟩:=fun tm H h6 h7 h8=>by
  refine zj (vs:=[.nilsl,.nilsl,.bool false]) ?_ zxe;simp[T8,xT,zE,okv,h6,h7,h8]
 (repeat(first|refine za ?_|refine zgo ?_));(repeat refine za ?_);refine zbA (Q:=fun yy s'=>yy=.norm/\s'.tm 0=iv blocks/\s'.tm 1=.list q1 1 (zc5 zbx)/\s'.tm 2=.list q2 2 (wdV bent)/\s'.tm 40=.bool (decide (blocks<2)||decide (40<blocks)||decide (400<zbx.length)||decide (20<bent.length))/\s'.df=[]/\s'.H=[]) (zr ?_) ?_
 ·have h0:zo [iv blocks,.list q1 1 (zc5 zbx),.list q2 2 (wdV bent)] 0=iv blocks:=rfl;have h1:zo [iv blocks,.list q1 1 (zc5 zbx),.list q2 2 (wdV bent)] 1=.list q1 1 (zc5 zbx):=rfl;have h2:zo [iv blocks,.list q1 1 (zc5 zbx),.list q2 2 (wdV bent)] 2=.list q2 2 (wdV bent):=rfl;generalize zo [iv blocks,.list q1 1 (zc5 zbx),.list q2 2 (wdV bent)]=tm at *
  by_cases c1:blocks<2
  ·refine zfx ?_ (by simp(disch:=omega)only[go_sem,h0,h1,h2,c1,zAA9]<;>rfl);refine zy ?_;simp only[zb,zf,ze,zd,zi,zg,if_true,↓reduceIte];exact⟨(by first|exact trivial|rfl),by simp[upd,h0],by simp[upd,h1],by simp[upd,h2],by simp[upd,c1],(by first|exact trivial|rfl),(by first|exact trivial|rfl)⟩
  by_cases c2:40<blocks
  ·refine zfx ?_ (by simp(disch:=omega)only[go_sem,h0,h1,h2,c1,c2,zAA9]<;>rfl);refine zy ?_;simp only[zb,zf,ze,zd,zi,zg,if_true,↓reduceIte];exact⟨(by first|exact trivial|rfl),by simp[upd,h0],by simp[upd,h1],by simp[upd,h2],by simp[upd,c1,c2],(by first|exact trivial|rfl),(by first|exact trivial|rfl)⟩
  by_cases c3:400<zbx.length
  ·have g3:(400:Int)<(zbx.length:Nat):=by omega
   refine zfx ?_ (by simp(disch:=omega)only[go_sem,h0,h1,h2,c1,c2,g3,zAA9]<;>rfl);refine zy ?_;simp only[zb,zf,ze,zd,zi,zg,if_true,↓reduceIte];exact⟨(by first|exact trivial|rfl),by simp[upd,h0],by simp[upd,h1],by simp[upd,h2],by simp[upd,c1,c2,c3],(by first|exact trivial|rfl),(by first|exact trivial|rfl)⟩
  have g3:¬(400:Int)<(zbx.length:Nat):=by omega
  by_cases c4:20<bent.length
  ·have g4:(20:Int)<(bent.length:Nat):=by omega
   refine zfx ?_ (by simp(disch:=omega)only[go_sem,h0,h1,h2,c1,c2,g3,g4,zAA9]<;>rfl);refine zy ?_;simp only[zb,zf,ze,zd,zi,zg,if_true,↓reduceIte];exact⟨(by first|exact trivial|rfl),by simp[upd,h0],by simp[upd,h1],by simp[upd,h2],by simp[upd,c1,c2,c3,c4],(by first|exact trivial|rfl),(by first|exact trivial|rfl)⟩
  have g4:¬(20:Int)<(bent.length:Nat):=by omega
  refine zfx ?_ (by simp(disch:=omega)only[go_sem,h0,h1,h2,c1,c2,g3,g4,zAA9]<;>rfl);refine zy ?_;simp only[zb,zf,ze,zd,zi,zg,if_true,↓reduceIte];exact⟨(by first|exact trivial|rfl),by simp[upd,h0],by simp[upd,h1],by simp[upd,h2],by simp[upd,c1,c2,c3,c4],(by first|exact trivial|rfl),(by first|exact trivial|rfl)⟩
 rintro yy ⟨tm,df,H⟩ ⟨rfl,h0,h1,h2,h40,rfl,rfl⟩;dsimp only at h0 h1 h2 h40;simp only[zb,zf,ze,zd,zi,zg,if_true,reduceIte]
 by_cases hbad:(decide (blocks<2)||decide (40<blocks)||decide (400<zbx.length)||decide (20<bent.length))=true
 ·rw[hbad]at h40;refine zfc ?_ ?_ (by simp only[go_sem,h40]<;>rfl);rotate_left
  ·intro h;cases h
  intro _;(repeat(first|refine za ?_|refine zgo ?_));refine zq ?_;(try simp only[zb,zf,ze,zd,zi,zg,if_true,reduceIte]);exact no _ _ (by simp[upd]) (by simp[upd]) (by simp[upd])
 have hbad:(decide (blocks<2)||decide (40<blocks)||decide (400<zbx.length)||decide (20<bent.length))=false:=by simpa using hbad
 rw[hbad]at h40;refine zfc ?_ ?_ (by simp only[go_sem,h40]<;>rfl)
 ·intro h;cases h
 intro _;refine zF ?_;show W _ _ _ _ _ _;simp only[Bool.or_eq_false_iff,decide_eq_false_iff_not]at hbad;obtain⟨⟨⟨c1,c2⟩,c3⟩,c4⟩:=hbad;obtain⟨N,rfl⟩:∃N:Nat,blocks=N:=⟨blocks.toNat,by omega⟩
 have w1:IntKind.i64.wrap ((64:Int)*(N:Int))=((64*N:Nat):Int):=by rw[wrap_i64 (by omega) (by omega)];omega
 have w2:(64:Int)*(N:Int)=((64*N:Nat):Int):=by omega
 have m1:((64*N:Nat):Int)<=((64*N:Nat):Int):=Int.le_refl _;have m2:((64*N:Nat):Int)<=1000000:=by omega
 have m3:((64*N:Nat):Int)*8<=140737488355328:=by omega
 (repeat refine za ?_);refine zgo ?_ (by simp(disch:=omega)only[go_sem,h0,w1,w2,m1,m2,m3]<;>rfl);(repeat(first|refine za ?_|refine zgo ?_));refine zcd 3 1 (i:=10) rfl ?_;simp only[lzy,zAC9,zAE9,zAH9,zAN9,zAF9,zAI9,zAL9];(repeat(first|refine za ?_|refine zgo ?_));refine zdk (fun tm=>tm 0=iv N/\tm 1=.list q1 1 (zc5 zbx)/\tm 2=.list q2 2 (wdV bent)/\tm 9=.sl 0 0 0 (64*N) (2*(64*N)) 1/\tm 10=.sl 1 0 0 0 0 1/\tm 11=iv 1) ⟨by simp[upd,h0],by simp[upd,h1],by simp[upd,h2],by simp[upd],by simp[upd],by simp[upd]⟩ ?_;clear h0 h1 h2 h40;rintro tm ⟨h0,h1,h2,h9,h10,h11⟩;refine zD (zas (fun m s=>∃(i:Nat) (V:List Int) (G:List zn),m=N-i/\i<N/\V.length=i/\s.tm 0=iv N/\s.tm 1=.list q1 1 (zc5 zbx)/\s.tm 2=.list q2 2 (wdV bent)/\s.tm 9=.sl 0 0 0 (64*N) (2*(64*N)) 1/\s.tm 10=.sl 1 i 0 i (2*i) 1/\s.tm 11=iv (i+1:Nat)/\s.df=[]/\s.H=.row 24 1 0 0 (List.replicate (64*N) (uv 0))::.row 3 1 i 0 (V.map iv)::G) (n:=N) ?_ ?_)
 ·exact⟨0,[],[],rfl,by omega,rfl,h0,h1,h2,h9,h10,h11,rfl,rfl⟩
 clear h0 h1 h2 h9 h10 h11;rintro m ⟨tm,df,H⟩ ⟨i,V,G,rfl,hi,hV,h0,h1,h2,h9,h10,h11,rfl,rfl⟩;dsimp only at h0 h1 h2 h9 h10 h11
 by_cases hlt:i+1<N
 ·have g:((i+1:Nat):Int)<(N:Nat):=by omega
  (try refine zK ?_);refine za (zr ?_);refine zfx ?_ (by simp(disch:=omega)only[go_sem,h0,h11,g]<;>rfl);refine zh ?_;refine zN (by simp only[go_sem]<;>rfl) ?_ ?_;rotate_left
  ·intro h;cases h
  intro _;have hbb:(i+1)*9<=140737488355328:=by omega
  (repeat refine za ?_);refine zD ?_;(repeat refine za ?_);refine zrg ?_ (by simp(disch:=omega)only[go_sem,h10,h11,hbb,hV,zc]<;>rfl);refine zy ?_;simp only[zb,zf,ze,zd,zi,zg,if_true,↓reduceIte];have w5:((i+1:Nat):Int)+1=((i+1+1:Nat):Int):=by omega
  (repeat refine za ?_);refine zrg ?_ (by simp(disch:=omega)only[go_sem,h11,w5]<;>rfl);refine zy ?_;simp only[zb,zf,ze,zd,zi,zg,if_true,↓reduceIte];refine⟨_,?m,i+1,V++[((i+1:Nat):Int)],?G,rfl,hlt,by simp[hV],by simp[upd,h0],by simp[upd,h1],by simp[upd,h2],by simp[upd,h9],by simp[upd],by simp[upd,h11],trivial,?H⟩
  case m=>omega
  case H=>rw[zBZ9];rfl
 have g:¬((i+1:Nat):Int)<(N:Nat):=by omega
 (try refine zK ?_);refine za (zr ?_);refine zfx ?_ (by simp(disch:=omega)only[go_sem,h0,h11,g]<;>rfl);refine zh ?_;refine zN (by simp only[go_sem]<;>rfl) ?_ ?_
 ·intro h;cases h
 intro _;simp only[zb,zf,ze,zd,zi,zg,if_true,reduceIte];have hiN:i+1=N:=by omega
 refine zdk (fun tm=>tm 0=iv N/\tm 1=.list q1 1 (zc5 zbx)/\tm 2=.list q2 2 (wdV bent)/\tm 9=.sl 0 0 0 (64*N) (2*(64*N)) 1/\tm 10=.sl 1 i 0 i (2*i) 1) ⟨by simp[upd,h0],by simp[upd,h1],by simp[upd,h2],by simp[upd,h9],by simp[upd,h10]⟩ ?_;clear h0 h1 h2 h9 h10 h11;rintro tm ⟨h0,h1,h2,h9,h10⟩;refine zfm 10 1 (w:=.list 0 1 (V.map iv)) rfl (by
  dsimp only;rw[h10];exact Frz.whole (zfU rfl) rfl (by simp[hV]) (by simp[hV]) (fun v hv=>by obtain⟨x,_,rfl⟩:=zAP9.1 hv;rfl) zrF) ?_
 simp only[zCK9,zCX9];(repeat(first|refine za ?_|refine zgo ?_));refine zcd 66 2 (i:=12) rfl ?_;refine zcd 66 2 (i:=13) rfl ?_;refine zcd 4 1 (i:=14) rfl ?_;simp only[lzy,zAF9,zAI9,zAL9,zAC9,zAE9,zAH9,zAN9];refine zD (zas (fun m s=>∃(j key:Nat) (P L:List Pr) (U:List Bool) (G2:List zn),m=zbx.length-j/\j<=zbx.length/\key<=10*j/\P.length<=j/\PB P/\L.length<=j/\PB L/\U.length=L.length/\s.tm 1=.list q1 1 (zc5 zbx)/\s.tm 2=.list q2 2 (wdV bent)/\s.tm 9=.sl 0 0 0 (64*N) (2*(64*N)) 1/\s.tm 10=.list 0 1 (V.map iv)/\s.tm 12=.sl (G.length+1+1) P.length 0 P.length (2*P.length) 2/\s.tm 13=.sl (G.length+1+1+1) L.length 0 L.length (2*L.length) 2/\s.tm 14=.sl (G.length+1+1+1+1) L.length 0 L.length (2*L.length) 1/\s.tm 15=uv key/\s.tm 16=iv j/\s.df=[]/\s.H=.row 24 1 0 0 (List.replicate (64*N) (uv 0))::.void::(G++.row 66 2 P.length 0 (P.map pv)::.row 66 2 L.length 0 (L.map pv)::.row 4 1 L.length 0 (U.map PV.bool):: G2)) (n:=zbx.length) ?_ ?_)
 ·exact⟨0,0,[],[],[],[],rfl,zAS9 _,zAS9 _,zAS9 _,PB.nil,zAS9 _,PB.nil,rfl,by simp[upd,h1],by simp[upd,h2],by simp[upd,h9],by simp[upd],by simp[upd],by simp[upd],by simp[upd],by simp[upd],by simp[upd],rfl,rfl⟩
 clear h0 h1 h2 h9 h10 g m1 m2 m3 w1 w2;rintro m ⟨tm,df,H⟩ ⟨j,key,P,L,U,G2,rfl,hj,hkey,hP,hPb,hL,hLb,hU,h1,h2,h9,h10,h12,h13,h14,h15,h16,rfl,rfl⟩;dsimp only at h1 h2 h9 h10 h12 h13 h14 h15 h16;(try refine zK ?_);refine za (zr ?_);refine zfx ?_ (by simp(disch:=omega)only[go_sem,h1,h16,zAA9]<;>rfl);refine zh ?_;refine zN (by simp only[go_sem]<;>rfl) ?_ ?_
 ·intro hlt;have hlt:j<zbx.length:=by have:=of_decide_eq_true hlt;omega
  obtain⟨b,hb⟩:∃b,zbx[j]?=some b:=⟨_,zAB9 hlt⟩
  have hbv:(zc5 zbx)[j]?=some (.int .u8 (b:Int)):=by rw[zAG9,hb];rfl
  have r1:((b:Int)).tmod 9=((b%9:Nat):Int):=by rw[IntWalk.rem_in _ _ (by omega)];omega
  have r2:IntKind.u64.wrap ((b%9:Nat):Int)=((b%9:Nat):Int):=zJ (by omega) (by omega);have r3:(key:Int)+1=((key+1:Nat):Int):=by omega
  have r4:((key+1:Nat):Int)+((b%9:Nat):Int)=((key+1+b%9:Nat):Int):=by omega
  have r5:(1000:Int)+(j:Nat)=((1000+j:Nat):Int):=by omega
  have r6:IntKind.u64.wrap ((1000+j:Nat):Int)=((1000+j:Nat):Int):=zJ (by omega) (by omega);have hk2:key+1+b%9<=10*(j+1):=by omega
  (repeat refine za ?_);refine zD ?_;(repeat refine za ?_);refine zgo ?_ (by simp(disch:=omega)only[go_sem,h1,h15,h16,hbv,hlt,r1,r2,r3,r4,zax,zAA9]<;>rfl);(repeat refine za ?_);refine zgo ?_ (by simp(disch:=omega)only[go_sem,h16,r5,r6,ga0,ga1,ga2,sa0,sa1,sa2,gc0,gc1,gc2,sc0,zAF9,zAI9,zAL9,zAC9,zAE9,zAH9,zAN9,zAA9]<;>rfl);generalize key+1+b%9=key2 at *
  refine zdk (fun tm=>tm 1=.list q1 1 (zc5 zbx)/\tm 2=.list q2 2 (wdV bent)/\tm 9=.sl 0 0 0 (64*N) (2*(64*N)) 1/\tm 10=.list 0 1 (V.map iv)/\tm 12=.sl (G.length+1+1) P.length 0 P.length (2*P.length) 2/\tm 13=.sl (G.length+1+1+1) L.length 0 L.length (2*L.length) 2/\tm 14=.sl (G.length+1+1+1+1) L.length 0 L.length (2*L.length) 1/\tm 15=uv key2/\tm 16=iv j/\tm 17=.ptr (G.length+(G2.length+1+1+1)+1+1) 0 0 0 2) ⟨by simp[upd,h1],by simp[upd,h2],by simp[upd,h9],by simp[upd,h10],by simp[upd,h12],by simp[upd,h13],by simp[upd,h14],by simp[upd],by simp[upd,h16],by simp[upd]⟩ ?_;clear h1 h2 h9 h10 h12 h13 h14 h15 h16;rintro tm ⟨h1,h2,h9,h10,h12,h13,h14,h15,h16,h17⟩;have hbb:(P.length+1)*17<=140737488355328:=by omega
  (repeat refine za ?_);refine zgo ?_ (by simp(disch:=omega)only[go_sem,h1,h16,hbv,hlt,zAA9]<;>rfl);refine zbA (Q:=fun yy s'=>yy=.norm/\∃(P:List Pr) (G3:List zn),P.length<=j+1/\PB P/\s'.tm 1=.list q1 1 (zc5 zbx)/\s'.tm 2=.list q2 2 (wdV bent)/\s'.tm 9=.sl 0 0 0 (64*N) (2*(64*N)) 1/\s'.tm 10=.list 0 1 (V.map iv)/\s'.tm 12=.sl (G.length+1+1) P.length 0 P.length (2*P.length) 2/\s'.tm 13=.sl (G.length+1+1+1) L.length 0 L.length (2*L.length) 2/\s'.tm 14=.sl (G.length+1+1+1+1) L.length 0 L.length (2*L.length) 1/\s'.tm 15=uv key2/\s'.tm 16=iv j/\s'.tm 17=.ptr (G.length+(G2.length+1+1+1)+1+1) 0 0 0 2/\s'.df=[]/\s'.H=.row 24 1 0 0 (List.replicate (64*N) (uv 0))::.void::(G++.row 66 2 P.length 0 (P.map pv)::.row 66 2 L.length 0 (L.map pv)::.row 4 1 L.length 0 (U.map PV.bool)::(G2++.row 66 2 0 0 [pv (key2,1000+j)]::G3))) ?_ ?_
  ·refine zfc ?_ ?_
   ·intro _;(repeat refine za ?_);refine zrg ?_ (by simp(disch:=omega)only[go_sem,h12,h17,hbb,ga0,ga1,ga2,sa0,sa1,sa2,gc0,gc1,gc2,sc0,zAF9,zAI9,zAL9,zAC9,zAE9,zAH9,zAN9,zAA9]<;>rfl);refine zy ?_;simp only[zb,zf,ze,zd,zi,zg,if_true,↓reduceIte];refine⟨(by first|exact trivial|rfl),P++[(key2,1000+j)],?G3,by simp;omega,hPb.snoc (by omega) (by omega),by simp[upd,h1],by simp[upd,h2],by simp[upd,h9],by simp[upd,h10],by simp[upd],by simp[upd,h13],by simp[upd,h14],by simp[upd,h15],by simp[upd,h16],by simp[upd,h17],(by first|exact trivial|rfl),?H3⟩
    case H3=>rw[zBZ9,zAC9];rfl
   ·intro _;refine zF ?_;(try simp only[zb,zf,ze,zd,zi,zg,if_true,reduceIte]);exact⟨(by first|exact trivial|rfl),P,[],by omega,hPb,by simp[upd,h1],by simp[upd,h2],by simp[upd,h9],by simp[upd,h10],by simp[upd,h12],by simp[upd,h13],by simp[upd,h14],by simp[upd,h15],by simp[upd,h16],by simp[upd,h17],(by first|exact trivial|rfl),(by first|exact trivial|rfl)⟩
  clear h1 h2 h9 h10 h12 h13 h14 h15 h16 h17 hP hPb hbb;clear P;rintro yy ⟨tm,df,H⟩ ⟨rfl,P,G3,hP,hPb,h1,h2,h9,h10,h12,h13,h14,h15,h16,h17,rfl,rfl⟩;dsimp only at h1 h2 h9 h10 h12 h13 h14 h15 h16 h17;simp only[zb,zf,ze,zd,zi,zg,if_true,reduceIte];(repeat refine za ?_);refine zbA (Q:=fun yy s'=>yy=.norm/\(∃c,s'.tm 91=.bool c)/\s'.tm 1=.list q1 1 (zc5 zbx)/\s'.tm 2=.list q2 2 (wdV bent)/\s'.tm 9=.sl 0 0 0 (64*N) (2*(64*N)) 1/\s'.tm 10=.list 0 1 (V.map iv)/\s'.tm 12=.sl (G.length+1+1) P.length 0 P.length (2*P.length) 2/\s'.tm 13=.sl (G.length+1+1+1) L.length 0 L.length (2*L.length) 2/\s'.tm 14=.sl (G.length+1+1+1+1) L.length 0 L.length (2*L.length) 1/\s'.tm 15=uv key2/\s'.tm 16=iv j/\s'.tm 17=.ptr (G.length+(G2.length+1+1+1)+1+1) 0 0 0 2/\s'.df=[]/\s'.H=.row 24 1 0 0 (List.replicate (64*N) (uv 0))::.void::(G++.row 66 2 P.length 0 (P.map pv)::.row 66 2 L.length 0 (L.map pv)::.row 4 1 L.length 0 (U.map PV.bool)::(G2++.row 66 2 0 0 [pv (key2,1000+j)]::G3))) (zr ?_) ?_
  ·by_cases hc:128<=b
   ·have g1:(128:Int)<=b:=by omega
    refine zfx ?_ (by simp(disch:=omega)only[go_sem,h1,h13,h16,hbv,hlt,g1,zAA9]<;>rfl);refine zy ?_;simp only[zb,zf,ze,zd,zi,zg,if_true,↓reduceIte];exact⟨(by first|exact trivial|rfl),⟨_,by simp[upd]<;>rfl⟩,by simp[upd,h1],by simp[upd,h2],by simp[upd,h9],by simp[upd,h10],by simp[upd,h12],by simp[upd,h13],by simp[upd,h14],by simp[upd,h15],by simp[upd,h16],by simp[upd,h17],(by first|exact trivial|rfl),(by first|exact trivial|rfl)⟩
   ·have g1:¬(128:Int)<=b:=by omega
    refine zfx ?_ (by simp(disch:=omega)only[go_sem,h1,h13,h16,hbv,hlt,g1,zAA9]<;>rfl);refine zy ?_;simp only[zb,zf,ze,zd,zi,zg,if_true,↓reduceIte];exact⟨(by first|exact trivial|rfl),⟨_,by simp[upd]<;>rfl⟩,by simp[upd,h1],by simp[upd,h2],by simp[upd,h9],by simp[upd,h10],by simp[upd,h12],by simp[upd,h13],by simp[upd,h14],by simp[upd,h15],by simp[upd,h16],by simp[upd,h17],(by first|exact trivial|rfl),(by first|exact trivial|rfl)⟩
  clear h1 h2 h9 h10 h12 h13 h14 h15 h16 h17;rintro yy ⟨tm,df,H⟩ ⟨rfl,⟨c,h91⟩,h1,h2,h9,h10,h12,h13,h14,h15,h16,h17,rfl,rfl⟩;dsimp only at h1 h2 h9 h10 h12 h13 h14 h15 h16 h17 h91;simp only[zb,zf,ze,zd,zi,zg,if_true,reduceIte];have hbb:(L.length+1)*17<=140737488355328:=by omega
  have hbc:(L.length+1)*2<=140737488355328:=by omega
  refine zbA (Q:=fun yy s'=>yy=.norm/\∃(L:List Pr) (U:List Bool) (G3:List zn),L.length<=j+1/\PB L/\U.length=L.length/\s'.tm 1=.list q1 1 (zc5 zbx)/\s'.tm 2=.list q2 2 (wdV bent)/\s'.tm 9=.sl 0 0 0 (64*N) (2*(64*N)) 1/\s'.tm 10=.list 0 1 (V.map iv)/\s'.tm 12=.sl (G.length+1+1) P.length 0 P.length (2*P.length) 2/\s'.tm 13=.sl (G.length+1+1+1) L.length 0 L.length (2*L.length) 2/\s'.tm 14=.sl (G.length+1+1+1+1) L.length 0 L.length (2*L.length) 1/\s'.tm 15=uv key2/\s'.tm 16=iv j/\s'.df=[]/\s'.H=.row 24 1 0 0 (List.replicate (64*N) (uv 0))::.void::(G++.row 66 2 P.length 0 (P.map pv)::.row 66 2 L.length 0 (L.map pv)::.row 4 1 L.length 0 (U.map PV.bool)::(G2++G3))) ?_ ?_
  ·refine zfc ?_ ?_ (by simp only[go_sem,h91]<;>rfl)
   ·intro _;(repeat refine za ?_);refine zag ?_;refine zda ?_ (by simp(disch:=omega)only[go_sem,h1,h13,h14,h16,h17,hbv,hlt,hbb,hbc,hU,ga0,ga1,ga2,sa0,sa1,sa2,gc0,gc1,gc2,sc0,gd0,gd1,zmA,zmO,zmZ,znl,zbF,zbH,zbE,zbG,zac,zad,zP,zAF9,zAI9,zAL9,zAC9,zAE9,zAH9,zAN9,zAA9]<;>rfl) (by first|exact trivial|simp only[go_sem,h1,h13,h14,h16,h17,hbv,hlt,hbb,hbc,hU,ga0,ga1,ga2,sa0,sa1,sa2,gc0,gc1,gc2,sc0,gd0,gd1,zmA,zmO,zmZ,znl,zbF,zbH,zbE,zbG,zac,zad,zP,zAF9,zAI9,zAL9,zAC9,zAE9,zAH9,zAN9,zAA9]);refine zda ?_ (by simp(disch:=omega)only[go_sem,h1,h13,h14,h16,h17,hbv,hlt,hbb,hbc,hU,ga0,ga1,ga2,sa0,sa1,sa2,gc0,gc1,gc2,sc0,gd0,gd1,zmA,zmO,zmZ,znl,zbF,zbH,zbE,zbG,zac,zad,zP,zAF9,zAI9,zAL9,zAC9,zAE9,zAH9,zAN9,zAA9]<;>rfl) (by first|exact trivial|simp only[go_sem,h1,h13,h14,h16,h17,hbv,hlt,hbb,hbc,hU,ga0,ga1,ga2,sa0,sa1,sa2,gc0,gc1,gc2,sc0,gd0,gd1,zmA,zmO,zmZ,znl,zbF,zbH,zbE,zbG,zac,zad,zP,zAF9,zAI9,zAL9,zAC9,zAE9,zAH9,zAN9,zAA9]);refine zdl ?_ (by simp(disch:=omega)only[go_sem,h13,ga0,ga1,ga2,sa0,sa1,sa2,gc0,gc1,gc2,sc0,gd0,gd1,zmA,zmO,zmZ,znl,zbF,zbH,zbE,zbG,zac,zad,zP,zAF9,zAI9,zAL9,zAC9,zAE9,zAH9,zAN9,zAA9]<;>rfl) (by first|exact trivial|simp only[go_sem,h13,ga0,ga1,ga2,sa0,sa1,sa2,gc0,gc1,gc2,sc0,gd0,gd1,zmA,zmO,zmZ,znl,zbF,zbH,zbE,zbG,zac,zad,zP,zAF9,zAI9,zAL9,zAC9,zAE9,zAH9,zAN9,zAA9]);refine zM ?_;simp only[zi,zS,zb,go_sem];refine⟨L++[(key2,1000+j)],U++[decide (192<=(b:Int))],?G6,by simp;omega,hLb.snoc (by omega) (by omega),by simp[hU],h1,h2,h9,h10,h12,by simp,by simp,h15,h16,?H6⟩
    case H6 =>
     simp only[zAC9,zAE9,zAH9,zAN9,zBZ9,zCH9,zBX9];rfl
   ·intro _;refine zF ?_;(try simp only[zb,zf,ze,zd,zi,zg,if_true,reduceIte]);exact⟨(by first|exact trivial|rfl),L,U,_,by omega,hLb,hU,h1,h2,h9,h10,h12,h13,h14,h15,h16,(by first|exact trivial|rfl),rfl⟩
  clear h1 h2 h9 h10 h12 h13 h14 h15 h16 h17 h91 hL hLb hU hbb hbc;clear L U;rintro yy ⟨tm,df,H⟩ ⟨rfl,L,U,G4,hL,hLb,hU,h1,h2,h9,h10,h12,h13,h14,h15,h16,rfl,rfl⟩;dsimp only at h1 h2 h9 h10 h12 h13 h14 h15 h16;simp only[zb,zf,ze,zd,zi,zg,if_true,reduceIte];(repeat refine za ?_);refine zrg ?_ (by simp(disch:=omega)only[go_sem,h16]<;>rfl);refine zy ?_;simp only[zb,zf,ze,zd,zi,zg,if_true,↓reduceIte];refine⟨_,?m5,j+1,key2,P,L,U,?G5,rfl,hlt,hk2,hP,hPb,hL,hLb,hU,by simp[upd,h1],by simp[upd,h2],by simp[upd,h9],by simp[upd,h10],by simp[upd,h12],by simp[upd,h13],by simp[upd,h14],by simp[upd,h15],by simp[upd,h16],trivial,?H5⟩
  case m5=>omega
  case H5=>rfl
 intro hlt;have hlt:¬j<zbx.length:=by have:=of_decide_eq_false hlt;omega
 simp only[zb,zf,ze,zd,zi,zg,if_true,reduceIte];refine zdk (fun tm=>tm 2=.list q2 2 (wdV bent)/\tm 9=.sl 0 0 0 (64*N) (2*(64*N)) 1/\tm 10=.list 0 1 (V.map iv)/\tm 12=.sl (G.length+1+1) P.length 0 P.length (2*P.length) 2/\tm 13=.sl (G.length+1+1+1) L.length 0 L.length (2*L.length) 2/\tm 14=.sl (G.length+1+1+1+1) L.length 0 L.length (2*L.length) 1) ⟨by simp[upd,h2],by simp[upd,h9],by simp[upd,h10],by simp[upd,h12],by simp[upd,h13],by simp[upd,h14]⟩ ?_;clear h1 h2 h9 h10 h12 h13 h14 h15 h16;rintro tm ⟨h2,h9,h10,h12,h13,h14⟩;have hPl:P.length<=400:=by omega
 have hLl:L.length<=400:=by omega
 refine zfm 12 (G.length+1+1) (w:=psv 0 P) (o:=.row 66 2 P.length 0 (P.map pv)) (by simp only[zAY9,ga0]) (by
  dsimp only;rw[h12];exact Frz.whole (l:=P.map pv) (zfU (by simp only[zAY9,ga0]<;>rfl)) rfl (by simp) (by simp) (fun v hv=>by obtain⟨x,_,rfl⟩:=zAP9.1 hv;rfl) zeL) ?_
 simp only[zCK9,sa0];refine zfm 13 (G.length+1+1+1) (w:=psv 0 L) (o:=.row 66 2 L.length 0 (L.map pv)) (by simp only[zAY9,ga1]) (by
  have h13':upd tm 12 (psv 0 P) 13=.sl (G.length+1+1+1) L.length 0 L.length (2*L.length) 2:=by simp[upd,h13]
  dsimp only;rw[h13'];exact Frz.whole (l:=L.map pv) (zfU (by simp only[zAY9,ga1]<;>rfl)) rfl (by simp) (by simp) (fun v hv=>by obtain⟨x,_,rfl⟩:=zAP9.1 hv;rfl) zeL) ?_
 simp only[zCK9,sa1];refine zfm 14 (G.length+1+1+1+1) (w:=.list 0 1 (U.map PV.bool)) (o:=.row 4 1 L.length 0 (U.map PV.bool)) (by simp only[zAY9,ga2]) (by
  have h14':upd (upd tm 12 (psv 0 P)) 13 (psv 0 L) 14=.sl (G.length+1+1+1+1) L.length 0 L.length (2*L.length) 1:=by simp[upd,h14]
  dsimp only;rw[h14'];exact Frz.whole (l:=U.map PV.bool) (zfU (by simp only[zAY9,ga2]<;>rfl)) rfl (by simp[hU]) (by simp[hU]) (fun v hv=>by obtain⟨x,_,rfl⟩:=zAP9.1 hv;rfl) zwL) ?_
 simp only[zCK9,sa2];refine zdk (fun tm=>tm 2=.list q2 2 (wdV bent)/\tm 9=.sl 0 0 0 (64*N) (2*(64*N)) 1/\tm 10=.list 0 1 (V.map iv)/\tm 12=psv 0 P/\tm 13=psv 0 L/\tm 14=.list 0 1 (U.map PV.bool)) ⟨by simp[upd,h2],by simp[upd,h9],by simp[upd,h10],by simp[upd],by simp[upd],by simp[upd]⟩ ?_;clear h2 h9 h10 h12 h13 h14;rintro tm ⟨h2,h9,h10,h12,h13,h14⟩;obtain⟨w0,hw0,hw0l,hw0b⟩:∃w:List Nat,List.replicate (64*N) (uv 0)=w.map uv/\w.length=64*N/\WB w:=⟨List.replicate (64*N) 0,by rw[List.map_replicate],by simp,fun x hx=>by rw[zFD9 hx];exact zCO9 _⟩
 rw[hw0];generalize hHH:(.row 24 1 0 0 (w0.map uv)::.void::(G++.void::.void::.void::G2):List zn)=H;have hr0:H[0]?=some (.row 24 1 0 0 (w0.map uv)):=by rw[<- hHH];rfl
 clear hHH;have hB:=zuH 0 0 P V (by omega) (by omega);obtain⟨root,used,no',puts,hE,hpl,hused,hroot,hpb⟩:=ztu P V (by omega);rw[hE]at hB;(repeat refine za ?_);refine zrg ?_ (by simp(disch:=omega)only[go_sem,h10,h12]<;>rfl);refine zca hB ?_;refine zfx ?_;refine zh ?_
 by_cases hno:no'=0
 rotate_left
 ·have g1:¬(no':Int)=0:=by omega
  (repeat(first|refine za ?_|refine zgo ?_ (by simp(disch:=omega)only[go_sem,g1]<;>rfl)));refine zfc ?_ ?_;rotate_left
  ·intro h;cases h
  intro _;(repeat(first|refine za ?_|refine zgo ?_));refine zq ?_;(try simp only[zb,zf,ze,zd,zi,zg,if_true,reduceIte]);exact no _ _ (by simp[upd]) (by simp[upd]) (by simp[upd])
 have g1:(no':Int)=0:=by omega
 (repeat(first|refine za ?_|refine zgo ?_ (by simp(disch:=omega)only[go_sem,g1]<;>rfl)));refine zfc ?_ ?_
 ·intro h;cases h
 intro _;refine zF ?_;show W _ _ _ _ _ _;have hap:=zkE 0 H 0 0 (2*w0.length) 0 w0 puts (by omega) ⟨by omega,by omega⟩ (zAM9 _) hr0;rw[<- hw0l]at h9;(repeat refine za ?_);refine zrg ?_ (by simp(disch:=omega)only[go_sem,h9]<;>rfl);refine zdN (caps:=?_) (vs:=?_) ?_ ?_ hap ?_ ?_ ?_;rotate_left 2;(first|rfl|(simp only[zab,zap,go_sem,h9]<;>rfl));(simp only[go_sem,h9]<;>rfl);rfl;rfl;rintro e H1 ⟨hst,id,g,M,rfl,hM,hr⟩;refine zfx ?_;refine zh ?_;have hal:=zeF puts w0;have hw1b:=zjK hw0b (hpb hPb);generalize zbo w0 puts=w1' at *
 have r5:5<w1'.length:=by omega
 have r6:IntKind.u64.wrap (root:Int)=(root:Int):=zJ (by omega) (by omega);obtain⟨o5,ho5⟩:∃o,w1'[5]?=some o:=⟨_,zAB9 r5⟩
 have z5:(w1'.map uv)[5]?=some (uv o5):=by rw[zAG9,ho5];rfl
 have y5:(w1'.map uv).set 5 (.int .u64 (root:Int))=(w1'.set 5 root).map uv:=zET9.symm;have r7:5<w0.length:=by omega
 (repeat refine za ?_);refine zgo ?_ (by simp(disch:=omega)only[go_sem,hr,hM,r5,r6,r7,z5,y5,zAA9]<;>rfl);(repeat(first|refine za ?_|refine zgo ?_));have hr2:(H1.set id (.row 24 1 g g ((w1'.set 5 root).map uv)))[id]?=some (.row 24 1 g g ((w1'.set 5 root).map uv)):=zBH9 (zAD9.1 hr).1;have hw2:(w1'.set 5 root).length=64*N:=by simp;omega
 have hw20:w0.length=(w1'.set 5 root).length:=by omega
 rw[hw20];clear hr z5 y5 ho5 r5 r6 r7 hal hap hr0 hst hB hE hw0 hw0l h9 hw20;refine zD (zas (fun m s=>∃(i id g M used:Nat) (w:List Nat),m=L.length-i/\i<=L.length/\w.length=64*N/\WB w/\M<=g/\used<=V.length/\s.tm 2=.list q2 2 (wdV bent)/\s.tm 9=.sl id g 0 w.length (2*w.length) 1/\s.tm 10=.list 0 1 (V.map iv)/\s.tm 13=psv 0 L/\s.tm 14=.list 0 1 (U.map PV.bool)/\s.tm 20=iv used/\s.tm 22=iv i/\s.df=[]/\s.H[id]?=some (.row 24 1 g M (w.map uv))) (n:=L.length) ?_ ?_)
 ·exact⟨0,id,g,g,used,_,rfl,zAS9 _,hw2,hw1b.set (by omega) _,zAM9 _,hused,by simp[upd,h2],by simp[upd],by simp[upd,h10],by simp[upd,h13],by simp[upd,h14],by simp[upd],by simp[upd],rfl,hr2⟩
 clear hr2 hw2 hM h2 h10 h12 h13 h14 hused hpl hpb hw0b hw1b;clear puts w0 w1';rintro m ⟨tm,df,H⟩ ⟨i,id,g,M,used,w,rfl,hi,hwl,hwb,hM,hused,h2,h9,h10,h13,h14,h20,h22,rfl,hr⟩;dsimp only at h2 h9 h10 h13 h14 h20 h22 hr;(try refine zK ?_);refine za (zr ?_);refine zfx ?_ (by simp(disch:=omega)only[go_sem,h13,h22,zAA9]<;>rfl);refine zh ?_;refine zN (by simp only[go_sem]<;>rfl) ?_ ?_
 ·intro hlt;have hlt:i<L.length:=by have:=of_decide_eq_true hlt;omega
  obtain⟨pr,hpr⟩:∃pr,L[i]?=some pr:=⟨_,zAB9 hlt⟩
  have hprv:(L.map pv)[i]?=some (pv pr):=by rw[zAG9,hpr];rfl
  obtain⟨u,hu⟩:∃u,U[i]?=some u:=⟨_,zAB9 (by omega)⟩
  have huv:(U.map PV.bool)[i]?=some (.bool u):=by rw[zAG9,hu];rfl
  have hiu:i<U.length:=by omega
  have fz:Frz H 1 (.sl id g 0 w.length (2*w.length) 1) (wv 1 w):=Frz.wholeM hr hM rfl (by simp) (by simp) (fun v hv=>by obtain⟨x,_,rfl⟩:=zAP9.1 hv;rfl) zif;have hdv:List.drop used (V.map iv)=(V.drop used).map iv:=by rw[zCQ9]
  have hdl:(V.drop used).length=V.length-used:=zCI9;(repeat refine za ?_);refine zD ?_;(repeat(first|refine za ?_|refine zgo ?_ (by simp(disch:=omega)only[go_sem,h14,h22,huv,hiu,zAA9]<;>rfl)));(repeat refine za ?_);refine zbA (Q:=fun yy s'=>yy=.norm/\∃(PL:List Pr) (n:Nat),PL.length<=900000/\BB PL/\used+n<=V.length/\s'.tm 2=.list q2 2 (wdV bent)/\s'.tm 9=.sl id g 0 w.length (2*w.length) 1/\s'.tm 10=.list 0 1 (V.map iv)/\s'.tm 13=psv 0 L/\s'.tm 14=.list 0 1 (U.map PV.bool)/\s'.tm 20=iv used/\s'.tm 22=iv i/\s'.tm 19=.list 0 2 (PL.map zat)/\s'.tm 23=iv n/\s'.df=[]/\s'.H=H) ?_ ?_
  ·cases u with
   | true =>
    obtain⟨R,hR,hR1,hR2,hR3⟩:=zvt 1 0 w 5 pr (V.drop used) (by unfold za2;omega) (by omega);unfold zka at hR;refine zfc ?_ ?_;rotate_left
    ·intro h;cases h
    intro _;(repeat refine za ?_);refine zag ?_;refine zdi hR ?_ ?_ (by simp(disch:=omega)only[go_sem,h9,h10,h13,h20,h22,hprv,hlt,hdv,hused,zAA9]<;>rfl);(repeat(first|exact trivial|refine And.intro ?_ ?_|exact .int _ _|exact .bool _|exact .list _ _ _|exact .elem _|exact .nilsl|exact .nil _ _|exact .str _|refine Frz.aggL ?_|refine Frz.fnL ?_|refine Frz.tupL ?_|refine .iface ?_|exact zbv rfl rfl (by assumption)));(exact fz;exact⟨.int _ _,Frz.aggL ⟨.int _ _,.int _ _,trivial⟩,.list _ _ _,trivial⟩);refine zdl ?_ (by simp(disch:=omega)only[go_sem,h10]<;>rfl);refine zM ?_;simp only[zi,zS,zb,go_sem];exact⟨R.1,R.2.1,hR2,hR3 hwb (hLb pr (zAK9 hpr)),by omega,h2,h9,h10,h13,h14,h20,h22,rfl,rfl⟩
   | false =>
    obtain⟨PL,no'',hT,hTl,hTb⟩:=zsi 1 0 5 pr.1 w (by omega) (by decide);unfold znq at hT;refine zfc ?_ ?_
    ·intro h;cases h
    intro _;(repeat refine za ?_);refine zrg ?_ (by simp(disch:=omega)only[go_sem,h9,h13,h22,hprv,hlt,zAA9]<;>rfl);refine zcl hT ?_ ?_;(repeat(first|exact trivial|refine And.intro ?_ ?_|exact .int _ _|exact .bool _|exact .list _ _ _|exact .elem _|exact .nilsl|exact .nil _ _|exact .str _|refine Frz.aggL ?_|refine Frz.fnL ?_|refine Frz.tupL ?_|refine .iface ?_|exact zbv rfl rfl (by assumption)))
    ·exact fz
    ·(repeat(first|exact trivial|refine And.intro ?_ ?_|exact .int _ _|exact .bool _|exact .list _ _ _|exact .elem _|exact .nilsl|exact .nil _ _|exact .str _|refine Frz.aggL ?_|refine Frz.fnL ?_|refine Frz.tupL ?_|refine .iface ?_|exact zbv rfl rfl (by assumption)))
    refine zfx ?_;refine zy ?_;simp only[zb,zf,ze,zd,zi,zg,if_true,↓reduceIte];refine⟨(by first|exact trivial|rfl),PL,0,hTl,hTb hwb,by omega,by simp[upd,h2],by simp[upd,h9],by simp[upd,h10],by simp[upd,h13],by simp[upd,h14],by simp[upd,h20],by simp[upd,h22],by simp[upd],by simp[upd],(by first|exact trivial|rfl),(by first|exact trivial|rfl)⟩
  clear h2 h9 h10 h13 h14 h20 h22;rintro yy ⟨tm,df,H⟩ ⟨rfl,PL,n,hPLl,hPLb,hun,h2,h9,h10,h13,h14,h20,h22,h19,h23,rfl,rfl⟩;dsimp only at h2 h9 h10 h13 h14 h20 h22 h19 h23;simp only[zb,zf,ze,zd,zi,zg,if_true,reduceIte];have hap:=zkE 0 H id g (2*w.length) M w PL (by omega) ⟨by omega,by omega⟩ hM hr;have wu:(used:Int)+(n:Nat)=((used+n:Nat):Int):=by omega
  (repeat refine za ?_);refine zrg ?_ (by simp(disch:=omega)only[go_sem,h9,h19]<;>rfl);refine zdN (caps:=?_) (vs:=?_) ?_ ?_ hap ?_ ?_ ?_;rotate_left 2;(first|rfl|(simp only[zab,zap,go_sem,h9]<;>rfl));(simp only[go_sem,h9]<;>rfl);rfl;rfl;rintro e H1 ⟨hst,id2,g2,M2,rfl,hM2,hr2⟩;refine zfx ?_ (by simp(disch:=omega)only[go_sem,h20,h23,wu]<;>rfl);refine zy ?_;simp only[zb,zf,ze,zd,zi,zg,if_true,↓reduceIte];(repeat refine za ?_);refine zrg ?_ (by simp(disch:=omega)only[go_sem,h22]<;>rfl);refine zy ?_;simp only[zb,zf,ze,zd,zi,zg,if_true,↓reduceIte];have hal:=zeF PL w;refine⟨_,?m7,i+1,id2,g2,M2,used+n,zbo w PL,rfl,hlt,by rw[hal];exact hwl,zjK hwb hPLb,hM2,hun,by simp[upd,h2],by simp[upd,hal],by simp[upd,h10],by simp[upd,h13],by simp[upd,h14],by simp[upd],by simp[upd,h22],trivial,hr2⟩
  case m7=>omega
 intro hlt;simp only[zb,zf,ze,zd,zi,zg,if_true,reduceIte];(repeat(first|refine za ?_|refine zgo ?_));refine zD (zas (fun m s=>∃(k id g M:Nat) (w:List Nat),m=bent.length-k/\k<=bent.length/\w.length=64*N/\WB w/\M<=g/\s.tm 2=.list q2 2 (wdV bent)/\s.tm 9=.sl id g 0 w.length (2*w.length) 1/\s.tm 10=.list 0 1 (V.map iv)/\s.tm 20=iv used/\s.tm 24=iv k/\s.df=[]/\s.H[id]?=some (.row 24 1 g M (w.map uv))) (n:=bent.length) ?_ ?_)
 ·exact⟨0,id,g,M,w,rfl,zAS9 _,hwl,hwb,hM,by simp[upd,h2],by simp[upd,h9],by simp[upd,h10],by simp[upd,h20],by simp[upd],rfl,hr⟩
 clear h2 h9 h10 h13 h14 h20 h22 hr hM hwl hwb;clear w;rintro m ⟨tm,df,H⟩ ⟨k,id,g,M,w,rfl,hk,hwl,hwb,hM,h2,h9,h10,h20,h24,rfl,hr⟩;dsimp only at h2 h9 h10 h20 h24 hr;(try refine zK ?_);refine za (zr ?_);refine zfx ?_ (by simp(disch:=omega)only[go_sem,h2,h24,zAA9]<;>rfl);refine zh ?_;refine zN (by simp only[go_sem]<;>rfl) ?_ ?_
 ·intro hltk;have hltk:k<bent.length:=by have:=of_decide_eq_true hltk;omega
  obtain⟨x,hx⟩:∃x,bent[k]?=some x:=⟨_,zAB9 hltk⟩
  have hxv:(wdV bent)[k]?=some (.agg [iv x.1,uv x.2]):=by rw[zAG9,hx];rfl
  (repeat refine za ?_);refine zD ?_
  by_cases hin:0<=x.1/\x.1<(w.length:Nat)
  ·obtain⟨a,ha⟩:∃a:Nat,x.1=a:=⟨x.1.toNat,by omega⟩
   have g1:(0:Int)<=(a:Nat):=by omega
   have g2:((a:Nat):Int)<(w.length:Nat):=by omega
   have g3:a<w.length:=by omega
   rw[ha]at hxv;obtain⟨o,ho⟩:∃o,w[a]?=some o:=⟨_,zAB9 g3⟩
   have z1:(w.map uv)[a]?=some (uv o):=by rw[zAG9,ho];rfl
   have y1:(w.map uv).set a (.int .u64 (x.2:Int))=(w.set a x.2).map uv:=zET9.symm;(repeat(first|refine za ?_|refine zgo ?_ (by simp(disch:=omega)only[go_sem,h2,h9,h24,hxv,hltk,hr,hM,g1,g2,zAA9]<;>rfl)));refine zfc ?_ ?_;rotate_left
   ·intro h;cases h
   intro _;(repeat refine za ?_);refine zag ?_;refine zda ?_ (by simp(disch:=omega)only[go_sem,h2,h9,h24,hxv,hltk,hr,hM,g1,g2,g3,z1,y1,zAA9]<;>rfl);refine zdl ?_ (by simp(disch:=omega)only[go_sem,h9]<;>rfl);refine zM ?_;simp only[zi,zS,zb,go_sem];(repeat refine za ?_);refine zrg ?_ (by simp(disch:=omega)only[go_sem,h24]<;>rfl);refine zy ?_;simp only[zb,zf,ze,zd,zi,zg,if_true,↓reduceIte];refine⟨_,?m8,k+1,id,g,g,w.set a x.2,rfl,hltk,by simpa using hwl,hwb.set (hbw x (zAK9 hx)) _,zAM9 _,by simp[upd,h2],by simp[upd,h9],by simp[upd,h10],by simp[upd,h20],by simp[upd,h24],trivial,?hr8⟩
   case m8=>omega
   case hr8=>exact zBH9 (zAD9.1 hr).1
  ·by_cases h0:(0:Int)<=x.1
   ·have g2:¬x.1<(w.length:Nat):=fun h=>hin ⟨h0,h⟩;(repeat(first|refine za ?_|refine zgo ?_ (by simp(disch:=omega)only[go_sem,h2,h9,h24,hxv,hltk,hr,hM,h0,g2,zAA9]<;>rfl)));refine zfc ?_ ?_
    ·intro h;cases h
    intro _;refine zF ?_;simp only[zb,zf,ze,zd,zi,zg,if_true,reduceIte];(repeat refine za ?_);refine zrg ?_ (by simp(disch:=omega)only[go_sem,h24]<;>rfl);refine zy ?_;simp only[zb,zf,ze,zd,zi,zg,if_true,↓reduceIte];refine⟨_,?m9,k+1,id,g,M,w,rfl,hltk,hwl,hwb,hM,by simp[upd,h2],by simp[upd,h9],by simp[upd,h10],by simp[upd,h20],by simp[upd,h24],trivial,hr⟩
    case m9=>omega
   ·(repeat(first|refine za ?_|refine zgo ?_ (by simp(disch:=omega)only[go_sem,h2,h9,h24,hxv,hltk,hr,hM,h0,zAA9]<;>rfl)));refine zfc ?_ ?_
    ·intro h;cases h
    intro _;refine zF ?_;simp only[zb,zf,ze,zd,zi,zg,if_true,reduceIte];(repeat refine za ?_);refine zrg ?_ (by simp(disch:=omega)only[go_sem,h24]<;>rfl);refine zy ?_;simp only[zb,zf,ze,zd,zi,zg,if_true,↓reduceIte];refine⟨_,?m9,k+1,id,g,M,w,rfl,hltk,hwl,hwb,hM,by simp[upd,h2],by simp[upd,h9],by simp[upd,h10],by simp[upd,h20],by simp[upd,h24],trivial,hr⟩
    case m9=>omega
 intro hltk;simp only[zb,zf,ze,zd,zi,zg,if_true,reduceIte];have hdv:List.drop used (V.map iv)=(V.drop used).map iv:=by rw[zCQ9]
 (repeat refine za ?_);refine zag ?_;refine zdl ?_ (by simp(disch:=omega)only[go_sem,h9,h10,h20,hdv,hused,zAA9]<;>rfl);refine zM ?_;simp only[zi,zS,zb,go_sem];refine zq ?_;(try simp only[zb,zf,ze,zd,zi,zg,if_true,reduceIte]);refine zj (vs:=[.sl id g 0 w.length (2*w.length) 1,.list 0 1 ((V.drop used).map iv),.bool true]) ?_ ?_
 ·simp[T8,xT,zE,okv,upd,h9]
 ·refine⟨_,⟨w,V.drop used,true,rfl,fun _=>⟨by omega,by omega,by omega,by simp;omega,hwb⟩⟩,Frz.tupL ⟨?_,.list _ _ _,.bool _,trivial⟩⟩;exact Frz.wholeM hr hM rfl (by simp) (by simp) (fun v hv=>by obtain⟨x,_,rfl⟩:=zAP9.1 hv;rfl) zif
theorem f18:ET.funcs.get 18=some T18:=zL Tryz.func18
def zkP (w:List Nat)(a:Int):List Pr×Nat:=if zbw w.length a=true then if(zO w a.toNat).2=true then(zbQ (zb6 (zO w a.toNat).1).2,0)else([],220)else([],2)
theorem zrY (w:List Nat)(a:Int):zfs w a=.ret (.tuple [psv 0 (zkP w a).1,iv (zkP w a).2]):=by
 unfold zfs zkP
 split
 ·split<;>rfl
 ·rfl
theorem zv8 (w:List Nat)(a:Int)(hw:w.length<=131072):(zkP w a).1.length<=60000:=by
 unfold zkP
 split
 ·split
  ·rename_i hr ht;obtain⟨f1,f2,f3,f4,f5⟩:=zbW (w:=w) (T:=(zO w a.toNat).1) hw a.toNat (by rw[<- ht]);obtain⟨g1,g2⟩:=zga f3;have hLF:=f1 _ (zAK9 g1);have hll:=ze1 (zb6 (zO w a.toNat).1).2 fun n hn=>(hLF.lv.node hn).1;have hfew:=hLF.few;dsimp only;omega
  ·exact zAS9 _
 ·exact zAS9 _
theorem zwR (w:List Nat)(a:Int):LbE (zfs w a):=by
 rw[zrY];exact Lb.two (Lb.pvs _) (.int _ _)
theorem ztj (p:Nat)(w:List Nat)(a:Int)(hs:za2 w.length):FN ET 18 [wv p w,iv a] (zfs w a):=by
 have hr:=zfy p w a hs;have hlb:=zwR w a;unfold zfs at hlb⊢
 by_cases h:zbw w.length a=true
 rotate_left
 ·rw[if_neg h]at hlb⊢;rw[show zbw w.length a=false by simpa using h]at hr;refine zfn f18 hlb ?_;(repeat(first|refine za ?_|refine zgo ?_));(repeat refine za ?_);refine zrg ?_;refine zca hr ?_;refine zfx ?_;refine zh ?_;refine zfc ?_ ?_;rotate_left
  ·intro h;cases h
  intro _;(repeat(first|refine za ?_|refine zgo ?_));refine zq ?_;(try simp only[zb,zf,ze,zd,zg]);refine zj (by simp only[T18,zE,go_sem]<;>rfl) ?_;simp only[zG];exact Frz.tupL ⟨.nil _ _,.int _ _,trivial⟩
 rw[if_pos h]at hlb⊢;have hb:=(zcC _ _).1 h;rw[h]at hr;obtain⟨n,rfl⟩:∃n:Nat,a=n:=⟨a.toNat,by omega⟩
 rw[zCU9]at hlb⊢;have hl:=zd9 p w ⟨hb.1,hb.2.2.1⟩ n (by omega);obtain⟨e1,e2⟩:=zee w n
 by_cases ht:(zO w n).2=true
 rotate_left
 ·rw[if_neg ht]at hlb⊢;rw[e1,show (zO w n).2=false by simpa using ht]at hl;generalize (zbL w n).1=T at hl;refine zfn f18 hlb ?_;(repeat(first|refine za ?_|refine zgo ?_));(repeat refine za ?_);refine zrg ?_;refine zca hr ?_;refine zfx ?_;refine zh ?_;refine zfc ?_ ?_
  ·intro h;cases h
  intro _;refine zF ?_;show W _ _ _ _ _ _;(repeat refine za ?_);refine zrg ?_;refine zca hl ?_;refine zfx ?_;refine zh ?_;(repeat(first|refine za ?_|refine zgo ?_));refine zfc ?_ ?_;rotate_left
  ·intro h;cases h
  intro _;(repeat(first|refine za ?_|refine zgo ?_));refine zq ?_;(try simp only[zb,zf,ze,zd,zg]);refine zj (by simp only[T18,zE,go_sem]<;>rfl) ?_;simp only[zG];exact Frz.tupL ⟨.nil _ _,.int _ _,trivial⟩
 rw[if_pos ht]at hlb⊢;rw[e1,e2 ht,ht]at hl;obtain⟨f1,f2,f3,f4,f5⟩:=zbW (w:=w) (T:=(zO w n).1) (by omega) n (by rw[<- ht]);generalize (zO w n).1=T at *
 obtain⟨g1,g2⟩:=zga f3;have hlen:T.length≠0:=fun h=>f3 (zCG9 h);have hLF:=f1 _ (zAK9 g1);have hget:(T.map fun L=>zbk 0 0 L.1 L.2)[T.length-1]?=some (zbk 0 0 (zb6 T).1 (zb6 T).2):=by rw[zAG9,g1];rfl
 have hll:=ze1 (zb6 T).2 fun n hn=>(hLF.lv.node hn).1;have hfew:=hLF.few;have hlp:=zik 0 0 (zb6 T).1 (zb6 T).2 (by omega) (fun n hn=>(hLF.lv.node hn).1) (by omega);unfold zfw at hlp;rw[if_pos f4]at hlp;have e3:(T.length:Int)-1=((T.length-1:Nat):Int):=by omega
 have e4:T.length-1<T.length:=by omega
 refine zfn f18 hlb ?_;(repeat(first|refine za ?_|refine zgo ?_));(repeat refine za ?_);refine zrg ?_;refine zca hr ?_;refine zfx ?_;refine zh ?_;refine zfc ?_ ?_
 ·intro h;cases h
 intro _;refine zF ?_;show W _ _ _ _ _ _;(repeat refine za ?_);refine zrg ?_;refine zca hl ?_;refine zfx ?_;refine zh ?_;(repeat(first|refine za ?_|refine zgo ?_));refine zfc ?_ ?_
 ·intro h;cases h
 intro _;refine zF ?_;show W _ _ _ _ _ _;(repeat refine za ?_);refine zrg ?_ (by simp(disch:=omega)only[go_sem,hget,e3,e4,zAA9]<;>rfl);refine zca hlp ?_;refine zfx ?_;refine zh ?_;(repeat(first|refine za ?_|refine zgo ?_));refine zq ?_;(try simp only[zb,zf,ze,zd,zg]);refine zj (by simp only[T18,zE,go_sem]<;>rfl) ?_;simp only[zG];exact Frz.tupL ⟨.list _ _ _,.int _ _,trivial⟩
theorem f14:ET.funcs.get 14=some T14:=zL Tryz.func14
theorem zq2 (p q:Nat)(a b:List Int)(ha:za2 a.length)(hb:za2 b.length):FN ET 14 [.list p 1 (a.map iv),.list q 1 (b.map iv)] (.ret (.bool (decide (a=b)))):=by
 refine zfn f14 (.bool _) ?_;(repeat(first|refine za ?_|refine zgo ?_))
 by_cases hl:a.length=b.length
 rotate_left
 ·have g:¬(a.length:Int)=b.length:=by omega
  have hne:¬a=b:=fun h=>hl (by rw[h]);(repeat refine za ?_);refine zfc ?_ ?_
  ·intro _;(repeat(first|refine za ?_|refine zgo ?_));refine zq ?_;(try simp only[zb,zf,ze,zd,zg]);refine zj (by simp only[T14,zE,go_sem]<;>rfl) ?_;simp only[zG];exact zay.bool (decide_eq_false hne).symm
  ·intro h;simp[g]at h
 have g:(a.length:Int)=b.length:=by omega
 (repeat refine za ?_);refine zfc ?_ ?_
 ·intro h;simp[g]at h
 intro _;refine zF ?_;show W _ _ _ _ _ _;(repeat(first|refine za ?_|refine zgo ?_));refine zD (zas (fun m s=>∃i:Nat,m=a.length-i/\i<=a.length/\decide (a=b)=decide (a.drop i=b.drop i)/\s.tm 0=.list p 1 (a.map iv)/\s.tm 1=.list q 1 (b.map iv)/\s.tm 5=iv i/\s.df=[]/\s.H=[]) (n:=a.length) ?_ ?_)
 ·exact⟨0,by simp[upd,zo]⟩
 ·rintro m ⟨tm,df,H⟩ ⟨i,rfl,hi,hd,h0,h1,h5,rfl,rfl⟩;dsimp only at h0 h1 h5;(try refine zK ?_);refine za (zr ?_);refine zfx ?_ (by simp(disch:=omega)only[go_sem,h0,h1,h5,zAA9]<;>rfl);refine zh ?_;refine zN (by simp only[go_sem]<;>rfl) ?_ ?_
  ·intro hlt;have hlt:i<a.length:=by have:=of_decide_eq_true hlt;omega
   have hltb:i<b.length:=by omega
   have hda:a.drop i=a[i]::a.drop (i+1):=zAU9 hlt;have hdb:b.drop i=b[i]::b.drop (i+1):=zAU9 hltb;have hav:(a.map iv)[i]?=some (iv a[i]):=by rw[zAG9,zAB9 hlt];rfl
   have hbv:(b.map iv)[i]?=some (iv b[i]):=by rw[zAG9,zAB9 hltb];rfl
   rw[hda,hdb]at hd;generalize a[i]=x at *
   generalize b[i]=y at *
   (repeat refine za ?_);refine zD ?_;(repeat refine za ?_);refine zag ?_
   by_cases hx:x=y
   ·have g2:(x:Int)=(y:Int):=by rw[hx]
    refine zdl ?_ (by simp(disch:=omega)only[go_sem,h0,h1,h5,hav,hbv,hlt,hltb,zAA9,g2]<;>rfl);refine zM ?_;simp only[zi,zS,zb,go_sem];refine zfc ?_ ?_
    ·intro h;simp at h
    ·intro _;refine zF ?_;simp only[zb,zf,ze,zd,zi,zg,if_true,reduceIte];(repeat refine za ?_);refine zrg ?_ (by simp(disch:=omega)only[go_sem,h5]<;>rfl);refine zy ?_;simp only[zb,zf,ze,zd,zi,zg,if_true,↓reduceIte];refine⟨_,?m,i+1,rfl,hlt,?_,by simp[upd,h0],by simp[upd,h1],by simp[upd,h5],trivial,trivial⟩
     case m=>omega
     rw[hd];simp only[hx,List.cons.injEq,true_and]
   ·have g2:¬(x:Int)=(y:Int):=by omega
    refine zdl ?_ (by simp(disch:=omega)only[go_sem,h0,h1,h5,hav,hbv,hlt,hltb,zAA9,g2]<;>rfl);refine zM ?_;simp only[zi,zS,zb,go_sem];refine zfc ?_ ?_
    ·intro _;(repeat(first|refine za ?_|refine zgo ?_));refine zq ?_;(try simp only[zb,zf,ze,zd,zg]);refine zj (by simp only[T14,zE,go_sem]<;>rfl) ?_;simp only[zG];exact zay.bool (by rw[hd];simp only[List.cons.injEq,hx,false_and,decide_false])
    ·intro h;simp at h
  ·intro hlt;have hlt:¬i<a.length:=by have:=of_decide_eq_false hlt;omega
   obtain rfl:i=a.length:=by omega
   simp only[zb,zf,ze,zd,zi,zg,if_true,reduceIte];(repeat(first|refine za ?_|refine zgo ?_));refine zq ?_;(try simp only[zb,zf,ze,zd,zg]);refine zj (by simp only[T14,zE,go_sem]<;>rfl) ?_;simp only[zG];refine zay.bool ?_;rw[hd,zBG9,hl,zBG9];rfl
theorem f25:ET.funcs.get 25=some T25:=zL Tryz.func25
theorem zp2 (p q:Nat)(a b:List Nat)(ha:za2 a.length)(hb:za2 b.length):FN ET 25 [wv p a,wv q b] (.ret (.bool (decide (a=b)))):=by
 refine zfn f25 (.bool _) ?_;(repeat(first|refine za ?_|refine zgo ?_))
 by_cases hl:a.length=b.length
 rotate_left
 ·have g:¬(a.length:Int)=b.length:=by omega
  have hne:¬a=b:=fun h=>hl (by rw[h]);(repeat refine za ?_);refine zfc ?_ ?_
  ·intro _;(repeat(first|refine za ?_|refine zgo ?_));refine zq ?_;(try simp only[zb,zf,ze,zd,zg]);refine zj (by simp only[T25,zE,go_sem]<;>rfl) ?_;simp only[zG];exact zay.bool (decide_eq_false hne).symm
  ·intro h;simp[g]at h
 have g:(a.length:Int)=b.length:=by omega
 (repeat refine za ?_);refine zfc ?_ ?_
 ·intro h;simp[g]at h
 intro _;refine zF ?_;show W _ _ _ _ _ _;(repeat(first|refine za ?_|refine zgo ?_));refine zD (zas (fun m s=>∃i:Nat,m=a.length-i/\i<=a.length/\decide (a=b)=decide (a.drop i=b.drop i)/\s.tm 0=wv p a/\s.tm 1=wv q b/\s.tm 5=iv i/\s.df=[]/\s.H=[]) (n:=a.length) ?_ ?_)
 ·exact⟨0,by simp[upd,zo]⟩
 ·rintro m ⟨tm,df,H⟩ ⟨i,rfl,hi,hd,h0,h1,h5,rfl,rfl⟩;dsimp only at h0 h1 h5;(try refine zK ?_);refine za (zr ?_);refine zfx ?_ (by simp(disch:=omega)only[go_sem,h0,h1,h5,zAA9]<;>rfl);refine zh ?_;refine zN (by simp only[go_sem]<;>rfl) ?_ ?_
  ·intro hlt;have hlt:i<a.length:=by have:=of_decide_eq_true hlt;omega
   have hltb:i<b.length:=by omega
   have hda:a.drop i=a[i]::a.drop (i+1):=zAU9 hlt;have hdb:b.drop i=b[i]::b.drop (i+1):=zAU9 hltb;have hav:(a.map uv)[i]?=some (uv a[i]):=by rw[zAG9,zAB9 hlt];rfl
   have hbv:(b.map uv)[i]?=some (uv b[i]):=by rw[zAG9,zAB9 hltb];rfl
   rw[hda,hdb]at hd;generalize a[i]=x at *
   generalize b[i]=y at *
   (repeat refine za ?_);refine zD ?_;(repeat refine za ?_);refine zag ?_
   by_cases hx:x=y
   ·have g2:((x:Nat):Int)=((y:Nat):Int):=by rw[hx]
    refine zdl ?_ (by simp(disch:=omega)only[go_sem,h0,h1,h5,hav,hbv,hlt,hltb,zAA9,g2]<;>rfl);refine zM ?_;simp only[zi,zS,zb,go_sem];refine zfc ?_ ?_
    ·intro h;simp at h
    ·intro _;refine zF ?_;simp only[zb,zf,ze,zd,zi,zg,if_true,reduceIte];(repeat refine za ?_);refine zrg ?_ (by simp(disch:=omega)only[go_sem,h5]<;>rfl);refine zy ?_;simp only[zb,zf,ze,zd,zi,zg,if_true,↓reduceIte];refine⟨_,?m,i+1,rfl,hlt,?_,by simp[upd,h0],by simp[upd,h1],by simp[upd,h5],trivial,trivial⟩
     case m=>omega
     rw[hd];simp only[hx,List.cons.injEq,true_and]
   ·have g2:¬((x:Nat):Int)=((y:Nat):Int):=by omega
    refine zdl ?_ (by simp(disch:=omega)only[go_sem,h0,h1,h5,hav,hbv,hlt,hltb,zAA9,g2]<;>rfl);refine zM ?_;simp only[zi,zS,zb,go_sem];refine zfc ?_ ?_
    ·intro _;(repeat(first|refine za ?_|refine zgo ?_));refine zq ?_;(try simp only[zb,zf,ze,zd,zg]);refine zj (by simp only[T25,zE,go_sem]<;>rfl) ?_;simp only[zG];exact zay.bool (by rw[hd];simp only[List.cons.injEq,hx,false_and,decide_false])
    ·intro h;simp at h
  ·intro hlt;have hlt:¬i<a.length:=by have:=of_decide_eq_false hlt;omega
   obtain rfl:i=a.length:=by omega
   simp only[zb,zf,ze,zd,zi,zg,if_true,reduceIte];(repeat(first|refine za ?_|refine zgo ?_));refine zq ?_;(try simp only[zb,zf,ze,zd,zg]);refine zj (by simp only[T25,zE,go_sem]<;>rfl) ?_;simp only[zG];refine zay.bool ?_;rw[hd,zBG9,hl,zBG9];rfl
def ixB:Nat->List Nat->Int->Int
 | _,[],_=>-1
 | i,b::l,n=>if(b:Int)=n then i else ixB (i+1) l n
theorem zi4:∀(l:List Nat) (i:Nat) (n:Int),ixB i l n=-1\/∃k:Nat,ixB i l n=(i+k:Nat)/\k<l.length/\((l.getD k 0:Nat):Int)=n
 | [],_,_=>.inl rfl
 | b::l,i,n=>by
  unfold ixB
  split
  ·rename_i h;exact .inr ⟨0,rfl,by simp,by simpa using h⟩
  ·rcases zi4 l (i+1) n with h|⟨k,h,hk,hn⟩
   ·exact .inl h
   ·exact .inr ⟨k+1,by rw[h];congr 1;omega,by simp;omega,by simpa using hn⟩
theorem zpk (l:List Nat)(i:Nat)(n:Int)(h:i<l.length):ixB i (l.drop i) n=if((l[i]:Nat):Int)=n then(i:Int)else ixB (i+1) (l.drop (i+1)) n:=by
 rw[zAU9 h,ixB]
theorem zpR:∀(l:List Nat) (i:Nat) (n:Nat),(∀b∈l,b<2048)->n<18446744073709551616->ixB i l (IntKind.i64.wrap n)=ixB i l n
 | [],_,_,_,_=>rfl
 | b::l,i,n,h,hn=>by
  unfold ixB;rw[zpR l (i+1) n (fun x hx=>h x (zAT9 _ hx)) hn];have hb:=h b (zAV9 ..);have:(((b:Nat):Int)=IntKind.i64.wrap (n:Int))↔((b:Int)=(n:Int)):=by
   simp only[IntKind.wrap,IntKind.bits,IntKind.signed];simp;omega
  by_cases hh:(b:Int)=n
  ·rw[if_pos hh,if_pos (this.2 hh)]
  ·rw[if_neg hh,if_neg (fun e=>hh (this.1 e))]
theorem f64:ET.funcs.get 64=some T64:=zL Tryz.func64
theorem f66:ET.funcs.get 66=some T66:=zL Tryz.func66
theorem zs6 (p:Nat)(bs:List Nat)(n:Int)(hs:za2 bs.length):FN ET 64 [.list p 1 (bfl bs),iv n] (.ret (iv (ixB 0 bs n))):=by
 refine zfn f64 (.int _ _) ?_;(repeat(first|refine za ?_|refine zgo ?_));refine zD (zas (fun m s=>∃i:Nat,m=bs.length-i/\i<=bs.length/\ixB 0 bs n=ixB i (bs.drop i) n/\s.tm 0=.list p 1 (bfl bs)/\s.tm 1=iv n/\s.tm 7=iv bs.length/\s.tm 8=iv i/\s.df=[]/\s.H=[]) (n:=bs.length) ?_ ?_)
 ·exact⟨0,by simp,by omega,rfl,by simp[upd,zo],by simp[upd,zo],by simp[upd],by simp[upd],rfl,rfl⟩
 ·rintro m ⟨tm,df,H⟩ ⟨i,rfl,hi,hx,h0,h1,h7,h8,rfl,rfl⟩;dsimp only at h0 h1 h7 h8;(try refine zK ?_);refine za (zr ?_);refine zfx ?_ (by simp(disch:=omega)only[go_sem,h7,h8]<;>rfl);refine zh ?_;refine zN (by simp only[go_sem]<;>rfl) ?_ ?_
  ·intro hlt;have hlt:i<bs.length:=by have:=of_decide_eq_true hlt;omega
   have hbv:(bfl bs)[i]?=some (iv (bs[i]:Nat)):=by rw[zAG9,zAB9 hlt];rfl
   rw[zpk _ _ _ hlt]at hx;generalize bs[i]=b at *
   (repeat refine za ?_);refine zD ?_;(repeat(first|refine za ?_|refine zgo ?_ (by simp(disch:=omega)only[go_sem,h0,h1,h8,hbv,hlt,zAA9]<;>rfl)))
   by_cases he:n=(b:Int)
   ·rw[if_pos he.symm]at hx;refine zfc ?_ ?_
    ·intro _;(repeat(first|refine za ?_|refine zgo ?_));refine zq ?_;(try simp only[zb,zf,ze,zd,zg]);refine zj (by simp only[T64,zE,go_sem]<;>rfl) ?_;simp only[zG];rw[hx];exact Frz.int _ _
    ·intro h;simp[he]at h
   ·rw[if_neg (fun h=>he h.symm)]at hx;refine zfc ?_ ?_
    ·intro h;simp[he]at h
    ·intro _;refine zF ?_;show W _ _ _ _ _ _;(repeat refine za ?_);refine zrg ?_ (by simp(disch:=omega)only[go_sem,h8]<;>rfl);refine zy ?_;simp only[zb,zf,ze,zd,zi,zg,if_true,↓reduceIte];refine⟨_,?m,i+1,rfl,hlt,hx,by simp[upd,h0],by simp[upd,h1],by simp[upd,h7],by simp[upd,h8],trivial,trivial⟩
     case m=>omega
  ·intro hlt;have hlt:¬i<bs.length:=by have:=of_decide_eq_false hlt;omega
   obtain rfl:i=bs.length:=by omega
   simp only[zb,zf,ze,zd,zi,zg,if_true,reduceIte];(repeat(first|refine za ?_|refine zgo ?_));refine zq ?_;(try simp only[zb,zf,ze,zd,zg]);refine zj (by simp only[T64,zE,go_sem]<;>rfl) ?_;simp only[zG];rw[hx,zBG9];exact Frz.int _ _
theorem zs3 (p q:Nat)(bs:List Nat)(L:List zB)(n:Nat)(hs:za2 bs.length)(hb:∀b∈bs,b<2048):FN ET 66 [zbk p q bs L,uv n] (.ret (iv (ixB 0 bs n))):=by
 refine zfn f66 (.int _ _) ?_;(repeat(first|refine za ?_|refine zgo ?_));refine zD (zas (fun m s=>∃i:Nat,m=bs.length-i/\i<=bs.length/\ixB 0 bs n=ixB i (bs.drop i) n/\s.tm 1=uv n/\s.tm 2=.ptr 0 0 0 0 2/\s.tm 5=iv i/\s.df=[]/\s.H=[.row 116 2 0 0 [zbk p q bs L]]) (n:=bs.length) ?_ ?_)
 ·exact⟨0,by simp,by omega,rfl,by simp[upd,zo],by simp[upd],by simp[upd],rfl,rfl⟩
 ·rintro m ⟨tm,df,H⟩ ⟨i,rfl,hi,hx,h1,h2,h5,rfl,rfl⟩;dsimp only at h1 h2 h5;(try refine zK ?_);refine za (zr ?_);refine zfx ?_ (by simp(disch:=omega)only[go_sem,h2,h5,zAA9]<;>rfl);refine zh ?_;refine zN (by simp only[go_sem]<;>rfl) ?_ ?_
  ·intro hlt;have hlt:i<bs.length:=by have:=of_decide_eq_true hlt;omega
   have hbv:(bfl bs)[i]?=some (iv (bs[i]:Nat)):=by rw[zAG9,zAB9 hlt];rfl
   have hb2:=hb _ (zBP9 hlt);rw[zpk _ _ _ hlt]at hx;generalize bs[i]=b at *
   (repeat refine za ?_);refine zD ?_;have hw:IntKind.u64.wrap (b:Int)=b:=zJ (by omega) (by omega);(repeat(first|refine za ?_|refine zgo ?_ (by simp(disch:=omega)only[go_sem,h1,h2,h5,hbv,hlt,hw,zAA9]<;>rfl)))
   by_cases he:(b:Int)=n
   ·rw[if_pos he]at hx;refine zfc ?_ ?_
    ·intro _;(repeat(first|refine za ?_|refine zgo ?_ (by simp(disch:=omega)only[go_sem,h5]<;>rfl)));refine zq ?_;(try simp only[zb,zf,ze,zd,zg]);refine zj (by simp only[T66,zE,go_sem]<;>rfl) ?_;simp only[zG];rw[hx];exact Frz.int _ _
    ·intro h;simp[he]at h
   ·rw[if_neg he]at hx;refine zfc ?_ ?_
    ·intro h;simp[he]at h
    ·intro _;refine zF ?_;show W _ _ _ _ _ _;(repeat refine za ?_);refine zrg ?_ (by simp(disch:=omega)only[go_sem,h5]<;>rfl);refine zy ?_;simp only[zb,zf,ze,zd,zi,zg,if_true,↓reduceIte];refine⟨_,?m,i+1,rfl,hlt,hx,by simp[upd,h1],by simp[upd,h2],by simp[upd,h5],trivial,trivial⟩
     case m=>omega
  ·intro hlt;have hlt:¬i<bs.length:=by have:=of_decide_eq_false hlt;omega
   obtain rfl:i=bs.length:=by omega
   simp only[zb,zf,ze,zd,zi,zg,if_true,reduceIte];(repeat(first|refine za ?_|refine zgo ?_));refine zq ?_;(try simp only[zb,zf,ze,zd,zg]);refine zj (by simp only[T66,zE,go_sem]<;>rfl) ?_;simp only[zG];rw[hx,zBG9];exact Frz.int _ _
theorem f19:ET.funcs.get 19=some T19:=zL Tryz.func19
def lvB (T:List Lev)(b:Nat):List Nat:=(T.filter fun L=>L.1.contains b).map fun _=>b
def zhN (T:List Lev)(n:Nat):List Nat:=(List.range n).flatMap (lvB T)
def zdb (w:List Nat)(a:Int):FE:=if zbw w.length a=true then if(zO w a.toNat).2=true then .ret (.tuple [.list 0 1 (bfl (zhN (zO w a.toNat).1 (w.length/64))),iv 0])else .ret (.tuple [.list 0 1 (bfl []),iv 220])else .ret (.tuple [.list 0 1 (bfl []),iv 2])
theorem zrP (T:List Lev)(b:Nat):(lvB T b).length<=T.length:=by unfold lvB;rw[zAA9];exact zFP9 ..
theorem zla (T:List Lev):∀n,(zhN T n).length<=n*T.length
 | 0=>by simp[zhN]
 | n+1=>by
  have:=zla T n;have h2:=zrP T n;unfold zhN at this⊢;rw[zDJ9,zCT9,zAC9,zDA9];simp only[zBS9,List.flatMap_nil,zEB9];omega
theorem ztO (l:List Nat):Lb (.list 0 1 (bfl l)):=by
 refine Lb.list fun v hv=>?_;obtain⟨y,hy,hv⟩:=zBC9.1 hv;obtain⟨x,_,rfl⟩:=zAP9.1 hy;simp[PV.cells]at hv;subst hv;exact .int _ _
theorem zlW (w:List Nat)(a:Int):LbE (zdb w a):=by
 unfold zdb
 split
 ·split<;>exact Lb.two (ztO _) (.int _ _)
 ·exact Lb.two (ztO _) (.int _ _)
theorem zu4 (l:List Nat):∀v∈(bfl l).flatMap PV.cells,Id0 v:=fun v hv=>by
 obtain⟨y,hy,hv⟩:=zBC9.1 hv;obtain⟨x,_,rfl⟩:=zAP9.1 hy;simp[PV.cells]at hv;subst hv;exact .int _ _
theorem zp9 (p:Nat)(w:List Nat)(a:Int)(hs:za2 w.length):FN ET 19 [wv p w,iv a] (zdb w a):=by
 have hr:=zfy p w a hs;have hlb:=zlW w a;unfold zdb at hlb⊢
 by_cases h:zbw w.length a=true
 rotate_left
 ·rw[if_neg h]at hlb⊢;rw[show zbw w.length a=false by simpa using h]at hr;refine zfn f19 hlb ?_;(repeat(first|refine za ?_|refine zgo ?_));(repeat refine za ?_);refine zrg ?_;refine zca hr ?_;refine zfx ?_;refine zh ?_;refine zfc ?_ ?_;rotate_left
  ·intro h;cases h
  intro _;(repeat(first|refine za ?_|refine zgo ?_));refine zq ?_;(try simp only[zb,zf,ze,zd,zg]);refine zj (by simp only[T19,zE,go_sem]<;>rfl) ?_;simp only[zG];exact Frz.tupL ⟨.nil _ _,.int _ _,trivial⟩
 rw[if_pos h]at hlb⊢;have hb:=(zcC _ _).1 h;rw[h]at hr;obtain⟨n,rfl⟩:∃n:Nat,a=n:=⟨a.toNat,by omega⟩
 rw[zCU9]at hlb⊢;have hl:=zd9 p w ⟨hb.1,hb.2.2.1⟩ n (by omega);obtain⟨e1,e2⟩:=zee w n
 by_cases ht:(zO w n).2=true
 rotate_left
 ·rw[if_neg ht]at hlb⊢;rw[e1,show (zO w n).2=false by simpa using ht]at hl;generalize (zbL w n).1=T at hl;refine zfn f19 hlb ?_;(repeat(first|refine za ?_|refine zgo ?_));(repeat refine za ?_);refine zrg ?_;refine zca hr ?_;refine zfx ?_;refine zh ?_;refine zfc ?_ ?_
  ·intro h;cases h
  intro _;refine zF ?_;show W _ _ _ _ _ _;(repeat refine za ?_);refine zrg ?_;refine zca hl ?_;refine zfx ?_;refine zh ?_;(repeat(first|refine za ?_|refine zgo ?_));refine zfc ?_ ?_;rotate_left
  ·intro h;cases h
  intro _;(repeat(first|refine za ?_|refine zgo ?_));refine zq ?_;(try simp only[zb,zf,ze,zd,zg]);refine zj (by simp only[T19,zE,go_sem]<;>rfl) ?_;simp only[zG];exact Frz.tupL ⟨.nil _ _,.int _ _,trivial⟩
 rw[if_pos ht]at hlb⊢;rw[e1,e2 ht,ht]at hl;obtain⟨f1,f2,f3,f4,f5⟩:=zbW (w:=w) (T:=(zO w n).1) (by omega) n (by rw[<- ht]);generalize (zO w n).1=T at *
 refine zfn f19 hlb ?_;(repeat(first|refine za ?_|refine zgo ?_));(repeat refine za ?_);refine zrg ?_;refine zca hr ?_;refine zfx ?_;refine zh ?_;refine zfc ?_ ?_
 ·intro h;cases h
 intro _;refine zF ?_;show W _ _ _ _ _ _;(repeat refine za ?_);refine zrg ?_;refine zca hl ?_;refine zfx ?_;refine zh ?_;(repeat(first|refine za ?_|refine zgo ?_));refine zfc ?_ ?_
 ·intro h;cases h
 intro _;refine zF ?_;show W _ _ _ _ _ _;(repeat(first|refine za ?_|refine zgo ?_));refine zcd 3 1 (i:=8) rfl ?_;simp only[lzy,zAE9,zAH9,zAI9,zAL9];have hn64:w.length/64<=2048:=by omega
 have hq:(w.length:Int).tdiv 64=((w.length/64:Nat):Int):=by rw[Int.tdiv_eq_ediv_of_nonneg (by omega)];omega
 refine zD (zas (fun m s=>∃(b:Nat) (acc:List Nat) (G:List zn),m=w.length/64-b/\b<=w.length/64/\acc=zhN T b/\s.tm 0=wv p w/\s.tm 6=zbK T/\s.tm 8=.sl 0 acc.length 0 acc.length (2*acc.length) 1/\s.tm 9=iv b/\s.df=[]/\s.H=.row 3 1 acc.length 0 (bfl acc)::G) (n:=w.length/64) ?_ ?_)
 ·exact⟨0,[],[],rfl,by omega,rfl,by simp[upd,zo],by simp[upd],by simp[upd],by simp[upd],rfl,rfl⟩
 rintro m ⟨tm,df,H⟩ ⟨b,acc,G,rfl,hbn,hac,h0,h6,h8,h9,rfl,rfl⟩;dsimp only at h0 h6 h8 h9;(try refine zK ?_);refine za (zr ?_);refine zfx ?_ (by simp(disch:=omega)only[go_sem,h0,h9,hq,zAA9]<;>rfl);refine zh ?_;refine zN (by simp only[go_sem]<;>rfl) ?_ ?_;rotate_left
 ·intro hlt;have hlt:¬b<w.length/64:=by have:=of_decide_eq_false hlt;omega
  obtain rfl:b=w.length/64:=by omega
  simp only[zb,zf,ze,zd,zi,zg,if_true,reduceIte];(repeat(first|refine za ?_|refine zgo ?_ (by simp(disch:=omega)only[go_sem,h8]<;>rfl)));refine zq ?_;(try simp only[zb,zf,ze,zd,zg]);refine zj (by simp only[T19,zE,go_sem]<;>rfl) ?_;simp only[zG];rw[<- hac];refine Frz.tupL ⟨?_,.int _ _,trivial⟩;exact Frz.whole (l:=bfl acc) rfl rfl (by simp) (by simp) (fun v hv=>by obtain⟨x,_,rfl⟩:=zAP9.1 hv;rfl) (zu4 _)
 intro hlt;have hlt:b<w.length/64:=by have:=of_decide_eq_true hlt;omega
 have hb1:zhN T (b+1)=zhN T b++lvB T b:=by
  unfold zhN;rw[zDJ9,zCT9];simp
 have hbl:=zla T b;have hbl2:b*T.length<=2048*14:=Nat.mul_le_mul (by omega) f5;(repeat refine za ?_);refine zD ?_;(repeat(first|refine za ?_|refine zgo ?_));refine zD (zas (fun m s=>∃(i:Nat) (acc2:List Nat) (G:List zn),m=T.length-i/\i<=T.length/\acc2=acc++lvB (T.take i) b/\s.tm 0=wv p w/\s.tm 6=zbK T/\s.tm 8=.sl 0 acc2.length 0 acc2.length (2*acc2.length) 1/\s.tm 9=iv b/\s.tm 10=iv i/\s.df=[]/\s.H=.row 3 1 acc2.length 0 (bfl acc2)::G) (n:=T.length) ?_ ?_)
 ·exact⟨0,acc,G,rfl,zAS9 _,by simp[lvB],by simp[upd,h0],by simp[upd,h6],by simp[upd,h8],by simp[upd,h9],by simp[upd],rfl,rfl⟩
 clear h0 h6 h8 h9;rintro m ⟨tm,df,H⟩ ⟨i,acc2,G2,rfl,hi,hac2,h0,h6,h8,h9,h10,rfl,rfl⟩;dsimp only at h0 h6 h8 h9 h10;(try refine zK ?_);refine za (zr ?_);refine zfx ?_ (by simp(disch:=omega)only[go_sem,h6,h10,zAA9]<;>rfl);refine zh ?_;refine zN (by simp only[go_sem]<;>rfl) ?_ ?_;rotate_left
 ·intro hlt2;have hlt2:¬i<T.length:=by have:=of_decide_eq_false hlt2;omega
  obtain rfl:i=T.length:=by omega
  rw[zBK9]at hac2;simp only[zb,zf,ze,zd,zi,zg,if_true,reduceIte];(repeat refine za ?_);refine zrg ?_ (by simp(disch:=omega)only[go_sem,h9]<;>rfl);refine zy ?_;simp only[zb,zf,ze,zd,zi,zg,if_true,↓reduceIte];refine⟨_,?m1,b+1,acc2,_,rfl,hlt,by rw[hb1,hac2,hac],by simp[upd,h0],by simp[upd,h6],by simp[upd,h8],by simp[upd,h9],trivial,rfl⟩
  case m1=>omega
 intro hlt2;have hlt2:i<T.length:=by have:=of_decide_eq_true hlt2;omega
 obtain⟨L,hL⟩:∃L,T[i]?=some L:=⟨_,zAB9 hlt2⟩
 have hLv:(T.map fun L=>zbk 0 0 L.1 L.2)[i]?=some (zbk 0 0 L.1 L.2):=by rw[zAG9,hL];rfl
 have hLF:=f1 L (zAK9 hL);have hfew:=hLF.few;have hbl3:=hLF.lv.len;have hhas:=znr 0 L.1 b (by omega);have hli:=zrP (T.take i) b;rw[zBB9]at hli;have hal:acc2.length<=40000:=by rw[hac2,zAC9,hac];omega
 have hbb:(acc2.length+1)*9<=140737488355328:=by omega
 have ht1:lvB (T.take (i+1)) b=lvB (T.take i) b++(if L.1.contains b=true then[b]else[]):=by
  unfold lvB;rw[zBM9,hL,Option.toList_some,List.filter_append,zBZ9,zCC9,zCJ9]
  split<;>rfl
 (repeat refine za ?_);refine zD ?_;(repeat refine za ?_);refine zrg ?_ (by simp(disch:=omega)only[go_sem,h6,h9,h10,hLv,hlt2,zAA9]<;>rfl);refine zca hhas ?_;refine zfx ?_;refine zh ?_
 by_cases hc:L.1.contains b=true
 ·rw[if_pos hc]at ht1;rw[hc];refine zfc ?_ ?_;rotate_left
  ·intro h;cases h
  intro _;(repeat refine za ?_);refine zrg ?_ (by simp(disch:=omega)only[go_sem,h8,h9,hbb,zc,zAA9]<;>rfl);refine zy ?_;simp only[zb,zf,ze,zd,zi,zg,if_true,↓reduceIte];(repeat refine za ?_);refine zrg ?_ (by simp(disch:=omega)only[go_sem,h10]<;>rfl);refine zy ?_;simp only[zb,zf,ze,zd,zi,zg,if_true,↓reduceIte];refine⟨_,?m2,i+1,acc2++[b],?G3,rfl,hlt2,by rw[hac2,ht1,zAF9],by simp[upd,h0],by simp[upd,h6],by simp[upd],by simp[upd,h9],by simp[upd,h10],trivial,?H3⟩
  case m2=>omega
  case H3=>rw[show bfl (acc2++[b])=bfl acc2++[iv (b:Int)]from zBZ9,zAC9];rfl
 ·rw[if_neg hc,zEB9]at ht1;rw[show L.1.contains b=false by simpa using hc];refine zfc ?_ ?_
  ·intro h;cases h
  intro _;refine zF ?_;show W _ _ _ _ _ _;(repeat refine za ?_);refine zrg ?_ (by simp(disch:=omega)only[go_sem,h10]<;>rfl);refine zy ?_;simp only[zb,zf,ze,zd,zi,zg,if_true,↓reduceIte];refine⟨_,?m2,i+1,acc2,_,rfl,hlt2,by rw[hac2,ht1],by simp[upd,h0],by simp[upd,h6],by simp[upd,h8],by simp[upd,h9],by simp[upd,h10],trivial,rfl⟩
  case m2=>omega
def zew (ns:List zB)(key:Nat):Nat->Nat->Nat
 | 0,i=>i
 | k+1,i=>match ns[i+1]? with
  | some x=>if x.low<=key then zew ns key k (i+1)else i
  | none=>i
def toN (key:Nat):List Pr->Nat->Nat
 | [],t=>t
 | p::l,t=>toN key l (if p.1<=key then p.2 else t)
def zfK (key:Nat):List Pr->Option Nat
 | []=>none
 | p::l=>if p.1=key then some p.2 else zfK key l
def zcu (key:Nat):List Lev->Nat->Option (Option Nat)
 | [],_=>none
 | L::R,i=>match L.2[zew L.2 key (L.2.length-i) i]? with
  | none=>none
  | some x=>match R with
   | []=>some (zfK key x.pairs)
   | M::_=>if ixB 0 M.1 (toN key x.pairs x.left)<0 then none else zcu key R (ixB 0 M.1 (toN key x.pairs x.left)).toNat
def zoF:Option (Option Nat)->PV
 | none=>.tuple [uv 0,.bool false,iv 220]
 | some none=>.tuple [uv 0,.bool false,iv 0]
 | some (some p)=>.tuple [uv p,.bool true,iv 0]
def zcE (w:List Nat)(a:Int)(key:Nat):FE:=if zbw w.length a=true then if(zO w a.toNat).2=true then .ret (zoF (zcu key (zO w a.toNat).1 0))else .ret (.tuple [uv 0,.bool false,iv 220])else .ret (.tuple [uv 0,.bool false,iv 2])
theorem zkY (x:Nat)(b:Bool)(n:Int):LbE (.ret (.tuple [uv x,.bool b,iv n])):=.tuple fun v hv=>by
 simp only[zAX9,zDG9,or_false]at hv;rcases hv with rfl|rfl|rfl
 ·exact .int _ _
 ·exact .bool _
 ·exact .int _ _
theorem zk9 (o:Option (Option Nat)):LbE (.ret (zoF o)):=by
 rcases o with _|_|p<;>exact zkY _ _ _
theorem zpm (w:List Nat)(a:Int)(key:Nat):LbE (zcE w a key):=by
 unfold zcE
 split
 ·split
  ·exact zk9 _
  ·exact zkY _ _ _
 ·exact zkY _ _ _
theorem zqa {ns:List zB}{key i:Nat}{x:zB}(hx:ns[i+1]?=some x)(h:x.low<=key):zew ns key (ns.length-i) i=zew ns key (ns.length-(i+1)) (i+1):=by
 have:=(zAD9.1 hx).1;rw[show ns.length-i=(ns.length-(i+1))+1 by omega,zew,hx];exact if_pos h
theorem zlR {ns:List zB}{key i:Nat}{x:zB}(hi:i<ns.length)(hx:ns[i+1]?=some x)(h:¬x.low<=key):zew ns key (ns.length-i) i=i:=by
 rw[show ns.length-i=(ns.length-(i+1))+1 by omega,zew,hx];exact if_neg h
theorem znU {ns:List zB}{key i:Nat}(hi:i<ns.length)(hx:ns[i+1]?=none):zew ns key (ns.length-i) i=i:=by
 rw[show ns.length-i=(ns.length-(i+1))+1 by omega,zew,hx]
theorem f24:ET.funcs.get 24=some T24:=zL Tryz.func24
theorem zuj (p:Nat)(w:List Nat)(a:Int)(key:Nat)(T:List Lev)(hr:FN ET 57 [wv p w,iv a] (.ret (.bool true)))(hl:FN ET 50 [wv p w,iv a] (.ret (.tuple [zbK T,.bool true])))(f1:∀L∈T,zgu w L)(hw:w.length<=131072)(f3:T ≠ [])(f5:T.length<=14) :
  FN ET 24 [wv p w,iv a,uv key] (.ret (zoF (zcu key T 0))):=by
 refine zfn f24 (zk9 _) ?_;(repeat(first|refine za ?_|refine zgo ?_));(repeat refine za ?_);refine zrg ?_;refine zca hr ?_;refine zfx ?_;refine zh ?_;refine zfc ?_ ?_
 ·intro h;cases h
 intro _;refine zF ?_;show W _ _ _ _ _ _;(repeat refine za ?_);refine zrg ?_;refine zca hl ?_;refine zfx ?_;refine zh ?_;(repeat(first|refine za ?_|refine zgo ?_));refine zfc ?_ ?_
 ·intro h;cases h
 intro _;refine zF ?_;show W _ _ _ _ _ _;(repeat(first|refine za ?_|refine zgo ?_));have hT0:0<T.length:=zBO9.2 f3;refine zD (zas (fun m s=>∃(n i:Nat) (G:List zn),m=T.length-n/\n<T.length/\(∀L,T[n]?=some L->i<L.2.length)/\zcu key T 0=zcu key (T.drop n) i/\s.tm 2=uv key/\s.tm 9=zbK T/\s.tm 11=iv i/\s.tm 12=iv n/\s.df=[]/\s.H=G) (n:=T.length) ?_ ?_)
 ·exact⟨0,0,_,rfl,hT0,fun L hL=>zBO9.2 (f1 L (zAK9 hL)).ne,rfl,by simp[upd,zo],by simp[upd],by simp[upd],by simp[upd],rfl,rfl⟩
 rintro m ⟨tm,df,H⟩ ⟨n,i,G,rfl,hn,hiL,hf0,h2,h9,h11,h12,rfl,rfl⟩;dsimp only at h2 h9 h11 h12;(try refine zK ?_);refine za (zr ?_);refine zfx ?_ (by simp(disch:=omega)only[go_sem,h9,h12,hn,zAA9]<;>rfl);refine zh ?_;refine zN (by simp only[go_sem]<;>rfl) ?_ ?_;rotate_left
 ·intro h;have:=of_decide_eq_false h;omega
 intro _;obtain⟨L,hL⟩:∃L,T[n]?=some L:=⟨_,zAB9 hn⟩
 have hLv:(T.map fun L=>zbk 0 0 L.1 L.2)[n]?=some (zbk 0 0 L.1 L.2):=by rw[zAG9,hL];rfl
 have hLF:=f1 L (zAK9 hL);have hfew:=hLF.few;have hi0:=hiL L hL;have hdr:T.drop n=L::T.drop (n+1):=by rw[zAU9 hn];obtain⟨_,e⟩:=zAD9.1 hL;rw[e]
 obtain⟨F,hF⟩:∃F:zB->Option (Option Nat),F=fun x=>(match T.drop (n+1)with | []=>some (zfK key x.pairs)|M::_=>if ixB 0 M.1 (toN key x.pairs x.left)<0 then none else zcu key (T.drop (n+1)) (ixB 0 M.1 (toN key x.pairs x.left)).toNat):=⟨_,rfl⟩
 have hf:∀x,L.2[zew L.2 key (L.2.length-i) i]?=some x->zcu key T 0=F x:=fun x hx=>by
  rw[hf0,hdr,zcu,hx,hF]<;>rfl
 clear hiL hdr hf0;(repeat refine za ?_);refine zD ?_;(repeat refine za ?_);refine zbA (Q:=fun y s=>y=.norm/\∃(i:Nat) (x:zB),L.2[i]?=some x/\zcu key T 0=F x/\s.tm 2=uv key/\s.tm 9=zbK T/\s.tm 11=iv i/\s.tm 12=iv n/\s.df=[]/\s.H=H) (zD (zas (fun m s=>∃(i:Nat),m=L.2.length-i/\i<L.2.length/\(∀x,L.2[zew L.2 key (L.2.length-i) i]?=some x->zcu key T 0=F x)/\s.tm 2=uv key/\s.tm 9=zbK T/\s.tm 11=iv i/\s.tm 12=iv n/\s.df=[]/\s.H=H) (n:=L.2.length-i) ?_ ?_)) ?_
 ·exact⟨i,rfl,hi0,hf,by simp[upd,h2],by simp[upd,h9],by simp[upd,h11],by simp[upd,h12],rfl,rfl⟩
 ·clear h2 h9 h11 h12 hf hi0 i;rintro m ⟨tm,df,H2⟩ ⟨i,rfl,hi,hf,h2,h9,h11,h12,rfl,rfl⟩;dsimp only at h2 h9 h11 h12;have e1:((i:Int)+1)=((i+1:Nat):Int):=by omega
  have hii:=zAB9 hi;rcases zCP9 (i+1) L.2.length with hi1|hi1
  ·obtain⟨z,hz⟩:∃z,L.2[i+1]?=some z:=⟨_,zAB9 hi1⟩
   have hzv:(L.2.map (zZ 0))[i+1]?=some (zZ 0 z):=by rw[zAG9,hz];rfl
   have g1:((i+1:Nat):Int)<(L.2.length:Nat):=by omega
   by_cases hle:z.low<=key
   ·have g2:(z.low:Int)<=(key:Nat):=by omega
    rw[zqa hz hle]at hf;(try refine zK ?_);refine za (zr ?_);refine zfx ?_ (by simp(disch:=omega)only[go_sem,h2,h9,h11,h12,hn,hLv,hzv,hi1,e1,g1,g2,zAA9]<;>rfl);refine zh ?_;refine zN (by simp only[go_sem]<;>rfl) ?_ ?_;rotate_left
    ·intro h;simp at h
    intro _;refine zD ?_;(repeat refine za ?_);refine zrg ?_ (by simp(disch:=omega)only[go_sem,h11,e1]<;>rfl);refine zy ?_;simp only[zb,zf,ze,zd,zi,zg,if_true,↓reduceIte];refine⟨_,?m1,i+1,rfl,hi1,hf,by simp[upd,h2],by simp[upd,h9],by simp[upd],by simp[upd,h12],trivial,trivial⟩
    case m1=>omega
   ·have g2:¬(z.low:Int)<=(key:Nat):=by omega
    rw[zlR hi hz hle]at hf;(try refine zK ?_);refine za (zr ?_);refine zfx ?_ (by simp(disch:=omega)only[go_sem,h2,h9,h11,h12,hn,hLv,hzv,hi1,e1,g1,g2,zAA9]<;>rfl);refine zh ?_;refine zN (by simp only[go_sem]<;>rfl) ?_ ?_
    ·intro h;simp at h
    intro _;simp only[zb,zf,ze,zd,zi,zg,if_true,reduceIte];exact⟨trivial,i,_,hii,hf _ hii,by simp[upd,h2],by simp[upd,h9],by simp[upd,h11],by simp[upd,h12],trivial,trivial⟩
  ·have g1:¬((i+1:Nat):Int)<(L.2.length:Nat):=by omega
   rw[znU hi (zBQ9 hi1)]at hf;(try refine zK ?_);refine za (zr ?_);refine zfx ?_ (by simp(disch:=omega)only[go_sem,h2,h9,h11,h12,hn,hLv,e1,g1,zAA9]<;>rfl);refine zh ?_;refine zN (by simp only[go_sem]<;>rfl) ?_ ?_
   ·intro h;simp at h
   intro _;simp only[zb,zf,ze,zd,zi,zg,if_true,reduceIte];exact⟨trivial,i,_,hii,hf _ hii,by simp[upd,h2],by simp[upd,h9],by simp[upd,h11],by simp[upd,h12],trivial,trivial⟩
 clear h2 h9 h11 h12 hf hi0 i;rintro y ⟨tm,df,H⟩ ⟨rfl,i,x,hx,hf,h2,h9,h11,h12,rfl,rfl⟩;dsimp only at h2 h9 h11 h12;simp only[zb,zf,ze,zd,zi,zg,if_true,reduceIte];have hil:i<L.2.length:=(zAD9.1 hx).1;have hxv:(L.2.map (zZ 0))[i]?=some (zZ 0 x):=by rw[zAG9,hx];rfl
 have hx28:=(hLF.lv.node (zAK9 hx)).1;(repeat(first|refine za ?_|refine zgo ?_ (by simp(disch:=omega)only[go_sem,h9,h11,h12,hn,hLv,hil,hxv,zc,zk,zAA9]<;>rfl)));have hll:T.drop (n+1)=[]↔n+1=T.length:=by rw[List.drop_eq_nil_iff];omega
 have hq:IntKind.i64.wrap ((T.length:Int)-1)=((T.length-1:Nat):Int):=by rw[wrap_i64 (by omega) (by omega)];omega
 refine zD (zas (fun m s=>∃(k to:Nat),m=x.pairs.length-k/\k<=x.pairs.length/\toN key x.pairs x.left=toN key (x.pairs.drop k) to/\(n+1=T.length->zfK key x.pairs=zfK key (x.pairs.drop k))/\s.tm 2=uv key/\s.tm 9=zbK T/\s.tm 12=iv n/\s.tm 13=.ptr H.length 0 0 0 6/\s.tm 14=uv to/\s.tm 15=iv k/\s.df=[]/\s.H=H++[.row 124 6 0 0 [zZ 0 x]]) (n:=x.pairs.length) ?_ ?_)
 ·exact⟨0,x.left,rfl,zAS9 _,rfl,fun _=>rfl,by simp[upd,h2],by simp[upd,h9],by simp[upd,h12],by simp[upd],by simp[upd],by simp[upd],rfl,rfl⟩
 clear h2 h9 h11 h12;rintro m ⟨tm,df,H2⟩ ⟨k,to,rfl,hk,hto,hlk,h2,h9,h12,h13,h14,h15,rfl,rfl⟩;dsimp only at h2 h9 h12 h13 h14 h15;(try refine zK ?_);refine za (zr ?_);refine zfx ?_ (by simp(disch:=omega)only[go_sem,h13,h15,ga0,zAA9]<;>rfl);refine zh ?_;refine zN (by simp only[go_sem]<;>rfl) ?_ ?_
 ·intro hlt;have hlt:k<x.pairs.length:=by have:=of_decide_eq_true hlt;omega
  obtain⟨y,hy⟩:∃y,x.pairs[k]?=some y:=⟨_,zAB9 hlt⟩
  have hyv:(x.pairs.map pv)[k]?=some (pv y):=by rw[zAG9,hy];rfl
  have hdk:x.pairs.drop k=y::x.pairs.drop (k+1):=by rw[zAU9 hlt];obtain⟨_,e⟩:=zAD9.1 hy;rw[e]
  rw[hdk,toN]at hto;rw[hdk,zfK]at hlk;(repeat refine za ?_);refine zD ?_;refine zbA (Q:=fun z s=>(z=.norm/\(n+1=T.length->¬y.1=key)/\s.tm 2=uv key/\s.tm 9=zbK T/\s.tm 12=iv n/\s.tm 13=.ptr H.length 0 0 0 6/\s.tm 14=uv (if y.1<=key then y.2 else to)/\s.tm 15=iv k/\s.df=[]/\s.H=H++[.row 124 6 0 0 [zZ 0 x]])\/(z=.ret/\n+1=T.length/\y.1=key/\s.tm 6=uv y.2/\s.tm 7=.bool true/\s.tm 8=iv 0/\s.df=[])) ?_ ?_
  ·have hnext:∀(b:Bool),(b=true->n+1=T.length/\y.1=key)->(b=false->n+1=T.length->¬y.1=key)->True:=fun _ _ _=>trivial;have e2:∀{P:Prop},P->True:=fun _=>trivial
   by_cases hf1:n+1=T.length/\y.1=key
   ·have g1:(y.1:Int)=(key:Nat):=by omega
    have g2:(n:Int)=((T.length-1:Nat):Int):=by omega
    (repeat(first|refine za ?_|refine zgo ?_ (by simp(disch:=omega)only[go_sem,h2,h9,h12,h13,h15,ga0,hyv,hlt,g1,g2,hq,zAA9]<;>rfl)));refine zfc ?_ ?_;rotate_left
    ·intro h;simp at h
    intro _;(repeat(first|refine za ?_|refine zgo ?_ (by simp(disch:=omega)only[go_sem,h13,h15,ga0,hyv,hlt]<;>rfl)));refine zq ?_;simp only[zb,zf,ze,zd,zi,zg,if_true,reduceIte];exact .inr ⟨trivial,hf1.1,hf1.2,by simp[upd],by simp[upd],by simp[upd],trivial⟩
   have hn1:n+1=T.length->¬y.1=key:=fun h e=>hf1 ⟨h,e⟩;refine za ?_;refine zbA (Q:=fun z s=>z=.norm/\s.tm 2=uv key/\s.tm 9=zbK T/\s.tm 12=iv n/\s.tm 13=.ptr H.length 0 0 0 6/\s.tm 14=uv to/\s.tm 15=iv k/\s.df=[]/\s.H=H++[.row 124 6 0 0 [zZ 0 x]]) ?_ ?_
   ·by_cases hke:y.1=key
    ·have g1:(y.1:Int)=(key:Nat):=by omega
     have g2:¬(n:Int)=((T.length-1:Nat):Int):=by have:=fun h=>hf1 ⟨h,hke⟩;omega
     (repeat(first|refine za ?_|refine zgo ?_ (by simp(disch:=omega)only[go_sem,h2,h9,h12,h13,h15,ga0,hyv,hlt,g1,g2,hq,zAA9]<;>rfl)));refine zfc ?_ ?_
     ·intro h;simp at h
     intro _;refine zF ?_;exact⟨rfl,by simp[upd,h2],by simp[upd,h9],by simp[upd,h12],by simp[upd,h13],by simp[upd,h14],by simp[upd,h15],rfl,rfl⟩
    ·have g1:¬(y.1:Int)=(key:Nat):=by omega
     (repeat(first|refine za ?_|refine zgo ?_ (by simp(disch:=omega)only[go_sem,h2,h9,h12,h13,h15,ga0,hyv,hlt,g1,hq,zAA9]<;>rfl)));refine zfc ?_ ?_
     ·intro h;simp at h
     intro _;refine zF ?_;exact⟨rfl,by simp[upd,h2],by simp[upd,h9],by simp[upd,h12],by simp[upd,h13],by simp[upd,h14],by simp[upd,h15],rfl,rfl⟩
   ·clear h2 h9 h12 h13 h14 h15;rintro z ⟨tm,df,H2⟩ ⟨rfl,h2,h9,h12,h13,h14,h15,rfl,rfl⟩;dsimp only at h2 h9 h12 h13 h14 h15;simp only[zb,zf,ze,zd,zi,zg,if_true,reduceIte]
    by_cases hle:y.1<=key
    ·have g1:(y.1:Int)<=(key:Nat):=by omega
     rw[if_pos hle];(repeat(first|refine za ?_|refine zgo ?_ (by simp(disch:=omega)only[go_sem,h2,h13,h15,ga0,hyv,hlt,g1,zAA9]<;>rfl)));refine zfc ?_ ?_;rotate_left
     ·intro h;simp at h
     intro _;(repeat refine za ?_);refine zrg ?_ (by simp(disch:=omega)only[go_sem,h13,h15,ga0,hyv,hlt]<;>rfl);refine zy ?_;simp only[zb,zf,ze,zd,zi,zg,if_true,↓reduceIte];exact .inl ⟨trivial,hn1,by simp[upd,h2],by simp[upd,h9],by simp[upd,h12],by simp[upd,h13],by simp[upd],by simp[upd,h15],trivial,trivial⟩
    ·have g1:¬(y.1:Int)<=(key:Nat):=by omega
     rw[if_neg hle];(repeat(first|refine za ?_|refine zgo ?_ (by simp(disch:=omega)only[go_sem,h2,h13,h15,ga0,hyv,hlt,g1,zAA9]<;>rfl)));refine zfc ?_ ?_
     ·intro h;simp at h
     intro _;refine zF ?_;simp only[zb,zf,ze,zd,zi,zg,if_true,reduceIte];exact .inl ⟨trivial,hn1,by simp[upd,h2],by simp[upd,h9],by simp[upd,h12],by simp[upd,h13],by simp[upd,h14],by simp[upd,h15],trivial,trivial⟩
  ·clear h2 h9 h12 h13 h14 h15;rintro z ⟨tm,df,H2⟩ (⟨rfl,hne,h2,h9,h12,h13,h14,h15,rfl,rfl⟩|⟨rfl,hl1,he,h6,h7,h8,rfl⟩)
   ·dsimp only at h2 h9 h12 h13 h14 h15;simp only[zb,zf,ze,zd,zi,zg,if_true,reduceIte];(repeat refine za ?_);refine zrg ?_ (by simp(disch:=omega)only[go_sem,h15]<;>rfl);refine zy ?_;simp only[zb,zf,ze,zd,zi,zg,if_true,↓reduceIte];refine⟨_,?m2,k+1,_,rfl,hlt,hto,fun h=>by rw[hlk h,if_neg (hne h)],by simp[upd,h2],by simp[upd,h9],by simp[upd,h12],by simp[upd,h13],by simp[upd,h14],by simp[upd],trivial,trivial⟩
    case m2=>omega
   ·dsimp only at h6 h7 h8;have hr:=hf.trans (show F x=some (some y.2) by rw[hF];dsimp only;rw[hll.2 hl1];dsimp only;rw[hlk hl1,if_pos he]);simp only[zb,zf,ze,zd,zi,zg,if_true,reduceIte];(try simp only[zb,zf,ze,zd,zg]);refine zj (by simp only[T24,zE,go_sem,h6,h7,h8]<;>rfl) ?_;simp only[zG];rw[hr];exact Frz.tupL ⟨.int _ _,.bool _,.int _ _,trivial⟩
 ·intro hlt;have hlt:¬k<x.pairs.length:=by have:=of_decide_eq_false hlt;omega
  obtain rfl:k=x.pairs.length:=by omega
  rw[zBG9]at hto hlk;simp only[zb,zf,ze,zd,zi,zg,if_true,reduceIte]
  by_cases hl1:n+1=T.length
  ·have g2:(n:Int)=((T.length-1:Nat):Int):=by omega
   (repeat(first|refine za ?_|refine zgo ?_ (by simp(disch:=omega)only[go_sem,h9,h12,hq,g2,zAA9]<;>rfl)));refine zfc ?_ ?_;rotate_left
   ·intro h;simp at h
   intro _;(repeat(first|refine za ?_|refine zgo ?_));refine zq ?_;(try simp only[zb,zf,ze,zd,zg]);refine zj (by simp only[T24,zE,go_sem]<;>rfl) ?_;simp only[zG];rw[hf,show F x=some none by rw[hF];dsimp only;rw[hll.2 hl1];dsimp only;rw[hlk hl1];rfl];exact Frz.tupL ⟨.int _ _,.bool _,.int _ _,trivial⟩
  have g2:¬(n:Int)=((T.length-1:Nat):Int):=by omega
  obtain⟨M,hM⟩:∃M,T[n+1]?=some M:=⟨_,zAB9 (by omega)⟩
  have hMT:(T.map fun L=>zbk 0 0 L.1 L.2)[n+1]?=some (zbk 0 0 M.1 M.2):=by rw[zAG9,hM];rfl
  have hMn:n+1<T.length:=by omega
  have hMF:=f1 M (zAK9 hM);have hMl:=hMF.lv.len;have hMfew:=hMF.few;have hdM:T.drop (n+1)=M::T.drop (n+1+1):=by rw[zAU9 hMn];obtain⟨_,e⟩:=zAD9.1 hM;rw[e]
  have e1:((n:Int)+1)=((n+1:Nat):Int):=by omega
  have hix:=zs3 0 0 M.1 M.2 to (by unfold za2;omega) (fun b hb=>by have:=(hMF.lv.each b hb).1;omega);have hF2:F x=if ixB 0 M.1 to<0 then none else zcu key (T.drop (n+1)) (ixB 0 M.1 to).toNat:=by
   rw[hF];dsimp only;rw[hto,toN,hdM]
  have hrg:=zi4 M.1 0 to;(repeat(first|refine za ?_|refine zgo ?_ (by simp(disch:=omega)only[go_sem,h9,h12,hq,g2,zAA9]<;>rfl)));refine zfc ?_ ?_
  ·intro h;simp at h
  intro _;refine zF ?_;show W _ _ _ _ _ _;(repeat refine za ?_);refine zrg ?_ (by simp(disch:=omega)only[go_sem,h9,h12,h14,e1,hMT,hMn,zAA9]<;>rfl);refine zca hix ?_;refine zfx ?_;refine zh ?_;rcases hrg with hneg|⟨j,hj,hjl,_⟩
  ·rw[hneg]at hF2⊢;(repeat(first|refine za ?_|refine zgo ?_));refine zfc ?_ ?_;rotate_left
   ·intro h;simp at h
   intro _;(repeat(first|refine za ?_|refine zgo ?_));refine zq ?_;(try simp only[zb,zf,ze,zd,zg]);refine zj (by simp only[T24,zE,go_sem]<;>rfl) ?_;simp only[zG];rw[hf,hF2];exact Frz.tupL ⟨.int _ _,.bool _,.int _ _,trivial⟩
  ·rw[zAN9]at hj;rw[hj]at hF2⊢;have g3:¬(j:Int)<0:=by omega
   rw[if_neg g3,zCU9]at hF2;(repeat(first|refine za ?_|refine zgo ?_ (by simp(disch:=omega)only[go_sem,g3]<;>rfl)));refine zfc ?_ ?_
   ·intro h;simp at h
   intro _;refine zF ?_;show W _ _ _ _ _ _;(repeat refine za ?_);refine zrg ?_ (by simp(disch:=omega)only[go_sem,h12]<;>rfl);refine zy ?_;simp only[zb,zf,ze,zd,zi,zg,if_true,↓reduceIte];refine⟨_,?m3,n+1,j,_,rfl,hMn,fun L' hL'=>by rw[hM]at hL';injection hL' with hL';subst hL';omega,by rw[hf,hF2],by simp[upd,h2],by simp[upd,h9],by simp[upd],by simp[upd,h12],trivial,rfl⟩
   case m3=>omega
theorem zuS (p:Nat)(w:List Nat)(a:Int)(key:Nat)(hs:za2 w.length):FN ET 24 [wv p w,iv a,uv key] (zcE w a key):=by
 have hr:=zfy p w a hs;have hlb:=zpm w a key;unfold zcE at hlb⊢
 by_cases h:zbw w.length a=true
 rotate_left
 ·rw[if_neg h]at hlb⊢;rw[show zbw w.length a=false by simpa using h]at hr;refine zfn f24 hlb ?_;(repeat(first|refine za ?_|refine zgo ?_));(repeat refine za ?_);refine zrg ?_;refine zca hr ?_;refine zfx ?_;refine zh ?_;refine zfc ?_ ?_;rotate_left
  ·intro h;cases h
  intro _;(repeat(first|refine za ?_|refine zgo ?_));refine zq ?_;(try simp only[zb,zf,ze,zd,zg]);refine zj (by simp only[T24,zE,go_sem]<;>rfl) ?_;simp only[zG];exact Frz.tupL ⟨.int _ _,.bool _,.int _ _,trivial⟩
 rw[if_pos h]at hlb⊢;have hb:=(zcC _ _).1 h;rw[h]at hr;obtain⟨n,rfl⟩:∃n:Nat,a=n:=⟨a.toNat,by omega⟩
 rw[zCU9]at hlb⊢;have hl:=zd9 p w ⟨hb.1,hb.2.2.1⟩ n (by omega);obtain⟨e1,e2⟩:=zee w n
 by_cases ht:(zO w n).2=true
 rotate_left
 ·rw[if_neg ht]at hlb⊢;rw[e1,show (zO w n).2=false by simpa using ht]at hl;generalize (zbL w n).1=T at hl;refine zfn f24 hlb ?_;(repeat(first|refine za ?_|refine zgo ?_));(repeat refine za ?_);refine zrg ?_;refine zca hr ?_;refine zfx ?_;refine zh ?_;refine zfc ?_ ?_
  ·intro h;cases h
  intro _;refine zF ?_;show W _ _ _ _ _ _;(repeat refine za ?_);refine zrg ?_;refine zca hl ?_;refine zfx ?_;refine zh ?_;(repeat(first|refine za ?_|refine zgo ?_));refine zfc ?_ ?_;rotate_left
  ·intro h;cases h
  intro _;(repeat(first|refine za ?_|refine zgo ?_));refine zq ?_;(try simp only[zb,zf,ze,zd,zg]);refine zj (by simp only[T24,zE,go_sem]<;>rfl) ?_;simp only[zG];exact Frz.tupL ⟨.int _ _,.bool _,.int _ _,trivial⟩
 rw[if_pos ht]at hlb⊢;rw[e1,e2 ht,ht]at hl;obtain⟨f1,f2,f3,f4,f5⟩:=zbW (w:=w) (T:=(zO w n).1) (by omega) n (by rw[<- ht]);exact zuj p w n key _ hr hl f1 hb.2.2.1 f3 f5
end Fv
end Go.Proofs.YtfomlmhnmheenaaGreat
