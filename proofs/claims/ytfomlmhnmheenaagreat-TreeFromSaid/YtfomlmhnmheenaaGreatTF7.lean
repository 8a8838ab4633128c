/- part 7 of the proof of tree_from. -/
import Derived.Test.YtfomlmhnmheenaaGreatTF6
set_option linter.unusedSimpArgs false
set_option linter.unusedVariables false
namespace Go.Proofs.YtfomlmhnmheenaaGreat
namespace Fv
open Tw
attribute [local go_sem] zbb zaH zaf zas evs ev okv zbs zX.cls zba zbh zbm zV zU upd zB za2 zaW zaY zaF zaT za3 za4 zaZ zaS zaU zat zaX za5 zaR za1 zaV za0 zao zaK za6 zan zal zbr PV.cells ofC zbg zZ zau okF zah spl zaI zaL bnd zam zaq zar za8 zbl zY zaA zaN zaj zbj zbn zab lenP zf zn zak zbi PV.toT zaG zJ Nat.mul_mod_right Int.reduceOfNat Int.reduceToNat Int.cast_ofNat_Int Int.reduceLE Int.reduceLT Int.reduceAdd Int.reduceSub Int.reduceMul Int.reduceNegSucc Nat.reduceEqDiff if_true if_false ite_true ite_false decide_true decide_false Bool.not_true Bool.not_false and_true true_and and_self false_and and_false or_false false_or or_true true_or or_self List.length_cons List.length_nil List.length_map List.getElem?_cons_zero List.getElem?_cons_succ List.getElem?_map List.getElem?_nil Option.map_some Option.map_none Option.getD_some List.append_nil List.nil_append List.cons_append List.take_succ_cons List.take_zero List.drop_zero List.drop_succ_cons List.set_cons_zero List.set_cons_succ Int.toNat_natCast Int.natCast_nonneg Nat.le_refl Nat.zero_le Nat.reduceAdd Nat.reduceSub Nat.reduceMul Nat.reduceLeDiff Nat.reduceLT Bool.false_eq_true Bool.true_eq_false Nat.add_zero Nat.zero_add List.all_cons List.all_nil Bool.and_true Bool.and_self Bool.true_and Nat.reduceMod Nat.reduceDiv eq_self zaC zaM zac zbf evN za9 dpF zaO zbq zaE zbe zbp zaP List.filter_cons List.filter_nil List.contains_cons List.contains_nil Nat.reduceBEq zT zS zO Option.some.injEq Option.isSome_some wrap_i64 zL zaD Bool.or_self Bool.or_false Bool.false_or daF dnF yD yO yW yM yN yL yP yK yF yE yB yQ yV T6 T8 T12 T16 T18 T19 T22 T27 T28 T29 T33 T40 T42 T43 T45 T46 T47 T48 T49 T50 T51 T52 T53 T54 T57 T58 T61 T62 T65 T71 T72 T73 T74 T80 T81 T90 T91 T92 T93 T94 T95 T96 T97 T98 T99 T103 T104 T107 T119 T120 T121 T122 T123 T124 T135 T137 T138 T139 T140 T141 T142 T143 T144 T156 T157 T158 T161 T162 T163 T164 T170 T173 T181 T184 T185 T188 T195 T198 T199 T200 T201 T202 T203 T204 T205 T206 T207 T208 T209 T210 T211 T212 T213 T214 T215 T223
attribute [local go_sem ↓] reduceIte
set_option maxRecDepth 100000
theorem zwR:ET.funcs.get 157=some T157:=z9 (by kernel_rfl) (by decide)
theorem zw6:ET.funcs.get 104=some T104:=z9 (by kernel_rfl) (by decide)
theorem zwn:ET.funcs.get 140=some T140:=z9 (by kernel_rfl) (by decide)
theorem zw8:ET.funcs.get 173=some T173:=z9 (by kernel_rfl) (by decide)
def zeD (left:Nat)(l:List Pr)(i:Nat):Bool :=
 (decide (i=0)||decide ((l.getD (i-1) (0,0)).1<(l.getD i (0,0)).1)) && !zfr (l.take i) (l.getD i (0,0)).2 && !decide ((l.getD i (0,0)).2=left)
def zgY (left:Nat)(l:List Pr):Bool:=zbt l&&zc3 [left] l
theorem zpz (left:Nat)(l:List Pr):zgY left l=true↔∀i,i<l.length->zeD left l i=true:=by
 unfold zgY;rw[zAR9,zdx,zeq];have hget:∀i,i<l.length->l[i]?=some (l.getD i (0,0)):=fun i hi=>get_lt l hi
 constructor
 ·rintro ⟨h1,h2,h3⟩ i hi;unfold zeD;simp only[zAR9,zEK9,zDY9,decide_eq_true_eq,decide_eq_false_iff_not];refine⟨⟨?_,?_⟩,?_⟩
  ·by_cases h0:i=0
   ·exact .inl h0
   ·right
    refine h1 (i-1) _ _ (hget _ (by omega)) ?_;rw[show i-1+1=i by omega];exact hget i hi
  ·unfold zfr;rw[<- zEF9,zCU9];intro hm;obtain⟨q,hq,e⟩:=zAS9.1 hm;obtain⟨k,hk,hkq⟩:=zBJ9.1 hq;rw[zBA9]at hk;rw[zFY9]at hkq;have hp:=zED9.1 h2 k i (by simp;omega) (by simpa using hi) (by omega);rw[zFI9,zFI9,hkq]at hp
   apply hp
   rw[e,zAQ9,zAB9 hi];rfl
  ·intro e;exact h3 _ (zAO9 (hget i hi)) (by rw[e];exact zAV9 ..)
 ·intro h;have k:∀i,i<l.length->(i=0\/(l.getD (i-1) (0,0)).1<(l.getD i (0,0)).1)/\zfr (l.take i) (l.getD i (0,0)).2=false/\¬(l.getD i (0,0)).2=left:=fun i hi=>by
   have:=h i hi;unfold zeD at this;simp only[zAR9,zEK9,zDY9,decide_eq_true_eq,decide_eq_false_iff_not]at this;exact⟨this.1.1,this.1.2,this.2⟩
  refine⟨fun i x y hx hy=>?_,?_,fun p hp hm=>?_⟩
  ·have hi:=(zAD9.1 hy).1;have:=(k (i+1) hi).1;rw[getD_some hy,zEZ9,getD_some hx]at this;rcases this with h0|h0
   ·omega
   ·exact h0
  ·show List.Pairwise (fun x y=>x≠y) (l.map Prod.snd);rw[zED9];intro i j hi hj hij e;rw[zAA9]at hi hj;rw[zFI9,zFI9]at e;have h2:=(k j hj).2.1;unfold zfr at h2;rw[<- zEF9,zCU9]at h2
   apply h2
   rw[zAQ9,zAB9 hj];show l[j].2∈_;rw[<- e];exact List.mem_map_of_mem (zBJ9.2 ⟨i,by rw[zBA9];omega,zFY9⟩)
  ·obtain⟨i,hi,e⟩:=zBJ9.1 hp;have h3:=(k i hi).2.2;rw[zAQ9,zAB9 hi]at h3
   apply h3
   show l[i].2=left;rw[e];simpa using hm
theorem zqV (p left:Nat)(l:List Pr)(hl:l.length<1000000):FN ET 157 [uv left,psv p l] (.ret (.bool (zgY left l))):=by
 refine zfn zwR (.bool _) ?_;(repeat(first|refine ze ?_|refine zgo ?_));have bad:∀i,i<l.length->zeD left l i=false->zgY left l=false:=fun i hi h=>by
  cases hf:zgY left l with
  | false=>rfl
  | true=>rw[(zpz left l).1 hf i hi]at h;cases h
 refine zK (zbd (fun m s=>∃i:Nat,m=l.length-i/\i<=l.length/\(∀j,j<i->zeD left l j=true)/\s.tm 0=uv left/\s.tm 1=psv p l/\s.tm 5=iv i/\s.df=[]/\s.H=[]) (n:=l.length) ?_ ?_)
 ·exact⟨0,rfl,zAU9 _,fun j hj=>by omega,by simp[upd,zB],by simp[upd,zB],by simp[upd],rfl,rfl⟩
 ·rintro m ⟨tm,df,H⟩ ⟨i,rfl,hi,hok,h0,h1,h5,rfl,rfl⟩;dsimp only at h0 h1 h5;(try refine zaa ?_);refine ze (zb ?_);refine zfx ?_ (by simp(disch:=omega)only[go_sem,h1,h5,zAA9]<;>rfl);refine zd ?_;refine zae (by simp only[go_sem]<;>rfl) ?_ ?_;rotate_left
  ·intro hlt;have hlt:¬i<l.length:=by have:=of_decide_eq_false hlt;omega
   obtain rfl:i=l.length:=by omega
   simp only[zg,zj,zh,zi,zo,zk,if_true,reduceIte];(repeat(first|refine ze ?_|refine zgo ?_));refine zF ?_;(try simp only[zg,zj,zh,zi,zk]);refine zq (by simp only[T157,zI,go_sem]<;>rfl) ?_;simp only[zP];exact zbo.bool ((zpz left l).2 hok).symm
  intro hlt;have hlt:i<l.length:=by have:=of_decide_eq_true hlt;omega
  have hxv:(l.map pv)[i]?=some (pv (l.getD i (0,0))):=by rw[zAL9,get_lt l hlt];rfl
  have htk:(l.map pv).take i=(l.take i).map pv:=by rw[zDH9]
  have hle:i<=l.length:=hi;have hhas:=zna p (l.take i) (l.getD i (0,0)).2 (by rw[zBA9];omega);have hfa:zeD left l i=((decide (i=0)||decide ((l.getD (i-1) (0,0)).1<(l.getD i (0,0)).1)) && !zfr (l.take i) (l.getD i (0,0)).2 && !decide ((l.getD i (0,0)).2=left)):=rfl;(repeat refine ze ?_);refine zK ?_;(repeat refine ze ?_);refine zbN (Q:=fun y s'=>y=.norm/\s'.tm 47=.bool (!zeD left l i)/\s'.tm 0=uv left/\s'.tm 1=psv p l/\s'.tm 5=iv i/\s'.df=[]/\s'.H=[]) (zap ?_) ?_
  ·generalize zfr (l.take i) (l.getD i (0,0)).2=hp at *
   generalize zeD left l i=fa at *
   by_cases b0:i=0
   ·have g0:¬(0:Int)<(i:Int):=by omega
    cases hp with
    | true =>
     refine zdn hhas ?_ (by simp(disch:=omega)only[go_sem,h1,h5,g0,hxv,hlt,hle,htk,zAA9]<;>rfl);refine zdl ?_ (by simp(disch:=omega)only[go_sem,h0,h1,h5]<;>rfl);refine zR ?_;simp only[zo,zW,zg,go_sem];exact⟨by rw[hfa];simp,h0,h1,h5⟩
    | false =>
     by_cases b2:(l.getD i (0,0)).2=left
     ·have g2:((l.getD i (0,0)).2:Int)=left:=by omega
      refine zdn hhas ?_ (by simp(disch:=omega)only[go_sem,h1,h5,g0,hxv,hlt,hle,htk,zAA9]<;>rfl);refine zdl ?_ (by simp(disch:=omega)only[go_sem,h0,h1,h5,hxv,hlt,g2,zAA9]<;>rfl);refine zR ?_;simp only[zo,zW,zg,go_sem];exact⟨by rw[hfa,decide_eq_true b2];simp,h0,h1,h5⟩
     ·have g2:¬((l.getD i (0,0)).2:Int)=left:=by omega
      refine zdn hhas ?_ (by simp(disch:=omega)only[go_sem,h1,h5,g0,hxv,hlt,hle,htk,zAA9]<;>rfl);refine zdl ?_ (by simp(disch:=omega)only[go_sem,h0,h1,h5,hxv,hlt,g2,zAA9]<;>rfl);refine zR ?_;simp only[zo,zW,zg,go_sem];exact⟨by rw[hfa,decide_eq_false b2,decide_eq_true b0];rfl,h0,h1,h5⟩
   have g0:(0:Int)<(i:Int):=by omega
   have hi1:IntKind.i64.wrap ((i:Int)-1)=((i-1:Nat):Int):=by rw[wrap_i64 (by omega) (by omega)];omega
   have hil:i-1<l.length:=by omega
   have hpv:(l.map pv)[i-1]?=some (pv (l.getD (i-1) (0,0))):=by rw[zAL9,get_lt l hil];rfl
   generalize l.getD (i-1) (0,0)=pr at *
   generalize l.getD i (0,0)=x at *
   by_cases b1:pr.1<x.1
   rotate_left
   ·have hkey:((x.1:Nat):Int)<=(pr.1:Nat):=by omega
    refine zeX (by first|exact trivial|simp only[go_sem,h0,h1,h5,g0,hi1,hil,hpv,hxv,hlt,hle,hkey,zAA9]) (by simp(disch:=omega)only[go_sem,h0,h1,h5,g0,hi1,hil,hpv,hxv,hlt,hle,hkey,zAA9]<;>rfl) rfl (by simp only[go_sem,h0,h1,h5,g0,hi1,hil,hpv,hxv,hlt,hle,hkey,zAA9]<;>rfl) (by simp only[go_sem]<;>rfl) ?_;refine zdl ?_ (by simp(disch:=omega)only[go_sem,h0,h1,h5,g0,hi1,hil,hpv,hxv,hlt,hle,hkey,zAA9]<;>rfl);refine zR ?_;simp only[zo,zW,zg,go_sem];exact⟨by rw[hfa];simp[b0,b1],h0,h1,h5⟩
   have hkey:¬((x.1:Nat):Int)<=(pr.1:Nat):=by omega
   cases hp with
   | true =>
    refine zdn hhas ?_ (by simp(disch:=omega)only[go_sem,h1,h5,g0,hi1,hil,hpv,hxv,hlt,hle,htk,hkey,zAA9]<;>rfl);refine zdl ?_ (by simp(disch:=omega)only[go_sem,h0,h1,h5]<;>rfl);refine zR ?_;simp only[zo,zW,zg,go_sem];exact⟨by rw[hfa];simp,h0,h1,h5⟩
   | false =>
    by_cases b2:x.2=left
    ·have g2:(x.2:Int)=left:=by omega
     refine zdn hhas ?_ (by simp(disch:=omega)only[go_sem,h1,h5,g0,hi1,hil,hpv,hxv,hlt,hle,htk,hkey,zAA9]<;>rfl);refine zdl ?_ (by simp(disch:=omega)only[go_sem,h0,h1,h5,hxv,hlt,g2,zAA9]<;>rfl);refine zR ?_;simp only[zo,zW,zg,go_sem];exact⟨by rw[hfa];simp[b2],h0,h1,h5⟩
    ·have g2:¬(x.2:Int)=left:=by omega
     refine zdn hhas ?_ (by simp(disch:=omega)only[go_sem,h1,h5,g0,hi1,hil,hpv,hxv,hlt,hle,htk,hkey,zAA9]<;>rfl);refine zdl ?_ (by simp(disch:=omega)only[go_sem,h0,h1,h5,hxv,hlt,g2,zAA9]<;>rfl);refine zR ?_;simp only[zo,zW,zg,go_sem];exact⟨by rw[hfa];simp[b1,b2],h0,h1,h5⟩
  clear h0 h1 h5;rintro y ⟨tm,df,H⟩ ⟨rfl,h47,h0,h1,h5,rfl,rfl⟩;dsimp only at h47 h0 h1 h5;simp only[zg,zj,zh,zi,zo,zk,if_true,reduceIte]
  by_cases hfi:zeD left l i=true
  rotate_left
  ·have hfi:zeD left l i=false:=by simpa using hfi
   refine zfc ?_ ?_ (by simp only[go_sem,h47]<;>rfl)
   ·intro _;(repeat(first|refine ze ?_|refine zgo ?_));refine zF ?_;(try simp only[zg,zj,zh,zi,zk]);refine zq (by simp only[T157,zI,go_sem]<;>rfl) ?_;simp only[zP];exact zbo.bool (bad i hlt hfi).symm
   ·rw[hfi];intro h;cases h
  refine zfc ?_ ?_ (by simp only[go_sem,h47]<;>rfl)
  ·rw[hfi];intro h;cases h
  intro _;refine zQ ?_;simp only[zg,zj,zh,zi,zo,zk,if_true,reduceIte];(repeat refine ze ?_);refine zrg ?_ (by simp(disch:=omega)only[go_sem,h5]<;>rfl);refine zG ?_;simp only[zg,zj,zh,zi,zo,zk,if_true,↓reduceIte];refine⟨_,?m,i+1,rfl,hlt,fun j hj=>?_,by simp[upd,h0],by simp[upd,h1],by simp[upd,h5],trivial,trivial⟩
  case m=>omega
  rcases zCM9 j i with h|h
  ·exact hok j h
  ·rw[show j=i by omega];exact hfi
theorem zhS (p left:Nat)(w:List Nat)(hw:w.length<1000000):FN ET 104 [uv left,wv p w] (.ret (iv (zbW left w:Nat))):=by
 refine zfn zw6 (.int _ _) ?_;have hR:=zkG p left w (by omega);have hRd:=zfs p left w hw;have hRaw:=znb p w (by omega);have e0:IntKind.i64.wrap ((w.length:Int).tdiv 2)=((w.length/2:Nat):Int):=by rw[IntWalk.i64_quo _ _ (by omega)];omega
 (repeat(first|refine ze ?_|refine zgo ?_));(repeat refine ze ?_);refine zrg ?_;refine zca hR ?_;refine zfx ?_;refine zd ?_
 by_cases hr:zbG left w.length=true
 rotate_left
 ·have hr:zbG left w.length=false:=by simpa using hr
  rw[hr];refine zfc ?_ ?_;rotate_left
  ·intro h;cases h
  intro _;(repeat(first|refine ze ?_|refine zgo ?_));refine zF ?_;(try simp only[zg,zj,zh,zi,zk]);refine zq (by simp only[T104,zI,go_sem]<;>rfl) ?_;simp only[zP];have:zbW left w=2:=by unfold zbW;rw[hr];rfl
  rw[this];exact Frz.int _ _
 rw[hr];refine zfc ?_ ?_
 ·intro h;cases h
 intro _;refine zQ ?_;show W _ _ _ _ _ _;(repeat refine ze ?_);refine zrg ?_;refine zca hRd ?_;refine zfx ?_;refine zd ?_;have hsr:zbO left w=zaB left w:=by unfold zbO;rw[if_pos hr]
 have hrl:=zeV left w;have hset:zdm left w=(zgY left (zaB left w)&&decide ((zaB left w).length=zbz w)&&decide ((zaB left w).length<w.length/2)&&zej (w.drop (2*(zaB left w).length))):=by unfold zdm zgY;rw[hsr]
 have hck:zbW left w=if zdm left w=true then 0 else 190:=by unfold zbW;rw[if_pos hr]
 rw[hsr]at hrl;generalize zaB left w=L at *
 have hF:=zqV 0 left L (by omega);have bad:zdm left w=false->zbo [] 0 (.ret (iv 190)) (.ret (iv (zbW left w:Nat))):=fun h=>by rw[hck,h];exact Frz.int _ _
 (repeat refine ze ?_);refine zrg ?_;refine zca hF ?_
 by_cases hf:zgY left L=true
 rotate_left
 ·have hf:zgY left L=false:=by simpa using hf
  rw[hf];refine zfx ?_ (by simp(disch:=omega)only[go_sem,zAA9]<;>rfl);refine zd ?_;refine zfc ?_ ?_;rotate_left
  ·intro h;cases h
  intro _;(repeat(first|refine ze ?_|refine zgo ?_));refine zF ?_;(try simp only[zg,zj,zh,zi,zk]);refine zq (by simp only[T104,zI,go_sem]<;>rfl) ?_;simp only[zP];exact bad (by rw[hset,hf];rfl)
 rw[hf];refine zfx ?_ (by simp(disch:=omega)only[go_sem,zAA9]<;>rfl);refine zca hRaw ?_
 by_cases hq:L.length=zbz w
 rotate_left
 ·have g1:¬(L.length:Int)=(zbz w:Nat):=by omega
  refine zfx ?_ (by simp(disch:=omega)only[go_sem,g1,zAA9]<;>rfl);refine zd ?_;refine zfc ?_ ?_;rotate_left
  ·intro h;cases h
  intro _;(repeat(first|refine ze ?_|refine zgo ?_));refine zF ?_;(try simp only[zg,zj,zh,zi,zk]);refine zq (by simp only[T104,zI,go_sem]<;>rfl) ?_;simp only[zP];exact bad (by rw[hset];simp[hq])
 have g1:(L.length:Int)=(zbz w:Nat):=by omega
 by_cases hlt:L.length<w.length/2
 rotate_left
 ·have g2:((w.length/2:Nat):Int)<=(L.length:Nat):=by omega
  have g2':((w.length/2:Nat):Int)<=(zbz w:Nat):=by omega
  refine zfx ?_ (by simp(disch:=omega)only[go_sem,g1,g2,g2',e0,zAA9]<;>rfl);refine zd ?_;refine zfc ?_ ?_;rotate_left
  ·intro h;cases h
  intro _;(repeat(first|refine ze ?_|refine zgo ?_));refine zF ?_;(try simp only[zg,zj,zh,zi,zk]);refine zq (by simp only[T104,zI,go_sem]<;>rfl) ?_;simp only[zP];exact bad (by rw[hset];simp;omega)
 have g2:¬((w.length/2:Nat):Int)<=(L.length:Nat):=by omega
 have g2':¬((w.length/2:Nat):Int)<=(zbz w:Nat):=by omega
 refine zfx ?_ (by simp(disch:=omega)only[go_sem,g1,g2,g2',e0,zAA9]<;>rfl);refine zd ?_;refine zfc ?_ ?_
 ·intro h;cases h
 intro _;refine zQ ?_;show W _ _ _ _ _ _;(repeat(first|refine ze ?_|refine zgo ?_ (by simp(disch:=omega)only[go_sem,zAA9]<;>rfl)));have hset2:zdm left w=zej (w.drop (2*L.length)):=by rw[hset,hf];simp[hq];omega
 clear hset g1 g2 g2';refine zK (zbd (fun m s=>∃i:Nat,m=w.length-i/\L.length<=i/\i<=w.length/2/\zdm left w=zej (w.drop (2*i))/\s.tm 1=wv p w/\s.tm 7=iv i/\s.df=[]/\s.H=[]) (n:=w.length-L.length) ?_ ?_)
 ·exact⟨L.length,rfl,zAK9 _,by omega,hset2,by simp[upd,zB],by simp[upd];try omega,rfl,rfl⟩
 ·rintro m ⟨tm,df,H⟩ ⟨i,rfl,hli,hi,hz,h1,h7,rfl,rfl⟩;dsimp only at h1 h7;(try refine zaa ?_);refine ze (zb ?_);refine zfx ?_ (by simp(disch:=omega)only[go_sem,h1,h7,e0,zAA9]<;>rfl);refine zd ?_;refine zae (by simp only[go_sem]<;>rfl) ?_ ?_
  ·intro hlt;have hlt:i<w.length/2:=by have:=of_decide_eq_true hlt;omega
   have w1:IntKind.i64.wrap (2*(i:Int))=((2*i:Nat):Int):=by rw[wrap_i64 (by omega) (by omega)];omega
   have w2:IntKind.i64.wrap (((2*i:Nat):Int)+1)=((2*i+1:Nat):Int):=by rw[wrap_i64 (by omega) (by omega)];omega
   have c1:2*i+1<w.length:=by omega
   have z1:=zck c1;have hst:=zrh w i c1;have hx:w[2*i+1]=w.getD (2*i+1) 0:=by rw[zAQ9,zAB9 c1];rfl
   rw[hx]at hst;generalize w.getD (2*i+1) 0=x at *
   (repeat refine ze ?_);refine zK ?_
   by_cases hx0:x=0
   ·have gx:(x:Int)=0:=by omega
    (repeat refine ze ?_);refine zgo ?_ (by simp(disch:=omega)only[go_sem,h1,h7,w1,w2,c1,z1,gx,zAA9]<;>rfl);refine zfc ?_ ?_
    ·intro h;cases h
    intro _;refine zQ ?_;simp only[zg,zj,zh,zi,zo,zk,if_true,reduceIte];(repeat refine ze ?_);refine zrg ?_ (by simp(disch:=omega)only[go_sem,h7]<;>rfl);refine zG ?_;simp only[zg,zj,zh,zi,zo,zk,if_true,↓reduceIte];refine⟨_,?m,i+1,rfl,by omega,by omega,by rw[hz,hst,hx0];rfl,by simp[upd,h1],by simp[upd,h7],trivial,trivial⟩
    case m=>omega
   ·have gx:¬(x:Int)=0:=by omega
    (repeat refine ze ?_);refine zgo ?_ (by simp(disch:=omega)only[go_sem,h1,h7,w1,w2,c1,z1,gx,zAA9]<;>rfl);refine zfc ?_ ?_;rotate_left
    ·intro h;cases h
    intro _;(repeat(first|refine ze ?_|refine zgo ?_));refine zF ?_;(try simp only[zg,zj,zh,zi,zk]);refine zq (by simp only[T104,zI,go_sem]<;>rfl) ?_;simp only[zP];exact bad (by rw[hz,hst];simp[hx0])
  ·intro hlt;have hlt:¬i<w.length/2:=by have:=of_decide_eq_false hlt;omega
   simp only[zg,zj,zh,zi,zo,zk,if_true,reduceIte];(repeat(first|refine ze ?_|refine zgo ?_));refine zF ?_;(try simp only[zg,zj,zh,zi,zk]);refine zq (by simp only[T104,zI,go_sem]<;>rfl) ?_;simp only[zP];rw[hck,hz,zr5 w i (by simp[zbG]at hr;omega)];exact Frz.int _ _
def zct (l:List Pr)(key:Nat):Nat:=(l.takeWhile fun x=>decide (x.1<key)).length
def sIs (l:List Pr)(key:Nat):Bool:=match l[zct l key]? with
 | some x=>decide (x.1=key)
 | none=>false
theorem zkW (l:List Pr)(key:Nat):zct l key<=l.length:=by
 unfold zct;exact(List.takeWhile_sublist _).length_le
theorem zlK (p key:Nat)(l:List Pr)(hl:l.length<1000000):FN ET 140 [psv p l,uv key] (.ret (.tuple [iv (zct l key:Nat),.bool (sIs l key)])):=by
 refine zfn zwn (Lb.two (.int _ _) (.bool _)) ?_;(repeat(first|refine ze ?_|refine zgo ?_));refine zK (zbd (fun m s=>∃i:Nat,m=l.length-i/\i<=l.length/\zct l key=i+((l.drop i).takeWhile fun x=>decide (x.1<key)).length/\s.tm 0=psv p l/\s.tm 1=uv key/\s.tm 6=iv i/\s.df=[]/\s.H=[]) (n:=l.length) ?_ ?_)
 ·exact⟨0,rfl,zAU9 _,by simp[zct],by simp[upd,zB],by simp[upd,zB],by simp[upd],rfl,rfl⟩
 ·rintro m ⟨tm,df,H⟩ ⟨i,rfl,hi,hc,h0,h1,h6,rfl,rfl⟩;dsimp only at h0 h1 h6
  by_cases hlt:i<l.length
  ·have g1:(i:Int)<(l.length:Nat):=by omega
   obtain⟨q,hq⟩:∃q,l[i]?=some q:=⟨_,zAB9 hlt⟩
   have hqv:(l.map pv)[i]?=some (pv q):=by rw[zAL9,hq];rfl
   have hdr:l.drop i=q::l.drop (i+1):=by rw[zBB9 hlt];obtain⟨_,e⟩:=zAD9.1 hq;rw[e]
   rw[hdr,List.takeWhile_cons]at hc
   by_cases hk:q.1<key
   ·have gk:(q.1:Int)<key:=by omega
    rw[if_pos (decide_eq_true hk)]at hc;(try refine zaa ?_);refine ze (zb ?_);refine zfx ?_ (by simp(disch:=omega)only[go_sem,h0,h1,h6,g1,hqv,hlt,gk,zAA9]<;>rfl);refine zd ?_;refine zae (by simp only[go_sem]<;>rfl) ?_ ?_
    ·intro _;refine zK ?_;(repeat refine ze ?_);refine zrg ?_ (by simp(disch:=omega)only[go_sem,h6]<;>rfl);refine zG ?_;simp only[zg,zj,zh,zi,zo,zk,if_true,↓reduceIte];refine⟨_,?m,i+1,rfl,hlt,by rw[hc];simp;omega,by simp[upd,h0],by simp[upd,h1],by simp[upd,h6],trivial,trivial⟩
     case m=>omega
    ·intro h;cases h
   ·have gk:¬(q.1:Int)<key:=by omega
    rw[if_neg (by simpa using hk)]at hc;have hf:zct l key=i:=by simpa using hc
    (try refine zaa ?_);refine ze (zb ?_);refine zfx ?_ (by simp(disch:=omega)only[go_sem,h0,h1,h6,g1,hqv,hlt,gk,zAA9]<;>rfl);refine zd ?_;refine zae (by simp only[go_sem]<;>rfl) ?_ ?_
    ·intro h;cases h
    ·intro _;simp only[zg,zj,zh,zi,zo,zk,if_true,reduceIte];have hsi:sIs l key=decide (q.1=key):=by unfold sIs;rw[hf,hq]
     rw[hf,hsi];(repeat refine ze ?_);refine zap ?_
     by_cases he:q.1=key
     ·have ge:(q.1:Int)=key:=by omega
      refine zdl ?_ (by simp(disch:=omega)only[go_sem,h0,h1,h6,g1,hqv,hlt,ge,zAA9]<;>rfl);refine zR ?_;simp only[zo,zW,zg,go_sem];refine zF ?_;(try simp only[zg,zj,zh,zi,zk]);refine zq (by simp only[T140,zI,go_sem]<;>rfl) ?_;simp only[zP];rw[decide_eq_true he];exact Frz.tupL ⟨.int _ _,.bool _,trivial⟩
     ·have ge:¬(q.1:Int)=key:=by omega
      refine zdl ?_ (by simp(disch:=omega)only[go_sem,h0,h1,h6,g1,hqv,hlt,ge,zAA9]<;>rfl);refine zR ?_;simp only[zo,zW,zg,go_sem];refine zF ?_;(try simp only[zg,zj,zh,zi,zk]);refine zq (by simp only[T140,zI,go_sem]<;>rfl) ?_;simp only[zP];rw[decide_eq_false he];exact Frz.tupL ⟨.int _ _,.bool _,trivial⟩
  ·obtain rfl:i=l.length:=by omega
   have g1:¬(l.length:Int)<(l.length:Nat):=by omega
   rw[zCW9]at hc;have hf:zct l key=l.length:=by simpa using hc
   have hsi:sIs l key=false:=by unfold sIs;rw[hf,zCC9 (zAK9 _)]
   rw[hf,hsi];(try refine zaa ?_);refine ze (zb ?_);refine zfx ?_ (by simp(disch:=omega)only[go_sem,h0,h1,h6,g1,zAA9]<;>rfl);refine zd ?_;refine zae (by simp only[go_sem]<;>rfl) ?_ ?_
   ·intro h;cases h
   ·intro _;simp only[zg,zj,zh,zi,zo,zk,if_true,reduceIte];(repeat refine ze ?_);refine zap ?_;refine zdl ?_ (by simp(disch:=omega)only[go_sem,h0,h1,h6,g1,zAA9]<;>rfl);refine zR ?_;simp only[zo,zW,zg,go_sem];refine zF ?_;(try simp only[zg,zj,zh,zi,zk]);refine zq (by simp only[T140,zI,go_sem]<;>rfl) ?_;simp only[zP];exact Frz.tupL ⟨.int _ _,.bool _,trivial⟩
theorem zwj:ET.funcs.get 120=some T120:=z9 (by kernel_rfl) (by decide)
theorem zws:ET.funcs.get 142=some T142:=z9 (by kernel_rfl) (by decide)
theorem f94:ET.funcs.get 94=some T94:=z9 (by kernel_rfl) (by decide)
def zcc (left:Nat)(w:List Nat)(x:Pr):Nat :=
 if(zbG left w.length && !decide (x.2=0) && !decide (x.2=left))=true then(if(decide (zbW left w=0)&&zfr (zaB left w) x.2)=true then 2 else zbW left w)else 2
theorem znV (p left:Nat)(w:List Nat)(x:Pr)(hw:w.length<1000000):FN ET 173 [uv left,wv p w,pv x] (.ret (iv (zcc left w x:Nat))):=by
 refine zfn zw8 (.int _ _) ?_;have hR:=zkG p left w (by omega);have hRd:=zfs p left w hw;have hC:=zhS p left w hw;have bad:(zbG left w.length && !decide (x.2=0) && !decide (x.2=left))=false->zcc left w x=2:=fun h=>by unfold zcc;rw[h];rfl
 (repeat(first|refine ze ?_|refine zgo ?_));(repeat refine ze ?_);refine zrg ?_;refine zca hR ?_
 by_cases hr:zbG left w.length=true
 rotate_left
 ·have hr:zbG left w.length=false:=by simpa using hr
  rw[hr];refine zfx ?_;refine zd ?_;refine zfc ?_ ?_;rotate_left
  ·intro h;cases h
  intro _;(repeat(first|refine ze ?_|refine zgo ?_));refine zF ?_;(try simp only[zg,zj,zh,zi,zk]);refine zq (by simp only[T173,zI,go_sem]<;>rfl) ?_;simp only[zP];rw[bad (by rw[hr];rfl)];exact Frz.int _ _
 rw[hr]
 by_cases h0:x.2=0
 ·have g0:(x.2:Int)=0:=by omega
  refine zfx ?_ (by simp(disch:=omega)only[go_sem,g0]<;>rfl);refine zd ?_;refine zfc ?_ ?_;rotate_left
  ·intro h;cases h
  intro _;(repeat(first|refine ze ?_|refine zgo ?_));refine zF ?_;(try simp only[zg,zj,zh,zi,zk]);refine zq (by simp only[T173,zI,go_sem]<;>rfl) ?_;simp only[zP];rw[bad (by rw[hr,h0];rfl)];exact Frz.int _ _
 have g0:¬(x.2:Int)=0:=by omega
 by_cases h1:x.2=left
 ·have g1:(x.2:Int)=left:=by omega
  have g0':¬(left:Int)=0:=by omega
  refine zfx ?_ (by simp(disch:=omega)only[go_sem,g0,g0',g1]<;>rfl);refine zd ?_;refine zfc ?_ ?_;rotate_left
  ·intro h;cases h
  intro _;(repeat(first|refine ze ?_|refine zgo ?_));refine zF ?_;(try simp only[zg,zj,zh,zi,zk]);refine zq (by simp only[T173,zI,go_sem]<;>rfl) ?_;simp only[zP];rw[bad (by rw[hr,decide_eq_true h1];simp)];exact Frz.int _ _
 have g1:¬(x.2:Int)=left:=by omega
 refine zfx ?_ (by simp(disch:=omega)only[go_sem,g0,g1]<;>rfl);refine zd ?_;refine zfc ?_ ?_
 ·intro h;cases h
 intro _;refine zQ ?_;show W _ _ _ _ _ _;(repeat refine ze ?_);refine zrg ?_;refine zca hC ?_;refine zfx ?_;refine zd ?_;(repeat refine ze ?_);refine zrg ?_;refine zca hRd ?_;refine zfx ?_;refine zd ?_;have hp:zcc left w x=if(decide (zbW left w=0)&&zfr (zaB left w) x.2)=true then 2 else zbW left w:=by
  unfold zcc;rw[if_pos (by rw[hr,decide_eq_false h0,decide_eq_false h1];rfl)]
 have hrl:(zaB left w).length<=28:=by have:=zeV left w;unfold zbO at this;rwa [if_pos hr]at this
 have hH:=zna 0 (zaB left w) x.2 (by omega);generalize zaB left w=L at *
 generalize zbW left w=c at *
 by_cases hc:c=0
 rotate_left
 ·have g2:¬(c:Int)=0:=by omega
  (repeat refine ze ?_);refine zgo ?_ (by simp(disch:=omega)only[go_sem,g2]<;>rfl);refine zfc ?_ ?_
  ·intro h;cases h
  intro _;refine zQ ?_;show W _ _ _ _ _ _;(repeat(first|refine ze ?_|refine zgo ?_));refine zF ?_;(try simp only[zg,zj,zh,zi,zk]);refine zq (by simp only[T173,zI,go_sem]<;>rfl) ?_;simp only[zP];rw[hp,if_neg (by simp[hc])];exact Frz.int _ _
 have g2:(c:Int)=0:=by omega
 (repeat refine ze ?_);refine zrg ?_ (by simp(disch:=omega)only[go_sem,g2]<;>rfl);refine zca hH ?_;refine zfx ?_;refine zd ?_
 by_cases hh:zfr L x.2=true
 ·refine zfc ?_ ?_
  ·intro _;(repeat(first|refine ze ?_|refine zgo ?_));refine zF ?_;(try simp only[zg,zj,zh,zi,zk]);refine zq (by simp only[T173,zI,go_sem]<;>rfl) ?_;simp only[zP];rw[hp,if_pos (by rw[hh,decide_eq_true hc];rfl)];exact Frz.int _ _
  ·rw[hh];intro h;cases h
 ·refine zfc ?_ ?_
  ·intro h;exact absurd h hh
  intro _;refine zQ ?_;show W _ _ _ _ _ _;(repeat(first|refine ze ?_|refine zgo ?_));refine zF ?_;(try simp only[zg,zj,zh,zi,zk]);refine zq (by simp only[T173,zI,go_sem]<;>rfl) ?_;simp only[zP];rw[hp,if_neg (by simp[hh]),hc];exact Frz.int _ _
theorem zcX {l:List Pr}:∀v∈(l.map zag).flatMap PV.cells,Id0 v:=fun v hv=>by
 obtain⟨x,hx,hv⟩:=zBI9.1 hv;obtain⟨n,_,rfl⟩:=zAS9.1 hx;simp[PV.cells]at hv;rcases hv with rfl|rfl<;>exact .int _ _
def upL (l:List Pr)(i:Nat):Nat->List Pr
 | 0=>[]
 | m+1=>if i<=m then(2*m+3,(l.getD m (0,0)).2)::(2*m+2,(l.getD m (0,0)).1)::upL l i m else[]
def zmf (left:Nat)(w:List Nat)(l:List Pr)(i:Nat)(x:Pr):List Pr:=(2*l.length+3,0)::(upL l i l.length++[(2*i+1,zb0 left w i),(2*i,x.1),(2*i+1,x.2)])
def zdt (left:Nat)(w:List Nat)(x:Pr):List Pr×Nat :=
 if zcc left w x=0 then(if sIs (zaB left w) x.1=true then([],191)else if w.length/2<=(zaB left w).length+1 then([],3)else(zmf left w (zaB left w) (zct (zaB left w) x.1) x,0))else([],zcc left w x)
theorem zfz {left:Nat}{w:List Nat}{x:Pr}(h:zcc left w x=0):zbG left w.length=true/\zbW left w=0:=by
 unfold zcc at h
 by_cases hr:(zbG left w.length && !decide (x.2=0) && !decide (x.2=left))=true
 ·rw[if_pos hr]at h;rw[zAR9,zAR9]at hr;refine⟨hr.1.1,?_⟩
  split at h
  ·cases h
  ·exact h
 ·rw[if_neg hr]at h;cases h
theorem zgW {left:Nat}{w:List Nat}(h:zbG left w.length=true):(zaB left w).length<=28:=by
 have:=zeV left w;unfold zbO at this;rwa [if_pos h]at this
set_option maxHeartbeats 1000000 in
theorem zs1 (p left:Nat)(w:List Nat)(x:Pr)(hw:w.length<1000000):FN ET 120 [uv left,wv p w,pv x] (.ret (.tuple [.list 0 2 ((zdt left w x).1.map zag),iv ((zdt left w x).2:Nat)])):=by
 refine zfn zwj (Lb.two (zcY _) (.int _ _)) ?_;have hP:=znV p left w x hw;have hRd:=zfs p left w hw;have e0:IntKind.i64.wrap ((w.length:Int).tdiv 2)=((w.length/2:Nat):Int):=by rw[IntWalk.i64_quo _ _ (by omega)];omega
 (repeat(first|refine ze ?_|refine zgo ?_));(repeat refine ze ?_);refine zrg ?_;refine zca hP ?_;refine zfx ?_;refine zd ?_
 by_cases hp0:zcc left w x=0
 rotate_left
 ·have g:¬(zcc left w x:Int)=0:=by omega
  (repeat(first|refine ze ?_|refine zgo ?_ (by simp(disch:=omega)only[go_sem,g]<;>rfl)));refine zfc ?_ ?_;rotate_left
  ·intro h;cases h
  intro _;(repeat(first|refine ze ?_|refine zgo ?_));refine zF ?_;(try simp only[zg,zj,zh,zi,zk]);refine zq (by simp only[T120,zI,go_sem]<;>rfl) ?_;simp only[zP];have:zdt left w x=([],zcc left w x):=by unfold zdt;rw[if_neg hp0]
  rw[this];exact Frz.tupL ⟨.nil _ _,.int _ _,trivial⟩
 have g:(zcc left w x:Int)=0:=by omega
 (repeat(first|refine ze ?_|refine zgo ?_ (by simp(disch:=omega)only[go_sem,g]<;>rfl)));refine zfc ?_ ?_
 ·intro h;cases h
 intro _;refine zQ ?_;show W _ _ _ _ _ _;obtain⟨hr,hck⟩:=zfz hp0;have hLl:=zgW hr;have hrl:=hr;rw[zlS]at hrl;simp only[zAR9,decide_eq_true_eq]at hrl;have hsp:zdt left w x=if sIs (zaB left w) x.1=true then([],191)else if w.length/2<=(zaB left w).length+1 then([],3)else(zmf left w (zaB left w) (zct (zaB left w) x.1) x,0):=by unfold zdt;rw[if_pos hp0]
 rw[hsp];clear hsp g hP;have hraw:(zaB left w).length<=w.length/2:=by
  have:=zdB w 0 left;have h2:=congrArg List.length (zcj w 0 left);rw[zAA9]at h2;omega
 generalize zaB left w=L at *
 have hF:=zlK 0 x.1 L (by omega);have hfl:=zkW L x.1;(repeat refine ze ?_);refine zrg ?_;refine zca hRd ?_;refine zfx ?_;refine zd ?_;(repeat refine ze ?_);refine zrg ?_;refine zca hF ?_;refine zfx ?_;refine zd ?_;generalize zct L x.1=i at *
 (repeat(first|refine ze ?_|refine zgo ?_ (by simp(disch:=omega)only[go_sem,zAA9]<;>rfl)))
 by_cases his:sIs L x.1=true
 ·refine zfc ?_ ?_
  ·intro _;(repeat(first|refine ze ?_|refine zgo ?_));refine zF ?_;(try simp only[zg,zj,zh,zi,zk]);refine zq (by simp only[T120,zI,go_sem]<;>rfl) ?_;simp only[zP];rw[if_pos his];exact Frz.tupL ⟨.nil _ _,.int _ _,trivial⟩
  ·intro h;rw[his]at h;cases h
 rw[if_neg his];refine zfc ?_ ?_
 ·intro h;exact absurd h his
 intro _;refine zQ ?_;show W _ _ _ _ _ _
 by_cases hlong:w.length/2<=L.length+1
 ·have g2:((w.length/2:Nat):Int)<=(L.length:Int)+1:=by omega
  (repeat(first|refine ze ?_|refine zgo ?_ (by simp(disch:=omega)only[go_sem,e0,g2,zAA9]<;>rfl)));refine zfc ?_ ?_;rotate_left
  ·intro h;cases h
  intro _;(repeat(first|refine ze ?_|refine zgo ?_));refine zF ?_;(try simp only[zg,zj,zh,zi,zk]);refine zq (by simp only[T120,zI,go_sem]<;>rfl) ?_;simp only[zP];rw[if_pos hlong];exact Frz.tupL ⟨.nil _ _,.int _ _,trivial⟩
 rw[if_neg hlong];have g2:¬((w.length/2:Nat):Int)<=(L.length:Int)+1:=by omega
 have g3:(L.length:Int)+1<((w.length/2:Nat):Int):=by omega
 (repeat(first|refine ze ?_|refine zgo ?_ (by simp(disch:=omega)only[go_sem,e0,g2,zAA9]<;>rfl)));refine zfc ?_ ?_
 ·intro h;cases h
 intro _;refine zQ ?_;show W _ _ _ _ _ _;(repeat refine ze ?_);refine zgo ?_ (by simp(disch:=omega)only[go_sem,zAA9]<;>rfl);refine zcn 83 2 (i:=14) rfl ?_;simp only[lzy,zAC9,zAE9,zAG9,zAM9,zAF9,zAH9,zAI9];(repeat(first|refine ze ?_|refine zgo ?_ (by simp(disch:=omega)only[go_sem,e0,g3,zAA9]<;>rfl)));refine zfc ?_ ?_;rotate_left
 ·intro h;cases h
 intro _;have w0:IntKind.i64.wrap (2*(L.length:Int))=((2*L.length:Nat):Int):=by rw[wrap_i64 (by omega) (by omega)];omega
 have w1:IntKind.i64.wrap (((2*L.length:Nat):Int)+3)=((2*L.length+3:Nat):Int):=by rw[wrap_i64 (by omega) (by omega)];omega
 (repeat(first|refine ze ?_|refine zgo ?_ (by simp(disch:=omega)only[go_sem,w0,w1,zf,zn]<;>rfl)));generalize hD:zmf left w L i x=D;refine zK (zbd (fun m s=>∃(V:List PV) (g:Nat) (G:List zu),i<=m/\m<=L.length/\V.length<=1+2*(L.length-m)/\D.map zag=V++(upL L i m++[(2*i+1,zb0 left w i),(2*i,x.1),(2*i+1,x.2)]).map zag/\s.tm 0=uv left/\s.tm 1=wv p w/\s.tm 5=.ptr 0 0 0 0 2/\s.tm 9=psv 0 L/\s.tm 11=iv i/\s.tm 14=.sl 1 g 0 V.length (2*V.length) 2/\s.tm 15=iv ((m:Int)-1)/\s.df=[]/\s.H=.row 66 2 0 0 [pv x]::.row 83 2 g 0 V::G) (n:=L.length) ?_ ?_)
 ·refine⟨[zag (2*L.length+3,0)],1,_,hfl,zAK9 _,by simp,by rw[<- hD];rfl,by simp[upd,zB],by simp[upd,zB],by simp[upd],by simp[upd],by simp[upd],by simp[upd],by simp[upd],rfl,rfl⟩
 ·rintro m ⟨tm,df,H⟩ ⟨V,g,G,him,hmL,hVl,hDV,h0,h1,h5,h9,h11,h14,h15,rfl,rfl⟩;dsimp only at h0 h1 h5 h9 h11 h14 h15
  by_cases hm:i<m
  ·obtain⟨k,rfl⟩:∃k,m=k+1:=⟨m-1,by omega⟩
   rw[show ((k+1:Nat):Int)-1=(k:Nat) by omega]at h15;rw[upL,if_pos (by omega)]at hDV;have g4:(i:Int)<=(k:Nat):=by omega
   have hkl:k<L.length:=by omega
   have hkv:(L.map pv)[k]?=some (pv (L.getD k (0,0))):=by rw[zAL9,get_lt L hkl];rfl
   have w2:IntKind.i64.wrap (2*(k:Int))=((2*k:Nat):Int):=by rw[wrap_i64 (by omega) (by omega)];omega
   have w3:IntKind.i64.wrap (((2*k:Nat):Int)+3)=((2*k+3:Nat):Int):=by rw[wrap_i64 (by omega) (by omega)];omega
   have w4:IntKind.i64.wrap (((2*k:Nat):Int)+2)=((2*k+2:Nat):Int):=by rw[wrap_i64 (by omega) (by omega)];omega
   have hb:(V.length+2)*17<=140737488355328:=by omega
   generalize L.getD k (0,0)=y at *
   (try refine zaa ?_);refine ze (zb ?_);refine zfx ?_ (by simp(disch:=omega)only[go_sem,h11,h15,g4]<;>rfl);refine zd ?_;refine zae (by simp only[go_sem]<;>rfl) ?_ ?_
   ·intro _;(repeat refine ze ?_);refine zK ?_;(repeat refine ze ?_);refine zap ?_;refine zda ?_ (by simp(disch:=omega)only[go_sem,h9,h14,h15,w2,w3,w4,hkv,hkl,hb,zf,zAA9]<;>rfl);refine zdl ?_ (by simp(disch:=omega)only[go_sem,h5]<;>rfl);refine zR ?_;simp only[zo,zW,zg,go_sem];(repeat refine ze ?_);refine zrg ?_ (by simp(disch:=omega)only[go_sem,h15]<;>rfl);refine zG ?_;simp only[zg,zj,zh,zi,zo,zk,if_true,↓reduceIte];refine⟨k,zBR9 _,V++[zag (2*k+3,y.2),zag (2*k+2,y.1)],g+1,?G2,by omega,by omega,by simp;omega,(by rw[hDV];simp),by simp[upd,h0],by simp[upd,h1],by simp[upd,h5],by simp[upd,h9],by simp[upd,h11],by simp[upd],by simp[upd,h15],trivial,?H⟩
    case H=>rfl
   ·intro h;cases h
  ·obtain rfl:m=i:=by omega
   have g4:¬(m:Int)<=(m:Int)-1:=by omega
   have hup:upL L m m=[]:=by cases m with
    | zero=>rfl
    | succ k=>rw[upL,if_neg (by omega)]
   rw[hup,zAI9]at hDV;(try refine zaa ?_);refine ze (zb ?_);refine zfx ?_ (by simp(disch:=omega)only[go_sem,h11,h15,g4]<;>rfl);refine zd ?_;refine zae (by simp only[go_sem]<;>rfl) ?_ ?_
   ·intro h;cases h
   intro _;simp only[zg,zj,zh,zi,zo,zk,if_true,reduceIte];have w2:IntKind.i64.wrap (2*(m:Int))=((2*m:Nat):Int):=by rw[wrap_i64 (by omega) (by omega)];omega
   have w3:IntKind.i64.wrap (((2*m:Nat):Int)+1)=((2*m+1:Nat):Int):=by rw[wrap_i64 (by omega) (by omega)];omega
   have hah:=zhY p left w m (by omega) (by omega);have hb:(V.length+3)*17<=140737488355328:=by omega
   (repeat refine ze ?_);refine zap ?_;refine zdn hah ?_ (by simp(disch:=omega)only[go_sem,h0,h1,h5,h11,h14,w2,w3]<;>rfl);refine zda ?_ (by simp(disch:=omega)only[go_sem,h0,h1,h5,h11,h14,w2,w3,hb,zf]<;>rfl);refine zdl ?_ (by simp(disch:=omega)only[go_sem,h5]<;>rfl);refine zR ?_;simp only[zo,zW,zg,go_sem];refine zF ?_;(try simp only[zg,zj,zh,zi,zk]);refine zq (by simp only[T120,zI,go_sem]<;>rfl) ?_;simp only[zP];refine Frz.tupL ⟨?_,.int _ _,trivial⟩;rw[hDV];exact Frz.whole rfl rfl (by simp) (by simp) (fun v hv=>by rw[<- hDV]at hv;obtain⟨x,_,rfl⟩:=zAS9.1 hv;rfl) (by rw[<- hDV];exact zcX)
def dnL (w:List Nat)(d k:Nat):List Pr:=(List.range k).flatMap fun q=>[(2*(d+q),w.getD (2*(d+q)+2) 0),(2*(d+q)+1,w.getD (2*(d+q)+3) 0)]
def zdU (w:List Nat)(d m:Nat):List Pr:=dnL w d (m-1-d)++[(2*m-1,0)]
theorem zoj (w:List Nat)(d k:Nat):dnL w d (k+1)=dnL w d k++[(2*(d+k),w.getD (2*(d+k)+2) 0),(2*(d+k)+1,w.getD (2*(d+k)+3) 0)]:=by
 unfold dnL;rw[zDX9,zDR9];simp
theorem zj4 (w:List Nat)(d k:Nat):(dnL w d k).length=2*k:=by
 induction k with
 | zero=>rfl
 | succ k ih=>rw[zoj,zAC9,ih];simp;omega
theorem zpU (p d m:Nat)(w:List Nat)(hw:w.length<1000000)(hd:d<m)(hm:2*m<=w.length):FN ET 142 [wv p w,iv d,iv m] (.ret (.list 0 2 ((zdU w d m).map zag))):=by
 refine zfn zws (zcY _) ?_;(repeat(first|refine ze ?_|refine zgo ?_));refine zcn 83 2 (i:=7) rfl ?_;simp only[lzy,zAC9,zAE9,zAG9,zAM9,zAF9,zAH9,zAI9];refine zK (zbd (fun n s=>∃(q:Nat) (V:List PV) (g:Nat) (G:List zu),n=m-q/\d+q+1<=m/\V=(dnL w d q).map zag/\s.tm 0=wv p w/\s.tm 2=iv m/\s.tm 7=.sl 0 g 0 V.length (2*V.length) 2/\s.tm 8=iv ((d+q:Nat):Int)/\s.df=[]/\s.H=.row 83 2 g 0 V::G) (n:=m) ?_ ?_)
 ·exact⟨0,[],0,_,rfl,hd,rfl,by simp[upd,zB],by simp[upd,zB],by simp[upd],by simp[upd,zB],rfl,rfl⟩
 ·rintro n ⟨tm,df,H⟩ ⟨q,V,g,G,rfl,hq,hV,h0,h2,h7,h8,rfl,rfl⟩;dsimp only at h0 h2 h7 h8;have hVl:V.length=2*q:=by rw[hV,zAA9,zj4]
  by_cases hlt:d+q+2<=m
  ·have g1:((d+q:Nat):Int)<=(m:Int)-2:=by omega
   have hs:=zoj w d q;generalize hj:d+q=j at *
   have w1:IntKind.i64.wrap (2*(j:Int))=((2*j:Nat):Int):=by rw[wrap_i64 (by omega) (by omega)];omega
   have w2:IntKind.i64.wrap (((2*j:Nat):Int)+1)=((2*j+1:Nat):Int):=by rw[wrap_i64 (by omega) (by omega)];omega
   have w3:IntKind.i64.wrap (((2*j:Nat):Int)+2)=((2*j+2:Nat):Int):=by rw[wrap_i64 (by omega) (by omega)];omega
   have w4:IntKind.i64.wrap (((2*j:Nat):Int)+3)=((2*j+3:Nat):Int):=by rw[wrap_i64 (by omega) (by omega)];omega
   have c2:2*j+2<w.length:=by omega
   have c3:2*j+3<w.length:=by omega
   have z2:=zck c2;have z3:=zck c3;have hb:(V.length+2)*17<=140737488355328:=by omega
   generalize w.getD (2*j+2) 0=a at *
   generalize w.getD (2*j+3) 0=b at *
   (try refine zaa ?_);refine ze (zb ?_);refine zfx ?_ (by simp(disch:=omega)only[go_sem,h2,h8,g1]<;>rfl);refine zd ?_;refine zae (by simp only[go_sem]<;>rfl) ?_ ?_
   ·intro _;(repeat refine ze ?_);refine zK ?_;(repeat refine ze ?_);refine zap ?_;refine zda ?_ (by simp(disch:=omega)only[go_sem,h0,h7,h8,w1,w2,w3,w4,c2,c3,z2,z3,hb,zf,zAA9]<;>rfl);refine zdl ?_ (by simp(disch:=omega)only[go_sem,h0]<;>rfl);refine zR ?_;simp only[zo,zW,zg,go_sem];(repeat refine ze ?_);refine zrg ?_ (by simp(disch:=omega)only[go_sem,h8]<;>rfl);refine zG ?_;simp only[zg,zj,zh,zi,zo,zk,if_true,↓reduceIte];refine⟨_,?m1,q+1,V++[zag (2*j,a),zag (2*j+1,b)],g+1,?G2,rfl,by omega,(by rw[hs,hV];simp),by simp[upd,h0],by simp[upd,h2],by simp[upd],?T,trivial,?H⟩
    case m1=>omega
    case T=>rw[show d+(q+1)=j+1 by omega];simp[upd,h8]
    case H=>rfl
   ·intro h;cases h
  ·have g1:¬((d+q:Nat):Int)<=(m:Int)-2:=by omega
   have hsh:(zdU w d m).map zag=V++[zag (2*m-1,0)]:=by unfold zdU;rw[show m-1-d=q by omega,hV];simp
   have w1:IntKind.i64.wrap (2*(m:Int))=((2*m:Nat):Int):=by rw[wrap_i64 (by omega) (by omega)];omega
   have w2:IntKind.i64.wrap (((2*m:Nat):Int)-1)=((2*m-1:Nat):Int):=by rw[wrap_i64 (by omega) (by omega)];omega
   have hb:(V.length+1)*17<=140737488355328:=by omega
   (try refine zaa ?_);refine ze (zb ?_);refine zfx ?_ (by simp(disch:=omega)only[go_sem,h2,h8,g1]<;>rfl);refine zd ?_;refine zae (by simp only[go_sem]<;>rfl) ?_ ?_
   ·intro h;cases h
   intro _;simp only[zg,zj,zh,zi,zo,zk,if_true,reduceIte];(repeat(first|refine ze ?_|refine zgo ?_ (by simp(disch:=omega)only[go_sem,h2,h7,w1,w2,hb,zf]<;>rfl)));refine zF ?_;(try simp only[zg,zj,zh,zi,zk]);refine zq (by simp only[T142,zI,go_sem]<;>rfl) ?_;simp only[zP];have hfl:∀v∈(V++[zag (2*m-1,0)]).flatMap PV.cells,Id0 v:=by rw[<- hsh];exact zcX
   rw[hsh];exact Frz.whole rfl rfl (by simp) (by simp) (fun v hv=>by rw[<- hsh]at hv;obtain⟨x,_,rfl⟩:=zAS9.1 hv;rfl) hfl
def zdj (left:Nat)(w:List Nat)(key:Nat):List Pr×Nat :=
 if zbW left w=0 then(if sIs (zaB left w) key=true then((2*zct (zaB left w) key+1,zb0 left w (zct (zaB left w) key))::zdU w (zct (zaB left w) key) (zaB left w).length,0)else([],5))else([],zbW left w)
theorem zhm {left:Nat}{w:List Nat}(h:zbW left w=0):zbG left w.length=true:=by
 unfold zbW at h
 split at h
 ·assumption
 ·cases h
theorem zpf {l:List Pr}{key:Nat}(h:sIs l key=true):zct l key<l.length:=by
 unfold sIs at h
 split at h
 ·rename_i x hx;exact(zAD9.1 hx).1
 ·cases h
theorem zkS (left:Nat)(w:List Nat):2*(zaB left w).length<=w.length:=by
 have:=zdB w 0 left;have h2:=congrArg List.length (zcj w 0 left);rw[zAA9]at h2;omega
set_option maxHeartbeats 1000000 in
theorem zrT (p left key:Nat)(w:List Nat)(hw:w.length<1000000):FN ET 94 [uv left,wv p w,uv key] (.ret (.tuple [.list 0 2 ((zdj left w key).1.map zag),iv ((zdj left w key).2:Nat)])):=by
 refine zfn f94 (Lb.two (zcY _) (.int _ _)) ?_;have hC:=zhS p left w hw;have hRd:=zfs p left w hw;(repeat(first|refine ze ?_|refine zgo ?_));(repeat refine ze ?_);refine zrg ?_;refine zca hC ?_;refine zfx ?_;refine zd ?_
 by_cases hc0:zbW left w=0
 rotate_left
 ·have g:¬(zbW left w:Int)=0:=by omega
  (repeat(first|refine ze ?_|refine zgo ?_ (by simp(disch:=omega)only[go_sem,g]<;>rfl)));refine zfc ?_ ?_;rotate_left
  ·intro h;cases h
  intro _;(repeat(first|refine ze ?_|refine zgo ?_));refine zF ?_;(try simp only[zg,zj,zh,zi,zk]);refine zq (by simp only[T94,zI,go_sem]<;>rfl) ?_;simp only[zP];have:zdj left w key=([],zbW left w):=by unfold zdj;rw[if_neg hc0]
  rw[this];exact Frz.tupL ⟨.nil _ _,.int _ _,trivial⟩
 have g:(zbW left w:Int)=0:=by omega
 (repeat(first|refine ze ?_|refine zgo ?_ (by simp(disch:=omega)only[go_sem,g]<;>rfl)));refine zfc ?_ ?_
 ·intro h;cases h
 intro _;refine zQ ?_;show W _ _ _ _ _ _;have hr:=zhm hc0;have hst:zdj left w key=if sIs (zaB left w) key=true then((2*zct (zaB left w) key+1,zb0 left w (zct (zaB left w) key))::zdU w (zct (zaB left w) key) (zaB left w).length,0)else([],5):=by unfold zdj;rw[if_pos hc0]
 rw[hst];have hLl:=zgW hr;have hL2:=zkS left w;clear hst g hC;generalize zaB left w=L at *
 have hF:=zlK 0 key L (by omega);(repeat refine ze ?_);refine zrg ?_;refine zca hRd ?_;refine zfx ?_;refine zd ?_;(repeat refine ze ?_);refine zrg ?_;refine zca hF ?_;refine zfx ?_;refine zd ?_
 by_cases his:sIs L key=true
 rotate_left
 ·have his:sIs L key=false:=by simpa using his
  rw[if_neg (by rw[his];decide),his];(repeat(first|refine ze ?_|refine zgo ?_));refine zfc ?_ ?_;rotate_left
  ·intro h;cases h
  intro _;(repeat(first|refine ze ?_|refine zgo ?_));refine zF ?_;(try simp only[zg,zj,zh,zi,zk]);refine zq (by simp only[T94,zI,go_sem]<;>rfl) ?_;simp only[zP];exact Frz.tupL ⟨.nil _ _,.int _ _,trivial⟩
 have hfl:=zpf his;rw[if_pos his,his];generalize zct L key=i at *
 (repeat(first|refine ze ?_|refine zgo ?_));refine zfc ?_ ?_
 ·intro h;cases h
 intro _;refine zQ ?_;show W _ _ _ _ _ _;have w2:IntKind.i64.wrap (2*(i:Int))=((2*i:Nat):Int):=by rw[wrap_i64 (by omega) (by omega)];omega
 have w3:IntKind.i64.wrap (((2*i:Nat):Int)+1)=((2*i+1:Nat):Int):=by rw[wrap_i64 (by omega) (by omega)];omega
 have hah:=zhY p left w i (by omega) (by omega);have hsh:=zpU p i L.length w hw hfl hL2;have hsl:(zdU w i L.length).length=2*(L.length-1-i)+1:=by unfold zdU;rw[zAC9,zj4];rfl
 generalize zdU w i L.length=S at *
 have hne:¬S.length=0:=by omega
 have hb:(1+S.length)*17<=140737488355328:=by omega
 (repeat refine ze ?_);refine zrg ?_ (by simp(disch:=omega)only[go_sem,w2,w3,zAA9]<;>rfl);refine zca hah ?_;refine zfx ?_ (by simp(disch:=omega)only[go_sem,w2,w3,zAA9]<;>rfl);refine zca hsh ?_;refine zfx ?_ (by simp(disch:=omega)only[go_sem,hne,hb,zAA9,zf]<;>rfl);refine zd ?_;refine zF ?_;(try simp only[zg,zj,zh,zi,zk]);refine zq (by simp only[T94,zI,go_sem]<;>rfl) ?_;simp only[zP];refine Frz.tupL ⟨?_,.int _ _,trivial⟩;have hS:((2*i+1,zb0 left w i)::S).map zag=[zag (2*i+1,zb0 left w i)]++S.map zag:=rfl;have hfl2:∀v∈([zag (2*i+1,zb0 left w i)]++S.map zag).flatMap PV.cells,Id0 v:=by rw[<- hS];exact zcX
 rw[hS];exact Frz.whole rfl rfl (by simp;omega) (by simp;omega) (fun v hv=>by rw[<- hS]at hv;obtain⟨x,_,rfl⟩:=zAS9.1 hv;rfl) hfl2
theorem zwp:ET.funcs.get 144=some T144:=z9 (by kernel_rfl) (by decide)
theorem zwy:ET.funcs.get 103=some T103:=z9 (by kernel_rfl) (by decide)
theorem f61:ET.funcs.get 61=some T61:=z9 (by kernel_rfl) (by decide)
theorem zkL (x:Nat):FN ET 144 [uv x] (.ret (.bool (zcK x))):=by
 refine zfn zwp (.bool _) ?_
 by_cases h:1<=x
 ·have g:(1:Int)<=x:=by omega
  by_cases h2:x<=2047
  ·have g2:(x:Int)<=2047:=by omega
   (repeat(first|refine ze ?_|refine zgo ?_ (by simp(disch:=omega)only[go_sem,g,g2]<;>rfl)));refine zF ?_;(try simp only[zg,zj,zh,zi,zk]);refine zq (by simp only[T144,zI,go_sem]<;>rfl) ?_;simp only[zP];exact zbo.bool (by simp[zcK,h];omega)
  ·have g2:¬(x:Int)<=2047:=by omega
   (repeat(first|refine ze ?_|refine zgo ?_ (by simp(disch:=omega)only[go_sem,g,g2]<;>rfl)));refine zF ?_;(try simp only[zg,zj,zh,zi,zk]);refine zq (by simp only[T144,zI,go_sem]<;>rfl) ?_;simp only[zP];exact zbo.bool (by simp[zcK,h];omega)
 ·have g:¬(1:Int)<=x:=by omega
  (repeat(first|refine ze ?_|refine zgo ?_ (by simp(disch:=omega)only[go_sem,g]<;>rfl)));refine zF ?_;(try simp only[zg,zj,zh,zi,zk]);refine zq (by simp only[T144,zI,go_sem]<;>rfl) ?_;simp only[zP];exact zbo.bool (by simp[zcK,h])
def zhu (lv x:Nat):Bool:=if lv=0 then decide (1<=x)&&decide (x<=1099511627776)else zcK x
theorem zky (lv x:Nat):FN ET 99 [iv lv,uv x] (.ret (.bool (zhu lv x))):=by
 by_cases h:lv=0
 ·subst h;exact zcU x
 have g:¬(lv:Int)=0:=by omega
 have:zhu lv x=zcK x:=by unfold zhu;rw[if_neg h]
 rw[this];refine zfn f99 (.bool _) ?_;(repeat(first|refine ze ?_|refine zgo ?_ (by simp(disch:=omega)only[go_sem,g]<;>rfl)));refine zfc ?_ ?_
 ·intro h;cases h
 intro _;refine zQ ?_;show W _ _ _ _ _ _;(repeat refine ze ?_);refine zrg ?_;refine zca (zkL x) ?_;refine zfx ?_;refine zd ?_;refine zF ?_;(try simp only[zg,zj,zh,zi,zk]);refine zq (by simp only[T99,zI,go_sem]<;>rfl) ?_;simp only[zP];exact Frz.bool _
def zdN (w:List Nat):Bool:=decide (w.length=64)&&decide (7522529147838689024<=w.getD 0 0)&&decide (w.getD 0 0<=7522529147838689024+12)&&decide (w.getD 1 0<=2047)&&decide (w.getD 4 0<=2)&&decide (w.getD 5 0=0)&&decide (w.getD 6 0=0)&&decide (w.getD 7 0=0)
def zeF (lv x:Nat):Bool:=(decide (lv=0)&&decide (x=9223372036854775808))||(decide (0<lv)&&zcK x)
theorem mp0 (lv a:Nat):zcC 0 lv a=(decide (7522529147838689024<=a)&&decide (a<=7522529147838689024+12)):=by rw[zcC]
theorem mp3 (lv a:Nat):zcC 3 lv a=zeF lv a:=by rw[zcC,zeF]
theorem mp1 (lv a:Nat):zcC 1 lv a=decide (a<=2047):=by
 rw[zcC,zDN9,decide_eq_true_eq,decide_eq_true_eq];omega
theorem mp4 (lv a:Nat):zcC 4 lv a=decide (a<=2):=by rw[zcC];all_goals (intro h;cases h)
theorem zhX (w:List Nat):zbP w=(zdN w&&zeF (zgq (w.getD 0 0)) (w.getD 3 0)):=by
 by_cases hl:w.length=64
 rotate_left
 ·unfold zbP zdN;rw[decide_eq_false hl];simp only[zFC9]
 obtain⟨lv,hlv⟩:=zq6 w;rw[zpL w hl lv hlv,<- hlv];have h567:((w.take 8).drop 5)=[w.getD 5 0,w.getD 6 0,w.getD 7 0]:=by
  apply List.ext_getElem
  ·simp;omega
  ·intro i h1 h2;simp only[List.getElem_drop,zFY9,zAQ9]
   match i,h2 with
   | 0,_=>simp[zAB9 (show 5<w.length by omega)]
   | 1,_=>simp[zAB9 (show 6<w.length by omega)]
   | 2,_=>simp[zAB9 (show 7<w.length by omega)]
 have hr:List.range 5=[0,1,2,3,4]:=rfl;rw[h567,hr];unfold zdN;rw[decide_eq_true hl,zBW9];simp only[List.any_cons,List.any_nil,List.all_cons,List.all_nil,Bool.and_true,zCT9];rw[mp0,mp1,mp3,mp4];have m2:zcC 2 lv (w.getD 2 0)=true:=rfl;rw[m2];generalize w.getD 0 0=a0;generalize w.getD 5 0=a5;generalize w.getD 6 0=a6;generalize w.getD 7 0=a7;generalize decide (7522529147838689024<=a0)=b0;generalize decide (a0<=7522529147838689024+12)=b1;generalize decide (w.getD 1 0<=2047)=b2;generalize decide (w.getD 4 0<=2)=b3;generalize zeF lv (w.getD 3 0)=b4
 by_cases h5:a5=0<;>by_cases h6:a6=0<;>by_cases h7:a7=0<;>simp[h5,h6,h7]<;>cases b0<;>cases b1<;>cases b2<;>cases b3<;>cases b4<;>rfl
set_option maxHeartbeats 4000000 in
theorem zeT (p:Nat)(w:List Nat)(hw:zbH w.length):FN ET 103 [wv p w] (zdG w):=by
 refine zfn zwy ?_ ?_
 ·unfold zdG;split
  ·exact Lb.two (Lb.node _) (.int _ _)
  ·exact Lb.two (Lb.node _) (.int _ _)
 have hsp:=zhX w;(repeat(first|refine ze ?_|refine zgo ?_));(repeat refine ze ?_);refine zbN (Q:=fun y s'=>y=.norm/\s'.tm 49=.bool (!zdN w)/\s'.tm 0=wv p w/\s'.tm 2=.ptr 0 0 0 0 6/\s'.df=[]/\s'.H=[.row 124 6 0 0 [zfi]]) (zb ?_) ?_
 ·have h0:True:=trivial;have fin:∀(tm:Nat->PV) (b:Bool),b=zdN w->tm 49=.bool (!b)->tm 0=wv p w->tm 2=.ptr 0 0 0 0 6->(FX.norm=FX.norm/\tm 49=.bool (!zdN w)/\tm 0=wv p w/\tm 2=.ptr 0 0 0 0 6/\([]:List FD)=[]/\[zu.row 124 6 0 0 [zfi]]=[.row 124 6 0 0 [zfi]]):=fun tm b hb h49 h0 h2=>⟨rfl,by rw[h49,hb],h0,h2,rfl,rfl⟩
  by_cases hl:w.length=64
  rotate_left
  ·have g:¬(w.length:Int)=64:=by omega
   refine zfx ?_ (by simp(disch:=omega)only[go_sem,g,zAA9]<;>rfl);refine zG ?_;exact fin _ false (by unfold zdN;rw[decide_eq_false hl];rfl) (by simp[upd]) (by simp[upd,zB]) (by simp[upd])
  have g:(w.length:Int)=64:=by omega
  have c0:0<w.length:=by omega
  have c1:1<w.length:=by omega
  have c4:4<w.length:=by omega
  have c5:5<w.length:=by omega
  have c6:6<w.length:=by omega
  have c7:7<w.length:=by omega
  have z0:=zck c0;have z1:=zck c1;have z4:=zck c4;have z5:=zck c5;have z6:=zck c6;have z7:=zck c7;have h8:zdN w=(decide (7522529147838689024<=w.getD 0 0)&&decide (w.getD 0 0<=7522529147838689024+12)&&decide (w.getD 1 0<=2047)&&decide (w.getD 4 0<=2)&&decide (w.getD 5 0=0)&&decide (w.getD 6 0=0)&&decide (w.getD 7 0=0)):=by unfold zdN;rw[decide_eq_true hl,zBW9]
  generalize zdN w=hd at *
  generalize w.getD 0 0=a0 at *
  generalize w.getD 1 0=a1 at *
  generalize w.getD 4 0=a4 at *
  generalize w.getD 5 0=a5 at *
  generalize w.getD 6 0=a6 at *
  generalize w.getD 7 0=a7 at *
  by_cases b0:7522529147838689024<=a0
  rotate_left
  ·have g0:(a0:Int)<7522529147838689024:=by omega
   refine zfx ?_ (by simp(disch:=omega)only[go_sem,g,hl,c0,z0,g0,zAA9]<;>rfl);refine zG ?_;exact fin _ false (by rw[h8,decide_eq_false b0];rfl) (by simp[upd]) (by simp[upd,zB]) (by simp[upd])
  have g0:¬(a0:Int)<7522529147838689024:=by omega
  rw[decide_eq_true b0]at h8
  by_cases b1:a0<=7522529147838689024+12
  rotate_left
  ·have g1:(7522529147838689036:Int)<a0:=by omega
   refine zfx ?_ (by simp(disch:=omega)only[go_sem,g,hl,c0,z0,g0,g1,zAA9]<;>rfl);refine zG ?_;exact fin _ false (by rw[h8,decide_eq_false b1];simp) (by simp[upd]) (by simp[upd,zB]) (by simp[upd])
  have g1:¬(7522529147838689036:Int)<a0:=by omega
  rw[decide_eq_true b1]at h8
  by_cases b2:a1<=2047
  rotate_left
  ·have g2:(2047:Int)<a1:=by omega
   refine zfx ?_ (by simp(disch:=omega)only[go_sem,g,hl,c0,z0,g0,g1,c1,z1,g2,zAA9]<;>rfl);refine zG ?_;exact fin _ false (by rw[h8,decide_eq_false b2];simp) (by simp[upd]) (by simp[upd,zB]) (by simp[upd])
  have g2:¬(2047:Int)<a1:=by omega
  rw[decide_eq_true b2]at h8
  by_cases b4:a4<=2
  rotate_left
  ·have g4:(2:Int)<a4:=by omega
   refine zfx ?_ (by simp(disch:=omega)only[go_sem,g,hl,c0,z0,g0,g1,c1,z1,g2,c4,z4,g4,zAA9]<;>rfl);refine zG ?_;exact fin _ false (by rw[h8,decide_eq_false b4];simp) (by simp[upd]) (by simp[upd,zB]) (by simp[upd])
  have g4:¬(2:Int)<a4:=by omega
  rw[decide_eq_true b4]at h8
  by_cases b5:a5=0
  rotate_left
  ·have g5:¬(a5:Int)=0:=by omega
   refine zfx ?_ (by simp(disch:=omega)only[go_sem,g,hl,c0,z0,g0,g1,c1,z1,g2,c4,z4,g4,c5,z5,g5,zAA9]<;>rfl);refine zG ?_;exact fin _ false (by rw[h8,decide_eq_false b5];simp) (by simp[upd]) (by simp[upd,zB]) (by simp[upd])
  have g5:(a5:Int)=0:=by omega
  rw[decide_eq_true b5]at h8
  by_cases b6:a6=0
  rotate_left
  ·have g6:¬(a6:Int)=0:=by omega
   refine zfx ?_ (by simp(disch:=omega)only[go_sem,g,hl,c0,z0,g0,g1,c1,z1,g2,c4,z4,g4,c5,z5,g5,c6,z6,g6,zAA9]<;>rfl);refine zG ?_;exact fin _ false (by rw[h8,decide_eq_false b6];simp) (by simp[upd]) (by simp[upd,zB]) (by simp[upd])
  have g6:(a6:Int)=0:=by omega
  rw[decide_eq_true b6]at h8
  by_cases b7:a7=0
  rotate_left
  ·have g7:¬(a7:Int)=0:=by omega
   refine zfx ?_ (by simp(disch:=omega)only[go_sem,g,hl,c0,z0,g0,g1,c1,z1,g2,c4,z4,g4,c5,z5,g5,c6,z6,g6,c7,z7,g7,zAA9]<;>rfl);refine zG ?_;exact fin _ false (by rw[h8,decide_eq_false b7];simp) (by simp[upd]) (by simp[upd,zB]) (by simp[upd])
  have g7:(a7:Int)=0:=by omega
  rw[decide_eq_true b7]at h8;refine zfx ?_ (by simp(disch:=omega)only[go_sem,g,hl,c0,z0,g0,g1,c1,z1,g2,c4,z4,g4,c5,z5,g5,c6,z6,g6,c7,z7,g7,zAA9]<;>rfl);refine zG ?_;exact fin _ true (by rw[h8];rfl) (by simp[upd]) (by simp[upd,zB]) (by simp[upd])
 rintro y ⟨tm,df,H⟩ ⟨rfl,h49,h0,h2,rfl,rfl⟩;dsimp only at h49 h0 h2;simp only[zg,zj,zh,zi,zo,zk,if_true,reduceIte];have badE:zbP w=false->zdG w=.ret (.tuple [za7 0 zi8,iv 210]):=fun h=>by unfold zdG;rw[if_neg (by rw[h];decide)]
 by_cases h8:zdN w=true
 rotate_left
 ·have h8:zdN w=false:=by simpa using h8
  rw[h8]at h49 hsp;refine zfc ?_ ?_ (by simp only[go_sem,h49]<;>rfl);rotate_left
  ·intro h;cases h
  intro _;(repeat(first|refine ze ?_|refine zgo ?_ (by simp(disch:=omega)only[go_sem,h2]<;>rfl)));refine zF ?_;(try simp only[zg,zj,zh,zi,zk]);refine zq (vs:=[zfi,iv 210]) ?_ ?_
  ·simp only[T103,zI,go_sem,h2];rfl
  rw[badE hsp];exact zmB
 rw[h8]at h49;refine zfc ?_ ?_ (by simp only[go_sem,h49]<;>rfl)
 ·intro h;cases h
 intro _;refine zQ ?_;show W _ _ _ _ _ _;rw[h8,zBW9]at hsp;have h8':=h8;unfold zdN at h8';simp only[zAR9,decide_eq_true_eq]at h8';obtain⟨⟨⟨⟨⟨⟨⟨hl,b0⟩,b1⟩,b2⟩,b4⟩,_⟩,_⟩,_⟩:=h8';obtain⟨lv,hlv⟩:=zq6 w;have hN:=zpr w lv hlv;rw[<- hlv]at hsp;have hlv2:lv=w.getD 0 0-7522529147838689024:=by rw[hlv,zmF]
 have okE:zbP w=true->zdG w=.ret (.tuple [za7 0 (zai w),iv 0]):=fun h=>by unfold zdG;rw[if_pos h]
 rw[hN]at okE;have c0:0<w.length:=by omega
 have c1:1<w.length:=by omega
 have c2:2<w.length:=by omega
 have c3:3<w.length:=by omega
 have c4:4<w.length:=by omega
 have z0:=zck c0;have z1:=zck c1;have z2:=zck c2;have z3:=zck c3;have z4:=zck c4;have q0:IntKind.i64.wrap (IntKind.u64.wrap ((w.getD 0 0:Int)-7522529147838689024))=(lv:Int):=by
  rw[zL (by omega) (by omega),wrap_i64 (by omega) (by omega)];omega
 have q0a:IntKind.u64.wrap ((w.getD 0 0:Int)-7522529147838689024)=(lv:Int):=by
  rw[zL (by omega) (by omega)];omega
 have hl12:lv<=12:=by omega
 clear hlv hlv2 h8 h49;have hd8:List.drop 8 (List.map uv w)=(w.drop 8).map uv:=by rw[zCO9]
 have hRd:=zfs p (w.getD 3 0) (w.drop 8) (by rw[zCA9];omega);have hdl:(w.drop 8).length=56:=by rw[zCA9];omega
 have hle8:8<=w.length:=by omega
 generalize w.getD 0 0=a0 at *
 generalize w.getD 1 0=a1 at *
 generalize w.getD 2 0=a2 at *
 generalize w.getD 3 0=a3 at *
 generalize w.getD 4 0=a4 at *
 (repeat refine ze ?_);refine zap ?_;refine zda ?_ (by simp(disch:=omega)only[go_sem,h0,h2,c0,c1,c2,c3,c4,z0,z1,z2,z3,z4,q0,q0a,zf,zn,zAA9]<;>rfl);refine zdl ?_ (by simp(disch:=omega)only[go_sem,h0]<;>rfl);refine zR ?_;simp only[zo,zW,zg,go_sem];have stop:∀(tm:Nat->PV) (H:List zu) (o:zu) (k:FSt->Prop),zbP w=false->tm 2=.ptr 0 0 0 0 6->H=[zu.row 124 6 0 0 [zfi],o]->W ET ET.caught none (.seq (.region [⟨some 90,.build [.int .i64 0,.int .i64 0,.int .u64 0,.int .u64 0,.int .i64 0,.nilsl] [],[],none⟩,⟨none,.store 6,[.tmp 2,.tmp 90],none⟩,⟨some 3,.mov,[.const (.int .i64 210)],none⟩]) .ret) ⟨tm,[],H⟩ (zg k (zdI ET T103 fun e' H=>zbo H 0 e' (zdG w))):=fun tm H o k hb h2 hH=>by
  subst hH;(repeat(first|refine ze ?_|refine zgo ?_ (by simp(disch:=omega)only[go_sem,h2]<;>rfl)));refine zF ?_;(try simp only[zg,zj,zh,zi,zk]);refine zq (vs:=[zfi,iv 210]) ?_ ?_
  ·simp only[T103,zI,go_sem,h2];rfl
  rw[badE hb];exact zmB
 have hgo:zeF lv a3=true->a3≠0:=fun h=>by
  unfold zeF at h;simp only[zEK9,zAR9,decide_eq_true_eq,zdE]at h;omega
 have hrd:a3≠0->zbO a3 (w.drop 8)=zaB a3 (w.drop 8):=fun h=>by
  unfold zbO;rw[if_pos (by unfold zbG;rw[hdl];simp[h])]
 by_cases hz:lv=0
 ·have g0:(lv:Int)=0:=by omega
  have g0':¬(0:Int)<(lv:Int):=by omega
  by_cases he:a3=9223372036854775808
  rotate_left
  ·have ge:¬(a3:Int)=9223372036854775808:=by omega
   (repeat refine ze ?_);refine zgo ?_ (by simp(disch:=omega)only[go_sem,g0,g0',ge,zf]<;>rfl);refine zfc ?_ ?_;rotate_left
   ·intro h;cases h
   intro _;refine stop _ _ ?so1 _ ?sa1 ?sb1 ?sc1
   case sc1=>rfl
   case sa1=>rw[hsp];simp[zeF,hz,he]
   case sb1=>simp[upd,h2]
  have ge:(a3:Int)=9223372036854775808:=by omega
  have hh:zeF lv a3=true:=by unfold zeF;simp[hz,he]
  rw[hh]at hsp;rw[okE hsp,hrd (hgo hh)];(repeat refine ze ?_);refine zgo ?_ (by simp(disch:=omega)only[go_sem,g0,g0',ge,zf]<;>rfl);refine zfc ?_ ?_
  ·intro h;cases h
  intro _;refine zQ ?_;show W _ _ _ _ _ _;(repeat refine ze ?_);refine zap ?_;refine zdn hRd ?_ (by simp(disch:=omega)only[go_sem,h0,h2,hd8,hle8,zf,zn,zAA9]<;>rfl);refine zda ?_ (by simp(disch:=omega)only[go_sem,h0,h2,zf,zn]<;>rfl);refine zdl ?_ (by simp(disch:=omega)only[go_sem,h0,zBX9,zCF9,zBV9,zCG9,zCT9,Nat.reduceBEq,zT,zS,zO]<;>rfl) (by first|exact trivial|simp only[go_sem,h0,zBX9,zCF9,zBV9,zCG9,zCT9,Nat.reduceBEq,zT,zS,zO]);refine zR ?_;simp only[zo,zW,zg,go_sem];(repeat(first|refine ze ?_|refine zgo ?_ (by simp(disch:=omega)only[go_sem,h2,zf,zn]<;>rfl)));refine zF ?_;(try simp only[zg,zj,zh,zi,zk]);refine zq (vs:=?_) ?_ ?_;rotate_left
  ·simp only[T103,zI,go_sem,h2];rfl
  exact Frz.tupL ⟨Frz.aggL ⟨(by subst hz;exact .int _ _),.int _ _,.int _ _,.int _ _,.int _ _,.list _ _ _,trivial⟩,.int _ _,trivial⟩
 ·have g0:¬(lv:Int)=0:=by omega
  have g0':(0:Int)<(lv:Int):=by omega
  (repeat refine ze ?_);refine zb ?_;refine zfx ?_ (by simp(disch:=omega)only[go_sem,g0,g0',zf]<;>rfl);refine zca (zkL a3) ?_
  by_cases hb:zcK a3=true
  rotate_left
  ·have hb:zcK a3=false:=by simpa using hb
   rw[hb];refine zfx ?_;refine zd ?_;refine zfc ?_ ?_;rotate_left
   ·intro h;cases h
   intro _;refine stop _ _ ?so2 _ ?sa2 ?sb2 ?sc2
   case sc2=>rfl
   case sa2=>rw[hsp];simp[zeF,hz,hb]
   case sb2=>simp[upd,h2]
  have hh:zeF lv a3=true:=by unfold zeF;rw[hb];simp;omega
  rw[hh]at hsp;rw[okE hsp,hrd (hgo hh),hb];refine zfx ?_;refine zd ?_;refine zfc ?_ ?_
  ·intro h;cases h
  intro _;refine zQ ?_;show W _ _ _ _ _ _;(repeat refine ze ?_);refine zap ?_;refine zdn hRd ?_ (by simp(disch:=omega)only[go_sem,h0,h2,hd8,hle8,zf,zn,zAA9]<;>rfl);refine zda ?_ (by simp(disch:=omega)only[go_sem,h0,h2,zf,zn]<;>rfl);refine zdl ?_ (by simp(disch:=omega)only[go_sem,h0,zBX9,zCF9,zBV9,zCG9,zCT9,Nat.reduceBEq,zT,zS,zO]<;>rfl) (by first|exact trivial|simp only[go_sem,h0,zBX9,zCF9,zBV9,zCG9,zCT9,Nat.reduceBEq,zT,zS,zO]);refine zR ?_;simp only[zo,zW,zg,go_sem];(repeat(first|refine ze ?_|refine zgo ?_ (by simp(disch:=omega)only[go_sem,h2,zf,zn]<;>rfl)));refine zF ?_;(try simp only[zg,zj,zh,zi,zk]);refine zq (vs:=?_) ?_ ?_;rotate_left
  ·simp only[T103,zI,go_sem,h2];rfl
  exact Frz.tupL ⟨Frz.aggL ⟨.int _ _,.int _ _,.int _ _,.int _ _,.int _ _,.list _ _ _,trivial⟩,.int _ _,trivial⟩
theorem zvP:ET.funcs.get 119=some T119:=z9 (by kernel_rfl) (by decide)
theorem f95:ET.funcs.get 95=some T95:=z9 (by kernel_rfl) (by decide)
theorem f96:ET.funcs.get 96=some T96:=z9 (by kernel_rfl) (by decide)
theorem znw (n:zE)(q:Pr):zcv n q=(zhu n.level q.2 && !decide (q.1<n.low) && !(decide (0<n.level)&&decide (q.1=n.low))):=by
 unfold zcv zhu
 by_cases h:n.level=0
 ·rw[if_pos h,if_pos h,h,zDN9];simp
 ·rw[if_neg h,if_neg h,decide_eq_true (show 0<n.level by omega),zBW9]
  by_cases b1:n.low<q.1
  ·rw[decide_eq_true b1,decide_eq_false (show ¬q.1<n.low by omega),decide_eq_false (show ¬q.1=n.low by omega)];simp
  ·rw[decide_eq_false b1,Bool.and_false]
   by_cases b3:q.1=n.low
   ·rw[decide_eq_true b3];simp
   ·rw[decide_eq_true (show q.1<n.low by omega)];simp
theorem zk5 {w:List Nat}(h:zbP w=false):zdG w=.ret (.tuple [za7 0 zi8,iv 210]):=by unfold zdG;rw[if_neg (by rw[h];decide)]
theorem zrP (p:Nat)(w:List Nat)(hO:FN ET 103 [wv p w] (.ret (.tuple [za7 0 zi8,iv 210]))):FN ET 61 [wv p w] (.ret (iv (210:Nat))):=by
 refine zfn f61 (.int _ _) ?_;(repeat(first|refine ze ?_|refine zgo ?_));(repeat refine ze ?_);refine zrg ?_;refine zca hO ?_;refine zfx ?_;refine zd ?_;(repeat(first|refine ze ?_|refine zgo ?_));refine zfc ?_ ?_;rotate_left
 ·intro h;cases h
 intro _;(repeat(first|refine ze ?_|refine zgo ?_));refine zF ?_;(try simp only[zg,zj,zh,zi,zk]);refine zq (by simp only[T61,zI,go_sem]<;>rfl) ?_;simp only[zP];exact Frz.int _ _
def zik (n:zE)(sc:Nat):Nat:=if(decide (sc=0) && !(n.pairs.any fun q=>!zcv n q))=true then 0 else 190
set_option maxHeartbeats 1000000 in
theorem zrn (p:Nat)(w:List Nat)(n:zE)(sc:Nat)(hwl:w.length=64)(hpl:n.pairs.length<=28)(hO:FN ET 103 [wv p w] (.ret (.tuple [za7 0 n,iv 0])))(hC:FN ET 104 [uv n.left,wv p (w.drop 8)] (.ret (iv (sc:Nat)))):FN ET 61 [wv p w] (.ret (iv (zik n sc:Nat))):=by
 refine zfn f61 (.int _ _) ?_;(repeat(first|refine ze ?_|refine zgo ?_));(repeat refine ze ?_);refine zrg ?_;have hd8:List.drop 8 (List.map uv w)=(w.drop 8).map uv:=by rw[zCO9]
 have hle8:8<=w.length:=by omega
 refine zca hO ?_;refine zfx ?_;refine zd ?_;(repeat(first|refine ze ?_|refine zgo ?_));refine zfc ?_ ?_
 ·intro h;cases h
 intro _;refine zQ ?_;show W _ _ _ _ _ _;obtain⟨ok,hpk⟩:∃ok,ok=(decide (sc=0) && !(n.pairs.any fun q=>!zcv n q)):=⟨_,rfl⟩
 have hck:zik n sc=if ok=true then 0 else 190:=by unfold zik;rw[hpk]
 have bad:∀H,ok=false->zbo H 0 (.ret (iv 190)) (.ret (iv (zik n sc:Nat))):=fun H h=>by rw[hck,h];exact Frz.int _ _
 (repeat refine ze ?_);refine zap ?_
 by_cases hs:sc=0
 rotate_left
 ·have g:¬(sc:Int)=0:=by omega
  refine zdn hC ?_ (by simp(disch:=omega)only[go_sem,hd8,hle8,zAA9]<;>rfl);refine zdl ?_ (by simp(disch:=omega)only[go_sem,g]<;>rfl);refine zR ?_;simp only[zo,zW,zg,go_sem];refine zfc ?_ ?_;rotate_left
  ·intro h;simp[g]at h
  intro _;(repeat(first|refine ze ?_|refine zgo ?_));refine zF ?_;(try simp only[zg,zj,zh,zi,zk]);refine zq (by simp only[T61,zI,go_sem]<;>rfl) ?_;simp only[zP];exact bad _ (by rw[hpk,decide_eq_false hs];rfl)
 have g:(sc:Int)=0:=by omega
 rw[decide_eq_true hs,zBW9]at hpk;refine zdn hC ?_ (by simp(disch:=omega)only[go_sem,hd8,hle8,zAA9]<;>rfl);refine zdl ?_ (by simp(disch:=omega)only[go_sem,g]<;>rfl);refine zR ?_;simp only[zo,zW,zg,go_sem];refine zfc ?_ ?_
 ·intro h;simp[g]at h
 intro _;refine zQ ?_;show W _ _ _ _ _ _;(repeat(first|refine ze ?_|refine zgo ?_));refine zK (zbd (fun m s=>∃(i:Nat) (G:List zu),m=n.pairs.length-i/\i<=n.pairs.length/\ok=!((n.pairs.drop i).any fun q=>!zcv n q)/\s.tm 3=.ptr 0 0 0 0 6/\s.tm 5=iv i/\s.df=[]/\s.H=.row 124 6 0 0 [za7 0 n]::G) (n:=n.pairs.length) ?_ ?_)
 ·exact⟨0,_,rfl,zAU9 _,hpk,by simp[upd],by simp[upd],rfl,rfl⟩
 ·rintro m ⟨tm,df,H⟩ ⟨i,G,rfl,hi,hp,h3,h5,rfl,rfl⟩;dsimp only at h3 h5;(try refine zaa ?_);refine ze (zb ?_);refine zfx ?_ (by simp(disch:=omega)only[go_sem,h3,h5,zAA9]<;>rfl);refine zd ?_;refine zae (by simp only[go_sem]<;>rfl) ?_ ?_;rotate_left
  ·intro hlt;have hlt:¬i<n.pairs.length:=by have:=of_decide_eq_false hlt;omega
   obtain rfl:i=n.pairs.length:=by omega
   simp only[zg,zj,zh,zi,zo,zk,if_true,reduceIte];(repeat(first|refine ze ?_|refine zgo ?_));refine zF ?_;(try simp only[zg,zj,zh,zi,zk]);refine zq (by simp only[T61,zI,go_sem]<;>rfl) ?_;simp only[zP];rw[zCW9]at hp;rw[hck,hp];exact Frz.int _ _
  intro hlt;have hlt:i<n.pairs.length:=by have:=of_decide_eq_true hlt;omega
  obtain⟨q,hq⟩:∃q,n.pairs[i]?=some q:=⟨_,zAB9 hlt⟩
  have hqv:(n.pairs.map pv)[i]?=some (pv q):=by rw[zAL9,hq];rfl
  have hdr:n.pairs.drop i=q::n.pairs.drop (i+1):=by rw[zBB9 hlt];obtain⟨_,e⟩:=zAD9.1 hq;rw[e]
  rw[hdr,List.any_cons]at hp;have hma:=znw n q;have hRt:=zky n.level q.2;(repeat refine ze ?_);refine zK ?_;(repeat refine ze ?_);refine zb ?_;refine zfx ?_ (by simp(disch:=omega)only[go_sem,h3,h5,hqv,hlt,zf,zn,zAA9]<;>rfl);refine zd ?_;(repeat refine ze ?_);refine zbN (Q:=fun y s'=>y=.norm/\s'.tm 57=.bool (!zcv n q)/\s'.tm 3=.ptr 0 0 0 0 6/\s'.tm 5=iv i/\s'.df=[]/\∃G,s'.H=.row 124 6 0 0 [za7 0 n]::G) (zb ?_) ?_
  ·generalize zcv n q=mq at *
   refine zfx ?_ (by simp(disch:=omega)only[go_sem,h3,h5,zf,zn]<;>rfl);refine zca hRt ?_
   cases hr:zhu n.level q.2 with
   | false =>
    refine zfx ?_ (by simp(disch:=omega)only[go_sem,h3,h5,zf,zn]<;>rfl);refine zG ?_;exact⟨rfl,by rw[hma,hr];simp[upd],by simp[upd,h3],by simp[upd,h5],rfl,_,rfl⟩
   | true =>
    by_cases b1:q.1<n.low
    ·have g1:(q.1:Int)<n.low:=by omega
     refine zfx ?_ (by simp(disch:=omega)only[go_sem,h3,h5,g1,zf,zn]<;>rfl);refine zG ?_;exact⟨rfl,by rw[hma,decide_eq_true b1];simp[upd],by simp[upd,h3],by simp[upd,h5],rfl,_,rfl⟩
    have g1:¬(q.1:Int)<n.low:=by omega
    by_cases b2:0<n.level
    rotate_left
    ·have g2:¬(0:Int)<n.level:=by omega
     refine zfx ?_ (by simp(disch:=omega)only[go_sem,h3,h5,g1,g2,zf,zn]<;>rfl);refine zG ?_;exact⟨rfl,by rw[hma,hr,decide_eq_false b1,decide_eq_false b2];simp[upd],by simp[upd,h3],by simp[upd,h5],rfl,_,rfl⟩
    have g2:(0:Int)<n.level:=by omega
    by_cases b3:q.1=n.low
    ·have g3:(q.1:Int)=n.low:=by omega
     have g1':¬(n.low:Int)<n.low:=by omega
     refine zfx ?_ (by simp(disch:=omega)only[go_sem,h3,h5,g1,g1',g2,g3,zf,zn]<;>rfl);refine zG ?_;exact⟨rfl,by rw[hma,hr,decide_eq_false b1,decide_eq_true b2,decide_eq_true b3];simp[upd],by simp[upd,h3],by simp[upd,h5],rfl,_,rfl⟩
    ·have g3:¬(q.1:Int)=n.low:=by omega
     refine zfx ?_ (by simp(disch:=omega)only[go_sem,h3,h5,g1,g2,g3,zf,zn]<;>rfl);refine zG ?_;exact⟨rfl,by rw[hma,hr,decide_eq_false b1,decide_eq_true b2,decide_eq_false b3];simp[upd],by simp[upd,h3],by simp[upd,h5],rfl,_,rfl⟩
  clear h3 h5;rintro y ⟨tm,df,H⟩ ⟨rfl,h57,h3,h5,rfl,G,rfl⟩;dsimp only at h57 h3 h5;simp only[zg,zj,zh,zi,zo,zk,if_true,reduceIte]
  cases hmq:zcv n q with
  | false =>
   rw[hmq]at h57 hp;refine zfc ?_ ?_ (by simp only[go_sem,h57]<;>rfl);rotate_left
   ·intro h;cases h
   intro _;(repeat(first|refine ze ?_|refine zgo ?_));refine zF ?_;(try simp only[zg,zj,zh,zi,zk]);refine zq (by simp only[T61,zI,go_sem]<;>rfl) ?_;simp only[zP];exact bad _ (by rw[hp];rfl)
  | true =>
   rw[hmq]at h57 hp;refine zfc ?_ ?_ (by simp only[go_sem,h57]<;>rfl)
   ·intro h;cases h
   intro _;refine zQ ?_;simp only[zg,zj,zh,zi,zo,zk,if_true,reduceIte];(repeat refine ze ?_);refine zrg ?_ (by simp(disch:=omega)only[go_sem,h5]<;>rfl);refine zG ?_;simp only[zg,zj,zh,zi,zo,zk,if_true,↓reduceIte];refine⟨_,?m1,i+1,_,rfl,hlt,hp,by simp[upd,h3],by simp[upd,h5],trivial,rfl⟩
   case m1=>omega
theorem zfq (p:Nat)(w:List Nat)(hw:zbH w.length):FN ET 61 [wv p w] (.ret (iv (zbJ w:Nat))):=by
 have hO:=zeT p w hw
 by_cases hh:zbP w=true
 rotate_left
 ·have hh:zbP w=false:=by simpa using hh
  rw[zk5 hh]at hO;have:=zrP p w hO;have e:zbJ w=210:=by unfold zbJ;rw[if_neg (by rw[hh];decide)]
  rw[e];exact this
 rw[zeP _ hh]at hO;have hwl:w.length=64:=by unfold zbP at hh;simp only[zAR9,decide_eq_true_eq]at hh;exact hh.1.1
 have hC:=zhS p (zai w).left (w.drop 8) (by rw[zCA9];omega);have:=zrn p w (zai w) _ hwl (zxf w) hO hC;have e:zbJ w=zik (zai w) (zbW (zai w).left (w.drop 8)):=by unfold zbJ;rw[if_pos hh];unfold zhb zik;rfl
 rw[e];exact this
def zeC (w:List Nat)(x:Pr):Nat:=if zbJ w=0 then(if zcv (zai w) x=true then 0 else 2)else zbJ w
theorem zpV (p:Nat)(w:List Nat)(x:Pr)(c:Nat)(hc:¬c=0)(hC:FN ET 61 [wv p w] (.ret (iv (c:Nat)))):FN ET 119 [wv p w,pv x] (.ret (iv (c:Nat))):=by
 refine zfn zvP (.int _ _) ?_;(repeat(first|refine ze ?_|refine zgo ?_));(repeat refine ze ?_);refine zrg ?_;refine zca hC ?_;refine zfx ?_;refine zd ?_;have g:¬(c:Int)=0:=by omega
 (repeat(first|refine ze ?_|refine zgo ?_ (by simp(disch:=omega)only[go_sem,g]<;>rfl)));refine zfc ?_ ?_;rotate_left
 ·intro h;cases h
 intro _;(repeat(first|refine ze ?_|refine zgo ?_));refine zF ?_;(try simp only[zg,zj,zh,zi,zk]);refine zq (by simp only[T119,zI,go_sem]<;>rfl) ?_;simp only[zP];exact Frz.int _ _
set_option maxHeartbeats 1000000 in
theorem zpR (p:Nat)(w:List Nat)(x:Pr)(n:zE)(hC:FN ET 61 [wv p w] (.ret (iv (0:Nat))))(hO:FN ET 103 [wv p w] (.ret (.tuple [za7 0 n,iv 0]))):FN ET 119 [wv p w,pv x] (.ret (iv ((if zcv n x=true then 0 else 2:Nat)))):=by
 refine zfn zvP (.int _ _) ?_;have hma:=znw n x;have hRt:=zky n.level x.2;obtain⟨co,hco⟩:∃co:Nat,co=if zcv n x=true then 0 else 2:=⟨_,rfl⟩
 rw[<- hco];(repeat(first|refine ze ?_|refine zgo ?_));(repeat refine ze ?_);refine zrg ?_;refine zca hC ?_;refine zfx ?_;refine zd ?_;(repeat(first|refine ze ?_|refine zgo ?_));refine zfc ?_ ?_
 ·intro h;cases h
 intro _;refine zQ ?_;show W _ _ _ _ _ _;(repeat refine ze ?_);refine zrg ?_;refine zca hO ?_;refine zfx ?_;refine zd ?_;(repeat refine ze ?_);refine zbN (Q:=fun y s'=>y=.norm/\s'.tm 42=.bool (!zcv n x)/\s'.df=[]) (zb ?_) ?_
 ·generalize zcv n x=mq at *
  refine zfx ?_ (by simp(disch:=omega)only[go_sem,zf,zn]<;>rfl);refine zca hRt ?_
  cases hr:zhu n.level x.2 with
  | false =>
   refine zfx ?_ (by simp(disch:=omega)only[go_sem,zf,zn]<;>rfl);refine zG ?_;exact⟨rfl,by rw[hma,hr];simp[upd],rfl⟩
  | true =>
   by_cases b1:x.1<n.low
   ·have g1:(x.1:Int)<n.low:=by omega
    refine zfx ?_ (by simp(disch:=omega)only[go_sem,g1,zf,zn]<;>rfl);refine zG ?_;exact⟨rfl,by rw[hma,decide_eq_true b1];simp[upd],rfl⟩
   have g1:¬(x.1:Int)<n.low:=by omega
   by_cases b2:0<n.level
   rotate_left
   ·have g2:¬(0:Int)<n.level:=by omega
    refine zfx ?_ (by simp(disch:=omega)only[go_sem,g1,g2,zf,zn]<;>rfl);refine zG ?_;exact⟨rfl,by rw[hma,hr,decide_eq_false b1,decide_eq_false b2];simp[upd],rfl⟩
   have g2:(0:Int)<n.level:=by omega
   by_cases b3:x.1=n.low
   ·have g3:(x.1:Int)=n.low:=by omega
    have g1':¬(n.low:Int)<n.low:=by omega
    refine zfx ?_ (by simp(disch:=omega)only[go_sem,g1,g1',g2,g3,zf,zn]<;>rfl);refine zG ?_;exact⟨rfl,by rw[hma,hr,decide_eq_false b1,decide_eq_true b2,decide_eq_true b3];simp[upd],rfl⟩
   ·have g3:¬(x.1:Int)=n.low:=by omega
    refine zfx ?_ (by simp(disch:=omega)only[go_sem,g1,g2,g3,zf,zn]<;>rfl);refine zG ?_;exact⟨rfl,by rw[hma,hr,decide_eq_false b1,decide_eq_true b2,decide_eq_false b3];simp[upd],rfl⟩
 rintro y ⟨tm,df,H⟩ ⟨rfl,h42,rfl⟩;dsimp only at h42;simp only[zg,zj,zh,zi,zo,zk,if_true,reduceIte]
 cases hmq:zcv n x with
 | false =>
  rw[hmq]at h42 hco;refine zfc ?_ ?_ (by simp only[go_sem,h42]<;>rfl);rotate_left
  ·intro h;cases h
  intro _;(repeat(first|refine ze ?_|refine zgo ?_));refine zF ?_;(try simp only[zg,zj,zh,zi,zk]);refine zq (by simp only[T119,zI,go_sem]<;>rfl) ?_;simp only[zP];rw[hco];exact Frz.int _ _
 | true =>
  rw[hmq]at h42 hco;refine zfc ?_ ?_ (by simp only[go_sem,h42]<;>rfl)
  ·intro h;cases h
  intro _;refine zQ ?_;show W _ _ _ _ _ _;(repeat(first|refine ze ?_|refine zgo ?_));refine zF ?_;(try simp only[zg,zj,zh,zi,zk]);refine zq (by simp only[T119,zI,go_sem]<;>rfl) ?_;simp only[zP];rw[hco];exact Frz.int _ _
theorem zpX (p:Nat)(w:List Nat)(x:Pr)(hw:zbH w.length):FN ET 119 [wv p w,pv x] (.ret (iv (zeC w x:Nat))):=by
 have hC:=zfq p w hw;have hO:=zeT p w hw;unfold zeC
 by_cases hc:zbJ w=0
 ·rw[if_pos hc];rw[zeP _ (zdk hc)]at hO;rw[hc]at hC;exact zpR p w x _ hC hO
 ·rw[if_neg hc];exact zpV p w x _ hc hC
def zeh (w:List Nat)(v:Nat):List Pr:=if w.getD 4 0=v then[]else[(4,v)]
theorem zoX (p:Nat)(w:List Nat)(v:Nat)(hw:4<w.length)(H:List zu):FO ET 95 [wv p w,uv v] H false fun e H'=>∃(g:Nat) (G:List zu),e=.ret (.sl H.length g 0 (zeh w v).length (2*(zeh w v).length) 2)/\H'=H++.row 83 2 g 0 ((zeh w v).map zag)::G:=by
 refine zro f95 ?_;have z4:=zck hw;unfold zeh;generalize w.getD 4 0=a at *
 (repeat(first|refine ze ?_|refine zgo ?_))
 by_cases h:a=v
 ·have g:(a:Int)=v:=by omega
  rw[if_pos h];(repeat(first|refine ze ?_|refine zgo ?_ (by simp(disch:=omega)only[go_sem,hw,z4,g,zAA9]<;>rfl)));refine zfc ?_ ?_;rotate_left
  ·intro h;cases h
  intro _;(repeat(first|refine ze ?_|refine zgo ?_));refine zcn 83 2 (i:=4) rfl ?_;simp only[lzy];refine zF ?_;(try simp only[zg,zj,zh,zi,zk]);refine zq (by simp only[T95,zI,go_sem]<;>rfl) ?_;simp only[zP];exact⟨0,[],rfl,rfl⟩
 ·have g:¬(a:Int)=v:=by omega
  rw[if_neg h];(repeat(first|refine ze ?_|refine zgo ?_ (by simp(disch:=omega)only[go_sem,hw,z4,g,zAA9]<;>rfl)));refine zfc ?_ ?_
  ·intro h;cases h
  intro _;refine zQ ?_;show W _ _ _ _ _ _;(repeat(first|refine ze ?_|refine zgo ?_));refine zF ?_;(try simp only[zg,zj,zh,zi,zk]);refine zq (by simp only[T95,zI,go_sem]<;>rfl) ?_;simp only[zP];exact⟨0,[],rfl,rfl⟩
def zcy (l:List Pr):List Pr:=l.map fun x=>(x.1+8,x.2)
theorem zmb (p:Nat)(l:List Pr)(hl:l.length<1000000)(hat:∀x∈l,x.1<1000000):FN ET 96 [.list p 2 (l.map zag)] (.ret (.list 0 2 ((zcy l).map zag))):=by
 refine zfn f96 (zcY _) ?_;(repeat(first|refine ze ?_|refine zgo ?_));refine zcn 83 2 (i:=3) rfl ?_;simp only[lzy,zAC9,zAE9,zAG9,zAM9,zAF9,zAH9,zAI9];refine zK (zbd (fun m s=>∃(i:Nat) (V:List PV) (G:List zu),m=l.length-i/\i<=l.length/\V=(zcy (l.take i)).map zag/\s.tm 0=.list p 2 (l.map zag)/\s.tm 3=.sl 0 V.length 0 V.length (2*V.length) 2/\s.tm 4=iv i/\s.df=[]/\s.H=.row 83 2 V.length 0 V::G) (n:=l.length) ?_ ?_)
 ·exact⟨0,[],_,rfl,zAU9 _,rfl,by simp[upd,zB],by simp[upd],by simp[upd],rfl,rfl⟩
 ·rintro m ⟨tm,df,H⟩ ⟨i,V,G,rfl,hi,hV,h0,h3,h4,rfl,rfl⟩;dsimp only at h0 h3 h4;have hVl:V.length=i:=by rw[hV];simp[zcy];omega
  (try refine zaa ?_);refine ze (zb ?_);refine zfx ?_ (by simp(disch:=omega)only[go_sem,h0,h4,zAA9]<;>rfl);refine zd ?_;refine zae (by simp only[go_sem]<;>rfl) ?_ ?_
  ·intro hlt;have hlt:i<l.length:=by have:=of_decide_eq_true hlt;omega
   obtain⟨q,hq⟩:∃q,l[i]?=some q:=⟨_,zAB9 hlt⟩
   have hqv:(l.map zag)[i]?=some (zag q):=by rw[zAL9,hq];rfl
   have hq1:=hat q (zAO9 hq);have w1:IntKind.i64.wrap ((q.1:Int)+8)=((q.1+8:Nat):Int):=by rw[wrap_i64 (by omega) (by omega)];omega
   have hb:(V.length+1)*17<=140737488355328:=by omega
   (repeat refine ze ?_);refine zK ?_;(repeat refine ze ?_);refine zap ?_;refine zda ?_ (by simp(disch:=omega)only[go_sem,h0,h3,h4,hqv,hlt,w1,hb,zf,zAA9]<;>rfl);refine zdl ?_ (by simp(disch:=omega)only[go_sem,h0]<;>rfl);refine zR ?_;simp only[zo,zW,zg,go_sem];(repeat refine ze ?_);refine zrg ?_ (by simp(disch:=omega)only[go_sem,h4]<;>rfl);refine zG ?_;simp only[zg,zj,zh,zi,zo,zk,if_true,↓reduceIte];refine⟨_,?m1,i+1,V++[zag (q.1+8,q.2)],?G2,rfl,hlt,(by rw[zBN9,hq,hV];simp[zcy]),by simp[upd,h0],by simp[upd],by simp[upd,h4],trivial,?H⟩
   case m1=>omega
   case H=>rw[zAC9];rfl
  ·intro hlt;have hlt:¬i<l.length:=by have:=of_decide_eq_false hlt;omega
   obtain rfl:i=l.length:=by omega
   simp only[zg,zj,zh,zi,zo,zk,if_true,reduceIte];(repeat(first|refine ze ?_|refine zgo ?_ (by simp(disch:=omega)only[go_sem,h3]<;>rfl)));refine zF ?_;(try simp only[zg,zj,zh,zi,zk]);refine zq (by simp only[T96,zI,go_sem]<;>rfl) ?_;simp only[zP];rw[zBM9]at hV;rw[<- hV];exact Frz.whole rfl rfl rfl (zAK9 _) (fun v hv=>by rw[hV]at hv;obtain⟨x,_,rfl⟩:=zAS9.1 hv;rfl) (by rw[hV];exact zcX)
theorem f80:ET.funcs.get 80=some T80:=z9 (by kernel_rfl) (by decide)
theorem f47:ET.funcs.get 47=some T47:=z9 (by kernel_rfl) (by decide)
theorem f93:ET.funcs.get 93=some T93:=z9 (by kernel_rfl) (by decide)
theorem znk (l:List Pr)(i:Nat):∀m,(upL l i m).length<=2*m/\∀x∈upL l i m,x.1<=2*m+1
 | 0=>⟨zAK9 _,fun x hx=>by simp[upL]at hx⟩
 | m+1=>by
  obtain⟨h1,h2⟩:=znk l i m;rw[upL]
  split
  ·refine⟨by simp;omega,fun x hx=>?_⟩;rcases zAY9.1 hx with rfl|hx
   ·simp;omega
   rcases zAY9.1 hx with rfl|hx
   ·simp;omega
   ·have:=h2 x hx;omega
  ·exact⟨zAU9 _,fun x hx=>by simp at hx⟩
theorem zq8 {left:Nat}{w:List Nat}{x:Pr}(h:(zdt left w x).2=0):0<(zdt left w x).1.length/\(zdt left w x).1.length<=1000/\∀y∈(zdt left w x).1,y.1<1000:=by
 unfold zdt at h⊢
 by_cases hp:zcc left w x=0
 rotate_left
 ·rw[if_neg hp]at h;exact absurd h hp
 rw[if_pos hp]at h⊢;obtain⟨hr,_⟩:=zfz hp;have hl:=zgW hr
 by_cases hs:sIs (zaB left w) x.1=true
 ·rw[if_pos hs]at h;cases h
 rw[if_neg hs]at h⊢
 split at h
 ·cases h
 rename_i hlong;rw[if_neg hlong];have hf:=zkW (zaB left w) x.1;generalize zaB left w=L at *
 generalize zct L x.1=i at *
 have hu:=znk L i L.length;unfold zmf;refine⟨by simp,by simp;omega,fun y hy=>?_⟩;rcases zAY9.1 hy with rfl|hy
 ·simp;omega
 rcases zBK9.1 hy with hy|hy
 ·have:=hu.2 y hy;omega
 ·simp at hy;rcases hy with rfl|rfl|rfl<;>simp<;>omega
theorem zp9 {left:Nat}{w:List Nat}{key:Nat}(h:(zdj left w key).2=0):0<(zdj left w key).1.length/\(zdj left w key).1.length<=1000/\∀y∈(zdj left w key).1,y.1<1000:=by
 unfold zdj at h⊢
 by_cases hc:zbW left w=0
 rotate_left
 ·rw[if_neg hc]at h;exact absurd h hc
 rw[if_pos hc]at h⊢;have hl:=zgW (zhm hc)
 by_cases hs:sIs (zaB left w) key=true
 rotate_left
 ·rw[if_neg hs]at h;cases h
 rw[if_pos hs];have hf:=zpf hs;generalize zaB left w=L at *
 generalize zct L key=i at *
 refine⟨by simp,?_,fun y hy=>?_⟩
 ·simp[zdU,zj4];omega
 rcases zAY9.1 hy with rfl|hy
 ·simp;omega
 unfold zdU at hy;rcases zBK9.1 hy with hy|hy
 ·unfold dnL at hy;obtain⟨q,hq,hy⟩:=zBI9.1 hy;have hq:=zCZ9.1 hq;simp at hy;rcases hy with rfl|rfl<;>simp<;>omega
 ·simp at hy;subst hy;simp;omega
def chg (w:List Nat)(v:Nat)(no:Nat)(r:List Pr×Nat):List Pr×Nat:=if no=0 then(if r.2=0 then(zeh w v++zcy r.1,0)else([],r.2))else([],no)
def zb6 (w:List Nat)(x:Pr):List Pr×Nat:=chg w 1 (zeC w x) (zdt (w.getD 3 0) (w.drop 8) x)
def zdS (w:List Nat)(key:Nat):List Pr×Nat:=chg w 2 (zbJ w) (zdj (w.getD 3 0) (w.drop 8) key)
theorem zjp {w:List Nat}{x:Pr}(h:zeC w x=0):zbJ w=0:=by
 unfold zeC at h
 split at h
 ·assumption
 ·rename_i h2;exact absurd h h2
theorem ziB {w:List Nat}(h:zbJ w=0):w.length=64:=by
 have:=zdk h;unfold zbP at this;simp only[zAR9,decide_eq_true_eq]at this;exact this.1.1
theorem zqB {H:List zu}{id g:Nat}{A B:List Pr}{n q:Nat}(hH:H[id]?=some (.row 83 2 g 0 (A.map zag++B.map zag)))(hn:n=A.length+B.length)(hq:2*(A.length+B.length)<=q):Frz H 0 (.sl id g 0 n q 2) (.list 0 2 ((A++B).map zag)):=by
 rw[<- zBY9]at hH;refine Frz.whole hH rfl (by rw[zAA9,zAC9];exact hn) (by rw[zAA9,zAC9];exact hq) (fun v hv=>by obtain⟨x,_,rfl⟩:=zAS9.1 hv;rfl) zcX
set_option maxHeartbeats 1000000 in
theorem zkX (p:Nat)(w:List Nat)(x:Pr)(hw:zbH w.length):FN ET 80 [wv p w,pv x] (.ret (.tuple [.list 0 2 ((zb6 w x).1.map zag),iv ((zb6 w x).2:Nat)])):=by
 refine zfn f80 (Lb.two (zcY _) (.int _ _)) ?_;have hC:=zpX p w x hw;unfold zb6 chg
 by_cases hc:zeC w x=0
 rotate_left
 ·rw[if_neg hc];have g:¬(zeC w x:Int)=0:=by omega
  generalize zeC w x=c at *
  (repeat(first|refine ze ?_|refine zgo ?_));(repeat refine ze ?_);refine zrg ?_;refine zca hC ?_;refine zfx ?_;refine zd ?_;(repeat(first|refine ze ?_|refine zgo ?_ (by simp(disch:=omega)only[go_sem,g]<;>rfl)));refine zfc ?_ ?_;rotate_left
  ·intro h;cases h
  intro _;(repeat(first|refine ze ?_|refine zgo ?_));refine zF ?_;(try simp only[zg,zj,zh,zi,zk]);refine zq (by simp only[T80,zI,go_sem]<;>rfl) ?_;simp only[zP];exact Frz.tupL ⟨.nil _ _,.int _ _,trivial⟩
 rw[if_pos hc];rw[hc]at hC;have hwl:=ziB (zjp hc);have hP:=zs1 p (w.getD 3 0) (w.drop 8) x (by rw[zCA9];omega);have hsm:=zq8 (left:=w.getD 3 0) (w:=w.drop 8) (x:=x);have hd8:List.drop 8 (List.map uv w)=(w.drop 8).map uv:=by rw[zCO9]
 have hle8:8<=w.length:=by omega
 have c3:3<w.length:=by omega
 have z3:=zck c3;generalize w.getD 3 0=a3 at *
 generalize zdt a3 (w.drop 8) x=r at *
 obtain⟨L,no⟩:=r;dsimp only at hP hsm⊢;(repeat(first|refine ze ?_|refine zgo ?_));(repeat refine ze ?_);refine zrg ?_;refine zca hC ?_;refine zfx ?_;refine zd ?_;(repeat(first|refine ze ?_|refine zgo ?_));refine zfc ?_ ?_
 ·intro h;cases h
 intro _;refine zQ ?_;show W _ _ _ _ _ _;(repeat refine ze ?_);refine zap ?_;refine zdn hP ?_ (by simp(disch:=omega)only[go_sem,c3,z3,hd8,hle8,zAA9]<;>rfl);refine zdl ?_ (by simp(disch:=omega)only[go_sem,hwl]<;>rfl);refine zR ?_;simp only[zo,zW,zg,go_sem]
 by_cases hn:no=0
 rotate_left
 ·rw[if_neg hn];have g:¬(no:Int)=0:=by omega
  (repeat(first|refine ze ?_|refine zgo ?_ (by simp(disch:=omega)only[go_sem,g]<;>rfl)));refine zfc ?_ ?_;rotate_left
  ·intro h;cases h
  intro _;(repeat(first|refine ze ?_|refine zgo ?_));refine zF ?_;(try simp only[zg,zj,zh,zi,zk]);refine zq (by simp only[T80,zI,go_sem]<;>rfl) ?_;simp only[zP];exact Frz.tupL ⟨.nil _ _,.int _ _,trivial⟩
 rw[if_pos hn];have g:(no:Int)=0:=by omega
 obtain⟨s1,s2,s3⟩:=hsm hn;(repeat(first|refine ze ?_|refine zgo ?_ (by simp(disch:=omega)only[go_sem,g]<;>rfl)));refine zfc ?_ ?_
 ·intro h;cases h
 intro _;refine zQ ?_;show W _ _ _ _ _ _;(repeat refine ze ?_);refine zrg ?_;refine zeY (caps:=?_) (vs:=?_) ?_ ?_ (zoX p w 1 (by omega) [.row 66 2 0 0 [pv x]]) ?_ ?_ ?_;rotate_left 2;(first|rfl|(simp only[zaf,zas,go_sem,hwl]<;>rfl));(simp only[go_sem,hwl]<;>rfl);rfl;rfl;rintro e H' ⟨g1,G,rfl,rfl⟩;have hM:=zmb 0 L (by omega) (fun y hy=>by have:=s3 y hy;omega);have hml:(zcy L).length=L.length:=by unfold zcy;rw[zAA9]
 have hwl2:(zeh w 1).length<=1:=by unfold zeh;split<;>simp
 have hne:¬(zcy L).length=0:=by omega
 have hb:((zeh w 1).length+(zcy L).length)*17<=140737488355328:=by omega
 generalize zcy L=M at *
 generalize zeh w 1=A at *
 refine zfx ?_;refine zca hM ?_;refine zfx ?_ (by simp(disch:=omega)only[go_sem,hne,hb,zAA9,zf]<;>rfl);refine zd ?_;refine zF ?_;(try simp only[zg,zj,zh,zi,zk]);refine zq (by simp only[T80,zI,go_sem]<;>rfl) ?_;simp only[zP];refine Frz.tupL ⟨zqB rfl ?_ ?_,.int _ _,trivial⟩
 ·rfl
 ·omega
set_option maxHeartbeats 1000000 in
theorem zsm (p key:Nat)(w:List Nat)(hw:zbH w.length):FN ET 47 [wv p w,uv key] (.ret (.tuple [.list 0 2 ((zdS w key).1.map zag),iv ((zdS w key).2:Nat)])):=by
 refine zfn f47 (Lb.two (zcY _) (.int _ _)) ?_;have hC:=zfq p w hw;unfold zdS chg
 by_cases hc:zbJ w=0
 rotate_left
 ·rw[if_neg hc];have g:¬(zbJ w:Int)=0:=by omega
  generalize zbJ w=c at *
  (repeat(first|refine ze ?_|refine zgo ?_));(repeat refine ze ?_);refine zrg ?_;refine zca hC ?_;refine zfx ?_;refine zd ?_;(repeat(first|refine ze ?_|refine zgo ?_ (by simp(disch:=omega)only[go_sem,g]<;>rfl)));refine zfc ?_ ?_;rotate_left
  ·intro h;cases h
  intro _;(repeat(first|refine ze ?_|refine zgo ?_));refine zF ?_;(try simp only[zg,zj,zh,zi,zk]);refine zq (by simp only[T47,zI,go_sem]<;>rfl) ?_;simp only[zP];exact Frz.tupL ⟨.nil _ _,.int _ _,trivial⟩
 rw[if_pos hc];rw[hc]at hC;have hwl:=ziB (hc);have hP:=zrT p (w.getD 3 0) key (w.drop 8) (by rw[zCA9];omega);have hsm:=zp9 (left:=w.getD 3 0) (w:=w.drop 8) (key:=key);have hd8:List.drop 8 (List.map uv w)=(w.drop 8).map uv:=by rw[zCO9]
 have hle8:8<=w.length:=by omega
 have c3:3<w.length:=by omega
 have z3:=zck c3;generalize w.getD 3 0=a3 at *
 generalize zdj a3 (w.drop 8) key=r at *
 obtain⟨L,no⟩:=r;dsimp only at hP hsm⊢;(repeat(first|refine ze ?_|refine zgo ?_));(repeat refine ze ?_);refine zrg ?_;refine zca hC ?_;refine zfx ?_;refine zd ?_;(repeat(first|refine ze ?_|refine zgo ?_));refine zfc ?_ ?_
 ·intro h;cases h
 intro _;refine zQ ?_;show W _ _ _ _ _ _;(repeat refine ze ?_);refine zap ?_;refine zdn hP ?_ (by simp(disch:=omega)only[go_sem,c3,z3,hd8,hle8,zAA9]<;>rfl);refine zdl ?_ (by simp(disch:=omega)only[go_sem,hwl]<;>rfl);refine zR ?_;simp only[zo,zW,zg,go_sem]
 by_cases hn:no=0
 rotate_left
 ·rw[if_neg hn];have g:¬(no:Int)=0:=by omega
  (repeat(first|refine ze ?_|refine zgo ?_ (by simp(disch:=omega)only[go_sem,g]<;>rfl)));refine zfc ?_ ?_;rotate_left
  ·intro h;cases h
  intro _;(repeat(first|refine ze ?_|refine zgo ?_));refine zF ?_;(try simp only[zg,zj,zh,zi,zk]);refine zq (by simp only[T47,zI,go_sem]<;>rfl) ?_;simp only[zP];exact Frz.tupL ⟨.nil _ _,.int _ _,trivial⟩
 rw[if_pos hn];have g:(no:Int)=0:=by omega
 obtain⟨s1,s2,s3⟩:=hsm hn;(repeat(first|refine ze ?_|refine zgo ?_ (by simp(disch:=omega)only[go_sem,g]<;>rfl)));refine zfc ?_ ?_
 ·intro h;cases h
 intro _;refine zQ ?_;show W _ _ _ _ _ _;(repeat refine ze ?_);refine zrg ?_;refine zeY (caps:=?_) (vs:=?_) ?_ ?_ (zoX p w 2 (by omega) []) ?_ ?_ ?_;rotate_left 2;(first|rfl|(simp only[zaf,zas,go_sem,hwl]<;>rfl));(simp only[go_sem,hwl]<;>rfl);rfl;rfl;rintro e H' ⟨g1,G,rfl,rfl⟩;have hM:=zmb 0 L (by omega) (fun y hy=>by have:=s3 y hy;omega);have hml:(zcy L).length=L.length:=by unfold zcy;rw[zAA9]
 have hwl2:(zeh w 2).length<=1:=by unfold zeh;split<;>simp
 have hne:¬(zcy L).length=0:=by omega
 have hb:((zeh w 2).length+(zcy L).length)*17<=140737488355328:=by omega
 generalize zcy L=M at *
 generalize zeh w 2=A at *
 refine zfx ?_;refine zca hM ?_;refine zfx ?_ (by simp(disch:=omega)only[go_sem,hne,hb,zAA9,zf]<;>rfl);refine zd ?_;refine zF ?_;(try simp only[zg,zj,zh,zi,zk]);refine zq (by simp only[T47,zI,go_sem]<;>rfl) ?_;simp only[zP];refine Frz.tupL ⟨zqB rfl ?_ ?_,.int _ _,trivial⟩
 ·rfl
 ·omega
def zeE (left:Nat)(l:List Pr)(key:Nat):Nat:=l.foldl (fun a q=>if q.1<=key then q.2 else a) left
def zcH (w:List Nat)(key:Nat):Nat×Nat:=if zbJ w=0 then(if(zai w).level=0 then(0,2)else(zeE (zai w).left (zai w).pairs key,0))else(0,zbJ w)
theorem znA (l:List Pr)(key:Nat):∀left,zeE left l key=left\/∃q∈l,zeE left l key=q.2:=by
 induction l with
 | nil=>exact fun left=>.inl rfl
 | cons a l ih =>
  intro left;have h:=ih (if a.1<=key then a.2 else left);have e:zeE left (a::l) key=zeE (if a.1<=key then a.2 else left) l key:=rfl;rw[e];rcases h with h|⟨q,hq,h⟩
  ·rw[h]
   split
   ·exact .inr ⟨a,zAV9 ..,rfl⟩
   ·exact .inl rfl
  ·exact .inr ⟨q,zAW9 _ hq,h⟩
theorem ztW {l:List Pr}{left key:Nat}(h:∀x∈(0,left)::l,x.2<2048):zeE left l key<2048:=by
 rcases znA l key left with e|⟨q,hq,e⟩
 ·rw[e];exact h _ (zAV9 ..)
 ·rw[e];exact h q (zAW9 _ hq)
theorem zrR (p key:Nat)(w:List Nat)(c:Nat)(hc:¬c=0)(hC:FN ET 61 [wv p w] (.ret (iv (c:Nat)))):FN ET 93 [wv p w,uv key] (.ret (.tuple [iv 0,iv (c:Nat)])):=by
 refine zfn f93 (Lb.two (.int _ _) (.int _ _)) ?_;(repeat(first|refine ze ?_|refine zgo ?_));(repeat refine ze ?_);refine zrg ?_;refine zca hC ?_;refine zfx ?_;refine zd ?_;have g:¬(c:Int)=0:=by omega
 (repeat(first|refine ze ?_|refine zgo ?_ (by simp(disch:=omega)only[go_sem,g]<;>rfl)));refine zfc ?_ ?_;rotate_left
 ·intro h;cases h
 intro _;(repeat(first|refine ze ?_|refine zgo ?_));refine zF ?_;(try simp only[zg,zj,zh,zi,zk]);refine zq (by simp only[T93,zI,go_sem]<;>rfl) ?_;simp only[zP];exact Frz.tupL ⟨.int _ _,.int _ _,trivial⟩
set_option maxHeartbeats 1000000 in
theorem zq1 (p key:Nat)(w:List Nat)(n:zE)(hpl:n.pairs.length<=28)(hk:0<n.level->∀x∈(0,n.left)::n.pairs,x.2<2048)(hC:FN ET 61 [wv p w] (.ret (iv (0:Nat))))(hO:FN ET 103 [wv p w] (.ret (.tuple [za7 0 n,iv 0]))):FN ET 93 [wv p w,uv key] (if n.level=0 then .ret (.tuple [iv 0,iv 2])else .ret (.tuple [iv (zeE n.left n.pairs key:Nat),iv 0])):=by
 refine zfn f93 ?_ ?_
 ·split<;>exact Lb.two (.int _ _) (.int _ _)
 (repeat(first|refine ze ?_|refine zgo ?_));(repeat refine ze ?_);refine zrg ?_;refine zca hC ?_;refine zfx ?_;refine zd ?_;(repeat(first|refine ze ?_|refine zgo ?_));refine zfc ?_ ?_
 ·intro h;cases h
 intro _;refine zQ ?_;show W _ _ _ _ _ _;(repeat refine ze ?_);refine zrg ?_;refine zca hO ?_;refine zfx ?_;refine zd ?_
 by_cases hz:n.level=0
 ·have g:(n.level:Int)=0:=by omega
  rw[if_pos hz];(repeat(first|refine ze ?_|refine zgo ?_ (by simp(disch:=omega)only[go_sem,g,zf,zn]<;>rfl)));refine zfc ?_ ?_;rotate_left
  ·intro h;cases h
  intro _;(repeat(first|refine ze ?_|refine zgo ?_));refine zF ?_;(try simp only[zg,zj,zh,zi,zk]);refine zq (by simp only[T93,zI,go_sem]<;>rfl) ?_;simp only[zP];exact Frz.tupL ⟨.int _ _,.int _ _,trivial⟩
 have g:¬(n.level:Int)=0:=by omega
 have hkl:=ztW (key:=key) (hk (by omega));rw[if_neg hz];(repeat(first|refine ze ?_|refine zgo ?_ (by simp(disch:=omega)only[go_sem,g,zf,zn]<;>rfl)));refine zfc ?_ ?_
 ·intro h;cases h
 intro _;refine zQ ?_;show W _ _ _ _ _ _;(repeat(first|refine ze ?_|refine zgo ?_ (by simp(disch:=omega)only[go_sem,zf,zn]<;>rfl)));refine zK (zbd (fun m s=>∃(i a:Nat),m=n.pairs.length-i/\i<=n.pairs.length/\zeE n.left n.pairs key=zeE a (n.pairs.drop i) key/\s.tm 1=uv key/\s.tm 7=.ptr 0 0 0 0 6/\s.tm 9=uv a/\s.tm 10=iv i/\s.df=[]/\s.H=[.row 124 6 0 0 [za7 0 n]]) (n:=n.pairs.length) ?_ ?_)
 ·exact⟨0,n.left,rfl,zAU9 _,rfl,by simp[upd,zB],by simp[upd],by simp[upd],by simp[upd],rfl,rfl⟩
 ·rintro m ⟨tm,df,H⟩ ⟨i,a,rfl,hi,hka,h1,h7,h9,h10,rfl,rfl⟩;dsimp only at h1 h7 h9 h10;(try refine zaa ?_);refine ze (zb ?_);refine zfx ?_ (by simp(disch:=omega)only[go_sem,h7,h10,zAA9]<;>rfl);refine zd ?_;refine zae (by simp only[go_sem]<;>rfl) ?_ ?_
  ·intro hlt;have hlt:i<n.pairs.length:=by have:=of_decide_eq_true hlt;omega
   obtain⟨q,hq⟩:∃q,n.pairs[i]?=some q:=⟨_,zAB9 hlt⟩
   have hqv:(n.pairs.map pv)[i]?=some (pv q):=by rw[zAL9,hq];rfl
   have hdr:n.pairs.drop i=q::n.pairs.drop (i+1):=by rw[zBB9 hlt];obtain⟨_,e⟩:=zAD9.1 hq;rw[e]
   rw[hdr]at hka;change _=zeE (if q.1<=key then q.2 else a) _ key at hka;(repeat refine ze ?_);refine zK ?_
   by_cases hle:q.1<=key
   ·have g1:(q.1:Int)<=key:=by omega
    rw[if_pos hle]at hka;(repeat refine ze ?_);refine zgo ?_ (by simp(disch:=omega)only[go_sem,h1,h7,h10,hqv,hlt,g1,zAA9]<;>rfl);refine zfc ?_ ?_;rotate_left
    ·intro h;cases h
    intro _;(repeat refine ze ?_);refine zrg ?_ (by simp(disch:=omega)only[go_sem,h7,h10,hqv,hlt,zAA9]<;>rfl);refine zG ?_;simp only[zg,zj,zh,zi,zo,zk,if_true,↓reduceIte];(repeat refine ze ?_);refine zrg ?_ (by simp(disch:=omega)only[go_sem,h10]<;>rfl);refine zG ?_;simp only[zg,zj,zh,zi,zo,zk,if_true,↓reduceIte];refine⟨_,?m1,i+1,q.2,rfl,hlt,hka,by simp[upd,h1],by simp[upd,h7],by simp[upd],by simp[upd,h10],trivial,trivial⟩
    case m1=>omega
   ·have g1:¬(q.1:Int)<=key:=by omega
    rw[if_neg hle]at hka;(repeat refine ze ?_);refine zgo ?_ (by simp(disch:=omega)only[go_sem,h1,h7,h10,hqv,hlt,g1,zAA9]<;>rfl);refine zfc ?_ ?_
    ·intro h;cases h
    intro _;refine zQ ?_;simp only[zg,zj,zh,zi,zo,zk,if_true,reduceIte];(repeat refine ze ?_);refine zrg ?_ (by simp(disch:=omega)only[go_sem,h10]<;>rfl);refine zG ?_;simp only[zg,zj,zh,zi,zo,zk,if_true,↓reduceIte];refine⟨_,?m2,i+1,a,rfl,hlt,hka,by simp[upd,h1],by simp[upd,h7],by simp[upd,h9],by simp[upd,h10],trivial,trivial⟩
    case m2=>omega
  ·intro hlt;have hlt:¬i<n.pairs.length:=by have:=of_decide_eq_false hlt;omega
   obtain rfl:i=n.pairs.length:=by omega
   rw[zCW9]at hka;change _=a at hka;rw[hka]at hkl⊢;have w1:IntKind.i64.wrap (a:Int)=(a:Int):=wrap_i64 (by omega) (by omega);simp only[zg,zj,zh,zi,zo,zk,if_true,reduceIte];(repeat(first|refine ze ?_|refine zgo ?_ (by simp(disch:=omega)only[go_sem,h9,w1]<;>rfl)));refine zF ?_;(try simp only[zg,zj,zh,zi,zk]);refine zq (by simp only[T93,zI,go_sem]<;>rfl) ?_;simp only[zP];exact Frz.tupL ⟨.int _ _,.int _ _,trivial⟩
theorem zrS (p key:Nat)(w:List Nat)(hw:zbH w.length):FN ET 93 [wv p w,uv key] (.ret (.tuple [iv ((zcH w key).1:Nat),iv ((zcH w key).2:Nat)])):=by
 have hC:=zfq p w hw;have hO:=zeT p w hw;unfold zcH
 by_cases hc:zbJ w=0
 ·rw[if_pos hc];rw[zeP _ (zdk hc)]at hO;rw[hc]at hC;have h:=zq1 p key w _ (zxf w) (fun hl x hx=>by
   rcases zAY9.1 hx with rfl|hx
   ·exact zlz hc hl ((zai w).low,(zai w).left) (zAV9 ..)
   ·exact zlz hc hl x (zAW9 _ hx)) hC hO
  by_cases hz:(zai w).level=0
  ·rw[if_pos hz]at h⊢;exact h
  ·rw[if_neg hz]at h⊢;exact h
 ·rw[if_neg hc];exact zrR p key w _ hc hC
theorem zvU:ET.funcs.get 121=some T121:=z9 (by kernel_rfl) (by decide)
theorem Lb.three {a b c:PV}(ha:Lb a)(hb:Lb b)(hc:Lb c):Lb (.tuple [a,b,c]):=.tuple fun v hv=>by
 simp at hv;rcases hv with h|h|h<;>subst h<;>assumption
def zci (n:zE):zE:=⟨n.level,n.sib,(n.pairs.getD (n.pairs.length/2) (0,0)).1,(if 0<n.level then(n.pairs.getD (n.pairs.length/2) (0,0)).2 else 9223372036854775808),0,(if 0<n.level then n.pairs.drop (n.pairs.length/2+1)else n.pairs.drop (n.pairs.length/2))⟩
def zgi (m:Nat):Nat->List Pr
 | 0=>[]
 | k+1=>if m<=k then(9+2*k,0)::zgi m k else[]
def zeQ (n:zE)(a:Nat):List Pr:=(1,a)::zgi (n.pairs.length/2) n.pairs.length
def zi3 (n:zE)(a:Int):Bool:=decide (1<=a)&&decide (a<=2047)&&decide (2<=n.pairs.length)
def ziy (n:zE)(a:Int):FE:=if zi3 n a=true then .ret (.tuple [wv 0 (zbB (zci n)),.list 0 2 ((zeQ n a.toNat).map zag),iv 0])else .ret (.tuple [wv 0 [],.list 0 2 (([]:List Pr).map zag),iv 2])
theorem zka {H:List zu}(c:Int):Frz H 0 (.tuple [.nilsl,.nilsl,iv c]) (.tuple [wv 0 [],.list 0 2 (([]:List Pr).map zag),iv c]):=Frz.tupL ⟨.nil _ _,.nil _ _,.int _ _,trivial⟩
theorem zp5 (p:Nat)(a:Int)(w:List Nat)(c:Nat)(hc:¬c=0)(hC:FN ET 61 [wv p w] (.ret (iv (c:Nat)))):FN ET 121 [wv p w,iv a] (.ret (.tuple [wv 0 [],.list 0 2 (([]:List Pr).map zag),iv (c:Nat)])):=by
 refine zfn zvU (Lb.three (Lb.uvs _) (zcY _) (.int _ _)) ?_;(repeat(first|refine ze ?_|refine zgo ?_));(repeat refine ze ?_);refine zrg ?_;refine zca hC ?_;refine zfx ?_;refine zd ?_;have g:¬(c:Int)=0:=by omega
 (repeat(first|refine ze ?_|refine zgo ?_ (by simp(disch:=omega)only[go_sem,g]<;>rfl)));refine zfc ?_ ?_;rotate_left
 ·intro h;cases h
 intro _;(repeat(first|refine ze ?_|refine zgo ?_));refine zF ?_;(try simp only[zg,zj,zh,zi,zk]);refine zq (by simp only[T121,zI,go_sem]<;>rfl) ?_;simp only[zP];exact zka _
set_option maxHeartbeats 2000000 in
theorem zp1 (p:Nat)(a:Int)(w:List Nat)(n:zE)(h12:n.level<=12)(hsb:n.sib<2048)(hpl:n.pairs.length<=28)(hC:FN ET 61 [wv p w] (.ret (iv (0:Nat))))(hO:FN ET 103 [wv p w] (.ret (.tuple [za7 0 n,iv 0]))):FN ET 121 [wv p w,iv a] (ziy n a):=by
 refine zfn zvU ?_ ?_
 ·unfold ziy;split<;>exact Lb.three (Lb.uvs _) (zcY _) (.int _ _)
 (repeat(first|refine ze ?_|refine zgo ?_));(repeat refine ze ?_);refine zrg ?_;refine zca hC ?_;refine zfx ?_;refine zd ?_;(repeat(first|refine ze ?_|refine zgo ?_));refine zfc ?_ ?_
 ·intro h;cases h
 intro _;refine zQ ?_;show W _ _ _ _ _ _;(repeat refine ze ?_);refine zrg ?_;refine zca hO ?_;refine zfx ?_;refine zd ?_;have badE:zi3 n a=false->ziy n a=.ret (.tuple [wv 0 [],.list 0 2 (([]:List Pr).map zag),iv 2]):=fun h=>by unfold ziy;rw[h];rfl
 by_cases b1:a<1
 ·(repeat(first|refine ze ?_|refine zgo ?_ (by simp(disch:=omega)only[go_sem,b1,zf,zn]<;>rfl)));refine zfc ?_ ?_;rotate_left
  ·intro h;cases h
  intro _;(repeat(first|refine ze ?_|refine zgo ?_));refine zF ?_;(try simp only[zg,zj,zh,zi,zk]);refine zq (by simp only[T121,zI,go_sem]<;>rfl) ?_;simp only[zP];rw[badE (by unfold zi3;rw[decide_eq_false (show ¬1<=a by omega)];rfl)];exact zka _
 by_cases b2:2047<a
 ·(repeat(first|refine ze ?_|refine zgo ?_ (by simp(disch:=omega)only[go_sem,b1,b2,zf,zn]<;>rfl)));refine zfc ?_ ?_;rotate_left
  ·intro h;cases h
  intro _;(repeat(first|refine ze ?_|refine zgo ?_));refine zF ?_;(try simp only[zg,zj,zh,zi,zk]);refine zq (by simp only[T121,zI,go_sem]<;>rfl) ?_;simp only[zP];rw[badE (by unfold zi3;rw[decide_eq_false (show ¬a<=2047 by omega)];simp)];exact zka _
 by_cases b3:n.pairs.length<2
 ·have g3:(n.pairs.length:Int)<2:=by omega
  (repeat(first|refine ze ?_|refine zgo ?_ (by simp(disch:=omega)only[go_sem,b1,b2,g3,zf,zn,zAA9]<;>rfl)));refine zfc ?_ ?_;rotate_left
  ·intro h;cases h
  intro _;(repeat(first|refine ze ?_|refine zgo ?_));refine zF ?_;(try simp only[zg,zj,zh,zi,zk]);refine zq (by simp only[T121,zI,go_sem]<;>rfl) ?_;simp only[zP];rw[badE (by unfold zi3;rw[decide_eq_false (show ¬2<=n.pairs.length by omega)];simp)];exact zka _
 have g3:¬(n.pairs.length:Int)<2:=by omega
 have hok:ziy n a=.ret (.tuple [wv 0 (zbB (zci n)),.list 0 2 ((zeQ n a.toNat).map zag),iv 0]):=by
  unfold ziy;rw[if_pos (by unfold zi3;rw[decide_eq_true (show 1<=a by omega),decide_eq_true (show a<=2047 by omega),decide_eq_true (show 2<=n.pairs.length by omega)];rfl)]
 rw[hok];clear badE hok;obtain⟨b,rfl⟩:∃b:Nat,a=b:=⟨a.toNat,by omega⟩
 rw[zDD9];have e0:IntKind.i64.wrap ((n.pairs.length:Int).tdiv 2)=((n.pairs.length/2:Nat):Int):=by rw[IntWalk.i64_quo _ _ (by omega)];omega
 (repeat(first|refine ze ?_|refine zgo ?_ (by simp(disch:=omega)only[go_sem,b1,b2,g3,e0,zf,zn,zAA9]<;>rfl)));refine zfc ?_ ?_
 ·intro h;cases h
 intro _;refine zQ ?_;show W _ _ _ _ _ _;(repeat(first|refine ze ?_|refine zgo ?_ (by simp(disch:=omega)only[go_sem,e0,zf,zn,zAA9]<;>rfl)));have hmn:n.pairs.length/2<n.pairs.length:=by omega
 have hmv:(n.pairs.map pv)[n.pairs.length/2]?=some (pv (n.pairs.getD (n.pairs.length/2) (0,0))):=by rw[zAL9,get_lt _ hmn];rfl
 have hd0:List.drop (n.pairs.length/2) (n.pairs.map pv)=(n.pairs.drop (n.pairs.length/2)).map pv:=by rw[zCO9]
 have hd1:List.drop (n.pairs.length/2+1) (n.pairs.map pv)=(n.pairs.drop (n.pairs.length/2+1)).map pv:=by rw[zCO9]
 have hm14:n.pairs.length/2<=14:=by omega
 have hW:=ziA 0 (zci n) h12 hsb (zAU9 _) (by
  show (if 0<n.level then n.pairs.drop (n.pairs.length/2+1)else n.pairs.drop (n.pairs.length/2)).length<=27
  split<;>rw[zCA9]<;>omega)
 have hsl:zeQ n b=(1,b)::zgi (n.pairs.length/2) n.pairs.length:=rfl;rw[hsl];have hsp:za7 0 (zci n)=.agg [iv n.level,iv n.sib,uv (n.pairs.getD (n.pairs.length/2) (0,0)).1,uv (if 0<n.level then(n.pairs.getD (n.pairs.length/2) (0,0)).2 else 9223372036854775808:Nat),iv 0,psv 0 (if 0<n.level then n.pairs.drop (n.pairs.length/2+1)else n.pairs.drop (n.pairs.length/2))]:=rfl;rw[hsp]at hW;generalize zbB (zci n)=LW at *
 clear hsl hsp;have hle2:n.pairs.length/2<=n.pairs.length:=by omega
 have hle3:n.pairs.length/2+1<=n.pairs.length:=by omega
 generalize hmm:n.pairs.length/2=m at *
 generalize n.pairs.getD m (0,0)=y at *
 (repeat refine ze ?_);refine zap ?_;refine zda ?_ (by simp(disch:=omega)only[go_sem,hmn,hmv,hd0,hle2,zf,zn,zAA9]<;>rfl);refine zdl ?_ (by simp(disch:=omega)only[go_sem,hmn,zBX9,zCF9,zBV9,zCG9,zCT9,Nat.reduceBEq,zT,zS,zO]<;>rfl) (by first|exact trivial|simp only[go_sem,hmn,zBX9,zCF9,zBV9,zCG9,zCT9,Nat.reduceBEq,zT,zS,zO]);refine zR ?_;simp only[zo,zW,zg,go_sem];refine ze (zbN (Q:=fun y' s'=>y'=.norm/\s'.tm 1=iv b/\s'.tm 8=.ptr 0 0 0 0 6/\s'.tm 10=iv m/\s'.tm 11=.ptr 1 0 0 0 6/\s'.df=[]/\s'.H=[.row 124 6 0 0 [za7 0 n],.row 124 6 0 0 [.agg [iv n.level,iv n.sib,uv y.1,uv (if 0<n.level then y.2 else 9223372036854775808:Nat),iv 0,psv 0 (if 0<n.level then n.pairs.drop (m+1)else n.pairs.drop m)]]]) ?_ ?_)
 ·by_cases hz:0<n.level
  ·have g:(0:Int)<n.level:=by omega
   rw[if_pos hz,if_pos hz];have e5:(m:Int)+1=((m+1:Nat):Int):=by omega
   (repeat(first|refine ze ?_|refine zgo ?_ (by simp(disch:=omega)only[go_sem,g,zf,zn]<;>rfl)));refine zfc ?_ ?_;rotate_left
   ·intro h;cases h
   intro _;(repeat refine ze ?_);refine zap ?_;refine zda ?_ (by simp(disch:=omega)only[go_sem,hmn,hmv,e5,hd1,hle3,zf,zn,zAA9]<;>rfl);refine zda ?_ (by simp(disch:=omega)only[go_sem,hmn,hmv,e5,hd1,hle3,zf,zn,zAA9]<;>rfl);refine zdl ?_ (by simp(disch:=omega)only[go_sem,hmn,zBX9,zCF9,zBV9,zCG9,zCT9,Nat.reduceBEq,zT,zS,zO]<;>rfl) (by first|exact trivial|simp only[go_sem,hmn,zBX9,zCF9,zBV9,zCG9,zCT9,Nat.reduceBEq,zT,zS,zO]);refine zR ?_;simp only[zo,zW,zg,go_sem]
  ·have g:¬(0:Int)<n.level:=by omega
   rw[if_neg hz,if_neg hz];(repeat(first|refine ze ?_|refine zgo ?_ (by simp(disch:=omega)only[go_sem,g,zf,zn]<;>rfl)));refine zfc ?_ ?_
   ·intro h;cases h
   intro _;refine zQ ?_;exact⟨rfl,by simp[upd,zB],by simp[upd],by simp[upd],by simp[upd],rfl,rfl⟩
 rintro y' ⟨tm,df,H⟩ ⟨rfl,h1,h8,h10,h11,rfl,rfl⟩;dsimp only at h1 h8 h10 h11;simp only[zg,zj,zh,zi,zo,zk,if_true,reduceIte];have w1:IntKind.u64.wrap (b:Int)=(b:Int):=zL (by omega) (by omega);(repeat(first|refine ze ?_|refine zgo ?_ (by simp(disch:=omega)only[go_sem,h1,h8,w1,zf,zn,zAA9]<;>rfl)));generalize hNV:PV.agg [iv n.level,iv n.sib,uv y.1,uv (if 0<n.level then y.2 else 9223372036854775808:Nat),iv 0,psv 0 (if 0<n.level then n.pairs.drop (m+1)else n.pairs.drop m)]=NV at *
 generalize hD:(1,b)::zgi m n.pairs.length=D;refine zK (zbd (fun k s=>∃(V:List PV) (g:Nat) (G:List zu),m<=k/\k<=n.pairs.length/\V.length<=1+(n.pairs.length-k)/\D.map zag=V++(zgi m k).map zag/\s.tm 10=iv m/\s.tm 11=.ptr 1 0 0 0 6/\s.tm 12=.sl 2 g 0 V.length (2*V.length) 2/\s.tm 13=iv ((k:Int)-1)/\s.df=[]/\s.H=.row 124 6 0 0 [za7 0 n]::.row 124 6 0 0 [NV]::.row 83 2 g 0 V::G) (n:=n.pairs.length) ?_ ?_)
 ·exact⟨[zag (1,b)],0,[],by omega,zAK9 _,by simp,by rw[<- hD];rfl,by simp[upd,h10],by simp[upd,h11],by simp[upd],by simp[upd],rfl,rfl⟩
 ·clear h1 h8 h10 h11;rintro k ⟨tm,df,H⟩ ⟨V,g,G,hmk,hkL,hVl,hDV,h10,h11,h12',h13,rfl,rfl⟩;dsimp only at h10 h11 h12' h13
  by_cases hk:m<k
  ·obtain⟨q,rfl⟩:∃q,k=q+1:=⟨k-1,by omega⟩
   rw[show ((q+1:Nat):Int)-1=(q:Nat) by omega]at h13;rw[zgi,if_pos (by omega)]at hDV;have g4:(m:Int)<=(q:Nat):=by omega
   have w2:IntKind.i64.wrap (2*(q:Int))=((2*q:Nat):Int):=by rw[wrap_i64 (by omega) (by omega)];omega
   have w3:IntKind.i64.wrap (9+((2*q:Nat):Int))=((9+2*q:Nat):Int):=by rw[wrap_i64 (by omega) (by omega)];omega
   have hb:(V.length+1)*17<=140737488355328:=by omega
   (try refine zaa ?_);refine ze (zb ?_);refine zfx ?_ (by simp(disch:=omega)only[go_sem,h10,h13,g4]<;>rfl);refine zd ?_;refine zae (by simp only[go_sem]<;>rfl) ?_ ?_
   ·intro _;(repeat refine ze ?_);refine zK ?_;(repeat refine ze ?_);refine zrg ?_ (by simp(disch:=omega)only[go_sem,h12',h13,w2,w3,hb,zf]<;>rfl);refine zG ?_;simp only[zg,zj,zh,zi,zo,zk,if_true,↓reduceIte];(repeat refine ze ?_);refine zrg ?_ (by simp(disch:=omega)only[go_sem,h13]<;>rfl);refine zG ?_;simp only[zg,zj,zh,zi,zo,zk,if_true,↓reduceIte];refine⟨q,zBR9 _,V++[zag (9+2*q,0)],g+1,?G2,by omega,by omega,by simp;omega,(by rw[hDV];simp),by simp[upd,h10],by simp[upd,h11],by simp[upd],by simp[upd,h13],trivial,?H⟩
    case H=>rfl
   ·intro h;cases h
  ·obtain rfl:k=m:=by omega
   have g4:¬(k:Int)<=(k:Int)-1:=by omega
   have hup:zgi k k=[]:=by cases k with
    | zero=>rfl
    | succ q=>rw[zgi,if_neg (by omega)]
   rw[hup,zBQ9,zDV9]at hDV;(try refine zaa ?_);refine ze (zb ?_);refine zfx ?_ (by simp(disch:=omega)only[go_sem,h10,h13,g4]<;>rfl);refine zd ?_;refine zae (by simp only[go_sem]<;>rfl) ?_ ?_
   ·intro h;cases h
   intro _;simp only[zg,zj,zh,zi,zo,zk,if_true,reduceIte];subst hNV;(repeat refine ze ?_);refine zrg ?_ (by simp(disch:=omega)only[go_sem,h11]<;>rfl);refine zca hW ?_;refine zfx ?_ (by simp(disch:=omega)only[go_sem,h12']<;>rfl);refine zd ?_;refine zF ?_;(try simp only[zg,zj,zh,zi,zk]);refine zq (by simp only[T121,zI,go_sem]<;>rfl) ?_;simp only[zP];refine Frz.tupL ⟨.list _ _ _,?_,.int _ _,trivial⟩;rw[hDV];exact Frz.whole rfl rfl rfl (zAK9 _) (fun v hv=>by rw[<- hDV]at hv;obtain⟨x,_,rfl⟩:=zAS9.1 hv;rfl) (by rw[<- hDV];exact zcX)
def zoc (w:List Nat)(a:Int):FE:=if zbJ w=0 then ziy (zai w) a else .ret (.tuple [wv 0 [],.list 0 2 (([]:List Pr).map zag),iv (zbJ w:Nat)])
theorem zp0 (p:Nat)(a:Int)(w:List Nat)(hw:zbH w.length):FN ET 121 [wv p w,iv a] (zoc w a):=by
 have hC:=zfq p w hw;have hO:=zeT p w hw;unfold zoc
 by_cases hc:zbJ w=0
 ·rw[if_pos hc];rw[zeP _ (zdk hc)]at hO;rw[hc]at hC;have hb:=zeB (zdk hc);exact zp1 p a w _ hb.1 hb.2.1 (zxf w) hC hO
 ·rw[if_neg hc];exact zp5 p a w _ hc hC
theorem f97:ET.funcs.get 97=some T97:=z9 (by kernel_rfl) (by decide)
theorem f49:ET.funcs.get 49=some T49:=z9 (by kernel_rfl) (by decide)
theorem zqQ (p q:Nat)(w:List Nat)(x:Pr)(hw:w.length<1000000)(hx:x.1<w.length):FN ET 97 [wv p w,iv 1,.list q 2 [zag x]] (.ret (.tuple [wv 0 (w.set x.1 x.2),iv 0])):=by
 refine zfn f97 (Lb.two (Lb.uvs _) (.int _ _)) ?_;have hb:w.length*9<=140737488355328:=by omega
 have hne:¬w.length=0:=by omega
 have hxv:([zag x]:List PV)[0]?=some (zag x):=rfl;have g0:¬((x.1:Nat):Int)<0:=by omega
 have g1:((x.1:Nat):Int)<(w.length:Nat):=by omega
 have g2:¬((w.length:Nat):Int)<=(x.1:Nat):=by omega
 obtain⟨o,ho⟩:∃old,w[x.1]?=some old:=⟨_,zAB9 hx⟩
 have z1:(w.map uv)[x.1]?=some (uv o):=by rw[zAL9,ho];rfl
 have y1:(w.map uv).set x.1 (.int .u64 (x.2:Int))=(w.set x.1 x.2).map uv:=zES9.symm;(repeat(first|refine ze ?_|refine zgo ?_ (by simp(disch:=omega)only[go_sem,hb,hne,zAA9,zAI9,zAM9]<;>rfl)));refine zfc ?_ ?_
 ·intro h;cases h
 intro _;refine zQ ?_;show W _ _ _ _ _ _;(repeat(first|refine ze ?_|refine zgo ?_ (by simp(disch:=omega)only[go_sem,hb,hne,zAA9,zAI9,zAM9]<;>rfl)));refine zK (zbd (fun m s=>∃(i M:Nat) (K:List Nat),m=1-i/\i<=1/\M<=1/\(i=0->K=w)/\(i=1->K=w.set x.1 x.2)/\s.tm 1=iv 1/\s.tm 2=.list q 2 [zag x]/\s.tm 8=.sl 0 1 0 w.length (2*w.length) 1/\s.tm 9=iv i/\s.df=[]/\s.H=[.row 24 1 1 M (K.map uv)]) (n:=1) ?_ ?_)
 ·exact⟨0,0,w,rfl,zAU9 _,by decide,fun _=>rfl,fun h=>absurd h (by decide),by simp[upd,zB],by simp[upd,zB],by simp[upd],by simp[upd],rfl,rfl⟩
 ·rintro m ⟨tm,df,Hx⟩ ⟨i,M,K,rfl,hi,hM,hK0,hK1,h1,h2,h8,h9,rfl,rfl⟩;dsimp only at h1 h2 h8 h9;obtain rfl|rfl:i=0\/i=1:=by omega
  ·obtain rfl:=hK0 rfl;(try refine zaa ?_);refine ze (zb ?_);refine zfx ?_ (by simp(disch:=omega)only[go_sem,h1,h9]<;>rfl);refine zd ?_;refine zae (by simp only[go_sem]<;>rfl) ?_ ?_
   ·intro _;(repeat refine ze ?_);refine zK ?_;(repeat refine ze ?_);generalize K.map uv=K0 at *
    (repeat refine ze ?_);refine zgo ?_ (by simp(disch:=omega)only[go_sem,h2,h8,h9,hxv,g0,g1,g2]<;>rfl);refine zfc ?_ ?_
    ·intro h;cases h
    intro _;refine zQ ?_;show W _ _ _ _ _ _;refine zap ?_;refine zda ?_ (by simp(disch:=omega)only[go_sem,h2,h8,h9,hxv,hx,hM,z1,y1]<;>rfl);refine zdl ?_ (by simp(disch:=omega)only[go_sem,h8]<;>rfl);refine zR ?_;simp only[zo,zW,zg,go_sem];(repeat refine ze ?_);refine zrg ?_ (by simp(disch:=omega)only[go_sem,h9]<;>rfl);refine zG ?_;simp only[zg,zj,zh,zi,zo,zk,if_true,↓reduceIte];refine⟨_,?m,1,1,K.set x.1 x.2,rfl,zAK9 _,zAK9 _,fun h=>absurd h (by decide),fun _=>rfl,by simp[upd,h1],by simp[upd,h2],by simp[upd,h8],by simp[upd,h9],trivial,rfl⟩
    case m=>omega
   ·intro h;cases h
  ·obtain rfl:=hK1 rfl;(try refine zaa ?_);refine ze (zb ?_);refine zfx ?_ (by simp(disch:=omega)only[go_sem,h1,h9]<;>rfl);refine zd ?_;refine zae (by simp only[go_sem]<;>rfl) ?_ ?_
   ·intro h;cases h
   intro _;simp only[zg,zj,zh,zi,zo,zk,if_true,reduceIte];(repeat(first|refine ze ?_|refine zgo ?_ (by simp(disch:=omega)only[go_sem,h8]<;>rfl)));refine zF ?_;(try simp only[zg,zj,zh,zi,zk]);refine zq (by simp only[T97,zI,go_sem]<;>rfl) ?_;simp only[zP];exact Frz.tupL ⟨Frz.wholeM rfl hM rfl (by simp) (by simp) (fun v hv=>by obtain⟨x,_,rfl⟩:=zAS9.1 hv;rfl) zki,.int _ _,trivial⟩
section mid
variable {α:Type}
theorem ga0 (G l:List α)(a:α):(G++a::l)[G.length]?=some a:=by simp
theorem ga1 (G l:List α)(a b:α):(G++a::b::l)[G.length+1]?=some b:=by simp
theorem ga2 (G l:List α)(a b c:α):(G++a::b::c::l)[G.length+1+1]?=some c:=by
 rw[zAN9 (by omega),show G.length+1+1-G.length=2 by omega];rfl
theorem sa0 (G l:List α)(a x:α):(G++a::l).set G.length x=G++x::l:=by
 rw[zBS9 _ _ (zAK9 _),Nat.sub_self];rfl
theorem sa1 (G l:List α)(a b x:α):(G++a::b::l).set (G.length+1) x=G++a::x::l:=by
 rw[zBS9 _ _ (by omega),show G.length+1-G.length=1 by omega];rfl
theorem sa2 (G l:List α)(a b c x:α):(G++a::b::c::l).set (G.length+1+1) x=G++a::b::x::l:=by
 rw[zBS9 _ _ (by omega),show G.length+1+1-G.length=2 by omega];rfl
theorem ga3 (G l:List α)(a b c d:α):(G++a::b::c::d::l)[G.length+3]?=some d:=by
 rw[zAN9 (by omega),show G.length+3-G.length=3 by omega];rfl
end mid
structure Wk where
 p:Nat
 q:Nat
 W:List Nat
 L:List Pr
 fr:PV
 used:Nat
def wkv (x:Wk):PV:=.agg [wv x.p x.W,.list x.q 2 (x.L.map zag),x.fr,iv x.used]
def Wk.one (x:Wk)(c:Pr):Wk:=⟨0,0,x.W.set c.1 c.2,x.L++[c],x.fr,x.used⟩
def Wk.does (x:Wk)(l:List Pr):Wk:=l.foldl Wk.one x
def zbv (a:Nat)(l:List Pr):List Pr:=l.map fun c=>(a+c.1,c.2)
theorem zsn (x:Wk)(l:List Pr)(c:Pr):x.does (l++[c])=(x.does l).one c:=by unfold Wk.does;rw[List.foldl_append];rfl
theorem zcz:∀(l:List Pr) (x:Wk),(x.does l).W.length=x.W.length/\(x.does l).L.length=x.L.length+l.length/\(x.does l).fr=x.fr/\(x.does l).used=x.used
 | [],x=>⟨rfl,rfl,rfl,rfl⟩
 | c::l,x=>by
  have h:=zcz l (x.one c);have e:x.does (c::l)=(x.one c).does l:=rfl;rw[e];refine⟨h.1.trans (by simp[Wk.one]),h.2.1.trans (by simp[Wk.one];omega),h.2.2.1,h.2.2.2⟩
theorem zcD {x:Wk}(h:Id0 x.fr):Id0 (wkv x):=.agg fun v hv=>by
 simp at hv;rcases hv with rfl|rfl|rfl|rfl
 ·exact .list _ _ _
 ·exact .list _ _ _
 ·exact h
 ·exact .int _ _
set_option maxHeartbeats 2000000 in
theorem ze4 (x:Wk)(hfr:Id0 x.fr)(a r:Nat)(l:List Pr)(hl:x.L.length+l.length<1000000)(hw:x.W.length<1000000)(hin:∀c∈l,a+c.1<x.W.length):FP ET 49 [wkv x,iv a,.list r 2 (l.map zag)] (.ret (wkv (x.does (zbv a l)))):=by
 refine zfp f49 ?_;(repeat(first|refine ze ?_|refine zgo ?_));refine zK (zbd (fun m s=>∃(i:Nat) (G:List zu),m=l.length-i/\i<=l.length/\s.tm 1=iv a/\s.tm 2=.list r 2 (l.map zag)/\s.tm 3=.ptr 0 0 0 0 4/\s.tm 6=.ptr 1 0 0 0 4/\s.tm 7=iv i/\s.df=[]/\s.H=.row 107 4 0 0 [wkv (x.does (zbv a (l.take i)))]::.row 107 4 0 0 [.agg [.nilsl,.nilsl,.nilsl,iv 0]]::G) (n:=l.length) ?_ ?_)
 ·exact⟨0,[],rfl,zAU9 _,by simp[upd,zB],by simp[upd,zB],by simp[upd],by simp[upd],by simp[upd],rfl,rfl⟩
 ·rintro m ⟨tm,df,Hx⟩ ⟨i,G,rfl,hi,h1,h2,h3,h6,h7,rfl,rfl⟩;dsimp only at h1 h2 h3 h6 h7;(try refine zaa ?_);refine ze (zb ?_);refine zfx ?_ (by simp(disch:=omega)only[go_sem,h2,h7,zAA9]<;>rfl);refine zd ?_;refine zae (by simp only[go_sem]<;>rfl) ?_ ?_;rotate_left
  ·intro hlt;have hlt:¬i<l.length:=by have:=of_decide_eq_false hlt;omega
   obtain rfl:i=l.length:=by omega
   simp only[zg,zj,zh,zi,zo,zk,if_true,reduceIte];rw[zBM9];unfold wkv;(repeat(first|refine ze ?_|refine zgo ?_ (by simp(disch:=omega)only[go_sem,h3,h6]<;>rfl)));refine zF ?_;refine zq (vs:=[wkv (x.does (zbv a l))]) ?_ ?_
   ·simp[T49,zI,okv,upd,h6,zao,zaK,za6,PV.cells,wkv]
   ·exact(zcD (by rw[(zcz _ x).2.2.1];exact hfr)).frz
  intro hlt;have hlt:i<l.length:=by have:=of_decide_eq_true hlt;omega
  obtain⟨c,hc⟩:∃c,l[i]?=some c:=⟨_,zAB9 hlt⟩
  have hcv:(l.map zag)[i]?=some (zag c):=by rw[zAL9,hc];rfl
  have hcin:=hin c (zAO9 hc);have htk:x.does (zbv a (l.take (i+1)))=(x.does (zbv a (l.take i))).one (a+c.1,c.2):=by
   rw[<- zsn,zBN9,hc];simp[zbv]
  obtain⟨d1,d2,d3,d4⟩:=zcz (zbv a (l.take i)) x;have hol:(zbv a (l.take i)).length<=l.length:=by simp[zbv];omega
  generalize x.does (zbv a (l.take i))=y at *
  have w1:IntKind.i64.wrap ((a:Int)+((c.1:Nat):Int))=((a+c.1:Nat):Int):=by rw[wrap_i64 (by omega) (by omega)];omega
  (repeat refine ze ?_);refine zK ?_;(repeat refine ze ?_);refine zap ?_;unfold wkv;refine zda ?_ (by simp(disch:=omega)only[go_sem,h1,h2,h7,hcv,hlt,w1,ga0,sa0,zAF9,zAH9,zAI9,zAC9,zAE9,zAG9,zAM9,zf,zn,zAA9]<;>rfl);refine zdl ?_ (by simp(disch:=omega)only[go_sem,h7]<;>rfl);refine zR ?_;simp only[zo,zW,zg,go_sem];have hbb:y.L.length*17<=140737488355328:=by omega
  have hbc:(y.L.length+1)*17<=140737488355328:=by omega
  refine ze (zbN (Q:=fun yy s'=>yy=.norm/\∃g,s'.tm 1=iv a/\s'.tm 2=.list r 2 (l.map zag)/\s'.tm 3=.ptr 0 0 0 0 4/\s'.tm 6=.ptr 1 0 0 0 4/\s'.tm 7=iv i/\s'.tm 8=.ptr (G.length+1+1) 0 0 0 2/\s'.df=[]/\s'.H=.row 107 4 0 0 [.agg [wv y.p y.W,.sl (G.length+1+1+1) g 0 (y.L.length+1) (2*(y.L.length+1)) 2,y.fr,iv y.used]]::.row 107 4 0 0 [.agg [.nilsl,.nilsl,.nilsl,iv 0]]::(G++.row 83 2 0 0 [zag (a+c.1,c.2)]::.row 83 2 g 0 (y.L.map zag++[zag (a+c.1,c.2)])::.row 83 2 0 0 [zag (a+c.1,c.2)]::[])) (zap ?_) ?_)
  ·by_cases hy:y.L=[]
   ·have hy0:y.L.length=0:=by rw[hy];rfl
    rw[hy];refine zda ?_ (by simp(disch:=omega)only[go_sem,hbb,hbc,h1,h2,h3,h6,h7,ga0,ga1,ga2,sa0,sa1,sa2,zAF9,zAH9,zAI9,zAC9,zAE9,zAG9,zBQ9,zAM9,zax,zaw,zay,zaz,zAA9]<;>rfl) (by first|exact trivial|simp only[go_sem,hbb,hbc,h1,h2,h3,h6,h7,ga0,ga1,ga2,sa0,sa1,sa2,zAF9,zAH9,zAI9,zAC9,zAE9,zAG9,zBQ9,zAM9,zax,zaw,zay,zaz,zAA9]);refine zda ?_ (by simp(disch:=omega)only[go_sem,hbb,hbc,h1,h2,h3,h6,h7,ga0,ga1,ga2,sa0,sa1,sa2,zAF9,zAH9,zAI9,zAC9,zAE9,zAG9,zBQ9,zAM9,zax,zaw,zay,zaz,zAA9]<;>rfl) (by first|exact trivial|simp only[go_sem,hbb,hbc,h1,h2,h3,h6,h7,ga0,ga1,ga2,sa0,sa1,sa2,zAF9,zAH9,zAI9,zAC9,zAE9,zAG9,zBQ9,zAM9,zax,zaw,zay,zaz,zAA9]);refine zda ?_ (by simp(disch:=omega)only[go_sem,hbb,hbc,h1,h2,h3,h6,h7,ga0,ga1,ga2,sa0,sa1,sa2,zAF9,zAH9,zAI9,zAC9,zAE9,zAG9,zBQ9,zAM9,zax,zaw,zay,zaz,zAA9]<;>rfl) (by first|exact trivial|simp only[go_sem,hbb,hbc,h1,h2,h3,h6,h7,ga0,ga1,ga2,sa0,sa1,sa2,zAF9,zAH9,zAI9,zAC9,zAE9,zAG9,zBQ9,zAM9,zax,zaw,zay,zaz,zAA9]);refine zdl ?_ (by simp(disch:=omega)only[go_sem,h1,h2,h3,h6,h7,ga0,ga1,ga2,sa0,sa1,sa2,zAF9,zAH9,zAI9,zAC9,zAE9,zAG9,zBQ9,zAM9,zax,zaw,zay,zaz,zAA9]<;>rfl) (by first|exact trivial|simp only[go_sem,h1,h2,h3,h6,h7,ga0,ga1,ga2,sa0,sa1,sa2,zAF9,zAH9,zAI9,zAC9,zAE9,zAG9,zBQ9,zAM9,zax,zaw,zay,zaz,zAA9]);refine zR ?_;simp only[zo,zW,zg,go_sem];exact⟨1,h1,h2,h3,h6,h7,rfl⟩
   ·have hy0:¬y.L.length=0:=by simpa using hy
    refine zda ?_ (by simp(disch:=omega)only[go_sem,hy0,hbb,hbc,h1,h2,h3,h6,h7,ga0,ga1,ga2,sa0,sa1,sa2,zAF9,zAH9,zAI9,zAC9,zAE9,zAG9,zBQ9,zAM9,zax,zaw,zay,zaz,zAA9]<;>rfl) (by first|exact trivial|simp only[go_sem,hy0,hbb,hbc,h1,h2,h3,h6,h7,ga0,ga1,ga2,sa0,sa1,sa2,zAF9,zAH9,zAI9,zAC9,zAE9,zAG9,zBQ9,zAM9,zax,zaw,zay,zaz,zAA9]);refine zda ?_ (by simp(disch:=omega)only[go_sem,hy0,hbb,hbc,h1,h2,h3,h6,h7,ga0,ga1,ga2,sa0,sa1,sa2,zAF9,zAH9,zAI9,zAC9,zAE9,zAG9,zBQ9,zAM9,zax,zaw,zay,zaz,zAA9]<;>rfl) (by first|exact trivial|simp only[go_sem,hy0,hbb,hbc,h1,h2,h3,h6,h7,ga0,ga1,ga2,sa0,sa1,sa2,zAF9,zAH9,zAI9,zAC9,zAE9,zAG9,zBQ9,zAM9,zax,zaw,zay,zaz,zAA9]);refine zda ?_ (by simp(disch:=omega)only[go_sem,hy0,hbb,hbc,h1,h2,h3,h6,h7,ga0,ga1,ga2,sa0,sa1,sa2,zAF9,zAH9,zAI9,zAC9,zAE9,zAG9,zBQ9,zAM9,zax,zaw,zay,zaz,zAA9]<;>rfl) (by first|exact trivial|simp only[go_sem,hy0,hbb,hbc,h1,h2,h3,h6,h7,ga0,ga1,ga2,sa0,sa1,sa2,zAF9,zAH9,zAI9,zAC9,zAE9,zAG9,zBQ9,zAM9,zax,zaw,zay,zaz,zAA9]);refine zdl ?_ (by simp(disch:=omega)only[go_sem,h1,h2,h3,h6,h7,ga0,ga1,ga2,sa0,sa1,sa2,zAF9,zAH9,zAI9,zAC9,zAE9,zAG9,zBQ9,zAM9,zax,zaw,zay,zaz,zAA9]<;>rfl) (by first|exact trivial|simp only[go_sem,h1,h2,h3,h6,h7,ga0,ga1,ga2,sa0,sa1,sa2,zAF9,zAH9,zAI9,zAC9,zAE9,zAG9,zBQ9,zAM9,zax,zaw,zay,zaz,zAA9]);refine zR ?_;simp only[zo,zW,zg,go_sem];exact⟨2,h1,h2,h3,h6,h7,rfl⟩
  clear h1 h2 h3 h6 h7;rintro yy ⟨tm,df,H⟩ ⟨rfl,g,h1,h2,h3,h6,h7,h8,rfl,rfl⟩;dsimp only at h1 h2 h3 h6 h7 h8;simp only[zg,zj,zh,zi,zo,zk,if_true,reduceIte];have hV:y.L.map zag++[zag (a+c.1,c.2)]=(y.L++[(a+c.1,c.2)]).map zag:=by simp
  have hVl:y.L.length+1=(y.L++[(a+c.1,c.2)]).length:=by simp
  rw[hV,hVl];refine zkQ 0 (G.length+1+1+1) (v':=.agg [wv y.p y.W,.list 0 2 ((y.L++[(a+c.1,c.2)]).map zag),y.fr,iv y.used]) rfl (by simp only[zAT9,ga1]<;>rfl) (by omega) rfl rfl (fun k u v hu hv=>?_) ?_
  ·match k with
   | 0=>injection hu with hu;injection hv with hv;subst hu hv;exact .inl rfl
   | 1 =>
    injection hu with hu;injection hv with hv;subst hu hv;exact .inr (Frz.whole (zxj (by simp only[zAT9,ga1]<;>rfl)) rfl (by simp) (by simp) (fun v hv=>by obtain⟨x,_,rfl⟩:=zAS9.1 hv;rfl) zcX)
   | 2=>injection hu with hu;injection hv with hv;subst hu hv;exact .inl rfl
   | 3=>injection hu with hu;injection hv with hv;subst hu hv;exact .inl rfl
   | k+4=>simp[PV.cells]at hu
  simp only[zBL9,zCL9,sa1];have hap:=zqQ y.p 1 y.W (a+c.1,c.2) (by omega) (by dsimp only;omega);(repeat refine ze ?_);refine zb ?_;refine zfx ?_ (by simp(disch:=omega)only[go_sem,h3,h8,ga0,zAF9,zAH9,zAI9,zAC9,zAE9,zAG9,zAM9]<;>rfl);refine zcl hap ?_ ?_;(repeat(first|exact trivial|refine And.intro ?_ ?_|exact .int _ _|exact .bool _|exact .list _ _ _|exact .elem _|exact .nilsl|exact .nil _ _|exact .str _|refine Frz.aggL ?_|refine Frz.fnL ?_|refine Frz.tupL ?_|refine .iface ?_|exact zy rfl rfl (by assumption)))
  ·exact Frz.whole (l:=[zag (a+c.1,c.2)]) (by simp only[zAT9,ga3]<;>rfl) rfl rfl (zAK9 _) (fun v hv=>by obtain rfl:=zBH9.1 hv;rfl) (zcX (l:=[(a+c.1,c.2)]))
  ·(repeat(first|exact trivial|refine And.intro ?_ ?_|exact .int _ _|exact .bool _|exact .list _ _ _|exact .elem _|exact .nilsl|exact .nil _ _|exact .str _|refine Frz.aggL ?_|refine Frz.fnL ?_|refine Frz.tupL ?_|refine .iface ?_|exact zy rfl rfl (by assumption)))
  refine zfx ?_;refine zd ?_;(repeat refine ze ?_);(repeat refine ze ?_);refine zrg ?_ (by simp(disch:=omega)only[go_sem,h3]<;>rfl);refine zG ?_;simp only[zg,zj,zh,zi,zo,zk,if_true,↓reduceIte];(repeat refine ze ?_);refine zrg ?_ (by simp(disch:=omega)only[go_sem,h7]<;>rfl);refine zG ?_;simp only[zg,zj,zh,zi,zo,zk,if_true,↓reduceIte];refine⟨_,?m,i+1,?G,rfl,hlt,by simp[upd,h1],by simp[upd,h2],by simp[upd,h3],by simp[upd,h6],by simp[upd,h7],trivial,?H⟩
  case m=>omega
  case H=>rw[htk];rfl
theorem f51:ET.funcs.get 51=some T51:=z9 (by kernel_rfl) (by decide)
theorem zwM:ET.funcs.get 143=some T143:=z9 (by kernel_rfl) (by decide)
set_option maxHeartbeats 1000000 in
theorem ziZ (p q:Nat)(bs:List Nat)(L:List zE)(hl:L.length<1000000)(hp:∀n∈L,n.pairs.length<=28)(hall:(zbS L).length<1000000):FN ET 51 [zbX p q bs L] (ze7 L):=by
 refine zfn f51 ?_ ?_
 ·unfold ze7;split
  ·exact Lb.two (Lb.pvs _) (.bool _)
  ·exact Lb.two (Lb.pvs _) (.bool _)
 (repeat(first|refine ze ?_|refine zgo ?_));refine zcn 66 2 (i:=4) rfl ?_;simp only[lzy,zAE9,zAG9,zAH9,zAI9];(repeat(first|refine ze ?_|refine zgo ?_));refine zK (zbd (fun m s=>∃(i:Nat) (acc:List Pr) (G:List zu),m=L.length-i/\i<=L.length/\zbS L=acc++zbS (L.drop i)/\zbt acc=true/\s.tm 1=.ptr 0 0 0 0 2/\s.tm 4=.sl 1 acc.length 0 acc.length (2*acc.length) 2/\s.tm 5=iv i/\s.df=[]/\s.H=.row 116 2 0 0 [zbX p q bs L]::.row 66 2 acc.length 0 (acc.map pv)::G) (n:=L.length) ?_ ?_)
 ·exact⟨0,[],[],rfl,by omega,rfl,rfl,by simp[upd,zB],by simp[upd],by simp[upd],rfl,rfl⟩
 ·rintro m ⟨tm,df,H⟩ ⟨i,acc,G,rfl,hi,hac,hri,h1,h4,h5,rfl,rfl⟩;dsimp only at h1 h4 h5;(try refine zaa ?_);refine ze (zb ?_);refine zfx ?_ (by simp(disch:=omega)only[go_sem,h1,h5,zAA9]<;>rfl);refine zd ?_;refine zae (by simp only[go_sem]<;>rfl) ?_ ?_
  ·intro hlt;have hlt:i<L.length:=by have:=of_decide_eq_true hlt;omega
   have hLi:=zAB9 hlt;rw[znh L i hlt]at hac;have hn28:=hp _ (zBU9 hlt);have hLiv:(L.map (za7 q))[i]?=some (za7 q L[i]):=by rw[zAL9,hLi];rfl
   generalize L[i]=n at *
   (repeat refine ze ?_);refine zK ?_;(repeat(first|refine ze ?_|refine zgo ?_ (by simp(disch:=omega)only[go_sem,h1,h5,hLiv,hlt,zAA9]<;>rfl)));generalize hR:zbS (List.drop (i+1) L)=R at hac;refine zK (zbd (fun m s=>∃(j:Nat) (acc:List Pr) (G:List zu),m=n.pairs.length-j/\j<=n.pairs.length/\zbS L=acc++((n.pairs.drop j).filter (zdo L[i+1]?)++R)/\zbt acc=true/\s.tm 1=.ptr 0 0 0 0 2/\s.tm 4=.sl 1 acc.length 0 acc.length (2*acc.length) 2/\s.tm 5=iv i/\s.tm 6=psv q n.pairs/\s.tm 7=iv j/\s.df=[]/\s.H=.row 116 2 0 0 [zbX p q bs L]::.row 66 2 acc.length 0 (acc.map pv)::G) (n:=n.pairs.length) ?_ ?_)
   ·exact⟨0,acc,_,rfl,by omega,hac,hri,by simp[upd,h1],by simp[upd,h4],by simp[upd,h5],by simp[upd],by simp[upd],rfl,rfl⟩
   ·clear h1 h4 h5 hac hri;rintro m ⟨tm,df,H⟩ ⟨j,acc,G,rfl,hj,hac,hri,h1,h4,h5,h6,h7,rfl,rfl⟩;dsimp only at h1 h4 h5 h6 h7;(try refine zaa ?_);refine ze (zb ?_);refine zfx ?_ (by simp(disch:=omega)only[go_sem,h6,h7,zAA9]<;>rfl);refine zd ?_;refine zae (by simp only[go_sem]<;>rfl) ?_ ?_
    ·intro hltj;have hltj:j<n.pairs.length:=by have:=of_decide_eq_true hltj;omega
     have hxj:=zAB9 hltj;rw[zBB9 hltj,zBX9]at hac;have hxv:(n.pairs.map pv)[j]?=some (pv n.pairs[j]):=by rw[zAL9,hxj];rfl
     generalize n.pairs[j]=x at *
     (repeat refine ze ?_);refine zK ?_;(repeat refine ze ?_);refine zbN (Q:=fun y s'=>y=.norm/\s'.tm 1=.ptr 0 0 0 0 2/\s'.tm 4=.sl 1 acc.length 0 acc.length (2*acc.length) 2/\s'.tm 5=iv i/\s'.tm 6=psv q n.pairs/\s'.tm 7=iv j/\s'.tm 48=.bool (!zdo L[i+1]? x)/\s'.df=[]/\s'.H=.row 116 2 0 0 [zbX p q bs L]::.row 66 2 acc.length 0 (acc.map pv)::G) (zap ?_) ?_
     ·have e1:((i:Int)+1)=((i+1:Nat):Int):=by omega
      by_cases hi1:i+1<L.length
      ·have g1:((i+1:Nat):Int)<(L.length:Nat):=by omega
       have hz:=zAB9 hi1;have hzv:(L.map (za7 q))[i+1]?=some (za7 q L[i+1]):=by rw[zAL9,hz];rfl
       rw[hz];generalize L[i+1]=z at *
       refine zdl ?_ (by simp(disch:=omega)only[go_sem,h1,h5,h6,h7,e1,g1,hzv,hxv,hltj,hi1,zAA9]<;>rfl);refine zR ?_;simp only[zo,zW,zg,go_sem];exact⟨h1,h4,h5,h6,h7,by simp[zdo]⟩
      ·have g1:¬((i+1:Nat):Int)<(L.length:Nat):=by omega
       have hz:L[i+1]?=none:=zCC9 (by omega);rw[hz];refine zdl ?_ (by simp(disch:=omega)only[go_sem,h1,h5,h6,h7,e1,g1,hltj,zAA9]<;>rfl);refine zR ?_;simp only[zo,zW,zg,go_sem];exact⟨h1,h4,h5,h6,h7,by simp[zdo]⟩
     ·clear h1 h4 h5 h6 h7;rintro y ⟨tm,df,H⟩ ⟨rfl,h1,h4,h5,h6,h7,h48,rfl,rfl⟩;dsimp only at h1 h4 h5 h6 h7 h48;simp only[zg,zj,zh,zi,zo,zk,if_true,reduceIte]
      by_cases hk:zdo L[i+1]? x=true
      rotate_left
      ·rw[if_neg hk]at hac;have hk:zdo L[i+1]? x=false:=by simpa using hk
       refine zfc ?_ ?_ (by simp only[go_sem,h48]<;>rfl)
       ·intro _;refine zgc ?_;simp only[zg,zj,zh,zi,zo,zk,if_true,reduceIte];(repeat refine ze ?_);refine zrg ?_ (by simp(disch:=omega)only[go_sem,h7]<;>rfl);refine zG ?_;simp only[zg,zj,zh,zi,zo,zk,if_true,↓reduceIte];refine⟨_,?m1,j+1,acc,_,rfl,hltj,hac,hri,by simp[upd,h1],by simp[upd,h4],by simp[upd,h5],by simp[upd,h6],by simp[upd,h7],trivial,rfl⟩
        case m1=>omega
       ·rw[hk];intro h;cases h
      rw[if_pos hk]at hac;refine zfc ?_ ?_ (by simp only[go_sem,h48]<;>rfl)
      ·rw[hk];intro h;cases h
      intro _;refine zQ ?_;show W _ _ _ _ _ _;(repeat(first|refine ze ?_|refine zgo ?_ (by simp(disch:=omega)only[go_sem,h4,zAA9]<;>rfl)));have hal:acc.length<1000000:=by have:=congrArg List.length hac;simp only[zAC9]at this;omega
      refine zbN (Q:=fun y s'=>y=.norm/\s'.tm 1=.ptr 0 0 0 0 2/\s'.tm 4=.sl 1 acc.length 0 acc.length (2*acc.length) 2/\s'.tm 5=iv i/\s'.tm 6=psv q n.pairs/\s'.tm 7=iv j/\s'.tm 66=.bool (zxh acc x)/\s'.df=[]/\s'.H=.row 116 2 0 0 [zbX p q bs L]::.row 66 2 acc.length 0 (acc.map pv)::G) (zap ?_) ?_
      ·by_cases ha0:acc.length=0
       ·have g1:¬(0:Int)<(acc.length:Nat):=by omega
        have g2:¬(0:Int)<=(acc.length:Int)-1:=by omega
        refine zdl ?_ (by simp(disch:=omega)only[go_sem,h4,h6,h7,g1,g2,hltj,hxv,zAA9]<;>rfl);refine zR ?_;simp only[zo,zW,zg,go_sem];obtain rfl:acc=[]:=zCP9 ha0;exact⟨h1,h4,h5,h6,h7,rfl⟩
       ·have e1:(acc.length:Int)-1=((acc.length-1:Nat):Int):=by omega
        have g2:(0:Int)<=((acc.length-1:Nat):Int):=by omega
        have e2:acc.length-1<acc.length:=by omega
        obtain⟨y,hy⟩:∃y,acc.getLast?=some y:=by
         cases hh:acc.getLast? with
         | none=>rw[zCQ9]at hh;subst hh;simp at ha0
         | some y=>exact⟨y,rfl⟩
        have hy2:acc[acc.length-1]?=some y:=by rw[<- zCE9];exact hy
        have hyv:(acc.map pv)[acc.length-1]?=some (pv y):=by rw[zAL9,hy2];rfl
        refine zdl ?_ (by simp(disch:=omega)only[go_sem,h4,h6,h7,e1,g2,e2,hyv,hltj,hxv,zAA9]<;>rfl);refine zR ?_;simp only[zo,zW,zg,go_sem];exact⟨h1,h4,h5,h6,h7,by simp[zxh,hy]⟩
      ·clear h1 h4 h5 h6 h7 h48;rintro y ⟨tm,df,H⟩ ⟨rfl,h1,h4,h5,h6,h7,h66,rfl,rfl⟩;dsimp only at h1 h4 h5 h6 h7 h66;simp only[zg,zj,zh,zi,zo,zk,if_true,reduceIte]
       by_cases hk2:zxh acc x=true
       ·refine zfc ?_ ?_ (by simp only[go_sem,h66]<;>rfl)
        ·intro _;(repeat(first|refine ze ?_|refine zgo ?_));refine zF ?_;(try simp only[zg,zj,zh,zi,zk]);refine zq (by simp only[T51,zI,go_sem]<;>rfl) ?_;simp only[zP];exact zux hac (zmt hk2)
        ·rw[hk2];intro h;cases h
       have hk2:zxh acc x=false:=by simpa using hk2
       refine zfc ?_ ?_ (by simp only[go_sem,h66]<;>rfl)
       ·rw[hk2];intro h;cases h
       intro _;refine zQ ?_;simp only[zg,zj,zh,zi,zo,zk,if_true,reduceIte];have hbb:(acc.length+1)*17<=140737488355328:=by omega
       (repeat refine ze ?_);refine zrg ?_ (by simp(disch:=omega)only[go_sem,h4,h6,h7,hxv,hltj,hbb,zf,zAA9]<;>rfl);refine zG ?_;simp only[zg,zj,zh,zi,zo,zk,if_true,↓reduceIte];(repeat refine ze ?_);refine zrg ?_ (by simp(disch:=omega)only[go_sem,h7]<;>rfl);refine zG ?_;simp only[zg,zj,zh,zi,zo,zk,if_true,↓reduceIte];refine⟨_,?m3,j+1,acc++[x],?G3,rfl,hltj,by rw[hac];simp,zpj hri hk2,by simp[upd,h1],by simp[upd],by simp[upd,h5],by simp[upd,h6],by simp[upd,h7],trivial,?H3⟩
       case m3=>omega
       case H3=>rw[zBY9,zAC9];rfl
    ·intro hltj;have hltj:¬j<n.pairs.length:=by have:=of_decide_eq_false hltj;omega
     obtain rfl:j=n.pairs.length:=by omega
     simp only[zg,zj,zh,zi,zo,zk,if_true,reduceIte];(repeat refine ze ?_);refine zrg ?_ (by simp(disch:=omega)only[go_sem,h5]<;>rfl);refine zG ?_;simp only[zg,zj,zh,zi,zo,zk,if_true,↓reduceIte];rw[zCW9,zCF9,zAI9,<- hR]at hac;refine⟨_,?m9,i+1,acc,G,rfl,hlt,hac,hri,by simp[upd,h1],by simp[upd,h4],by simp[upd,h5],trivial,rfl⟩
     case m9=>omega
  ·intro hlt;have hlt:¬i<L.length:=by have:=of_decide_eq_false hlt;omega
   obtain rfl:i=L.length:=by omega
   simp only[zg,zj,zh,zi,zo,zk,if_true,reduceIte];(repeat(first|refine ze ?_|refine zgo ?_ (by simp(disch:=omega)only[go_sem,h4]<;>rfl)));refine zF ?_;(try simp only[zg,zj,zh,zi,zk]);refine zq (by simp only[T51,zI,go_sem]<;>rfl) ?_;simp only[zP];rw[zCW9,zbS,zDV9]at hac;unfold ze7;rw[hac,if_pos hri];refine Frz.tupL ⟨?_,.bool _,trivial⟩;exact Frz.whole (l:=acc.map pv) rfl rfl (by simp) (by simp) (fun v hv=>by obtain⟨x,_,rfl⟩:=zAS9.1 hv;rfl) zd2
theorem zpM (p:Nat)(w:List Nat)(b:Nat)(hw:zbH w.length):FN ET 143 [wv p w,uv b] (.ret (.bool (decide (1<=b)&&decide (b<w.length/64)))):=by
 refine zfn zwM (.bool _) ?_;unfold zbH at hw;have w1:IntKind.u64.wrap (((w.length/64:Nat):Int))=((w.length/64:Nat):Int):=zL (by omega) (by omega);have hq:IntKind.i64.wrap ((w.length:Int)/64)=((w.length/64:Nat):Int):=by rw[wrap_i64 (by omega) (by omega)];omega
 have q1:IntKind.i64.wrap ((w.length:Int).tdiv 64)=((w.length/64:Nat):Int):=by rw[IntWalk.i64_quo _ _ (by omega)];omega
 by_cases h:1<=b
 ·have g:(1:Int)<=b:=by omega
  by_cases h2:b<w.length/64
  ·have g2:(b:Int)<((w.length/64:Nat):Int):=by omega
   (repeat(first|refine ze ?_|refine zgo ?_ (by simp(disch:=omega)only[go_sem,g,q1,hq,w1,g2,zAA9]<;>rfl)));refine zF ?_;(try simp only[zg,zj,zh,zi,zk]);refine zq (by simp only[T143,zI,go_sem]<;>rfl) ?_;simp only[zP];exact zbo.bool (by simp[h,h2])
  ·have g2:¬(b:Int)<((w.length/64:Nat):Int):=by omega
   (repeat(first|refine ze ?_|refine zgo ?_ (by simp(disch:=omega)only[go_sem,g,q1,hq,w1,g2,zAA9]<;>rfl)));refine zF ?_;(try simp only[zg,zj,zh,zi,zk]);refine zq (by simp only[T143,zI,go_sem]<;>rfl) ?_;simp only[zP];exact zbo.bool (by simp[h,h2])
 ·have g:¬(1:Int)<=b:=by omega
  (repeat(first|refine ze ?_|refine zgo ?_ (by simp(disch:=omega)only[go_sem,g]<;>rfl)));refine zF ?_;(try simp only[zg,zj,zh,zi,zk]);refine zq (by simp only[T143,zI,go_sem]<;>rfl) ?_;simp only[zP];exact zbo.bool (by simp[h])
theorem f98:ET.funcs.get 98=some T98:=z9 (by kernel_rfl) (by decide)
def zfl (w:List Nat)(lv:Int):Nat->List Nat->List Nat->List zE->Nat->List Nat×List zE×Bool
 | 0,_,bs,ns,b=>(bs,ns,decide (b=0) && !ns.isEmpty)
 | k+1,seen,bs,ns,b=>if b=0 then(bs,ns,!ns.isEmpty)else
  if decide (w.length/64<=b)||seen.contains b then(bs,ns,false)else
  if zbP (zD w b)&&zbL ns (zai (zD w b)) lv then zfl w lv k (b::seen) (bs++[b]) (ns++[zai (zD w b)]) (zai (zD w b)).sib else(bs,ns,false)
theorem znM {w:List Nat}{lv:Int}:∀(k:Nat) (seen bs:List Nat) (ns:List zE) (b:Nat),zbC w lv k seen bs ns b=none->(zfl w lv k seen bs ns b).2.2=false
 | 0,seen,bs,ns,b,h=>by
  rw[zbC]at h;rw[zfl]
  by_cases hb:b=0
  ·rw[if_pos hb]at h;cases h
  ·simp[hb]
 | k+1,seen,bs,ns,b,h=>by
  rw[zbC]at h;rw[zfl]
  split
  ·rename_i hb;rw[if_pos hb]at h;cases h
  ·rename_i hb;rw[if_neg hb]at h
   split
   ·rfl
   ·rename_i h2;rw[if_neg h2]at h
    split
    ·rename_i h3;rw[if_pos h3]at h;exact znM k _ _ _ _ h
    ·rfl
theorem zm5 {w:List Nat}{lv:Int}{r:List Nat×List Nat×List zE}:∀(k:Nat) (seen bs:List Nat) (ns:List zE) (b:Nat),zbC w lv k seen bs ns b=some r->zfl w lv k seen bs ns b=(r.2.1,r.2.2,!r.2.2.isEmpty)
 | 0,seen,bs,ns,b,h=>by
  rw[zbC]at h;rw[zfl]
  by_cases hb:b=0
  ·rw[if_pos hb]at h;injection h with h;subst h;simp[hb]
  ·rw[if_neg hb]at h;cases h
 | k+1,seen,bs,ns,b,h=>by
  rw[zbC]at h;rw[zfl]
  split
  ·rename_i hb;rw[if_pos hb]at h;injection h with h;subst h;rfl
  ·rename_i hb;rw[if_neg hb]at h
   split
   ·rename_i h2;rw[if_pos h2]at h;cases h
   ·rename_i h2;rw[if_neg h2]at h
    split
    ·rename_i h3;rw[if_pos h3]at h;exact zm5 k _ _ _ _ h
    ·rename_i h3;rw[if_neg h3]at h;cases h
theorem zjz (l:List Nat)(b:Nat):(l.map fun(x:Nat)=>(x:Int)).contains (b:Int)=l.contains b:=by
 rw[zDN9];simp only[zCU9,zAS9];exact⟨fun⟨a,h1,h2⟩=>by rw[show b=a by omega];exact h1,fun h=>⟨b,h,rfl⟩⟩
theorem zmA (l:List Nat):(l.map fun(x:Nat)=>(x:Int)).map iv=l.map fun(b:Nat)=>iv (b:Int):=by rw[zDO9];rfl
theorem zqH (p:Nat)(l:List Nat)(n:Nat)(hl:l.length<4611686018427387904):FN ET 58 [.list p 1 (l.map fun(b:Nat)=>iv (b:Int)),iv (n:Nat)] (.ret (.bool (l.contains n))):=by
 have:=zmm p (l.map fun(x:Nat)=>(x:Int)) n (by simpa using hl);rw[zmA,zjz]at this;exact this
theorem zvD (bs:List Nat)(ns:List zE):Lb (zbX 0 0 bs ns):=.agg fun x hx=>by
 simp at hx;rcases hx with rfl|rfl
 ·exact Lb.ivn _
 ·exact Lb.nodes _
def lvH (z:PV)(bs:List Nat)(ns:List zE)(G:List zu):List zu :=
 .row 116 2 0 0 [z]::.row 116 2 0 0 [.agg [.sl 2 bs.length 0 bs.length (2*bs.length) 1,.sl 3 ns.length 0 ns.length (2*ns.length) 6]]::.row 3 1 bs.length 0 (bs.map fun(b:Nat)=>iv (b:Int))::.row 124 6 ns.length 0 (ns.map (za7 0))::G
theorem zqN (z:PV)(bs:List Nat)(ns:List zE)(G:List zu)(lab:Nat):LF (lvH z bs ns G) lab [.sl 2 bs.length 0 bs.length (2*bs.length) 1,.sl 3 ns.length 0 ns.length (2*ns.length) 6] [.list lab 1 (bs.map fun(b:Nat)=>iv (b:Int)),.list lab 6 (ns.map (za7 0))] :=
  ⟨Frz.whole (e:=3) (z':=1) (G:=bs.length) (l:=bs.map fun(b:Nat)=>iv (b:Int)) rfl rfl (by simp) (by simp) (fun v hv=>by obtain⟨x,_,rfl⟩:=zAS9.1 hv;rfl) zeK,
   Frz.whole (e:=124) (z':=6) (G:=ns.length) (l:=ns.map (za7 0)) rfl rfl (by simp) (by simp) (fun v hv=>by obtain⟨x,_,rfl⟩:=zAS9.1 hv;rfl) zgd,trivial⟩
theorem zij {bs:List Nat}{ns:List zE}{G:List zu}{tm:Nat->PV}{b:Bool}{R:List Nat×List zE×Bool}(h8:tm 8=.ptr 0 0 0 0 2)(h9:tm 9=.bool b)(hR:R=(bs,ns,b)):zdI ET T98 (fun e' H=>zbo H 0 e' (.ret (.tuple [zbX 0 0 R.1 R.2.1,.bool R.2.2]))) .ret ⟨tm,[],lvH (.agg [.sl 2 bs.length 0 bs.length (2*bs.length) 1,.sl 3 ns.length 0 ns.length (2*ns.length) 6]) bs ns G⟩:=by
 subst hR;refine zq (vs:=[.agg [.sl 2 bs.length 0 bs.length (2*bs.length) 1,.sl 3 ns.length 0 ns.length (2*ns.length) 6],.bool b]) ?_ ?_
 ·simp[T98,zI,okv,h8,h9,zao,zaK,za6,lvH,PV.cells]
 ·exact Frz.tupL ⟨Frz.aggL (zqN _ bs ns G 0),.bool _,trivial⟩
theorem zdu {E:Env}{caught:Tr Unit}{rnd:Option Nat}{code:zbu}{s:FSt}{Q:FX->FSt->Prop}(F:(Nat->PV)->Prop)(hF:F s.tm)(k:∀tm,F tm->W E caught rnd code ⟨tm,s.df,s.H⟩ Q):W E caught rnd code s Q:=k s.tm hF
set_option maxHeartbeats 4000000 in
theorem zq9 (p r:Nat)(w:List Nat)(hw:64<=w.length/\w.length<=131072)(b:Nat)(lv:Int)(sR seen:List Nat)(hs:∀x,x∈sR↔x∈seen)(hsl:sR.length<1000000)(R:List Nat×List zE×Bool)(hR:zfl w lv (w.length/64) seen [] [] b=R) :
  FN ET 98 [wv p w,uv b,iv lv,.list r 1 (sR.map fun(b:Nat)=>iv (b:Int))] (.ret (.tuple [zbX 0 0 R.1 R.2.1,.bool R.2.2])):=by
 refine zfn f98 (Lb.two (zvD _ _) (.bool _)) ?_;(repeat(first|refine ze ?_|refine zgo ?_));refine zf4 3 1 (id:=1) (v:=.agg [.nilsl,.nilsl]) (v':=.agg [.sl 2 0 0 0 0 1,.nilsl]) (e0:=116) (z0:=2) (G:=0) (M:=0) rfl rfl (fun k x y hx hy=>?_) ?_
 ·match k with
  | 0=>injection hx with hx;injection hy with hy;subst hx hy;exact .inr ⟨rfl,by simp[lzy]⟩
  | 1=>injection hx with hx;injection hy with hy;subst hx hy;exact .inl rfl
  | k+2=>simp[PV.cells]at hx
 simp only[zBL9,zCL9,zAH9,zAI9];refine zf4 124 6 (id:=1) (v:=.agg [.sl 2 0 0 0 0 1,.nilsl]) (v':=.agg [.sl 2 0 0 0 0 1,.sl 3 0 0 0 0 6]) (e0:=116) (z0:=2) (G:=0) (M:=0) rfl rfl (fun k x y hx hy=>?_) ?_
 ·match k with
  | 0=>injection hx with hx;injection hy with hy;subst hx hy;exact .inl rfl
  | 1=>injection hx with hx;injection hy with hy;subst hx hy;exact .inr ⟨rfl,by simp[lzy]⟩
  | k+2=>simp[PV.cells]at hx
 simp only[zBL9,zCL9,zAH9,zAI9];have hnb:w.length/64<=2048:=by omega
 have hsm:zbH w.length:=by unfold zbH;omega
 refine zK (zbd (fun m s=>∃(k:Nat) (S:List Nat) (bs:List Nat) (ns:List zE) (b2:Nat) (G:List zu),m=k/\zc1 (w.length/64) S<=k/\zfl w lv k S bs ns b2=R/\bs.length=ns.length/\bs.length+k<=2048/\(∀x,x∈S↔x∈sR\/x∈bs)/\(∀n∈ns,lv<0\/(n.level:Int)=lv)/\b2<2048+b+1/\s.tm 0=wv p w/\s.tm 1=uv b2/\s.tm 2=iv lv/\s.tm 3=.list r 1 (sR.map fun(b:Nat)=>iv (b:Int))/\s.tm 8=.ptr 0 0 0 0 2/\s.tm 10=.ptr 1 0 0 0 2/\s.df=[]/\s.H=lvH (.agg [.nilsl,.nilsl]) bs ns G) (n:=w.length/64) ?_ ?_)
 ·exact⟨_,seen,[],[],b,[],rfl,zi0 _ _,hR,rfl,by simpa using hnb,fun x=>by simp[hs x],fun n hn=>by simp at hn,by omega,by simp[upd,zB],by simp[upd,zB],by simp[upd,zB],by simp[upd,zB],by simp[upd],by simp[upd],rfl,rfl⟩
 ·clear hR;rintro m ⟨tm,df,H⟩ ⟨k,S,bs,ns,b2,G,rfl,hun,hR,hbn,hbk,hS,hlvs,hb2,h0,h1,h2,h3,h8,h10,rfl,rfl⟩;dsimp only at h0 h1 h2 h3 h8 h10;(try refine zaa ?_);refine ze (zb ?_);refine zfx ?_ (by simp(disch:=omega)only[go_sem,h1]<;>rfl);refine zd ?_;refine zae (by simp only[go_sem]<;>rfl) ?_ ?_;rotate_left
  ·intro hb0;have hb0:b2=0:=by simpa using hb0
   subst hb0;have hR2:R=(bs,ns,!ns.isEmpty):=by rw[<- hR];cases m<;>simp[zfl]
   simp only[zg,zj,zh,zi,zo,zk,if_true,reduceIte];unfold lvH;(repeat refine ze ?_);refine zap ?_
   by_cases hne:ns=[]
   ·subst hne;refine zda ?_ (by simp(disch:=omega)only[go_sem,h8,h10,zAG9]<;>rfl);refine zdl ?_ (by simp(disch:=omega)only[go_sem,h8,zBX9,zCF9,zBV9,zCG9,zCT9,Nat.reduceBEq,zT,zS,zO]<;>rfl) (by first|exact trivial|simp only[go_sem,h8,zBX9,zCF9,zBV9,zCG9,zCT9,Nat.reduceBEq,zT,zS,zO]);refine zR ?_;simp only[zo,zW,zg,go_sem];refine zF ?_;exact zij (by simp[upd,h8]) (by simp[upd]) hR2
   ·have g:(0:Int)<(ns.length:Nat):=by have:=zBZ9.2 hne;omega
    refine zda ?_ (by simp(disch:=omega)only[go_sem,h8,h10,g]<;>rfl);refine zdl ?_ (by simp(disch:=omega)only[go_sem,h8,g,zBX9,zCF9,zBV9,zCG9,zCT9,Nat.reduceBEq,zT,zS,zO]<;>rfl) (by first|exact trivial|simp only[go_sem,h8,g,zBX9,zCF9,zBV9,zCG9,zCT9,Nat.reduceBEq,zT,zS,zO]);refine zR ?_;simp only[zo,zW,zg,go_sem];refine zF ?_;exact zij (b:=true) (by simp[upd,h8]) (by simp[upd]) (by rw[hR2];simp[hne])
  intro hb0;have hb0:¬b2=0:=by simpa using hb0
  (repeat refine ze ?_);refine zK ?_;(repeat refine ze ?_);have hth:=zpM p w b2 hsm;have hb1:1<=b2:=by omega
  rw[decide_eq_true hb1,zBW9]at hth;refine zbN (Q:=fun y s'=>y=.norm/\s'.tm 0=wv p w/\s'.tm 1=uv b2/\s'.tm 2=iv lv/\s'.tm 3=.list r 1 (sR.map fun(b:Nat)=>iv (b:Int))/\s'.tm 8=.ptr 0 0 0 0 2/\s'.tm 10=.ptr 1 0 0 0 2/\s'.tm 32=.bool (decide (w.length/64<=b2)||S.contains b2)/\s'.df=[]/\s'.H=lvH (.agg [.nilsl,.nilsl]) bs ns G) (zb ?_) ?_
  ·by_cases hge:b2<w.length/64
   rotate_left
   ·rw[decide_eq_false hge]at hth;refine zfx ?_ (by simp(disch:=omega)only[go_sem,h0,h1]<;>rfl);refine zca hth ?_;refine zfx ?_;refine zG ?_;simp only[zg,zj,zh,zi,zo,zk,if_true,↓reduceIte];exact⟨trivial,h0,h1,h2,h3,h8,h10,by simp[upd];omega,trivial,(by first|exact trivial|rfl)⟩
   rw[decide_eq_true hge]at hth;have w1:IntKind.i64.wrap (b2:Int)=(b2:Int):=wrap_i64 (by omega) (by omega);have hh1:=zqH r sR b2 (by omega);have hh2:=zqH 1 bs b2 (by omega);have hSc:S.contains b2=(sR.contains b2||bs.contains b2):=by
    rw[zDN9];simp[hS b2]
   have hng:decide (w.length/64<=b2)=false:=decide_eq_false (by omega);rw[hSc,hng,Bool.false_or];refine zfx ?_ (by simp(disch:=omega)only[go_sem,h0,h1]<;>rfl);refine zca hth ?_;refine zfx ?_ (by simp(disch:=omega)only[go_sem,h1,h3,w1]<;>rfl);refine zca hh1 ?_
   by_cases hc1:sR.contains b2=true
   ·rw[hc1,Bool.true_or];refine zfx ?_;refine zG ?_;simp only[zg,zj,zh,zi,zo,zk,if_true,↓reduceIte];exact⟨trivial,h0,h1,h2,h3,h8,h10,by simp[upd],trivial,(by first|exact trivial|rfl)⟩
   have hc1:sR.contains b2=false:=by simpa using hc1
   rw[hc1,Bool.false_or];unfold lvH;refine zfx ?_ (by simp(disch:=omega)only[go_sem,h1,h10,w1]<;>rfl);refine zcl hh2 ?_ ?_;(repeat(first|exact trivial|refine And.intro ?_ ?_|exact .int _ _|exact .bool _|exact .list _ _ _|exact .elem _|exact .nilsl|exact .nil _ _|exact .str _|refine Frz.aggL ?_|refine Frz.fnL ?_|refine Frz.tupL ?_|refine .iface ?_|exact zy rfl rfl (by assumption)))
   ·exact(zqN (.agg [.nilsl,.nilsl]) bs ns G 1).1
   ·(repeat(first|exact trivial|refine And.intro ?_ ?_|exact .int _ _|exact .bool _|exact .list _ _ _|exact .elem _|exact .nilsl|exact .nil _ _|exact .str _|refine Frz.aggL ?_|refine Frz.fnL ?_|refine Frz.tupL ?_|refine .iface ?_|exact zy rfl rfl (by assumption)))
   refine zfx ?_;refine zG ?_;simp only[zg,zj,zh,zi,zo,zk,if_true,↓reduceIte];exact⟨trivial,h0,h1,h2,h3,h8,h10,by simp[upd],trivial,(by first|exact trivial|rfl)⟩
  clear h0 h1 h2 h3 h8 h10;rintro y ⟨tm,df,H⟩ ⟨rfl,h0,h1,h2,h3,h8,h10,h32,rfl,rfl⟩;dsimp only at h0 h1 h2 h3 h8 h10 h32;simp only[zg,zj,zh,zi,zo,zk,if_true,reduceIte]
  by_cases hbad:(decide (w.length/64<=b2)||S.contains b2)=true
  ·rw[hbad]at h32;refine zfc ?_ ?_ (by simp only[go_sem,h32]<;>rfl);rotate_left
   ·intro h;cases h
   intro _;unfold lvH;(repeat(first|refine ze ?_|refine zgo ?_ (by simp(disch:=omega)only[go_sem,h8,h10]<;>rfl)));refine zF ?_;exact zij (b:=false) (by simp[upd,h8]) (by simp[upd]) (by
    rw[<- hR]
    cases m with
    | zero=>rw[zfl];simp[hb0]
    | succ m=>rw[zfl,if_neg hb0,if_pos hbad])
  have hbad:(decide (w.length/64<=b2)||S.contains b2)=false:=by simpa using hbad
  rw[hbad]at h32;refine zfc ?_ ?_ (by simp only[go_sem,h32]<;>rfl)
  ·intro h;cases h
  intro _;refine zQ ?_;show W _ _ _ _ _ _;have hbl:b2<w.length/64:=by
   cases h:decide (w.length/64<=b2)with
   | true=>rw[h]at hbad;cases hbad
   | false=>have:=of_decide_eq_false h;omega
  have hbs:¬S.contains b2=true:=by intro h;rw[h,Bool.or_true]at hbad;cases hbad
  have hm1:∃m',m=m'+1:=by
   cases m with
   | zero=>exact absurd (zh3 _ b2 S (by omega) hbl) hbs
   | succ m=>exact⟨m,rfl⟩
  obtain⟨m',rfl⟩:=hm1;rw[zfl,if_neg hb0,if_neg (by rw[hbad];decide)]at hR;have hOf:=zeT p (zD w b2) (by unfold zD zbH;simp;omega);have e1:IntKind.u64.wrap ((64:Int)*(b2:Int))=((64*b2:Nat):Int):=by rw[zL (by omega) (by omega)];omega
  have e2:IntKind.u64.wrap (((64*b2:Nat):Int)+64)=((64*b2+64:Nat):Int):=by rw[zL (by omega) (by omega)];omega
  have e3:64*b2<=64*b2+64:=by omega
  have e4:64*b2+64<=w.length:=by omega
  have e6:0<w.length:=by omega
  have e5:List.drop (64*b2) (List.take (64*b2+64) (List.map uv w))=(zD w b2).map uv:=by simp[zD,zCO9,zDH9]
  (repeat refine ze ?_);refine zb ?_;refine zfx ?_ (by simp(disch:=omega)only[go_sem,h0,h1,e1,e2,e3,e4,e5,e6,zAA9]<;>rfl)
  by_cases hh:zbP (zD w b2)=true
  rotate_left
  ·have hh:zbP (zD w b2)=false:=by simpa using hh
   rw[zk5 hh]at hOf;rw[hh,zFC9,if_neg (by decide)]at hR;refine zca hOf ?_;unfold lvH;refine zfx ?_;refine zd ?_;(repeat(first|refine ze ?_|refine zgo ?_ (by simp(disch:=omega)only[go_sem,h10,zf,zn]<;>rfl)));refine zdu (fun tm=>tm 8=.ptr 0 0 0 0 2/\tm 10=.ptr 1 0 0 0 2/\tm 12=iv 210) ⟨by simp[upd,h8],by simp[upd,h10],by simp[upd]⟩ ?_;clear h8 h10;rintro tm ⟨h8,h10,h12⟩;refine(zbN (Q:=fun y s'=>y=.norm/\s'.tm 8=.ptr 0 0 0 0 2/\s'.tm 10=.ptr 1 0 0 0 2/\s'.tm 95=.bool true/\s'.df=[]/\∃G2,s'.H=lvH (.agg [.nilsl,.nilsl]) bs ns G2) (zap ?_) ?_)
   ·have g210:¬(210:Int)=0:=by decide
    refine zdl ?_ (by simp(disch:=omega)only[go_sem,h12,g210]<;>rfl);refine zR ?_;simp only[zo,zW,zg,go_sem];exact⟨h8,h10,G++_,rfl⟩
   rintro y ⟨tm,df,H⟩ ⟨rfl,h8,h10,h95,rfl,G2,rfl⟩;dsimp only at h8 h10 h95;simp only[zg,zj,zh,zi,zo,zk,if_true,reduceIte];refine zfc ?_ ?_ (by simp only[go_sem,h95]<;>rfl);rotate_left
   ·intro h;cases h
   intro _;unfold lvH;(repeat(first|refine ze ?_|refine zgo ?_ (by simp(disch:=omega)only[go_sem,h8,h10]<;>rfl)));refine zF ?_;exact zij (b:=false) (by simp[upd,h8]) (by simp[upd]) hR.symm
  obtain⟨b12,b2048,bw⟩:=zeB hh;rw[zeP _ hh]at hOf;rw[hh,zBW9]at hR;generalize zai (zD w b2)=nd at hOf hR b12 b2048 bw;refine zca hOf ?_;unfold lvH;refine zfx ?_;refine zd ?_;(repeat(first|refine ze ?_|refine zgo ?_ (by simp(disch:=omega)only[go_sem,h10,zf,zn]<;>rfl)));refine zdu (fun tm=>tm 0=wv p w/\tm 1=uv b2/\tm 2=iv lv/\tm 3=.list r 1 (sR.map fun(b:Nat)=>iv (b:Int))/\tm 8=.ptr 0 0 0 0 2/\tm 10=.ptr 1 0 0 0 2/\tm 11=.ptr (G.length+1+1+1+1) 0 0 0 6/\tm 12=iv 0/\tm 13=iv ((ns.length:Int)-1)) ⟨by simp[upd,h0],by simp[upd,h1],by simp[upd,h2],by simp[upd,h3],by simp[upd,h8],by simp[upd,h10],by simp[upd],by simp[upd],by simp[upd]⟩ ?_;clear h0 h1 h2 h3 h8 h10 h32;rintro tm ⟨h0,h1,h2,h3,h8,h10,h11,h12,h13⟩;refine(zbN (Q:=fun y s'=>y=.norm/\s'.tm 0=wv p w/\s'.tm 1=uv b2/\s'.tm 2=iv lv/\s'.tm 3=.list r 1 (sR.map fun(b:Nat)=>iv (b:Int))/\s'.tm 8=.ptr 0 0 0 0 2/\s'.tm 10=.ptr 1 0 0 0 2/\s'.tm 11=.ptr (G.length+1+1+1+1) 0 0 0 6/\s'.tm 95=.bool (!zbL ns nd lv)/\s'.df=[]/\s'.H=lvH (.agg [.nilsl,.nilsl]) bs ns (G++[.row 124 6 0 0 [za7 0 nd]])) (zap ?_) ?_)
  --CASES
  ·skip
   by_cases g0:(0:Int)<=lv
   ·by_cases g1:(nd.level:Int)=lv
    rotate_left
    ·have hgo:zbL ns nd lv=false:=by
      rw[zbL]
      cases hh:ns.getLast? with
      | none=>simp;intro _;omega
      | some z =>
       have hzl:=hlvs z (zFO9 hh);simp;intro _;omega
     refine zdl ?_ (by simp(disch:=omega)only[go_sem,h2,g0,g1,h10,h11,h12,h13,ga0,ga1,zf,zAF9,zAH9,zAI9,zAC9,zAE9,zAG9,zAM9,zAA9]<;>rfl);refine zR ?_;simp only[zo,zW,zg,go_sem];have hgv:zbL ns nd lv=!true:=(by rw[hgo];rfl)
     exact⟨h0,h1,h2,h3,h8,h10,h11,by first|(simp[hgv,lvH];done)|(simp[hgv,lvH];omega)⟩
    by_cases hns:ns=[]
    ·have hn0:ns.length=0:=by rw[hns];rfl
     have c0:(ns.length:Int)-1<0:=by omega
     have c1:¬(0:Int)<=(ns.length:Int)-1:=by omega
     by_cases hz:nd.low=0
     ·have c2:(nd.low:Int)=0:=by omega
      refine zdl ?_ (by simp(disch:=omega)only[go_sem,h2,g0,g1,c0,c1,c2,h10,h11,h12,h13,ga0,ga1,zf,zAF9,zAH9,zAI9,zAC9,zAE9,zAG9,zAM9,zAA9]<;>rfl);refine zR ?_;simp only[zo,zW,zg,go_sem];have hgv:zbL ns nd lv=!false:=(by rw[zbL,hns];simp[hz];omega)
      exact⟨h0,h1,h2,h3,h8,h10,h11,by first|(simp[hgv,lvH];done)|(simp[hgv,lvH];omega)⟩
     ·have c2:¬(nd.low:Int)=0:=by omega
      refine zdl ?_ (by simp(disch:=omega)only[go_sem,h2,g0,g1,c0,c1,c2,h10,h11,h12,h13,ga0,ga1,zf,zAF9,zAH9,zAI9,zAC9,zAE9,zAG9,zAM9,zAA9]<;>rfl);refine zR ?_;simp only[zo,zW,zg,go_sem];have hgv:zbL ns nd lv=!true:=(by rw[zbL,hns];simp[hz])
      exact⟨h0,h1,h2,h3,h8,h10,h11,by first|(simp[hgv,lvH];done)|(simp[hgv,lvH];omega)⟩
    have hnl:0<ns.length:=zBZ9.2 hns;obtain⟨z,hz⟩:∃z,ns.getLast?=some z:=by
     cases hh:ns.getLast? with
     | none=>rw[zCQ9]at hh;exact absurd hh hns
     | some z=>exact⟨z,rfl⟩
    have hz2:ns[ns.length-1]?=some z:=by rw[<- zCE9];exact hz
    have hzv:(ns.map (za7 0))[ns.length-1]?=some (za7 0 z):=by rw[zAL9,hz2];rfl
    have hzl:=hlvs z (zAO9 hz2);have d0:(ns.length:Int)-1=((ns.length-1:Nat):Int):=by omega
    have d1:¬((ns.length-1:Nat):Int)<0:=by omega
    have d2:(0:Int)<=((ns.length-1:Nat):Int):=by omega
    have d3:ns.length-1<ns.length:=by omega
    have hgo:zbL ns nd lv=(decide (z.low<nd.low)&&decide (nd.level=z.level)):=by rw[zbL,hz]
    by_cases b1:z.low<nd.low
    rotate_left
    ·have d4:(nd.low:Int)<=z.low:=by omega
     refine zdl ?_ (by simp(disch:=omega)only[go_sem,h2,g0,g1,d0,d1,d2,d3,d4,hzv,h10,h11,h12,h13,ga0,ga1,zf,zAF9,zAH9,zAI9,zAC9,zAE9,zAG9,zAM9,zAA9]<;>rfl);refine zR ?_;simp only[zo,zW,zg,go_sem];have hgv:zbL ns nd lv=!true:=(by rw[hgo];simp[b1])
     exact⟨h0,h1,h2,h3,h8,h10,h11,by first|(simp[hgv,lvH];done)|(simp[hgv,lvH];omega)⟩
    have d4:¬(nd.low:Int)<=z.low:=by omega
    by_cases b2':nd.level=z.level
    ·have d5:(z.level:Int)=nd.level:=by omega
     refine zdl ?_ (by simp(disch:=omega)only[go_sem,h2,g0,g1,d0,d1,d2,d3,d4,d5,hzv,h10,h11,h12,h13,ga0,ga1,zf,zAF9,zAH9,zAI9,zAC9,zAE9,zAG9,zAM9,zAA9]<;>rfl);refine zR ?_;simp only[zo,zW,zg,go_sem];have hgv:zbL ns nd lv=!false:=(by rw[hgo];simp[b1,b2'])
     exact⟨h0,h1,h2,h3,h8,h10,h11,by first|(simp[hgv,lvH];done)|(simp[hgv,lvH];omega)⟩
    ·have d5:¬(z.level:Int)=nd.level:=by omega
     refine zdl ?_ (by simp(disch:=omega)only[go_sem,h2,g0,g1,d0,d1,d2,d3,d4,d5,hzv,h10,h11,h12,h13,ga0,ga1,zf,zAF9,zAH9,zAI9,zAC9,zAE9,zAG9,zAM9,zAA9]<;>rfl);refine zR ?_;simp only[zo,zW,zg,go_sem];have hgv:zbL ns nd lv=!true:=(by rw[hgo];simp[b1,b2'])
     exact⟨h0,h1,h2,h3,h8,h10,h11,by first|(simp[hgv,lvH];done)|(simp[hgv,lvH];omega)⟩
   ·have g0:¬(0:Int)<=lv:=g0
    by_cases hns:ns=[]
    ·have hn0:ns.length=0:=by rw[hns];rfl
     have c0:(ns.length:Int)-1<0:=by omega
     have c1:¬(0:Int)<=(ns.length:Int)-1:=by omega
     by_cases hz:nd.low=0
     ·have c2:(nd.low:Int)=0:=by omega
      refine zdl ?_ (by simp(disch:=omega)only[go_sem,h2,g0,c0,c1,c2,h10,h11,h12,h13,ga0,ga1,zf,zAF9,zAH9,zAI9,zAC9,zAE9,zAG9,zAM9,zAA9]<;>rfl);refine zR ?_;simp only[zo,zW,zg,go_sem];have hgv:zbL ns nd lv=!false:=(by rw[zbL,hns];simp[hz];omega)
      exact⟨h0,h1,h2,h3,h8,h10,h11,by first|(simp[hgv,lvH];done)|(simp[hgv,lvH];omega)⟩
     ·have c2:¬(nd.low:Int)=0:=by omega
      refine zdl ?_ (by simp(disch:=omega)only[go_sem,h2,g0,c0,c1,c2,h10,h11,h12,h13,ga0,ga1,zf,zAF9,zAH9,zAI9,zAC9,zAE9,zAG9,zAM9,zAA9]<;>rfl);refine zR ?_;simp only[zo,zW,zg,go_sem];have hgv:zbL ns nd lv=!true:=(by rw[zbL,hns];simp[hz])
      exact⟨h0,h1,h2,h3,h8,h10,h11,by first|(simp[hgv,lvH];done)|(simp[hgv,lvH];omega)⟩
    have hnl:0<ns.length:=zBZ9.2 hns;obtain⟨z,hz⟩:∃z,ns.getLast?=some z:=by
     cases hh:ns.getLast? with
     | none=>rw[zCQ9]at hh;exact absurd hh hns
     | some z=>exact⟨z,rfl⟩
    have hz2:ns[ns.length-1]?=some z:=by rw[<- zCE9];exact hz
    have hzv:(ns.map (za7 0))[ns.length-1]?=some (za7 0 z):=by rw[zAL9,hz2];rfl
    have hzl:=hlvs z (zAO9 hz2);have d0:(ns.length:Int)-1=((ns.length-1:Nat):Int):=by omega
    have d1:¬((ns.length-1:Nat):Int)<0:=by omega
    have d2:(0:Int)<=((ns.length-1:Nat):Int):=by omega
    have d3:ns.length-1<ns.length:=by omega
    have hgo:zbL ns nd lv=(decide (z.low<nd.low)&&decide (nd.level=z.level)):=by rw[zbL,hz]
    by_cases b1:z.low<nd.low
    rotate_left
    ·have d4:(nd.low:Int)<=z.low:=by omega
     refine zdl ?_ (by simp(disch:=omega)only[go_sem,h2,g0,d0,d1,d2,d3,d4,hzv,h10,h11,h12,h13,ga0,ga1,zf,zAF9,zAH9,zAI9,zAC9,zAE9,zAG9,zAM9,zAA9]<;>rfl);refine zR ?_;simp only[zo,zW,zg,go_sem];have hgv:zbL ns nd lv=!true:=(by rw[hgo];simp[b1])
     exact⟨h0,h1,h2,h3,h8,h10,h11,by first|(simp[hgv,lvH];done)|(simp[hgv,lvH];omega)⟩
    have d4:¬(nd.low:Int)<=z.low:=by omega
    by_cases b2':nd.level=z.level
    ·have d5:(z.level:Int)=nd.level:=by omega
     refine zdl ?_ (by simp(disch:=omega)only[go_sem,h2,g0,d0,d1,d2,d3,d4,d5,hzv,h10,h11,h12,h13,ga0,ga1,zf,zAF9,zAH9,zAI9,zAC9,zAE9,zAG9,zAM9,zAA9]<;>rfl);refine zR ?_;simp only[zo,zW,zg,go_sem];have hgv:zbL ns nd lv=!false:=(by rw[hgo];simp[b1,b2'])
     exact⟨h0,h1,h2,h3,h8,h10,h11,by first|(simp[hgv,lvH];done)|(simp[hgv,lvH];omega)⟩
    ·have d5:¬(z.level:Int)=nd.level:=by omega
     refine zdl ?_ (by simp(disch:=omega)only[go_sem,h2,g0,d0,d1,d2,d3,d4,d5,hzv,h10,h11,h12,h13,ga0,ga1,zf,zAF9,zAH9,zAI9,zAC9,zAE9,zAG9,zAM9,zAA9]<;>rfl);refine zR ?_;simp only[zo,zW,zg,go_sem];have hgv:zbL ns nd lv=!true:=(by rw[hgo];simp[b1,b2'])
     exact⟨h0,h1,h2,h3,h8,h10,h11,by first|(simp[hgv,lvH];done)|(simp[hgv,lvH];omega)⟩
  --ENDCASES
  clear h0 h1 h2 h3 h8 h10 h11 h12 h13;rintro y ⟨tm,df,H⟩ ⟨rfl,h0,h1,h2,h3,h8,h10,h11,h95,rfl,rfl⟩;dsimp only at h0 h1 h2 h3 h8 h10 h11 h95;simp only[zg,zj,zh,zi,zo,zk,if_true,reduceIte]
  by_cases hg:zbL ns nd lv=true
  rotate_left
  ·have hg:zbL ns nd lv=false:=by simpa using hg
   rw[hg]at hR h95;rw[if_neg (by decide)]at hR;refine zfc ?_ ?_ (by simp only[go_sem,h95]<;>rfl);rotate_left
   ·intro h;cases h
   intro _;unfold lvH;(repeat(first|refine ze ?_|refine zgo ?_ (by simp(disch:=omega)only[go_sem,h8,h10]<;>rfl)));refine zF ?_;exact zij (b:=false) (by simp[upd,h8]) (by simp[upd]) hR.symm
  rw[hg]at hR h95;rw[if_pos rfl]at hR;refine zfc ?_ ?_ (by simp only[go_sem,h95]<;>rfl)
  ·intro h;cases h
  intro _;refine zQ ?_;show W _ _ _ _ _ _;unfold lvH;have hba:(bs.length+1)*9<=140737488355328:=by omega
  have hbb:(ns.length+1)*65<=140737488355328:=by omega
  have w1:IntKind.i64.wrap (b2:Int)=(b2:Int):=wrap_i64 (by omega) (by omega);(repeat refine ze ?_);refine zap ?_;refine zda ?_ (by simp(disch:=omega)only[go_sem,h1,h10,h11,w1,hba,hbb,zax,zaw,zay,zaz,zT,zS,zO,ga0,ga1,ga2,zf,zAF9,zAH9,zAI9,zAC9,zAE9,zAG9,zAM9]<;>rfl) (by first|exact trivial|simp only[go_sem,h1,h10,h11,w1,hba,hbb,zax,zaw,zay,zaz,zT,zS,zO,ga0,ga1,ga2,zf,zAF9,zAH9,zAI9,zAC9,zAE9,zAG9,zAM9]);refine zda ?_ (by simp(disch:=omega)only[go_sem,h1,h10,h11,w1,hba,hbb,zax,zaw,zay,zaz,zT,zS,zO,ga0,ga1,ga2,zf,zAF9,zAH9,zAI9,zAC9,zAE9,zAG9,zAM9]<;>rfl) (by first|exact trivial|simp only[go_sem,h1,h10,h11,w1,hba,hbb,zax,zaw,zay,zaz,zT,zS,zO,ga0,ga1,ga2,zf,zAF9,zAH9,zAI9,zAC9,zAE9,zAG9,zAM9]);refine zda ?_ (by simp(disch:=omega)only[go_sem,h1,h10,h11,w1,hba,hbb,zax,zaw,zay,zaz,zT,zS,zO,ga0,ga1,ga2,zf,zAF9,zAH9,zAI9,zAC9,zAE9,zAG9,zAM9]<;>rfl) (by first|exact trivial|simp only[go_sem,h1,h10,h11,w1,hba,hbb,zax,zaw,zay,zaz,zT,zS,zO,ga0,ga1,ga2,zf,zAF9,zAH9,zAI9,zAC9,zAE9,zAG9,zAM9]);refine zda ?_ (by simp(disch:=omega)only[go_sem,h1,h10,h11,w1,hba,hbb,zax,zaw,zay,zaz,zT,zS,zO,ga0,ga1,ga2,zf,zAF9,zAH9,zAI9,zAC9,zAE9,zAG9,zAM9]<;>rfl) (by first|exact trivial|simp only[go_sem,h1,h10,h11,w1,hba,hbb,zax,zaw,zay,zaz,zT,zS,zO,ga0,ga1,ga2,zf,zAF9,zAH9,zAI9,zAC9,zAE9,zAG9,zAM9]);refine zdl ?_ (by simp(disch:=omega)only[go_sem,h1,h10,h11,w1,hba,hbb,zax,zaw,zay,zaz,zT,zS,zO,ga0,ga1,ga2,zf,zAF9,zAH9,zAI9,zAC9,zAE9,zAG9,zAM9]<;>rfl) (by first|exact trivial|simp only[go_sem,h1,h10,h11,w1,hba,hbb,zax,zaw,zay,zaz,zT,zS,zO,ga0,ga1,ga2,zf,zAF9,zAH9,zAI9,zAC9,zAE9,zAG9,zAM9]);refine zR ?_;simp only[zo,zW,zg,go_sem];(repeat refine ze ?_);refine zrg ?_ (by simp(disch:=omega)only[go_sem,h11,ga0,zf]<;>rfl);refine zG ?_;simp only[zg,zj,zh,zi,zo,zk,if_true,↓reduceIte];refine⟨_,?m,m',b2::S,bs++[b2],ns++[nd],nd.sib,?G,rfl,?hu,hR,?b1,?b2,?sx,?lev,?nb,by simp[upd,h0],by simp[upd],by simp[upd,h2],by simp[upd,h3],by simp[upd,h8],by simp[upd,h10],trivial,?H⟩
  case m=>omega
  case hu=>have:=zjO _ _ _ hbl hbs;omega
  case b1=>simp;omega
  case b2=>simp;omega
  case sx=>intro x;simp[hS x];constructor<;>(intro h;rcases h with h|h|h<;>simp[h])
  case nb=>omega
  case lev =>
   intro n hn;rcases zBK9.1 hn with hn|hn
   ·exact hlvs n hn
   ·obtain rfl:=zBH9.1 hn;rw[zbL]at hg
    cases hh:ns.getLast? with
    | none=>rw[hh]at hg;simp at hg;omega
    | some z=>rw[hh]at hg;simp at hg;have:=hlvs z (zFO9 hh);omega
  case H =>
   simp only[zAC9,zAE9,zAG9,zAM9,zBY9,zCI9,zBQ9];rfl
theorem f50:ET.funcs.get 50=some T50:=z9 (by kernel_rfl) (by decide)
def zc7 (w:List Nat):Nat->List Nat->List Lev->Nat->Int->List Lev×Bool
 | 0,_,_,_,_=>([],false)
 | d+1,seen,acc,b,lv=>match zbC w lv (w.length/64) seen [] [] b with
  | none=>([],false)
  | some (_,_,[])=>([],false)
  | some (seen',bs,n::ns)=>if n.level=0 then(acc++[(bs,n::ns)],zbt (zbS (n::ns)))else zc7 w d seen' (acc++[(bs,n::ns)]) n.left ((n.level:Int)-1)
def zbR (w:List Nat)(a:Nat):List Lev×Bool:=zc7 w 14 [] [] (w.getD a 0) (-1)
theorem zpt {w:List Nat}:∀(d:Nat) (seen:List Nat) (acc:List Lev) (b:Nat) (lv:Int),(zc7 w d seen acc b lv).2=(zbI w d seen acc b lv).2/\((zc7 w d seen acc b lv).2=true->(zc7 w d seen acc b lv).1=(zbI w d seen acc b lv).1)
 | 0,seen,acc,b,lv=>⟨rfl,fun h=>by cases h⟩
 | d+1,seen,acc,b,lv=>by
  rw[zc7,zbI]
  cases hr:zbC w lv (w.length/64) seen [] [] b with
  | none=>exact⟨rfl,fun h=>by cases h⟩
  | some r =>
   obtain⟨s',bs,ns⟩:=r
   cases ns with
   | nil=>exact⟨rfl,fun h=>by cases h⟩
   | cons n ns =>
    simp only
    by_cases hl:n.level=0
    ·rw[if_pos hl,if_pos hl];exact⟨rfl,fun _=>rfl⟩
    ·rw[if_neg hl,if_neg hl];exact zpt d _ _ _ _
theorem zfQ (w:List Nat)(a:Nat):(zbR w a).2=(zaQ w a).2/\((zaQ w a).2=true->(zbR w a).1=(zaQ w a).1):=by
 have:=zpt (w:=w) 14 [] [] (w.getD a 0) (-1);exact⟨this.1,fun h=>this.2 (by rw[this.1];exact h)⟩
theorem zsx {T:List Lev}:∀v∈(T.map fun L=>zbX 0 0 L.1 L.2).flatMap PV.cells,Id0 v:=fun v hv=>by
 obtain⟨y,hy,hv⟩:=zBI9.1 hv;obtain⟨L,_,rfl⟩:=zAS9.1 hy;simp[PV.cells]at hv;rcases hv with rfl|rfl<;>exact .list _ _ _
theorem zfT {w:List Nat}{lv:Int}:∀(k:Nat) (seen bs:List Nat) (ns:List zE) (b:Nat) (r:List Nat×List Nat×List zE),zbC w lv k seen bs ns b=some r->∃X,r.2.1=bs++X/\r.1=X.reverse++seen/\X.Nodup/\∀x∈X,x ∉ seen/\x≠0
 | 0,seen,bs,ns,b,r,h=>by
  rw[zbC]at h
  split at h
  ·injection h with h;subst h;exact⟨[],by simp,by simp,List.nodup_nil,fun x hx=>by simp at hx⟩
  ·cases h
 | k+1,seen,bs,ns,b,r,h=>by
  rw[zbC]at h
  split at h
  ·injection h with h;subst h;exact⟨[],by simp,by simp,List.nodup_nil,fun x hx=>by simp at hx⟩
  rename_i hb0
  split at h
  ·cases h
  rename_i hbad
  split at h
  rotate_left
  ·cases h
  obtain⟨X,h1,h2,h3,h4⟩:=zfT k _ _ _ _ r h;have hbs:b ∉ seen:=fun hm=>hbad (by simp[hm]);refine⟨b::X,by rw[h1];simp,by rw[h2];simp,zDW9.2 ⟨fun hm=>(h4 b hm).1 (zAV9 ..),h3⟩,fun x hx=>?_⟩;rcases zAY9.1 hx with rfl|hx
  ·exact⟨hbs,hb0⟩
  ·obtain⟨k1,k2⟩:=h4 x hx;exact⟨fun hm=>k1 (zAW9 _ hm),k2⟩
set_option maxHeartbeats 2000000 in
theorem zfV (p:Nat)(w:List Nat)(hw:64<=w.length/\w.length<=131072)(a:Nat)(ha:a<w.length):FN ET 50 [wv p w,iv a] (.ret (.tuple [zde (zbR w a).1,.bool (zbR w a).2])):=by
 refine zfn f50 (Lb.two (zm2 _) (.bool _)) ?_;have hwa:=zck ha;unfold zbR;generalize w.getD a 0=b0 at *
 obtain⟨R,hR⟩:∃R,zc7 w 14 [] [] b0 (-1)=R:=⟨_,rfl⟩
 rw[hR];(repeat(first|refine ze ?_|refine zgo ?_ (by simp(disch:=omega)only[go_sem,hwa,ha,zAA9]<;>rfl)));refine zcn 116 2 (i:=6) rfl ?_;refine zcn 3 1 (i:=7) rfl ?_;simp only[lzy,zAC9,zAE9,zAG9,zAM9,zAF9,zAH9,zAI9];refine zK (zbd (fun m s=>∃(d:Nat) (seen:List Nat) (acc:List Lev) (b:Nat) (lv:Int) (sR:List Nat) (g:Nat) (G:List zu),m=d/\d<=14/\((0<=lv/\lv+1<=d)\/14<=d)/\zc7 w d seen acc b lv=R/\(∀x,x∈sR↔x∈seen)/\acc.length+d=14/\sR.length<=2048*acc.length/\s.tm 0=wv p w/\s.tm 6=.sl 0 acc.length 0 acc.length (2*acc.length) 2/\s.tm 7=.sl 1 g 0 sR.length (2*sR.length) 1/\s.tm 8=uv b/\s.tm 9=iv lv/\s.tm 10=iv ((14-d:Nat):Int)/\s.df=[]/\s.H=.row 116 2 acc.length 0 (acc.map fun L=>zbX 0 0 L.1 L.2)::.row 3 1 g 0 (sR.map fun(b:Nat)=>iv (b:Int))::G) (n:=14) ?_ ?_)
 ·exact⟨14,[],[],b0,-1,[],0,[],rfl,zAK9 _,.inr (zAK9 _),hR,fun x=>Iff.rfl,rfl,zAU9 _,by simp[upd,zB],by simp[upd],by simp[upd],by simp[upd],by simp[upd],by simp[upd],rfl,rfl⟩
 ·clear hR;rintro m ⟨tm,df,H⟩ ⟨d,seen,acc,b,lv,sR,g,G,rfl,hd14,hd,hR,hS,had,hsl,h0,h6,h7,h8,h9,h10,rfl,rfl⟩;dsimp only at h0 h6 h7 h8 h9 h10;obtain⟨d,rfl⟩:∃e,m=e+1:=⟨m-1,by omega⟩
  have g10:((14-(d+1):Nat):Int)<20:=by omega
  (try refine zaa ?_);refine ze (zb ?_);refine zfx ?_ (by simp(disch:=omega)only[go_sem,h10,g10]<;>rfl);refine zd ?_;refine zae (by simp only[go_sem]<;>rfl) ?_ ?_;rotate_left
  ·intro h;cases h
  intro _;(repeat refine ze ?_);refine zK ?_;have hc:=zq9 p 1 w hw b lv sR seen hS (by omega) _ rfl;rw[zc7]at hR;have fz:Frz (.row 116 2 acc.length 0 (acc.map fun L=>zbX 0 0 L.1 L.2)::.row 3 1 g 0 (sR.map fun(b:Nat)=>iv (b:Int))::G) 1 (.sl 1 g 0 sR.length (2*sR.length) 1) (.list 1 1 (sR.map fun(b:Nat)=>iv (b:Int))) :=
   Frz.whole (e:=3) (z':=1) (l:=sR.map fun(b:Nat)=>iv (b:Int)) rfl rfl (by simp) (by simp) (fun v hv=>by obtain⟨x,_,rfl⟩:=zAS9.1 hv;rfl) zeK
  cases hr:zbC w lv (w.length/64) seen [] [] b with
  | none =>
   rw[hr]at hR;have hf:=znM _ _ _ _ _ hr;generalize zfl w lv (w.length/64) seen [] [] b=R0 at hc hf;rw[hf]at hc;(repeat refine ze ?_);refine zb ?_;refine zfx ?_ (by simp(disch:=omega)only[go_sem,h0,h7,h8,h9]<;>rfl);refine zcl hc ?_ ?_;(repeat(first|exact trivial|refine And.intro ?_ ?_|exact .int _ _|exact .bool _|exact .list _ _ _|exact .elem _|exact .nilsl|exact .nil _ _|exact .str _|refine Frz.aggL ?_|refine Frz.fnL ?_|refine Frz.tupL ?_|refine .iface ?_|exact zy rfl rfl (by assumption)))
   ·exact fz
   ·(repeat(first|exact trivial|refine And.intro ?_ ?_|exact .int _ _|exact .bool _|exact .list _ _ _|exact .elem _|exact .nilsl|exact .nil _ _|exact .str _|refine Frz.aggL ?_|refine Frz.fnL ?_|refine Frz.tupL ?_|refine .iface ?_|exact zy rfl rfl (by assumption)))
   refine zfx ?_;refine zd ?_;(repeat(first|refine ze ?_|refine zgo ?_ (by simp(disch:=omega)only[go_sem,zf,zn]<;>rfl)));refine zfc ?_ ?_;rotate_left
   ·intro h;cases h
   intro _;(repeat(first|refine ze ?_|refine zgo ?_));refine zF ?_;(try simp only[zg,zj,zh,zi,zk]);refine zq (by simp only[T50,zI,go_sem]<;>rfl) ?_;simp only[zP];rw[<- hR];exact Frz.tupL ⟨.nil _ _,.bool _,trivial⟩
  | some r =>
   obtain⟨s',bs,ns⟩:=r;rw[hr]at hR;rw[zm5 _ _ _ _ _ hr]at hc;obtain⟨X,x1,x2,x3,x4⟩:=zfT _ _ _ _ _ _ hr;obtain⟨hF,hfst,hbl⟩:=zen (N:=2048) _ _ _ _ _ _ hr (LvF.nil w) (fun n hn=>by simp at hn) (by simp;omega);dsimp only at x1 x2 hF hfst hbl hc;rw[zAI9]at x1;subst x1
   cases ns with
   | nil =>
    simp only[List.isEmpty_nil,Bool.not_true]at hc;(repeat refine ze ?_);refine zb ?_;refine zfx ?_ (by simp(disch:=omega)only[go_sem,h0,h7,h8,h9]<;>rfl);refine zcl hc ?_ ?_;(repeat(first|exact trivial|refine And.intro ?_ ?_|exact .int _ _|exact .bool _|exact .list _ _ _|exact .elem _|exact .nilsl|exact .nil _ _|exact .str _|refine Frz.aggL ?_|refine Frz.fnL ?_|refine Frz.tupL ?_|refine .iface ?_|exact zy rfl rfl (by assumption)))
    ·exact fz
    ·(repeat(first|exact trivial|refine And.intro ?_ ?_|exact .int _ _|exact .bool _|exact .list _ _ _|exact .elem _|exact .nilsl|exact .nil _ _|exact .str _|refine Frz.aggL ?_|refine Frz.fnL ?_|refine Frz.tupL ?_|refine .iface ?_|exact zy rfl rfl (by assumption)))
    refine zfx ?_;refine zd ?_;(repeat(first|refine ze ?_|refine zgo ?_ (by simp(disch:=omega)only[go_sem,zf,zn]<;>rfl)));refine zfc ?_ ?_;rotate_left
    ·intro h;cases h
    intro _;(repeat(first|refine ze ?_|refine zgo ?_));refine zF ?_;(try simp only[zg,zj,zh,zi,zk]);refine zq (by simp only[T50,zI,go_sem]<;>rfl) ?_;simp only[zP];rw[<- hR];exact Frz.tupL ⟨.nil _ _,.bool _,trivial⟩
   | cons nd ns =>
    simp only[List.isEmpty_cons,Bool.not_false]at hc;simp only at hR;have hlen:=hF.len;obtain⟨hpp,b12,b2048⟩:=hF.node (zAV9 ..);have hfl:=hfst nd rfl;(repeat refine ze ?_);refine zb ?_;refine zfx ?_ (by simp(disch:=omega)only[go_sem,h0,h7,h8,h9]<;>rfl);refine zcl hc ?_ ?_;(repeat(first|exact trivial|refine And.intro ?_ ?_|exact .int _ _|exact .bool _|exact .list _ _ _|exact .elem _|exact .nilsl|exact .nil _ _|exact .str _|refine Frz.aggL ?_|refine Frz.fnL ?_|refine Frz.tupL ?_|refine .iface ?_|exact zy rfl rfl (by assumption)))
    ·exact fz
    ·(repeat(first|exact trivial|refine And.intro ?_ ?_|exact .int _ _|exact .bool _|exact .list _ _ _|exact .elem _|exact .nilsl|exact .nil _ _|exact .str _|refine Frz.aggL ?_|refine Frz.fnL ?_|refine Frz.tupL ?_|refine .iface ?_|exact zy rfl rfl (by assumption)))
    refine zfx ?_;refine zd ?_;(repeat(first|refine ze ?_|refine zgo ?_ (by simp(disch:=omega)only[go_sem,zf,zn]<;>rfl)));refine zfc ?_ ?_
    ·intro h;cases h
    intro _;refine zQ ?_;show W _ _ _ _ _ _;have hba:(acc.length+1)*49<=140737488355328:=by omega
    have hbb:(sR.length+bs.length)*9<=140737488355328:=by omega
    (repeat refine ze ?_);refine zap ?_;have hXne:¬bs.length=0:=by rw[hlen];simp
    refine zda ?_ (by simp(disch:=omega)only[go_sem,hXne,h6,h7,hba,hbb,zax,zaw,zay,zaz,zT,zS,zO,ga0,ga1,ga2,zf,zAF9,zAH9,zAI9,zAC9,zAE9,zAG9,zAM9,zAA9]<;>rfl) (by first|exact trivial|simp only[go_sem,hXne,h6,h7,hba,hbb,zax,zaw,zay,zaz,zT,zS,zO,ga0,ga1,ga2,zf,zAF9,zAH9,zAI9,zAC9,zAE9,zAG9,zAM9,zAA9]);refine zda ?_ (by simp(disch:=omega)only[go_sem,hXne,h6,h7,hba,hbb,zax,zaw,zay,zaz,zT,zS,zO,ga0,ga1,ga2,zf,zAF9,zAH9,zAI9,zAC9,zAE9,zAG9,zAM9,zAA9]<;>rfl) (by first|exact trivial|simp only[go_sem,hXne,h6,h7,hba,hbb,zax,zaw,zay,zaz,zT,zS,zO,ga0,ga1,ga2,zf,zAF9,zAH9,zAI9,zAC9,zAE9,zAG9,zAM9,zAA9]);refine zdl ?_ (by simp(disch:=omega)only[go_sem,h6,h7,hba,hbb,zax,zaw,zay,zaz,zT,zS,zO,ga0,ga1,ga2,zf,zAF9,zAH9,zAI9,zAC9,zAE9,zAG9,zAM9,zAA9]<;>rfl) (by first|exact trivial|simp only[go_sem,h6,h7,hba,hbb,zax,zaw,zay,zaz,zT,zS,zO,ga0,ga1,ga2,zf,zAF9,zAH9,zAI9,zAC9,zAE9,zAG9,zAM9,zAA9]);refine zR ?_;simp only[zo,zW,zg,go_sem];have hg0:(List.map (za7 0) (nd::ns))[0]?=some (za7 0 nd):=rfl;have hi0:0<(nd::ns).length:=zER9 _;generalize hNS:nd::ns=NS at *
    have hll:=zeR NS fun n hn=>(hF.node hn).1;have hfew:NS.length<=2048:=by omega
    by_cases hlv:nd.level=0
    ·have g1:(nd.level:Int)-1<0:=by omega
     rw[if_pos hlv]at hR;(repeat(first|refine ze ?_|refine zgo ?_ (by simp(disch:=omega)only[go_sem,hg0,hi0,g1,ga0,zf,zAA9]<;>rfl)));refine zfc ?_ ?_;rotate_left
     ·intro h;cases h
     intro _;have hlp:=ziZ 0 0 bs NS (by omega) (fun n hn=>(hF.node hn).1) (by omega);unfold ze7 at hlp;have fzL:∀(G:List zu),Frz (.row 116 2 (acc.length+1) 0 ((acc.map fun L=>zbX 0 0 L.1 L.2)++[zbX 0 0 bs NS])::G) 0 (.sl 0 (acc.length+1) 0 (acc.length+1) (2*(acc.length+1)) 2) (zde (acc++[(bs,NS)])):=fun G=>by
      have e:(acc.map fun L=>zbX 0 0 L.1 L.2)++[zbX 0 0 bs NS]=(acc++[(bs,NS)]).map fun L=>zbX 0 0 L.1 L.2:=by simp
      rw[e];exact Frz.whole rfl rfl (by simp) (by simp) (fun v hv=>by obtain⟨x,_,rfl⟩:=zAS9.1 hv;rfl) zsx
     by_cases hri:zbt (zbS NS)=true
     ·rw[if_pos hri]at hlp;(repeat refine ze ?_);refine zb ?_;refine zfx ?_ (by simp(disch:=omega)only[go_sem,ga0,zf]<;>rfl);refine zca hlp ?_;refine zfx ?_;refine zd ?_;(repeat(first|refine ze ?_|refine zgo ?_ (by simp(disch:=omega)only[go_sem,h6]<;>rfl)));refine zF ?_;(try simp only[zg,zj,zh,zi,zk]);refine zq (by simp only[T50,zI,go_sem]<;>rfl) ?_;simp only[zP];rw[<- hR,hri];exact Frz.tupL ⟨fzL _,.bool _,trivial⟩
     ·rw[if_neg hri]at hlp;(repeat refine ze ?_);refine zb ?_;refine zfx ?_ (by simp(disch:=omega)only[go_sem,ga0,zf]<;>rfl);refine zca hlp ?_;refine zfx ?_;refine zd ?_;(repeat(first|refine ze ?_|refine zgo ?_ (by simp(disch:=omega)only[go_sem,h6]<;>rfl)));refine zF ?_;(try simp only[zg,zj,zh,zi,zk]);refine zq (by simp only[T50,zI,go_sem]<;>rfl) ?_;simp only[zP];rw[<- hR,show zbt (zbS NS)=false by simpa using hri];exact Frz.tupL ⟨fzL _,.bool _,trivial⟩
    ·have g1:¬(nd.level:Int)-1<0:=by omega
     rw[if_neg hlv]at hR;(repeat(first|refine ze ?_|refine zgo ?_ (by simp(disch:=omega)only[go_sem,hg0,hi0,g1,ga0,zf,zAA9]<;>rfl)));refine zfc ?_ ?_
     ·intro h;cases h
     intro _;refine zQ ?_;show W _ _ _ _ _ _;(repeat refine ze ?_);refine zrg ?_ (by simp(disch:=omega)only[go_sem,hg0,hi0,ga0,zf,zAA9]<;>rfl);refine zG ?_;simp only[zg,zj,zh,zi,zo,zk,if_true,↓reduceIte];have e14:((14-(d+1):Nat):Int)+1=((14-d:Nat):Int):=by omega
     (repeat refine ze ?_);refine zrg ?_ (by simp(disch:=omega)only[go_sem,h10,e14]<;>rfl);refine zG ?_;simp only[zg,zj,zh,zi,zo,zk,if_true,↓reduceIte];refine⟨d,zBR9 _,d,s',acc++[(bs,NS)],nd.left,(nd.level:Int)-1,sR++bs,g+1,?G,rfl,?c1,?c2,hR,?c3,?c4,?c5,by simp[upd,h0],by simp[upd],by simp[upd],by simp[upd],by simp[upd],by simp[upd,h10],trivial,?H⟩
     case c1=>omega
     case c2=>omega
     case c3=>intro x;rw[x2];simp[hS x,or_comm]
     case c4=>simp;omega
     case c5=>simp;omega
     case H=>simp only[zAC9,zAE9,zAG9,zAM9,zBY9,zCI9,zBQ9];rfl
theorem f62:ET.funcs.get 62=some T62:=z9 (by kernel_rfl) (by decide)
section mid2
variable {α:Type}
theorem gb0 (G G2 l:List α)(a b:α):(G++a::(G2++b::l))[G.length+(G2.length+1)]?=some b:=by
 rw[zAN9 (by omega),show G.length+(G2.length+1)-G.length=G2.length+1 by omega,zAT9];exact ga0 _ _ _
theorem gb1 (G G2 l:List α)(a b c:α):(G++a::(G2++b::c::l))[G.length+(G2.length+1)+1]?=some c:=by
 rw[zAN9 (by omega),show G.length+(G2.length+1)+1-G.length=G2.length+1+1 by omega,zAT9];exact ga1 _ _ _ _
theorem zjB (G G2 l:List α)(a b c:α):(G++a::(G2++b::c::l))[G.length+(G2.length+1+1)]?=some c:=gb1 G G2 l a b c
end mid2
@[reducible] def kP (K:List Pr):List PV:=K.map fun x=>uv x.2
@[reducible] def kL (K:List Pr):List PV:=K.map fun x=>uv x.1
def chH (z:PV)(K:List Pr)(G:List zu):List zu:=.row 116 2 0 0 [z]::.row 24 1 K.length 0 (kP K)::.row 24 1 K.length 0 (kL K)::G
set_option maxHeartbeats 2000000 in
theorem znU (p q:Nat)(bs:List Nat)(L:List zE)(hl:L.length<=3000)(hp:∀n∈L,n.pairs.length<=28):FN ET 62 [zbX p q bs L] (.ret (.tuple [.list 0 1 (kP (L.flatMap zdz)),.list 0 1 (kL (L.flatMap zdz))])):=by
 have lbk:∀(f:Pr->Nat) (K:List Pr),Lb (.list 0 1 (K.map fun x=>uv (f x))):=fun f K=>by
  have:(K.map fun x=>uv (f x))=(K.map f).map uv:=by rw[zDO9];rfl
  rw[this];exact Lb.uvs _
 refine zfn f62 (Lb.two (lbk _ _) (lbk _ _)) ?_;(repeat(first|refine ze ?_|refine zgo ?_));refine zcn 24 1 (i:=4) rfl ?_;refine zcn 24 1 (i:=5) rfl ?_;simp only[lzy,zAC9,zAE9,zAG9,zAM9,zAF9,zAH9,zAI9];(repeat(first|refine ze ?_|refine zgo ?_));refine zK (zbd (fun m s=>∃(i:Nat) (K:List Pr) (G:List zu),m=L.length-i/\i<=L.length/\K=(L.take i).flatMap zdz/\s.tm 1=.ptr 0 0 0 0 2/\s.tm 4=.sl 1 K.length 0 K.length (2*K.length) 1/\s.tm 5=.sl 2 K.length 0 K.length (2*K.length) 1/\s.tm 6=iv i/\s.df=[]/\s.H=chH (zbX p q bs L) K G) (n:=L.length) ?_ ?_)
 ·exact⟨0,[],[],rfl,by omega,rfl,by simp[upd],by simp[upd],by simp[upd],by simp[upd],rfl,rfl⟩
 ·rintro m ⟨tm,df,H⟩ ⟨i,K,G,rfl,hi,hK,h1,h4,h5,h6,rfl,rfl⟩;dsimp only at h1 h4 h5 h6;unfold chH;(try refine zaa ?_);refine ze (zb ?_);refine zfx ?_ (by simp(disch:=omega)only[go_sem,h1,h6,zAA9]<;>rfl);refine zd ?_;refine zae (by simp only[go_sem]<;>rfl) ?_ ?_;rotate_left
  ·intro hlt;have hlt:¬i<L.length:=by have:=of_decide_eq_false hlt;omega
   obtain rfl:i=L.length:=by omega
   rw[zBM9]at hK;simp only[zg,zj,zh,zi,zo,zk,if_true,reduceIte];(repeat(first|refine ze ?_|refine zgo ?_ (by simp(disch:=omega)only[go_sem,h4,h5]<;>rfl)));refine zF ?_;(try simp only[zg,zj,zh,zi,zk]);refine zq (by simp only[T62,zI,go_sem]<;>rfl) ?_;simp only[zP];rw[<- hK];have fk:∀(f:Pr->Nat),∀v∈(K.map fun x=>uv (f x)).flatMap PV.cells,Id0 v:=fun f v hv=>by
    obtain⟨y,hy,hv⟩:=zBI9.1 hv;obtain⟨x,_,rfl⟩:=zAS9.1 hy;simp[PV.cells]at hv;subst hv;exact .int _ _
   refine Frz.tupL ⟨?_,?_,trivial⟩
   ·exact Frz.whole (l:=kP K) rfl rfl (by simp) (by simp) (fun v hv=>by obtain⟨x,_,rfl⟩:=zAS9.1 hv;rfl) (fk _)
   ·exact Frz.whole (l:=kL K) rfl rfl (by simp) (by simp) (fun v hv=>by obtain⟨x,_,rfl⟩:=zAS9.1 hv;rfl) (fk _)
  intro hlt;have hlt:i<L.length:=by have:=of_decide_eq_true hlt;omega
  obtain⟨n,hn⟩:∃n,L[i]?=some n:=⟨_,zAB9 hlt⟩
  have hnv:(L.map (za7 q))[i]?=some (za7 q n):=by rw[zAL9,hn];rfl
  have hp28:=hp n (zAO9 hn);have hK2:(L.take (i+1)).flatMap zdz=(K++[(n.low,n.left)])++n.pairs:=by
   rw[zBN9,hn,zDR9,<- hK];simp[zdz]
  have hKl:K.length<=29*i:=by
   rw[hK];have:∀M:List zE,(∀n∈M,n.pairs.length<=28)->(M.flatMap zdz).length<=29*M.length:=fun M=>by
    induction M with
    | nil=>intro _;simp
    | cons z M ih =>
     intro h;have h1:=h z (zAV9 ..);have h2:=ih fun n hn=>h n (zAW9 _ hn);rw[zCJ9,zAC9,zAE9];simp only[zdz,zAE9];omega
   have:=this (L.take i) fun n hn=>hp n (zDB9 hn);rw[zBA9]at this;omega
  (repeat refine ze ?_);refine zK ?_;(repeat(first|refine ze ?_|refine zgo ?_ (by simp(disch:=omega)only[go_sem,h1,h6,hnv,hlt,zf,zn,zAA9]<;>rfl)));have hbb:(K.length+1)*9<=140737488355328:=by omega
  (repeat refine ze ?_);refine zap ?_;refine zda ?_ (by simp(disch:=omega)only[go_sem,h1,h4,h5,h6,hbb,zax,zaw,zay,zaz,zT,zS,zO,ga0,ga1,ga2,zf,zAF9,zAH9,zAI9,zAC9,zAE9,zAG9,zAM9,zAA9]<;>rfl) (by first|exact trivial|simp only[go_sem,h1,h4,h5,h6,hbb,zax,zaw,zay,zaz,zT,zS,zO,ga0,ga1,ga2,zf,zAF9,zAH9,zAI9,zAC9,zAE9,zAG9,zAM9,zAA9]);refine zda ?_ (by simp(disch:=omega)only[go_sem,h1,h4,h5,h6,hbb,zax,zaw,zay,zaz,zT,zS,zO,ga0,ga1,ga2,zf,zAF9,zAH9,zAI9,zAC9,zAE9,zAG9,zAM9,zAA9]<;>rfl) (by first|exact trivial|simp only[go_sem,h1,h4,h5,h6,hbb,zax,zaw,zay,zaz,zT,zS,zO,ga0,ga1,ga2,zf,zAF9,zAH9,zAI9,zAC9,zAE9,zAG9,zAM9,zAA9]);refine zdl ?_ (by simp(disch:=omega)only[go_sem,h1,h4,h5,h6,hbb,zax,zaw,zay,zaz,zT,zS,zO,ga0,ga1,ga2,zf,zAF9,zAH9,zAI9,zAC9,zAE9,zAG9,zAM9,zAA9]<;>rfl) (by first|exact trivial|simp only[go_sem,h1,h4,h5,h6,hbb,zax,zaw,zay,zaz,zT,zS,zO,ga0,ga1,ga2,zf,zAF9,zAH9,zAI9,zAC9,zAE9,zAG9,zAM9,zAA9]);refine zR ?_;simp only[zo,zW,zg,go_sem];(repeat(first|refine ze ?_|refine zgo ?_));have hKa:K.length+1=(K++[(n.low,n.left)]).length:=by simp
  have hKb:kP K++[uv n.left]=kP (K++[(n.low,n.left)]):=by simp
  have hKc:kL K++[uv n.low]=kL (K++[(n.low,n.left)]):=by simp
  refine zK (zbd (fun m s=>∃(j:Nat) (K2:List Pr) (G2:List zu),m=n.pairs.length-j/\j<=n.pairs.length/\K2=K++[(n.low,n.left)]++n.pairs.take j/\s.tm 1=.ptr 0 0 0 0 2/\s.tm 4=.sl 1 K2.length 0 K2.length (2*K2.length) 1/\s.tm 5=.sl 2 K2.length 0 K2.length (2*K2.length) 1/\s.tm 6=iv i/\s.tm 7=.ptr (G.length+1+1+1) 0 0 0 6/\s.tm 8=iv j/\s.df=[]/\s.H=chH (zbX p q bs L) K2 (G++.row 124 6 0 0 [za7 q n]::G2)) (n:=n.pairs.length) ?_ ?_)
  ·refine⟨0,K++[(n.low,n.left)],?G0,rfl,zAU9 _,by simp,by simp[upd,h1],by simp[upd],by simp[upd],by simp[upd,h6],by simp[upd],by simp[upd],rfl,?H0⟩
   case H0 =>
    unfold chH;rw[<- hKa,<- hKb,<- hKc]
  ·clear h1 h4 h5 h6;rintro m ⟨tm,df,H⟩ ⟨j,K2,G2,rfl,hj,hK3,h1,h4,h5,h6,h7,h8,rfl,rfl⟩;dsimp only at h1 h4 h5 h6 h7 h8;have hK2l:K2.length<=100000:=by rw[hK3];simp;omega
   have hbb:(K2.length+1)*9<=140737488355328:=by omega
   unfold chH;(try refine zaa ?_);refine ze (zb ?_);refine zfx ?_ (by simp(disch:=omega)only[go_sem,h7,h8,ga0,zAA9]<;>rfl);refine zd ?_;refine zae (by simp only[go_sem]<;>rfl) ?_ ?_;rotate_left
   ·intro hltj;have hltj:¬j<n.pairs.length:=by have:=of_decide_eq_false hltj;omega
    obtain rfl:j=n.pairs.length:=by omega
    simp only[zg,zj,zh,zi,zo,zk,if_true,reduceIte];(repeat refine ze ?_);refine zrg ?_ (by simp(disch:=omega)only[go_sem,h6]<;>rfl);refine zG ?_;simp only[zg,zj,zh,zi,zo,zk,if_true,↓reduceIte];refine⟨_,?m9,i+1,K2,_,rfl,hlt,by rw[hK2,hK3,zBM9],by simp[upd,h1],by simp[upd,h4],by simp[upd,h5],by simp[upd,h6],trivial,rfl⟩
    case m9=>omega
   intro hltj;have hltj:j<n.pairs.length:=by have:=of_decide_eq_true hltj;omega
   obtain⟨x,hx⟩:∃x,n.pairs[j]?=some x:=⟨_,zAB9 hltj⟩
   have hxv:(n.pairs.map pv)[j]?=some (pv x):=by rw[zAL9,hx];rfl
   (repeat refine ze ?_);refine zK ?_;(repeat refine ze ?_);refine zap ?_;refine zda ?_ (by simp(disch:=omega)only[go_sem,hxv,hltj,h7,h8,gb0,gb1,zjB,h1,h4,h5,h6,hbb,zax,zaw,zay,zaz,zT,zS,zO,ga0,ga1,ga2,zf,zAF9,zAH9,zAI9,zAC9,zAE9,zAG9,zAM9,zAA9]<;>rfl) (by first|exact trivial|simp only[go_sem,hxv,hltj,h7,h8,gb0,gb1,zjB,h1,h4,h5,h6,hbb,zax,zaw,zay,zaz,zT,zS,zO,ga0,ga1,ga2,zf,zAF9,zAH9,zAI9,zAC9,zAE9,zAG9,zAM9,zAA9]);refine zda ?_ (by simp(disch:=omega)only[go_sem,hxv,hltj,h7,h8,gb0,gb1,zjB,h1,h4,h5,h6,hbb,zax,zaw,zay,zaz,zT,zS,zO,ga0,ga1,ga2,zf,zAF9,zAH9,zAI9,zAC9,zAE9,zAG9,zAM9,zAA9]<;>rfl) (by first|exact trivial|simp only[go_sem,hxv,hltj,h7,h8,gb0,gb1,zjB,h1,h4,h5,h6,hbb,zax,zaw,zay,zaz,zT,zS,zO,ga0,ga1,ga2,zf,zAF9,zAH9,zAI9,zAC9,zAE9,zAG9,zAM9,zAA9]);refine zdl ?_ (by simp(disch:=omega)only[go_sem,h1,h4,h5,h6,hbb,zax,zaw,zay,zaz,zT,zS,zO,ga0,ga1,ga2,zf,zAF9,zAH9,zAI9,zAC9,zAE9,zAG9,zAM9,zAA9]<;>rfl) (by first|exact trivial|simp only[go_sem,h1,h4,h5,h6,hbb,zax,zaw,zay,zaz,zT,zS,zO,ga0,ga1,ga2,zf,zAF9,zAH9,zAI9,zAC9,zAE9,zAG9,zAM9,zAA9]);refine zR ?_;simp only[zo,zW,zg,go_sem];(repeat refine ze ?_);refine zrg ?_ (by simp(disch:=omega)only[go_sem,h8]<;>rfl);refine zG ?_;simp only[zg,zj,zh,zi,zo,zk,if_true,↓reduceIte];refine⟨_,?m8,j+1,K2++[x],?G8,rfl,hltj,?k8,by simp[upd,h1],by simp[upd],by simp[upd],by simp[upd,h6],by simp[upd,h7],by simp[upd,h8],trivial,?H8⟩
   case m8=>omega
   case k8=>rw[hK3,zBN9,hx];simp
   case H8 =>
    simp only[zAC9,zAE9,zAG9,zAM9,zBY9,zCI9,zBQ9];rfl
theorem f57:ET.funcs.get 57=some T57:=z9 (by kernel_rfl) (by decide)
theorem f22:ET.funcs.get 22=some T22:=z9 (by kernel_rfl) (by decide)
theorem ziQ (p:Nat)(w:List Nat)(a:Int)(hw:zbH w.length):FN ET 57 [wv p w,iv a] (.ret (.bool (zbU w.length a))):=by
 refine zfn f57 (.bool _) ?_
 by_cases h1:64<=w.length
 rotate_left
 ·have g1:¬(64:Int)<=w.length:=by omega
  (repeat(first|refine ze ?_|refine zgo ?_ (by simp(disch:=omega)only[go_sem,g1,zAA9]<;>rfl)));refine zF ?_;(try simp only[zg,zj,zh,zi,zk]);refine zq (by simp only[T57,zI,go_sem]<;>rfl) ?_;simp only[zP];exact zbo.bool (by simp[zbU,h1])
 have g1:(64:Int)<=w.length:=by omega
 by_cases h2:w.length%64=0
 rotate_left
 ·have g2:¬(w.length:Int).tmod 64=0:=by rw[IntWalk.rem_in _ _ (by omega)];omega
  (repeat(first|refine ze ?_|refine zgo ?_ (by simp(disch:=omega)only[go_sem,g1,g2,zAA9]<;>rfl)));refine zF ?_;(try simp only[zg,zj,zh,zi,zk]);refine zq (by simp only[T57,zI,go_sem]<;>rfl) ?_;simp only[zP];exact zbo.bool (by simp[zbU,h1,h2])
 have g2:(w.length:Int).tmod 64=0:=by rw[IntWalk.rem_in _ _ (by omega)];omega
 by_cases h3:w.length<=131072
 rotate_left
 ·have g3:¬(w.length:Int)<=131072:=by omega
  (repeat(first|refine ze ?_|refine zgo ?_ (by simp(disch:=omega)only[go_sem,g1,g2,g3,zAA9]<;>rfl)));refine zF ?_;(try simp only[zg,zj,zh,zi,zk]);refine zq (by simp only[T57,zI,go_sem]<;>rfl) ?_;simp only[zP];exact zbo.bool (by simp[zbU,h1,h2,h3])
 have g3:(w.length:Int)<=131072:=by omega
 by_cases h4:(0:Int)<=a
 rotate_left
 ·(repeat(first|refine ze ?_|refine zgo ?_ (by simp(disch:=omega)only[go_sem,g1,g2,g3,h4,zAA9]<;>rfl)));refine zF ?_;(try simp only[zg,zj,zh,zi,zk]);refine zq (by simp only[T57,zI,go_sem]<;>rfl) ?_;simp only[zP];exact zbo.bool (by simp[zbU,h1,h2,h3,h4])
 (repeat(first|refine ze ?_|refine zgo ?_ (by simp(disch:=omega)only[go_sem,g1,g2,g3,h4,zAA9]<;>rfl)));refine zF ?_;(try simp only[zg,zj,zh,zi,zk]);refine zq (by simp only[T57,zI,go_sem]<;>rfl) ?_;simp only[zP];exact zbo.bool (by simp[zbU,h1,h2,h3,h4])
theorem zpB (w:List Nat)(bs:List Nat)(ns:List zE)(k:Nat)(h:ns.length<=k):zcA w (bs.drop k) (ns.drop k)=true:=by
 rw[zEN9 h]
 cases bs.drop k<;>rfl
theorem zoC (w:List Nat)(T:List Lev)(i:Nat)(L:Lev)(hL:T[i]?=some L):zcg w (T.drop i)=(zcA w L.1 L.2&&(match T[i+1]? with|some M=>decide (L.2.flatMap zdz=ze8 M)&&zcg w (T.drop (i+1))|none=>true)):=by
 have hi:=(zAD9.1 hL).1;have e:T.drop i=L::T.drop (i+1):=by
  rw[zBB9 hi];rw[zAB9 hi]at hL;injection hL with hL;rw[hL]
 rw[e]
 cases hM:T[i+1]? with
 | none=>rw[zEN9 (by have:=List.getElem?_eq_none_iff.1 hM;omega)];simp[zcg]
 | some M =>
  have hi1:=(zAD9.1 hM).1;have e1:T.drop (i+1)=M::T.drop (i+2):=by
   rw[zBB9 hi1];rw[zAB9 hi1]at hM;injection hM with hM;rw[hM]
  rw[e1,zcg,Bool.and_assoc]
def zjM (w:List Nat)(b:Nat)(n:zE)(z:Option zE):Bool:=decide (zbJ (zD w b)=0)&&ze1 n z
set_option maxHeartbeats 4000000 in
theorem zqS (p:Nat)(w:List Nat)(a:Int)(hw:64<=w.length/\w.length<=131072)(T:List Lev)(hr:FN ET 57 [wv p w,iv a] (.ret (.bool true)))(hl:FN ET 50 [wv p w,iv a] (.ret (.tuple [zde T,.bool true])))(f1:∀L∈T,zjP w L)(f3:T ≠ [])(f5:T.length<=14) :
  FN ET 22 [wv p w,iv a] (.ret (iv ((if zjT w T=true then 0 else 220:Nat):Int))):=by
 refine zfn f22 (.int _ _) ?_;obtain⟨L0,R,rfl⟩:∃L0 R,T=L0::R:=by
  cases T with
  | nil=>exact absurd rfl f3
  | cons a l=>exact⟨a,l,rfl⟩
 have hT0:(List.map (fun L=>zbX 0 0 L.1 L.2) (L0::R))[0]?=some (zbX 0 0 L0.1 L0.2):=rfl;obtain⟨n0,hn0,hsb⟩:∃n0:zE,(L0.2.map (za7 0))[0]?=some (za7 0 n0)/\zs3 (L0::R)=decide (n0.sib=0):=by
  have:=(f1 L0 (zAV9 ..)).ne;obtain⟨bs,ns⟩:=L0
  cases ns with
  | nil=>exact absurd rfl this
  | cons n ns=>exact⟨n,rfl,rfl⟩
 have hnl:0<L0.2.length:=zBZ9.2 (f1 L0 (zAV9 ..)).ne;have hrl:0<R.length+1:=zER9 _;(repeat(first|refine ze ?_|refine zgo ?_));(repeat refine ze ?_);refine zrg ?_;refine zca hr ?_;refine zfx ?_;refine zd ?_;refine zfc ?_ ?_
 ·intro h;cases h
 intro _;refine zQ ?_;show W _ _ _ _ _ _;(repeat refine ze ?_);refine zrg ?_;refine zca hl ?_;refine zfx ?_;refine zd ?_
 by_cases hsib:n0.sib=0
 rotate_left
 ·have g:¬(n0.sib:Int)=0:=by omega
  (repeat(first|refine ze ?_|refine zgo ?_ (by simp(disch:=omega)only[go_sem,hT0,hn0,hnl,hrl,g,zAA9,zAE9]<;>rfl)));refine zfc ?_ ?_;rotate_left
  ·intro h;cases h
  intro _;(repeat(first|refine ze ?_|refine zgo ?_));refine zF ?_;(try simp only[zg,zj,zh,zi,zk]);refine zq (by simp only[T22,zI,go_sem]<;>rfl) ?_;simp only[zP];rw[if_neg (by unfold zjT;rw[hsb];simp[hsib])];exact Frz.int _ _
 have g:(n0.sib:Int)=0:=by omega
 (repeat(first|refine ze ?_|refine zgo ?_ (by simp(disch:=omega)only[go_sem,hT0,hn0,hnl,hrl,g,zAA9,zAE9]<;>rfl)));refine zfc ?_ ?_
 ·intro h;cases h
 intro _;refine zQ ?_;show W _ _ _ _ _ _;(repeat(first|refine ze ?_|refine zgo ?_));have hset:zjT w (L0::R)=zcg w (L0::R):=by unfold zjT;rw[hsb,hsib];rfl
 rw[hset];clear hset hsb hT0 hn0 hnl hrl g hsib;have hTpos:0<(L0::R).length:=zER9 _;have hTl:(L0::R).length=R.length+1:=rfl;generalize L0::R=T at *
 have bad:∀H,zcg w T=false->zbo H 0 (.ret (iv 220)) (.ret (iv ((if zcg w T=true then 0 else 220:Nat):Int))):=fun H h=>by rw[h];exact Frz.int _ _
 have good:zcg w T=true->((if zcg w T=true then 0 else 220:Nat):Int)=0:=fun h=>by rw[h];rfl
 refine zK (zbd (fun m s=>∃(i:Nat) (H:List zu),m=T.length-i/\i<T.length/\zcg w T=zcg w (T.drop i)/\s.tm 0=wv p w/\s.tm 5=zde T/\s.tm 7=iv i/\s.df=[]/\s.H=H) (n:=T.length) ?_ ?_)
 ·exact⟨0,_,rfl,hTpos,rfl,by simp[upd,zB],by simp[upd],by simp[upd],rfl,rfl⟩
 ·rintro m ⟨tm,df,H⟩ ⟨i,H',rfl,hlt,hls,h0,h5,h7,rfl,rfl⟩;dsimp only at h0 h5 h7;have g7:(i:Int)<(T.length:Nat):=by omega
  (try refine zaa ?_);refine ze (zb ?_);refine zfx ?_ (by simp(disch:=omega)only[go_sem,h5,h7,g7,zAA9]<;>rfl);refine zd ?_;refine zae (by simp only[go_sem]<;>rfl) ?_ ?_;rotate_left
  ·intro h;exact absurd h (by simp[hlt])
  intro _;obtain⟨L,hL⟩:∃L,T[i]?=some L:=⟨_,zAB9 hlt⟩
  have hLT:(T.map fun L=>zbX 0 0 L.1 L.2)[i]?=some (zbX 0 0 L.1 L.2):=by rw[zAL9,hL];rfl
  have hLF:=f1 L (zAO9 hL);rw[zoC w T i L hL]at hls;have hbl:=hLF.lv.len;have hfew:=hLF.few;(repeat refine ze ?_);refine zK ?_;(repeat refine ze ?_);(repeat(first|refine ze ?_|refine zgo ?_));refine zK (zbd (fun m s=>∃(k:Nat) (H:List zu),m=L.2.length-k/\k<=L.2.length/\zcA w L.1 L.2=zcA w (L.1.drop k) (L.2.drop k)/\s.tm 0=wv p w/\s.tm 5=zde T/\s.tm 7=iv i/\s.tm 8=iv k/\s.df=[]/\s.H=H) (n:=L.2.length) ?_ ?_)
  ·exact⟨0,_,rfl,zAU9 _,rfl,by simp[upd,h0],by simp[upd,h5],by simp[upd,h7],by simp[upd],rfl,rfl⟩
  clear h0 h5 h7;rintro m ⟨tm,df,H⟩ ⟨k,H',rfl,hk,hns,h0,h5,h7,h8,rfl,rfl⟩;dsimp only at h0 h5 h7 h8;(try refine zaa ?_);refine ze (zb ?_);refine zfx ?_ (by simp(disch:=omega)only[go_sem,h5,h7,h8,hLT,hlt,zAA9]<;>rfl);refine zd ?_;refine zae (by simp only[go_sem]<;>rfl) ?_ ?_
  ·intro hltk;have hltk:k<L.2.length:=by have:=of_decide_eq_true hltk;omega
   obtain⟨n,hn⟩:∃n,L.2[k]?=some n:=⟨_,zAB9 hltk⟩
   obtain⟨b,hb⟩:∃b,L.1[k]?=some b:=⟨_,zAB9 (by omega)⟩
   have hnv:(L.2.map (za7 0))[k]?=some (za7 0 n):=by rw[zAL9,hn];rfl
   have hbv:(L.1.map fun(b:Nat)=>iv (b:Int))[k]?=some (iv b):=by rw[zAL9,hb];rfl
   have hltb:k<L.1.length:=by omega
   have hbb:=(hLF.lv.each b (zAO9 hb)).1;rw[znQ w L.1 L.2 k b n hb hn]at hns;have w1:IntKind.i64.wrap ((64:Int)*(b:Int))=((64*b:Nat):Int):=by rw[wrap_i64 (by omega) (by omega)];omega
   (repeat refine ze ?_);refine zK ?_;(repeat(first|refine ze ?_|refine zgo ?_ (by simp(disch:=omega)only[go_sem,h5,h7,h8,hLT,hlt,hnv,hbv,hltk,hltb,w1,zAA9]<;>rfl)));have e2:((64*b:Nat):Int)+64=((64*b+64:Nat):Int):=by omega
   have e3:64*b<=64*b+64:=by omega
   have e4:64*b+64<=w.length:=by omega
   have e6:0<w.length:=by omega
   have e5:List.drop (64*b) (List.take (64*b+64) (List.map uv w))=(zD w b).map uv:=by simp[zD,zCO9,zDH9]
   have hC:=zfq p (zD w b) (by unfold zD zbH;simp;omega);refine zdu (fun tm=>tm 0=wv p w/\tm 5=zde T/\tm 7=iv i/\tm 8=iv k/\tm 9=iv (64*b:Nat)/\tm 10=psv 0 n.pairs) ⟨by simp[upd,h0],by simp[upd,h5],by simp[upd,h7],by simp[upd,h8],by simp[upd],by simp[upd]⟩ ?_;clear h0 h5 h7 h8;rintro tm ⟨h0,h5,h7,h8,h9,h10⟩;refine zbN (Q:=fun y s'=>y=.norm/\s'.tm 0=wv p w/\s'.tm 5=zde T/\s'.tm 7=iv i/\s'.tm 8=iv k/\s'.tm 112=.bool (!zjM w b n L.2[k+1]?)/\s'.df=[]) (zap ?_) ?_
   ·have e1:(k:Int)+1=((k+1:Nat):Int):=by omega
    unfold zjM;generalize zbJ (zD w b)=c at *
    refine zdn hC ?_ (by simp(disch:=omega)only[go_sem,h9,h0,e2,e3,e4,e5,e6,zAA9]<;>rfl)
    by_cases hc:c=0
    rotate_left
    ·have gc:¬(c:Int)=0:=by omega
     refine zdl ?_ (by simp(disch:=omega)only[go_sem,gc]<;>rfl);refine zR ?_;simp only[zo,zW,zg,go_sem];exact⟨h0,h5,h7,h8,by simp[hc]⟩
    have gc:(c:Int)=0:=by omega
    rw[decide_eq_true hc,zBW9]
    by_cases hk1:k+1<L.2.length
    rotate_left
    ·have g1:¬((k+1:Nat):Int)<(L.2.length:Nat):=by omega
     have hz:L.2[k+1]?=none:=zCC9 (by omega);refine zdl ?_ (by simp(disch:=omega)only[go_sem,gc,g1,h0,h5,h7,h8,h9,h10,e1,hLT,hlt,zAA9]<;>rfl);refine zR ?_;simp only[zo,zW,zg,go_sem];exact⟨h0,h5,h7,h8,by rw[hz];unfold ze1;cases n.pairs.getLast? <;> rfl⟩
    have g1:((k+1:Nat):Int)<(L.2.length:Nat):=by omega
    obtain⟨z,hz⟩:∃z,L.2[k+1]?=some z:=⟨_,zAB9 hk1⟩
    have hzv:(L.2.map (za7 0))[k+1]?=some (za7 0 z):=by rw[zAL9,hz];rfl
    rw[hz]
    by_cases hp0:n.pairs=[]
    ·have g2:¬(0:Int)<(n.pairs.length:Nat):=by rw[hp0];simp
     refine zdl ?_ (by simp(disch:=omega)only[go_sem,gc,g1,g2,h0,h5,h7,h8,h9,h10,e1,hLT,hlt,zAA9]<;>rfl);refine zR ?_;simp only[zo,zW,zg,go_sem];have hll:ze1 n (some z)=true:=by unfold ze1;rw[hp0];rfl
     exact⟨h0,h5,h7,h8,by rw[hll];rfl⟩
    have hn28:=(hLF.lv.node (zAO9 hn)).1;have hpl:0<n.pairs.length:=zBZ9.2 hp0;have g2:(0:Int)<(n.pairs.length:Nat):=by omega
    obtain⟨q,hq⟩:∃q,n.pairs.getLast?=some q:=by
     cases hh:n.pairs.getLast? with
     | none=>rw[zCQ9]at hh;exact absurd hh hp0
     | some q=>exact⟨q,rfl⟩
    have hq2:n.pairs[n.pairs.length-1]?=some q:=by rw[<- zCE9];exact hq
    have hqv:(n.pairs.map pv)[n.pairs.length-1]?=some (pv q):=by rw[zAL9,hq2];rfl
    have g3:(n.pairs.length:Int)-1=((n.pairs.length-1:Nat):Int):=by omega
    have g4:n.pairs.length-1<n.pairs.length:=by omega
    have hll:ze1 n (some z)=decide (q.1<z.low):=by unfold ze1;rw[hq]
    rw[hll]
    by_cases hqz:q.1<z.low
    ·have g5:¬(z.low:Int)<=q.1:=by omega
     refine zdl ?_ (by simp(disch:=omega)only[go_sem,gc,g1,g2,g3,g4,g5,hk1,hzv,hqv,h0,h5,h7,h8,h9,h10,e1,hLT,hlt,zAA9]<;>rfl);refine zR ?_;simp only[zo,zW,zg,go_sem];exact⟨h0,h5,h7,h8,by simp[hqz]⟩
    ·have g5:(z.low:Int)<=q.1:=by omega
     refine zdl ?_ (by simp(disch:=omega)only[go_sem,gc,g1,g2,g3,g4,g5,hk1,hzv,hqv,h0,h5,h7,h8,h9,h10,e1,hLT,hlt,zAA9]<;>rfl);refine zR ?_;simp only[zo,zW,zg,go_sem];exact⟨h0,h5,h7,h8,by simp[hqz]⟩
   clear h0 h5 h7 h8 h9 h10;rintro y ⟨tm,df,H⟩ ⟨rfl,h0,h5,h7,h8,h112,rfl⟩;dsimp only at h0 h5 h7 h8 h112;simp only[zg,zj,zh,zi,zo,zk,if_true,reduceIte]
   cases hok:zjM w b n L.2[k+1]? with
   | false =>
    rw[hok]at h112;refine zfc ?_ ?_ (by simp only[go_sem,h112]<;>rfl);rotate_left
    ·intro h;cases h
    intro _;(repeat(first|refine ze ?_|refine zgo ?_));refine zF ?_;(try simp only[zg,zj,zh,zi,zk]);refine zq (by simp only[T22,zI,go_sem]<;>rfl) ?_;simp only[zP];exact bad _ (by rw[hls,hns];unfold zjM at hok;rw[hok];rfl)
   | true =>
    rw[hok]at h112;refine zfc ?_ ?_ (by simp only[go_sem,h112]<;>rfl)
    ·intro h;cases h
    intro _;refine zQ ?_;simp only[zg,zj,zh,zi,zo,zk,if_true,reduceIte];(repeat refine ze ?_);refine zrg ?_ (by simp(disch:=omega)only[go_sem,h8]<;>rfl);refine zG ?_;simp only[zg,zj,zh,zi,zo,zk,if_true,↓reduceIte];unfold zjM at hok;refine⟨_,?m1,k+1,_,rfl,hltk,by rw[hns,hok,zBW9],by simp[upd,h0],by simp[upd,h5],by simp[upd,h7],by simp[upd,h8],trivial,rfl⟩
    case m1=>omega
  ·intro hltk;have hltk:¬k<L.2.length:=by have:=of_decide_eq_false hltk;omega
   rw[zpB w L.1 L.2 k (by omega)]at hns;rw[hns,zBW9]at hls;simp only[zg,zj,zh,zi,zo,zk,if_true,reduceIte];have gT:(T.length:Int)-1=((T.length-1:Nat):Int):=by omega
   by_cases hi1:i+1<T.length
   rotate_left
   ·have g1:(i:Int)=((T.length-1:Nat):Int):=by omega
    have hM:T[i+1]?=none:=zCC9 (by omega);rw[hM]at hls;(repeat(first|refine ze ?_|refine zgo ?_ (by simp(disch:=omega)only[go_sem,h5,h7,gT,g1,zAA9]<;>rfl)));refine zfc ?_ ?_;rotate_left
    ·intro h;cases h
    intro _;refine zgc ?_;simp only[zg,zj,zh,zi,zo,zk,if_true,reduceIte];(repeat(first|refine ze ?_|refine zgo ?_));refine zF ?_;(try simp only[zg,zj,zh,zi,zk]);refine zq (by simp only[T22,zI,go_sem]<;>rfl) ?_;simp only[zP];rw[good hls];exact Frz.int _ _
   have g1:¬(i:Int)=((T.length-1:Nat):Int):=by omega
   obtain⟨M,hM⟩:∃M,T[i+1]?=some M:=⟨_,zAB9 hi1⟩
   rw[hM]at hls;dsimp only at hls;have hMT:(T.map fun L=>zbX 0 0 L.1 L.2)[i+1]?=some (zbX 0 0 M.1 M.2):=by rw[zAL9,hM];rfl
   have hMF:=f1 M (zAO9 hM);have hml:=hMF.lv.len;have hMfew:=hMF.few;have hch:=znU 0 0 L.1 L.2 (by omega) fun n hn=>(hLF.lv.node hn).1;generalize L.2.flatMap zdz=K at *
   have e1:(i:Int)+1=((i+1:Nat):Int):=by omega
   (repeat(first|refine ze ?_|refine zgo ?_ (by simp(disch:=omega)only[go_sem,h5,h7,gT,g1,zAA9]<;>rfl)));refine zfc ?_ ?_
   ·intro h;cases h
   intro _;refine zQ ?_;show W _ _ _ _ _ _;(repeat refine ze ?_);refine zb ?_;refine zfx ?_ (by simp(disch:=omega)only[go_sem,h5,h7,hLT,hlt,zAA9]<;>rfl);refine zca hch ?_;refine zfx ?_;refine zd ?_;have hlow:(ze8 M).length=M.2.length:=by unfold ze8;simp[hml]
   by_cases hKl:K.length=M.2.length
   rotate_left
   ·have g2:¬(K.length:Int)=(M.2.length:Nat):=by omega
    (repeat(first|refine ze ?_|refine zgo ?_ (by simp(disch:=omega)only[go_sem,h5,h7,e1,hMT,hi1,g2,zAA9]<;>rfl)));refine zfc ?_ ?_;rotate_left
    ·intro h;cases h
    intro _;(repeat(first|refine ze ?_|refine zgo ?_));refine zF ?_;(try simp only[zg,zj,zh,zi,zk]);refine zq (by simp only[T22,zI,go_sem]<;>rfl) ?_;simp only[zP];refine bad _ ?_;rw[hls,decide_eq_false (fun h=>hKl (by rw[h,hlow])),zFC9]
   have g2:(K.length:Int)=(M.2.length:Nat):=by omega
   (repeat(first|refine ze ?_|refine zgo ?_ (by simp(disch:=omega)only[go_sem,h5,h7,e1,hMT,hi1,g2,zAA9]<;>rfl)));refine zfc ?_ ?_
   ·intro h;cases h
   intro _;refine zQ ?_;show W _ _ _ _ _ _;(repeat(first|refine ze ?_|refine zgo ?_));refine zK (zbd (fun m s=>∃(j:Nat) (H:List zu),m=K.length-j/\j<=K.length/\(∀q,q<j->K[q]?=(ze8 M)[q]?)/\s.tm 0=wv p w/\s.tm 5=zde T/\s.tm 7=iv i/\s.tm 11=.list 0 1 (kP K)/\s.tm 12=.list 0 1 (kL K)/\s.tm 13=iv j/\s.df=[]/\s.H=H) (n:=K.length) ?_ ?_)
   ·exact⟨0,_,rfl,zAU9 _,fun q hq=>absurd hq (zFM9 _),by simp[upd,h0],by simp[upd,h5],by simp[upd,h7],by simp[upd],by simp[upd],by simp[upd],rfl,rfl⟩
   clear h0 h5 h7 h8 hns hch;rintro m ⟨tm,df,H⟩ ⟨j,H',rfl,hj,hsame,h0,h5,h7,h11,h12,h13,rfl,rfl⟩;dsimp only at h0 h5 h7 h11 h12 h13;(try refine zaa ?_);refine ze (zb ?_);refine zfx ?_ (by simp(disch:=omega)only[go_sem,h11,h13,zAA9]<;>rfl);refine zd ?_;refine zae (by simp only[go_sem]<;>rfl) ?_ ?_;rotate_left
   ·intro hltj;have hltj:¬j<K.length:=by have:=of_decide_eq_false hltj;omega
    have hKM:K=ze8 M:=zFF9 fun q=>by
     by_cases hq:q<j
     ·exact hsame q hq
     ·rw[zCC9 (by omega),zCC9 (by omega)]
    rw[decide_eq_true hKM,zBW9]at hls;simp only[zg,zj,zh,zi,zo,zk,if_true,reduceIte];(repeat refine ze ?_);refine zrg ?_ (by simp(disch:=omega)only[go_sem,h7,e1]<;>rfl);refine zG ?_;simp only[zg,zj,zh,zi,zo,zk,if_true,↓reduceIte];refine⟨_,?m2,i+1,_,rfl,hi1,hls,by simp[upd,h0],by simp[upd,h5],by simp[upd,h7],trivial,rfl⟩
    case m2=>omega
   intro hltj;have hltj:j<K.length:=by have:=of_decide_eq_true hltj;omega
   obtain⟨x,hx⟩:∃x,K[j]?=some x:=⟨_,zAB9 hltj⟩
   obtain⟨z,hz⟩:∃z,M.2[j]?=some z:=⟨_,zAB9 (by omega)⟩
   obtain⟨b,hb0⟩:∃b,M.1[j]?=some b:=⟨_,zAB9 (by omega)⟩
   have hKv:(kP K)[j]?=some (uv x.2):=by rw[zAL9,hx];rfl
   have hLv:(kL K)[j]?=some (uv x.1):=by rw[zAL9,hx];rfl
   have hzv:(M.2.map (za7 0))[j]?=some (za7 0 z):=by rw[zAL9,hz];rfl
   have hbv:(M.1.map fun(b:Nat)=>iv (b:Int))[j]?=some (iv b):=by rw[zAL9,hb0];rfl
   have hb:j<M.1.length:=by omega
   have hzl:j<M.2.length:=by omega
   have hbb:=(hMF.lv.each b (zAO9 hb0)).1;have w1:IntKind.u64.wrap (b:Int)=(b:Int):=zL (by omega) (by omega);have hlj:(ze8 M)[j]?=some (z.low,b):=by unfold ze8;rw[zDJ9];exact⟨by rw[zAL9,hz];rfl,hb0⟩
   have hKf:¬x=(z.low,b)->zcg w T=false:=fun h=>by
    rw[hls,decide_eq_false (fun e=>h (by rw[e,hlj]at hx;injection hx with hx;exact hx.symm)),zFC9]
   (repeat refine ze ?_);refine zK ?_;refine ze (zbN (Q:=fun y s'=>y=.norm/\s'.tm 0=wv p w/\s'.tm 5=zde T/\s'.tm 7=iv i/\s'.tm 11=.list 0 1 (kP K)/\s'.tm 12=.list 0 1 (kL K)/\s'.tm 13=iv j/\s'.tm 173=.bool (!decide (x=(z.low,b)))/\s'.df=[]) (zap ?_) ?_)
   ·by_cases c1:x.2=b
    rotate_left
    ·have d1:¬(x.2:Int)=b:=by omega
     refine zdl ?_ (by simp(disch:=omega)only[go_sem,d1,h5,h7,h11,h12,h13,e1,hMT,hi1,hKv,hLv,hltj,hbv,hb,w1,zAA9]<;>rfl);refine zR ?_;simp only[zo,zW,zg,go_sem];exact⟨h0,h5,h7,h11,h12,h13,by rw[decide_eq_false (fun e=>c1 (by rw[e]))];rfl⟩
    have d1:(x.2:Int)=b:=by omega
    by_cases c2:x.1=z.low
    rotate_left
    ·have d2:¬(x.1:Int)=z.low:=by omega
     refine zdl ?_ (by simp(disch:=omega)only[go_sem,d1,d2,hzv,hzl,h5,h7,h11,h12,h13,e1,hMT,hi1,hKv,hLv,hltj,hbv,hb,w1,zAA9]<;>rfl);refine zR ?_;simp only[zo,zW,zg,go_sem];exact⟨h0,h5,h7,h11,h12,h13,by rw[decide_eq_false (fun e=>c2 (by rw[e]))];rfl⟩
    have d2:(x.1:Int)=z.low:=by omega
    refine zdl ?_ (by simp(disch:=omega)only[go_sem,d1,d2,hzv,hzl,h5,h7,h11,h12,h13,e1,hMT,hi1,hKv,hLv,hltj,hbv,hb,w1,zAA9]<;>rfl);refine zR ?_;simp only[zo,zW,zg,go_sem];exact⟨h0,h5,h7,h11,h12,h13,by rw[decide_eq_true (Prod.ext c2 c1)];rfl⟩
   clear h0 h5 h7 h11 h12 h13;rintro y ⟨tm,df,H⟩ ⟨rfl,h0,h5,h7,h11,h12,h13,h173,rfl⟩;dsimp only at h0 h5 h7 h11 h12 h13 h173;simp only[zg,zj,zh,zi,zo,zk,if_true,reduceIte]
   by_cases hxe:x=(z.low,b)
   rotate_left
   ·rw[decide_eq_false hxe]at h173;refine zfc ?_ ?_ (by simp only[go_sem,h173]<;>rfl);rotate_left
    ·intro h;cases h
    intro _;(repeat(first|refine ze ?_|refine zgo ?_));refine zF ?_;(try simp only[zg,zj,zh,zi,zk]);refine zq (by simp only[T22,zI,go_sem]<;>rfl) ?_;simp only[zP];exact bad _ (hKf hxe)
   rw[decide_eq_true hxe]at h173;refine zfc ?_ ?_ (by simp only[go_sem,h173]<;>rfl)
   ·intro h;cases h
   intro _;refine zQ ?_;simp only[zg,zj,zh,zi,zo,zk,if_true,reduceIte];(repeat refine ze ?_);refine zrg ?_ (by simp(disch:=omega)only[go_sem,h13]<;>rfl);refine zG ?_;simp only[zg,zj,zh,zi,zo,zk,if_true,↓reduceIte];refine⟨_,?m3,j+1,_,rfl,hltj,fun q hq=>?q3,by simp[upd,h0],by simp[upd,h5],by simp[upd,h7],by simp[upd,h11],by simp[upd,h12],by simp[upd,h13],trivial,rfl⟩
   case m3=>omega
   case q3 =>
    rcases zCM9 q j with h|h
    ·exact hsame q h
    ·obtain rfl:q=j:=by omega
     rw[hx,hlj,hxe]
theorem zqW (p:Nat)(w:List Nat)(a:Int)(hs:zbH w.length):FN ET 22 [wv p w,iv a] (.ret (iv (zkr w a:Nat))):=by
 have hr:=ziQ p w a hs;unfold zkr
 by_cases h:zbU w.length a=true
 rotate_left
 ·rw[if_neg h];rw[show zbU w.length a=false by simpa using h]at hr;refine zfn f22 (.int _ _) ?_;(repeat(first|refine ze ?_|refine zgo ?_));(repeat refine ze ?_);refine zrg ?_;refine zca hr ?_;refine zfx ?_;refine zd ?_;refine zfc ?_ ?_;rotate_left
  ·intro h;cases h
  intro _;(repeat(first|refine ze ?_|refine zgo ?_));refine zF ?_;(try simp only[zg,zj,zh,zi,zk]);refine zq (by simp only[T22,zI,go_sem]<;>rfl) ?_;simp only[zP];exact Frz.int _ _
 rw[if_pos h];have hb:=(zey _ _).1 h;rw[h]at hr;obtain⟨n,rfl⟩:∃n:Nat,a=n:=⟨a.toNat,by omega⟩
 rw[zDD9];have hl:=zfV p w ⟨hb.1,hb.2.2.1⟩ n (by omega);obtain⟨e1,e2⟩:=zfQ w n
 by_cases ht:(zaQ w n).2=true
 rotate_left
 ·rw[if_neg ht];rw[e1,show (zaQ w n).2=false by simpa using ht]at hl;generalize (zbR w n).1=T at hl;refine zfn f22 (.int _ _) ?_;(repeat(first|refine ze ?_|refine zgo ?_));(repeat refine ze ?_);refine zrg ?_;refine zca hr ?_;refine zfx ?_;refine zd ?_;refine zfc ?_ ?_
  ·intro h;cases h
  intro _;refine zQ ?_;show W _ _ _ _ _ _;(repeat refine ze ?_);refine zrg ?_;refine zca hl ?_;refine zfx ?_;refine zd ?_;(repeat(first|refine ze ?_|refine zgo ?_));refine zfc ?_ ?_;rotate_left
  ·intro h;cases h
  intro _;(repeat(first|refine ze ?_|refine zgo ?_));refine zF ?_;(try simp only[zg,zj,zh,zi,zk]);refine zq (by simp only[T22,zI,go_sem]<;>rfl) ?_;simp only[zP];exact Frz.int _ _
 rw[if_pos ht];rw[e1,e2 ht,ht]at hl;obtain⟨f1,f2,f3,f4,f5⟩:=zcZ (w:=w) (T:=(zaQ w n).1) (by omega) n (by rw[<- ht]);exact zqS p w n ⟨hb.1,hb.2.2.1⟩ _ hr hl f1 f3 f5
theorem f92:ET.funcs.get 92=some T92:=z9 (by kernel_rfl) (by decide)
theorem f45:ET.funcs.get 45=some T45:=z9 (by kernel_rfl) (by decide)
theorem f46:ET.funcs.get 46=some T46:=z9 (by kernel_rfl) (by decide)
def zmW (n:Nat)(fr:List Int)(i:Nat)(f:Int):Bool:=decide (1<=f)&&decide (f<n) && !(fr.take i).contains f
def zfY (n:Nat)(fr:List Int)(k:Nat):Bool:=(List.range k).all fun i=>zmW n fr i (fr.getD i 0)
theorem zml (n:Nat)(fr:List Int)(k:Nat):zfY n fr (k+1)=(zfY n fr k&&zmW n fr k (fr.getD k 0)):=by
 unfold zfY;rw[zDX9,List.all_append];simp
theorem zoq (n:Nat)(fr:List Int)(j:Nat):∀k,zfY n fr (j+k)=true->zfY n fr j=true
 | 0,h=>h
 | k+1,h=>by rw[<- zCY9,zml,zAR9]at h;exact zoq n fr j k h.1
def zn4 (L:Lev)(fr:List Int):Bool:=fr.all fun f=>!(L.1.map fun(b:Nat)=>(b:Int)).contains f
def zhy (T:List Lev)(fr:List Int):Bool:=T.all fun L=>zn4 L fr
def zkn (w:List Nat)(a:Nat)(fr:List Int):Bool:=zfY (w.length/64) fr fr.length&&(!(zbR w a).2||zhy (zbR w a).1 fr)
set_option maxHeartbeats 4000000 in
theorem zr9 (p r:Nat)(w:List Nat)(hw:64<=w.length/\w.length<=131072)(a:Nat)(ha:a<w.length)(fr:List Int)(hfl:fr.length<1000000)(hT:(zbR w a).1.length<=100)(hTb:∀L∈(zbR w a).1,L.1.length<=100000) :
  FN ET 92 [wv p w,iv a,.list r 1 (fr.map iv)] (.ret (.bool (zkn w a fr))):=by
 refine zfn f92 (.bool _) ?_;have hl:=zfV p w hw a ha;unfold zkn;generalize (zbR w a).1=T at *
 generalize (zbR w a).2=fine at *
 (repeat(first|refine ze ?_|refine zgo ?_));refine zK (zbd (fun m s=>∃(i:Nat) (H:List zu),m=fr.length-i/\i<=fr.length/\zfY (w.length/64) fr i=true/\s.tm 0=wv p w/\s.tm 1=iv a/\s.tm 2=.list r 1 (fr.map iv)/\s.tm 7=iv i/\s.df=[]/\s.H=H) (n:=fr.length) ?_ ?_)
 ·exact⟨0,_,rfl,zAU9 _,rfl,by simp[upd,zB],by simp[upd,zB],by simp[upd,zB],by simp[upd],rfl,rfl⟩
 rintro m ⟨tm,df,H⟩ ⟨i,H',rfl,hi,hok,h0,h1,h2,h7,rfl,rfl⟩;dsimp only at h0 h1 h2 h7;(try refine zaa ?_);refine ze (zb ?_);refine zfx ?_ (by simp(disch:=omega)only[go_sem,h2,h7,zAA9]<;>rfl);refine zd ?_;refine zae (by simp only[go_sem]<;>rfl) ?_ ?_
 ·intro hlt;have hlt:i<fr.length:=by have:=of_decide_eq_true hlt;omega
  obtain⟨f,hf⟩:∃f,fr[i]?=some f:=⟨_,zAB9 hlt⟩
  have hfv:(fr.map iv)[i]?=some (iv f):=by rw[zAL9,hf];rfl
  have hfd:fr.getD i 0=f:=by rw[zAQ9,hf];rfl
  have hs:=zml (w.length/64) fr i;rw[hok,zBW9,hfd]at hs;have q1:IntKind.i64.wrap ((w.length:Int).tdiv 64)=((w.length/64:Nat):Int):=by rw[IntWalk.i64_quo _ _ (by omega)];omega
  have hq:IntKind.i64.wrap ((w.length:Int)/64)=((w.length/64:Nat):Int):=by rw[wrap_i64 (by omega) (by omega)];omega
  have htk:List.take i (fr.map iv)=(fr.take i).map iv:=by rw[zDH9]
  have hile:i<=fr.length:=hi;have hh:=zmm r (fr.take i) f (by rw[zBA9];omega);(repeat refine ze ?_);refine zK ?_;(repeat refine ze ?_);refine zbN (Q:=fun y s'=>y=.norm/\s'.tm 0=wv p w/\s'.tm 1=iv a/\s'.tm 2=.list r 1 (fr.map iv)/\s'.tm 7=iv i/\s'.tm 42=.bool (!zmW (w.length/64) fr i f)/\s'.df=[]) (zap ?_) ?_
  ·unfold zmW
   by_cases c1:(1:Int)<=f
   rotate_left
   ·have d1:f<1:=by omega
    refine zeX (by first|exact trivial|simp only[go_sem,d1,h0,h2,h7,hfv,hlt,zAA9]) (by simp(disch:=omega)only[go_sem,d1,h0,h2,h7,hfv,hlt,zAA9]<;>rfl) rfl (by simp only[go_sem,d1,h0,h2,h7,hfv,hlt,zAA9]<;>rfl) (by simp only[go_sem]<;>rfl) ?_;refine zdl ?_ (by simp(disch:=omega)only[go_sem,h7]<;>rfl);refine zR ?_;simp only[zo,zW,zg,go_sem];exact⟨h0,h1,h2,h7,by rw[decide_eq_false c1];rfl⟩
   have d1:¬f<1:=by omega
   rw[decide_eq_true c1,zBW9]
   by_cases c2:f<((w.length/64:Nat):Int)
   rotate_left
   ·have d2:((w.length/64:Nat):Int)<=f:=by omega
    refine zeX (by first|exact trivial|simp only[go_sem,d1,d2,q1,h0,h2,h7,hfv,hlt,zAA9]) (by simp(disch:=omega)only[go_sem,d1,d2,q1,h0,h2,h7,hfv,hlt,zAA9]<;>rfl) rfl (by simp only[go_sem,d1,d2,q1,h0,h2,h7,hfv,hlt,zAA9]<;>rfl) (by simp only[go_sem]<;>rfl) ?_;refine zdl ?_ (by simp(disch:=omega)only[go_sem,h7]<;>rfl);refine zR ?_;simp only[zo,zW,zg,go_sem];exact⟨h0,h1,h2,h7,by rw[decide_eq_false c2];rfl⟩
   have d2:¬((w.length/64:Nat):Int)<=f:=by omega
   rw[decide_eq_true c2,zBW9,Bool.not_not];refine zdn hh ?_ (by simp(disch:=omega)only[go_sem,d1,d2,q1,htk,hile,h0,h2,h7,hfv,hlt,zAA9]<;>rfl);refine zdl ?_ (by simp(disch:=omega)only[go_sem,h7]<;>rfl);refine zR ?_;simp only[zo,zW,zg,go_sem];exact⟨h0,h1,h2,h7⟩
  clear h0 h1 h2 h7;rintro y ⟨tm,df,H⟩ ⟨rfl,h0,h1,h2,h7,h42,rfl⟩;dsimp only at h0 h1 h2 h7 h42;simp only[zg,zj,zh,zi,zo,zk,if_true,reduceIte]
  cases hv:zmW (w.length/64) fr i f with
  | false =>
   rw[hv]at h42 hs;refine zfc ?_ ?_ (by simp only[go_sem,h42]<;>rfl);rotate_left
   ·intro h;cases h
   intro _;(repeat(first|refine ze ?_|refine zgo ?_));refine zF ?_;(try simp only[zg,zj,zh,zi,zk]);refine zq (by simp only[T92,zI,go_sem]<;>rfl) ?_;simp only[zP];refine zbo.bool ?_
   cases hk:zfY (w.length/64) fr fr.length with
   | false=>rfl
   | true =>
    obtain⟨d,hd⟩:∃d,fr.length=i+1+d:=⟨fr.length-(i+1),by omega⟩
    rw[hd]at hk;rw[zoq _ _ _ _ hk]at hs
    cases hs
  | true =>
   rw[hv]at h42 hs;refine zfc ?_ ?_ (by simp only[go_sem,h42]<;>rfl)
   ·intro h;cases h
   intro _;refine zQ ?_;simp only[zg,zj,zh,zi,zo,zk,if_true,reduceIte];(repeat refine ze ?_);refine zrg ?_ (by simp(disch:=omega)only[go_sem,h7]<;>rfl);refine zG ?_;simp only[zg,zj,zh,zi,zo,zk,if_true,↓reduceIte];refine⟨_,?m1,i+1,_,rfl,hlt,hs,by simp[upd,h0],by simp[upd,h1],by simp[upd,h2],by simp[upd,h7],trivial,rfl⟩
   case m1=>omega
 intro hlt;have hlt:¬i<fr.length:=by have:=of_decide_eq_false hlt;omega
 obtain rfl:i=fr.length:=by omega
 rw[hok,zBW9];simp only[zg,zj,zh,zi,zo,zk,if_true,reduceIte];(repeat refine ze ?_);refine zb ?_;refine zfx ?_ (by simp(disch:=omega)only[go_sem,h0,h1]<;>rfl);refine zca hl ?_;refine zfx ?_;refine zd ?_;(repeat(first|refine ze ?_|refine zgo ?_));refine zK (zbd (fun m s=>∃(j:Nat) (H:List zu),m=T.length-j/\j<=T.length/\(fine=true->zhy (T.take j) fr=true)/\(j=0\/fine=true)/\s.tm 2=.list r 1 (fr.map iv)/\s.tm 8=zde T/\s.tm 9=.bool fine/\s.tm 10=iv j/\s.df=[]/\s.H=H) (n:=T.length) ?_ ?_)
 ·exact⟨0,_,rfl,zAU9 _,fun _=>rfl,.inl rfl,by simp[upd,h2],by simp[upd],by simp[upd],by simp[upd],rfl,rfl⟩
 clear h0 h1 h2 h7 hl;rintro m ⟨tm,df,H⟩ ⟨j,H',rfl,hj,hno,hj0,h2,h8,h9,h10,rfl,rfl⟩;dsimp only at h2 h8 h9 h10
 by_cases hgo:j<T.length/\fine=true
 rotate_left
 ·have hend:(!fine||zhy T fr)=true:=by
   cases fine with
   | false=>rfl
   | true =>
    obtain rfl:j=T.length:=by have:¬j<T.length:=fun h=>hgo ⟨h,rfl⟩;omega
    have h3:=hno rfl;rw[zBM9]at h3;rw[h3];rfl
  rw[hend]
  by_cases hlj:j<T.length
  ·have g:(j:Int)<(T.length:Nat):=by omega
   obtain rfl:fine=false:=by cases fine with|false=>rfl|true=>exact absurd ⟨hlj,rfl⟩ hgo
   (try refine zaa ?_);refine ze (zb ?_);refine zfx ?_ (by simp(disch:=omega)only[go_sem,h8,h9,h10,g,zAA9]<;>rfl);refine zd ?_;refine zae (by simp only[go_sem]<;>rfl) ?_ ?_
   ·intro h;cases h
   intro _;simp only[zg,zj,zh,zi,zo,zk,if_true,reduceIte];(repeat(first|refine ze ?_|refine zgo ?_));refine zF ?_;(try simp only[zg,zj,zh,zi,zk]);refine zq (by simp only[T92,zI,go_sem]<;>rfl) ?_;simp only[zP];exact Frz.bool _
  ·have g:¬(j:Int)<(T.length:Nat):=by omega
   (try refine zaa ?_);refine ze (zb ?_);refine zfx ?_ (by simp(disch:=omega)only[go_sem,h8,h9,h10,g,zAA9]<;>rfl);refine zd ?_;refine zae (by simp only[go_sem]<;>rfl) ?_ ?_
   ·intro h;cases h
   intro _;simp only[zg,zj,zh,zi,zo,zk,if_true,reduceIte];(repeat(first|refine ze ?_|refine zgo ?_));refine zF ?_;(try simp only[zg,zj,zh,zi,zk]);refine zq (by simp only[T92,zI,go_sem]<;>rfl) ?_;simp only[zP];exact Frz.bool _
 obtain⟨hlj,rfl⟩:=hgo;have hno:=hno rfl;have g:(j:Int)<(T.length:Nat):=by omega
 (try refine zaa ?_);refine ze (zb ?_);refine zfx ?_ (by simp(disch:=omega)only[go_sem,h8,h9,h10,g,zAA9]<;>rfl);refine zd ?_;refine zae (by simp only[go_sem]<;>rfl) ?_ ?_;rotate_left
 ·intro h;cases h
 intro _;obtain⟨L,hL⟩:∃L,T[j]?=some L:=⟨_,zAB9 hlj⟩
 have hLT:(T.map fun L=>zbX 0 0 L.1 L.2)[j]?=some (zbX 0 0 L.1 L.2):=by rw[zAL9,hL];rfl
 have hLb:=hTb L (zAO9 hL);(repeat refine ze ?_);refine zK ?_;(repeat(first|refine ze ?_|refine zgo ?_));refine zK (zbd (fun m s=>∃(k:Nat) (H:List zu),m=fr.length-k/\k<=fr.length/\(∀f∈fr.take k,¬(L.1.map fun(b:Nat)=>(b:Int)).contains f=true)/\s.tm 2=.list r 1 (fr.map iv)/\s.tm 8=zde T/\s.tm 9=.bool true/\s.tm 10=iv j/\s.tm 11=iv k/\s.df=[]/\s.H=H) (n:=fr.length) ?_ ?_)
 ·exact⟨0,_,rfl,zAU9 _,fun f hf=>by simp at hf,by simp[upd,h2],by simp[upd,h8],by simp[upd,h9],by simp[upd,h10],by simp[upd],rfl,rfl⟩
 clear h2 h8 h9 h10;rintro m ⟨tm,df,H⟩ ⟨k,H',rfl,hk,hnk,h2,h8,h9,h10,h11,rfl,rfl⟩;dsimp only at h2 h8 h9 h10 h11;(try refine zaa ?_);refine ze (zb ?_);refine zfx ?_ (by simp(disch:=omega)only[go_sem,h2,h11,zAA9]<;>rfl);refine zd ?_;refine zae (by simp only[go_sem]<;>rfl) ?_ ?_;rotate_left
 ·intro hlt;have hlt:¬k<fr.length:=by have:=of_decide_eq_false hlt;omega
  obtain rfl:k=fr.length:=by omega
  rw[zBM9]at hnk;simp only[zg,zj,zh,zi,zo,zk,if_true,reduceIte];(repeat refine ze ?_);refine zrg ?_ (by simp(disch:=omega)only[go_sem,h10]<;>rfl);refine zG ?_;simp only[zg,zj,zh,zi,zo,zk,if_true,↓reduceIte];refine⟨_,?m3,j+1,_,rfl,hlj,fun _=>?n3,.inr trivial,by simp[upd,h2],by simp[upd,h8],by simp[upd,h9],by simp[upd,h10],trivial,rfl⟩
  case m3=>omega
  case n3 =>
   unfold zhy at hno⊢;rw[zBN9,hL,List.all_append,hno,zBW9];simp only[Option.toList_some,List.all_cons,List.all_nil,Bool.and_true];unfold zn4;rw[zBE9];intro f hf;simpa using hnk f hf
 intro hlt;have hlt:k<fr.length:=by have:=of_decide_eq_true hlt;omega
 obtain⟨f,hf⟩:∃f,fr[k]?=some f:=⟨_,zAB9 hlt⟩
 have hfv:(fr.map iv)[k]?=some (iv f):=by rw[zAL9,hf];rfl
 have hh:=zmm 0 (L.1.map fun(b:Nat)=>(b:Int)) f (by rw[zAA9];omega);rw[zmA]at hh;(repeat refine ze ?_);refine zK ?_;(repeat refine ze ?_);refine zap ?_;refine zdn hh ?_ (by simp(disch:=omega)only[go_sem,h2,h8,h10,h11,hLT,hlj,hfv,hlt,zAA9]<;>rfl);refine zdl ?_ (by simp(disch:=omega)only[go_sem,h2]<;>rfl);refine zR ?_;simp only[zo,zW,zg,go_sem]
 cases hc:(L.1.map fun(b:Nat)=>(b:Int)).contains f with
 | true =>
  refine zfc ?_ ?_;rotate_left
  ·intro h;cases h
  intro _;(repeat(first|refine ze ?_|refine zgo ?_));refine zF ?_;(try simp only[zg,zj,zh,zi,zk]);refine zq (by simp only[T92,zI,go_sem]<;>rfl) ?_;simp only[zP];refine zbo.bool ?_;rw[eq_comm];(first|(rw[Bool.or_eq_false_iff];refine⟨rfl,?_⟩)|skip);unfold zhy;rw[List.all_eq_false];refine⟨L,zAO9 hL,?_⟩;unfold zn4;rw[zBE9];intro h;have:=h f (zAO9 hf);rw[hc]at this;cases this
 | false =>
  refine zfc ?_ ?_
  ·intro h;cases h
  intro _;refine zQ ?_;simp only[zg,zj,zh,zi,zo,zk,if_true,reduceIte];(repeat refine ze ?_);refine zrg ?_ (by simp(disch:=omega)only[go_sem,h11]<;>rfl);refine zG ?_;simp only[zg,zj,zh,zi,zo,zk,if_true,↓reduceIte];refine⟨_,?m4,k+1,_,rfl,hlt,?n4,by simp[upd,h2],by simp[upd,h8],by simp[upd,h9],by simp[upd,h10],by simp[upd,h11],trivial,rfl⟩
  case m4=>omega
  case n4 =>
   intro g hg;rw[zBN9,hf]at hg;rcases zBK9.1 hg with hg|hg
   ·exact hnk g hg
   ·obtain rfl:g=f:=by simpa using hg
    rw[hc];decide
theorem zm6 {w:List Nat}:∀(d:Nat) (seen:List Nat) (acc:List Lev) (b:Nat) (lv:Int),(zc7 w d seen acc b lv).1=[]\/(zc7 w d seen acc b lv).1=(zbI w d seen acc b lv).1
 | 0,seen,acc,b,lv=>.inl rfl
 | d+1,seen,acc,b,lv=>by
  rw[zc7,zbI]
  cases hr:zbC w lv (w.length/64) seen [] [] b with
  | none=>exact .inl rfl
  | some r =>
   obtain⟨s',bs,ns⟩:=r
   cases ns with
   | nil=>exact .inl rfl
   | cons n ns =>
    simp only
    by_cases hl:n.level=0
    ·rw[if_pos hl,if_pos hl];exact .inr rfl
    ·rw[if_neg hl,if_neg hl];exact zm6 d _ _ _ _
theorem ziu {w:List Nat}(hw:w.length<=131072)(a:Nat):(∀L∈(zbR w a).1,zjP w L)/\(zbR w a).1.length<=14:=by
 have hle:=zh6 w 14 [] [] (w.getD a 0) (-1);have hf:=(zgp hw 14 [] [] (w.getD a 0) (-1) (fun L hL=>by simp at hL)).1;rcases zm6 (w:=w) 14 [] [] (w.getD a 0) (-1)with h|h
 ·unfold zbR;rw[h];exact⟨fun L hL=>by simp at hL,zAU9 _⟩
 ·unfold zbR;rw[h];exact⟨hf,by simpa using hle⟩
def zif (w:List Nat)(a:Int)(fr:List Int):Nat:=if zbU w.length a=true then if zkn w a.toNat fr=true then zkr w a else 2 else 2
theorem zlD (p r:Nat)(w:List Nat)(a:Int)(fr:List Int)(hs:zbH w.length)(hfl:fr.length<1000000):FN ET 45 [wv p w,iv a,.list r 1 (fr.map iv)] (.ret (iv (zif w a fr:Nat))):=by
 have hr:=ziQ p w a hs;have hc:=zqW p w a hs;unfold zif
 by_cases h:zbU w.length a=true
 rotate_left
 ·rw[if_neg h];rw[show zbU w.length a=false by simpa using h]at hr;refine zfn f45 (.int _ _) ?_;(repeat(first|refine ze ?_|refine zgo ?_));(repeat refine ze ?_);refine zrg ?_;refine zca hr ?_;refine zfx ?_;refine zd ?_;refine zfc ?_ ?_;rotate_left
  ·intro h;cases h
  intro _;(repeat(first|refine ze ?_|refine zgo ?_));refine zF ?_;(try simp only[zg,zj,zh,zi,zk]);refine zq (by simp only[T45,zI,go_sem]<;>rfl) ?_;simp only[zP];exact Frz.int _ _
 rw[if_pos h];have hb:=(zey _ _).1 h;rw[h]at hr;obtain⟨n,rfl⟩:∃n:Nat,a=n:=⟨a.toNat,by omega⟩
 rw[zDD9];obtain⟨t1,t2⟩:=ziu (w:=w) hb.2.2.1 n;have hf:=zr9 p r w ⟨hb.1,hb.2.2.1⟩ n (by omega) fr hfl (by omega) fun L hL=>by have:=t1 L hL;have h1:=this.lv.len;have h2:=this.few;omega
 by_cases h2:zkn w n fr=true
 rotate_left
 ·rw[if_neg h2];rw[show zkn w n fr=false by simpa using h2]at hf;refine zfn f45 (.int _ _) ?_;(repeat(first|refine ze ?_|refine zgo ?_));(repeat refine ze ?_);refine zrg ?_;refine zca hr ?_;refine zfx ?_;refine zca hf ?_;refine zfx ?_;refine zd ?_;refine zfc ?_ ?_;rotate_left
  ·intro h;cases h
  intro _;(repeat(first|refine ze ?_|refine zgo ?_));refine zF ?_;(try simp only[zg,zj,zh,zi,zk]);refine zq (by simp only[T45,zI,go_sem]<;>rfl) ?_;simp only[zP];exact Frz.int _ _
 rw[if_pos h2];rw[h2]at hf;refine zfn f45 (.int _ _) ?_;(repeat(first|refine ze ?_|refine zgo ?_));(repeat refine ze ?_);refine zrg ?_;refine zca hr ?_;refine zfx ?_;refine zca hf ?_;refine zfx ?_;refine zd ?_;refine zfc ?_ ?_
 ·intro h;cases h
 intro _;refine zQ ?_;show W _ _ _ _ _ _;(repeat refine ze ?_);refine zrg ?_;refine zca hc ?_;refine zfx ?_;refine zd ?_;refine zF ?_;(try simp only[zg,zj,zh,zi,zk]);refine zq (by simp only[T45,zI,go_sem]<;>rfl) ?_;simp only[zP];exact Frz.int _ _
structure zuI (w:List Nat)(b0 key:Nat)(ws:List Nat):Prop where
 first:ws[0]?=some b0
 inn:∀b∈ws,64*b+64<=w.length
 next:∀(i:Nat) (b c:Nat),ws[i]?=some b->ws[i+1]?=some c->zcH (zD w b) key=(c,0)
 last:∀b,ws.getLast?=some b->¬(zcH (zD w b) key).2=0
 few:ws.length<=20
set_option maxHeartbeats 2000000 in
theorem zoz (p:Nat)(w:List Nat)(a key:Nat)(ws:List Nat)(hw:w.length<=131072)(ha:a<w.length)(hW:zuI w (w.getD a 0) key ws):FN ET 46 [wv p w,iv a,uv key] (.ret (.list 0 1 (ws.map fun(b:Nat)=>iv (b:Int)))):=by
 refine zfn f46 (Lb.ivn _) ?_;have hwa:=zck ha;obtain⟨h1,h2,h3,h4,h5⟩:=hW;generalize w.getD a 0=b0 at *
 have hne:0<ws.length:=(zAD9.1 h1).1;have hb0:=h2 b0 (zAO9 h1);have w1:IntKind.i64.wrap (b0:Int)=(b0:Int):=wrap_i64 (by omega) (by omega);(repeat(first|refine ze ?_|refine zgo ?_ (by simp(disch:=omega)only[go_sem,hwa,ha,w1,zAA9]<;>rfl)));refine zK (zbd (fun m s=>∃(i:Nat) (V:List Nat) (G:List zu),m=ws.length-i/\i<ws.length/\V=ws.take (i+1)/\s.tm 0=wv p w/\s.tm 2=uv key/\s.tm 7=.sl 0 i 0 V.length (2*V.length) 1/\s.tm 8=iv i/\s.df=[]/\s.H=.row 3 1 i 0 (V.map fun(b:Nat)=>iv (b:Int))::G) (n:=ws.length) ?_ ?_)
 ·refine⟨0,[b0],[],rfl,hne,?v0,by simp[upd,zB],by simp[upd,zB],by simp[upd],by simp[upd],rfl,rfl⟩
  case v0=>rw[zBN9,h1];rfl
 rintro m ⟨tm,df,H⟩ ⟨i,V,G,rfl,hi,hV,t0,t2,t7,t8,rfl,rfl⟩;dsimp only at t0 t2 t7 t8;have hVl:V.length=i+1:=by rw[hV,zBA9];omega
 have g:(i:Int)<20:=by omega
 (try refine zaa ?_);refine ze (zb ?_);refine zfx ?_ (by simp(disch:=omega)only[go_sem,t8,g]<;>rfl);refine zd ?_;refine zae (by simp only[go_sem]<;>rfl) ?_ ?_;rotate_left
 ·intro h;cases h
 intro _;obtain⟨b,hb⟩:∃b,ws[i]?=some b:=⟨_,zAB9 hi⟩
 have hbb:=h2 b (zAO9 hb);have hVb:V[i]?=some b:=by rw[hV,zBF9,if_pos (by omega)];exact hb
 have hVv:(V.map fun(b:Nat)=>iv (b:Int))[i]?=some (iv b):=by rw[zAL9,hVb];rfl
 have e0:(V.length:Int)-1=(i:Int):=by omega
 have e7:i<V.length:=by omega
 have e1:IntKind.i64.wrap ((64:Int)*(b:Int))=((64*b:Nat):Int):=by rw[wrap_i64 (by omega) (by omega)];omega
 have e2:((64*b:Nat):Int)+64=((64*b+64:Nat):Int):=by omega
 have e3:64*b<=64*b+64:=by omega
 have e6:0<w.length:=by omega
 have e5:List.drop (64*b) (List.take (64*b+64) (List.map uv w))=(zD w b).map uv:=by simp[zD,zCO9,zDH9]
 have hC:=zrS p key (zD w b) (by unfold zD zbH;simp;omega);(repeat refine ze ?_);refine zK ?_;(repeat refine ze ?_);refine zgo ?_ (by simp(disch:=omega)only[go_sem,t7,t8,e0,e7,hVv,zAA9]<;>rfl);(repeat refine ze ?_);refine zrg ?_ (by simp(disch:=omega)only[go_sem,t0,t2,e1,e2,e3,e5,e6,hbb,zAA9]<;>rfl);refine zca hC ?_
 by_cases hc:(zcH (zD w b) key).2=0
 rotate_left
 ·have g2:¬(((zcH (zD w b) key).2:Nat):Int)=0:=by omega
  refine zfx ?_;refine zd ?_;(repeat(first|refine ze ?_|refine zgo ?_ (by simp(disch:=omega)only[go_sem,g2]<;>rfl)));refine zfc ?_ ?_;rotate_left
  ·intro h;cases h
  intro _;refine zgc ?_;simp only[zg,zj,zh,zi,zo,zk,if_true,reduceIte];(repeat(first|refine ze ?_|refine zgo ?_ (by simp(disch:=omega)only[go_sem,t7]<;>rfl)));refine zF ?_;(try simp only[zg,zj,zh,zi,zk]);refine zq (by simp only[T46,zI,go_sem]<;>rfl) ?_;simp only[zP];have hil:i+1=ws.length:=by
   rcases zCM9 (i+1) ws.length with h|h
   ·have:=h3 i b _ hb (zAB9 h);rw[this]at hc;exact absurd rfl hc
   ·omega
  have hVw:V=ws:=by rw[hV,hil,zBM9]
  subst hVw;exact Frz.whole (e:=3) (z':=1) (l:=V.map fun(b:Nat)=>iv (b:Int)) rfl rfl (by simp) (by simp) (fun v hv=>by obtain⟨x,_,rfl⟩:=zAS9.1 hv;rfl) zeK
 have hil:i+1<ws.length:=by
  rcases zCM9 (i+1) ws.length with h|h
  ·exact h
  ·exact absurd hc (h4 b (by rw[zCE9,show ws.length-1=i by omega];exact hb))
 obtain⟨c,hcc⟩:∃c,ws[i+1]?=some c:=⟨_,zAB9 hil⟩
 have hch:=h3 i b c hb hcc;rw[hch];refine zfx ?_;refine zd ?_;(repeat(first|refine ze ?_|refine zgo ?_));refine zfc ?_ ?_
 ·intro h;cases h
 intro _;refine zQ ?_;show W _ _ _ _ _ _;have hbb2:(V.length+1)*9<=140737488355328:=by omega
 (repeat refine ze ?_);(repeat refine ze ?_);refine zrg ?_ (by simp(disch:=omega)only[go_sem,t7,hbb2,zf]<;>rfl);refine zG ?_;simp only[zg,zj,zh,zi,zo,zk,if_true,↓reduceIte];(repeat refine ze ?_);refine zrg ?_ (by simp(disch:=omega)only[go_sem,t8]<;>rfl);refine zG ?_;simp only[zg,zj,zh,zi,zo,zk,if_true,↓reduceIte];refine⟨_,?m,i+1,V++[c],?G,rfl,hil,?hV,by simp[upd,t0],by simp[upd,t2],by simp[upd],by simp[upd,t8],trivial,?H⟩
 case m=>omega
 case hV=>rw[zBN9 (i:=i+1),hcc,<- hV];rfl
 case H=>rw[zBY9];rfl
theorem f48:ET.funcs.get 48=some T48:=z9 (by kernel_rfl) (by decide)
theorem zw7:ET.funcs.get 124=some T124:=z9 (by kernel_rfl) (by decide)
theorem zwG:ET.funcs.get 122=some T122:=z9 (by kernel_rfl) (by decide)
theorem zpY {E:Env}{caught:Tr Unit}{ops:List zad}{s:FSt}{Q:FX->FSt->Prop}(i n:Nat){w:PV}{o:zu}(hn:s.H[n]?=some o)(hw:Frz (zxk n s.H) 0 (s.tm i) w)(k:WO E caught ops ⟨upd s.tm i w,s.df,s.H.set n .void⟩ Q):WO E caught ops s Q:=fun B c t hs=>by
 have hlt:=(zAD9.1 hn).1;obtain⟨m,hr,hcf⟩:=hs.hr.frz (H':=s.H.set n .void) (n:=n) (by simp) (by simp[hlt]) (fun id o o' ho ho'=>by
  by_cases hi:n=id
  ·subst hi;simp[hlt]at ho';subst ho';exact .void _
  ·rw[zAX9 hi,ho]at ho';injection ho' with ho';subst ho';exact .same _ (Ne.symm hi))
 obtain⟨r,x,s',c',t',e1,q1,m1,k1,fin⟩:=k B _ t ⟨hr,fun j=>by
  dsimp only;unfold upd
  by_cases hj:j=i
  ·subst hj;rw[if_pos rfl];rcases hs.tm j with h2|⟨u,u1,u2⟩
   ·rw[h2]at hw;cases hw
   ·exact .inr ⟨u,u1,hcf _ _ _ u2 (.inr hw)⟩
  ·rw[if_neg hj];exact(hs.tm.mono m) j,hs.df.mono m⟩
 exact⟨r,x,s',c',t',e1,q1,m.trans m1,k1,fin⟩
theorem zfG (x:Wk)(hfr:Id0 x.fr)(b:Nat)(hb:64*b+64<=x.W.length)(hW:x.W.length<=131072):FP ET 48 [wkv x,iv b] (.ret (wv x.p (zD x.W b))):=by
 refine zfp f48 ?_;have e1:IntKind.i64.wrap ((64:Int)*(b:Int))=((64*b:Nat):Int):=by rw[wrap_i64 (by omega) (by omega)];omega
 have e2:((64*b:Nat):Int)+64=((64*b+64:Nat):Int):=by omega
 have e3:64*b<=64*b+64:=by omega
 have e6:0<x.W.length:=by omega
 have e5:List.drop (64*b) (List.take (64*b+64) (List.map uv x.W))=(zD x.W b).map uv:=by simp[zD,zCO9,zDH9]
 unfold wkv;(repeat(first|refine ze ?_|refine zgo ?_ (by simp(disch:=omega)only[go_sem,e1,e2,e3,e5,e6,hb,zAA9]<;>rfl)));refine zF ?_;(try simp only[zg,zj,zh,zi,zk]);refine zq (by simp only[T48,zI,go_sem]<;>rfl) ?_;simp only[zP];exact Frz.list _ _ _
def ofN (w:List Nat):zE:=if zbP w=true then zai w else zi8
theorem zpu (w:List Nat):∃no:Nat,zdG w=.ret (.tuple [za7 0 (ofN w),iv no]):=by
 unfold ofN
 by_cases h:zbP w=true
 ·exact⟨0,by rw[zeP _ h,if_pos h];rfl⟩
 ·exact⟨210,by rw[zk5 (by simpa using h),if_neg h];rfl⟩
theorem zuL (w:List Nat):(ofN w).level<=12/\(ofN w).sib<2048/\(ofN w).pairs.length<=28:=by
 unfold ofN
 by_cases h:zbP w=true
 ·rw[if_pos h];have:=zeB h;exact⟨this.1,this.2.1,zxf w⟩
 ·rw[if_neg h];decide
theorem zcf (w:List Nat)(b:Nat)(h:64*b+64<=w.length):(zD w b).length=64:=by unfold zD;simp;omega
theorem zq2 (x:Wk)(hfr:Id0 x.fr)(b:Nat)(hb:64*b+64<=x.W.length)(hW:x.W.length<=131072):FN ET 124 [wkv x,iv b] (.ret (.bool (decide (27<=(ofN (zD x.W b)).pairs.length)))):=by
 refine zfn zw7 (.bool _) ?_;have hat:=zfG x hfr b hb hW;have hO:=zeT x.p (zD x.W b) (by rw[zcf _ _ hb];decide);obtain⟨no,hno⟩:=zpu (zD x.W b);rw[hno]at hO;have hbnd:=(zuL (zD x.W b)).2.2;generalize ofN (zD x.W b)=n at *
 have hid:=zcD hfr;unfold wkv at hid hat⊢;(repeat(first|refine ze ?_|refine zgo ?_));(repeat refine ze ?_);refine zrg ?_;refine zcb (by first|rfl|(simp only[go_sem]<;>rfl)) (by simp only[go_sem]<;>rfl) hat rfl ?_ ?_;(repeat(first|exact trivial|refine And.intro ?_ ?_|exact Id0.int _ _|exact Id0.bool _|exact Id0.list _ _ _|exact Id0.elem _|exact Id0.nilsl|exact Id0.str _|exact zce _ _ _))
 ·exact hid
 ·(repeat(first|exact trivial|refine And.intro ?_ ?_|exact Id0.int _ _|exact Id0.bool _|exact Id0.list _ _ _|exact Id0.elem _|exact Id0.nilsl|exact Id0.str _|exact zce _ _ _))
 refine zfx ?_;refine zca hO ?_;refine zfx ?_;refine zd ?_;(repeat(first|refine ze ?_|refine zgo ?_ (by simp(disch:=omega)only[go_sem,zf,zn,zAA9]<;>rfl)));refine zF ?_;(try simp only[zg,zj,zh,zi,zk]);refine zq (by simp only[T124,zI,go_sem]<;>rfl) ?_;simp only[zP];refine zbo.bool ?_;rw[zDN9];simp;omega
def zbY (w:List Nat):List Pr:=(List.range w.length).map fun i=>(i,w.getD i 0)
theorem zsT (w:List Nat)(i:Nat)(h:i<w.length):(zbY w)[i]?=some (i,w.getD i 0):=by
 unfold zbY;rw[zAL9,zEG9 h];rfl
theorem zd6 (w:List Nat):(zbY w).length=w.length:=by unfold zbY;simp
set_option maxHeartbeats 2000000 in
theorem zkI (x:Wk)(hfr:Id0 x.fr)(b r:Nat)(w:List Nat)(hl:x.L.length+w.length<1000000)(hw:x.W.length<1000000)(hin:64*b+w.length<=x.W.length):FP ET 122 [wkv x,iv b,wv r w] (.ret (wkv (x.does (zbv (64*b) (zbY w))))):=by
 refine zfp zwG ?_;have hid:=zcD hfr;(repeat(first|refine ze ?_|refine zgo ?_));refine zcn 83 2 (i:=7) rfl ?_;simp only[lzy,zAC9,zAE9,zAG9,zAM9,zAF9,zAH9,zAI9];(repeat(first|refine ze ?_|refine zgo ?_));refine zK (zbd (fun m s=>∃(i:Nat) (V:List Pr) (G:List zu),m=w.length-i/\i<=w.length/\V=(zbY w).take i/\s.tm 1=iv b/\s.tm 2=wv r w/\s.tm 3=.ptr 0 0 0 0 4/\s.tm 6=.ptr 1 0 0 0 4/\s.tm 7=.sl 2 i 0 V.length (2*V.length) 2/\s.tm 8=iv i/\s.df=[]/\s.H=.row 107 4 0 0 [wkv x]::.row 107 4 0 0 [.agg [.nilsl,.nilsl,.nilsl,iv 0]]::.row 83 2 i 0 (V.map zag)::G) (n:=w.length) ?_ ?_)
 ·exact⟨0,[],[],rfl,zAU9 _,by simp,by simp[upd,zB],by simp[upd,zB],by simp[upd],by simp[upd],by simp[upd],by simp[upd],rfl,rfl⟩
 rintro m ⟨tm,df,H⟩ ⟨i,V,G,rfl,hi,hV,h1,h2,h3,h6,h7,h8,rfl,rfl⟩;dsimp only at h1 h2 h3 h6 h7 h8;have hVl:V.length=i:=by rw[hV,zBA9,zd6];omega
 (try refine zaa ?_);refine ze (zb ?_);refine zfx ?_ (by simp(disch:=omega)only[go_sem,h2,h8,zAA9]<;>rfl);refine zd ?_;refine zae (by simp only[go_sem]<;>rfl) ?_ ?_
 ·intro hlt;have hlt:i<w.length:=by have:=of_decide_eq_true hlt;omega
  have hwi:=zck hlt;have hbb:(V.length+1)*17<=140737488355328:=by omega
  (repeat refine ze ?_);refine zK ?_;(repeat refine ze ?_);refine zrg ?_ (by simp(disch:=omega)only[go_sem,h2,h7,h8,hlt,hwi,hbb,zf,zAA9]<;>rfl);refine zG ?_;simp only[zg,zj,zh,zi,zo,zk,if_true,↓reduceIte];(repeat refine ze ?_);refine zrg ?_ (by simp(disch:=omega)only[go_sem,h8]<;>rfl);refine zG ?_;simp only[zg,zj,zh,zi,zo,zk,if_true,↓reduceIte];refine⟨_,?m,i+1,V++[(i,w.getD i 0)],?G,rfl,hlt,?hV,by simp[upd,h1],by simp[upd,h2],by simp[upd,h3],by simp[upd,h6],by simp[upd],by simp[upd,h8],trivial,?H⟩
  case m=>omega
  case hV=>rw[zBN9,zsT _ _ hlt,<- hV];rfl
  case H=>rw[zBY9];rfl
 ·intro hlt;have hlt:¬i<w.length:=by have:=of_decide_eq_false hlt;omega
  obtain rfl:i=w.length:=by omega
  have hVw:V=zbY w:=by rw[hV,<- zd6,zBM9]
  subst hVw;clear hV;have hd:=ze4 x hfr (64*b) 0 (zbY w) (by rw[zd6];exact hl) hw fun c hc=>by
   unfold zbY at hc;obtain⟨j,hj,rfl⟩:=zAS9.1 hc;have:=zCZ9.1 hj;dsimp only;omega
  have w1:IntKind.i64.wrap ((64:Int)*(b:Int))=((64*b:Nat):Int):=by rw[wrap_i64 (by omega) (by omega)];omega
  simp only[zg,zj,zh,zi,zo,zk,if_true,reduceIte];refine zdu (fun tm=>tm 1=iv b/\tm 3=.ptr 0 0 0 0 4/\tm 6=.ptr 1 0 0 0 4/\tm 7=.sl 2 w.length 0 (zbY w).length (2*(zbY w).length) 2) ⟨by simp[upd,h1],by simp[upd,h3],by simp[upd,h6],by simp[upd,h7]⟩ ?_;clear h1 h2 h3 h6 h7 h8;rintro tm ⟨h1,h3,h6,h7⟩;refine zfj 7 2 (w:=.list 0 2 ((zbY w).map zag)) rfl (by
   dsimp only;rw[h7];exact Frz.whole (zxj rfl) rfl (by simp) (by simp) (fun v hv=>by obtain⟨x,_,rfl⟩:=zAS9.1 hv;rfl) zcX) ?_
  simp only[zBL9,zCL9];have hyf:Id0 (wkv (x.does (zbv (64*b) (zbY w)))):=zcD (by rw[(zcz _ x).2.2.1];exact hfr);generalize x.does (zbv (64*b) (zbY w))=y at *
  unfold wkv at hd hyf hid⊢;(repeat refine ze ?_);refine zb ?_;refine zfx ?_ (by simp(disch:=omega)only[go_sem,h1,h3,w1]<;>rfl);refine zcb (by first|rfl|(simp only[go_sem]<;>rfl)) (by simp only[go_sem]<;>rfl) hd rfl ?_ ?_;(repeat(first|exact trivial|refine And.intro ?_ ?_|exact Id0.int _ _|exact Id0.bool _|exact Id0.list _ _ _|exact Id0.elem _|exact Id0.nilsl|exact Id0.str _|exact zce _ _ _))
  ·exact hid
  ·(repeat(first|exact trivial|refine And.intro ?_ ?_|exact Id0.int _ _|exact Id0.bool _|exact Id0.list _ _ _|exact Id0.elem _|exact Id0.nilsl|exact Id0.str _|exact zce _ _ _))
  refine zfx ?_ (by simp(disch:=omega)only[go_sem,h6]<;>rfl);refine zd ?_;refine zF ?_;refine zq (vs:=[wkv y]) ?_ ?_
  ·simp[T122,zI,okv,upd,h6,zao,zaK,za6,PV.cells,wkv]
  ·unfold wkv;exact hyf.frz
theorem zwZ:ET.funcs.get 123=some T123:=z9 (by kernel_rfl) (by decide)
@[reducible] def frV (r:Nat) (fr:List Nat):PV:=.list r 1 (fr.map fun (b:Nat)=>iv (b:Int))
def Wk.up (x:Wk):Wk:=⟨x.p,x.q,x.W,x.L,x.fr,x.used+1⟩
@[reducible] def zdP (n:zE) (b to low:Nat):zE:=⟨n.level + 1,0,0,b,0,[(low,to)]⟩
def Wk.root (x:Wk)(fr:List Nat)(at' b to low:Nat):Wk×Nat×Nat×Nat :=
 if fr.length<=x.used then(x,0,0,221)else
 if 12<=(ofN (zD x.W b)).level then(x.up,0,0,3)else
 ((x.up.does (zbv (64*fr.getD x.used 0) (zbY (zbB (zdP (ofN (zD x.W b)) b to low))))).does (zbv 0 [(at',fr.getD x.used 0)]),to,low,0)
@[reducible] def wk4 (R:Wk × Nat × Nat × Nat):PV:=.tuple [wkv R.1,iv (R.2.1:Nat),uv R.2.2.1,iv (R.2.2.2:Nat)]
theorem zxo {H:List zu}{y:Wk}(h:Id0 y.fr)(a b c:Nat):Frz H 0 (.tuple [wkv y,iv (a:Int),uv b,iv (c:Int)]) (wk4 (y,a,b,c)):=Frz.tupL ⟨(zcD h).frz,.int _ _,.int _ _,.int _ _,trivial⟩
set_option maxHeartbeats 2000000 in
theorem zrt (x:Wk)(rr:Nat)(fr:List Nat)(hfr:x.fr=frV rr fr)(at' b to low:Nat)(hb:64*b+64<=x.W.length)(hW:x.W.length<=131072)(hat:at'<x.W.length)(hto:to<2048)(hfrN:∀f∈fr,64*f+64<=x.W.length)(hL:x.L.length+65<1000000)(hfl:fr.length<1000000) :
  FP ET 123 [wkv x,iv b,iv to,uv low,iv at'] (.ret (wk4 (x.root fr at' b to low))):=by
 refine zfp zwZ ?_;have hid0:Id0 x.fr:=by rw[hfr];exact .list _ _ _
 have hid:Id0 (wkv x):=zcD hid0;have hidu:Id0 (wkv x.up):=zcD hid0;have hatu:=zfG x.up hid0 b hb hW;have hxv:wkv x=.agg [wv x.p x.W,.list x.q 2 (x.L.map zag),frV rr fr,iv x.used]:=by unfold wkv;rw[hfr]
 have huv:wkv x.up=.agg [wv x.p x.W,.list x.q 2 (x.L.map zag),frV rr fr,iv ((x.used+1:Nat):Int)]:=by rw[<- hfr];rfl
 rw[hxv];unfold Wk.root
 by_cases hus:fr.length<=x.used
 ·rw[if_pos hus];have g:(fr.length:Int)<=(x.used:Nat):=by omega
  (repeat(first|refine ze ?_|refine zgo ?_ (by simp(disch:=omega)only[go_sem,g,zAA9]<;>rfl)));refine zfc ?_ ?_;rotate_left
  ·intro h;cases h
  intro _;(repeat(first|refine ze ?_|refine zgo ?_));refine zF ?_;(try simp only[zg,zj,zh,zi,zo,zk,if_true,reduceIte]);refine zq (vs:=[wkv x,iv 0,uv 0,iv 221]) ?_ ?_
  ·rw[hxv];simp[T123,zI,okv,upd,zB,zao,zaK,za6,PV.cells]
  ·exact zxo hid0 0 0 221
 rw[if_neg hus];have g:¬(fr.length:Int)<=(x.used:Nat):=by omega
 have hul:x.used<fr.length:=by omega
 obtain⟨f,hf⟩:∃f,fr[x.used]?=some f:=⟨_,zAB9 hul⟩
 have hfv:(fr.map fun(b:Nat)=>iv (b:Int))[x.used]?=some (iv f):=by rw[zAL9,hf];rfl
 have hfd:fr.getD x.used 0=f:=by rw[zAQ9,hf];rfl
 have hfb:=hfrN f (zAO9 hf);rw[hfd];(repeat(first|refine ze ?_|refine zgo ?_ (by simp(disch:=omega)only[go_sem,g,hul,hfv,zAA9]<;>rfl)));refine zfc ?_ ?_
 ·intro h;cases h
 intro _;refine zQ ?_;show W _ _ _ _ _ _;have w2:(x.used:Int)+1=((x.used+1:Nat):Int):=by omega
 (repeat refine ze ?_);refine zgo ?_ (by simp(disch:=omega)only[go_sem,g,hul,hfv,zAA9]<;>rfl);(repeat refine ze ?_);refine zgo ?_ (by simp(disch:=omega)only[go_sem,w2]<;>rfl);rw[<- huv];have hO:=zeT x.up.p (zD x.up.W b) (by rw[show (zD x.up.W b).length=64 from zcf _ _ hb];decide);obtain⟨no,hno⟩:=zpu (zD x.up.W b);rw[hno]at hO;have hbnd:=zuL (zD x.up.W b);have hxuW:ofN (zD x.W b)=ofN (zD x.up.W b):=rfl;rw[hxuW];generalize ofN (zD x.up.W b)=n at *
 refine zdu (fun tm=>tm 1=iv b/\tm 2=iv to/\tm 3=uv low/\tm 4=iv at'/\tm 5=.ptr 0 0 0 0 4/\tm 10=.ptr 1 0 0 0 4/\tm 11=iv 0/\tm 12=uv 0/\tm 13=iv 0/\tm 14=iv f) ⟨by simp[upd,zB],by simp[upd,zB],by simp[upd,zB],by simp[upd,zB],by simp[upd,zB],by simp[upd,zB],by simp[upd,zB],by simp[upd,zB],by simp[upd,zB],by simp[upd,zB]⟩ ?_;rintro tm ⟨h1,h2,h3,h4,h5,h10,h11,h12,h13,h14⟩;rw[huv]at hidu hatu⊢;(repeat refine ze ?_);refine zrg ?_ (by simp(disch:=omega)only[go_sem,h1,h5]<;>rfl);refine zcb (by first|rfl|(simp only[go_sem]<;>rfl)) (by simp only[go_sem]<;>rfl) hatu rfl ?_ ?_;(repeat(first|exact trivial|refine And.intro ?_ ?_|exact Id0.int _ _|exact Id0.bool _|exact Id0.list _ _ _|exact Id0.elem _|exact Id0.nilsl|exact Id0.str _|exact zce _ _ _))
 ·exact hidu
 ·(repeat(first|exact trivial|refine And.intro ?_ ?_|exact Id0.int _ _|exact Id0.bool _|exact Id0.list _ _ _|exact Id0.elem _|exact Id0.nilsl|exact Id0.str _|exact zce _ _ _))
 refine zfx ?_;refine zca hO ?_;refine zfx ?_;refine zd ?_
 by_cases h12':12<=n.level
 ·rw[if_pos h12'];have g2:(12:Int)<=(n.level:Nat):=by omega
  (repeat(first|refine ze ?_|refine zgo ?_ (by simp(disch:=omega)only[go_sem,g2,zf,zn]<;>rfl)));refine zfc ?_ ?_;rotate_left
  ·intro h;cases h
  intro _;(repeat(first|refine ze ?_|refine zgo ?_ (by simp(disch:=omega)only[go_sem,h5,h10]<;>rfl)));refine zF ?_;(try simp only[zg,zj,zh,zi,zo,zk,if_true,reduceIte]);refine zq (vs:=[wkv x.up,iv 0,uv 0,iv 3]) ?_ ?_
  ·rw[huv];simp[T123,zI,okv,upd,h10,h11,h12,h13,zao,zaK,za6,PV.cells]
  ·exact zxo (y:=x.up) hid0 0 0 3
 rw[if_neg h12'];have g2:¬(12:Int)<=(n.level:Nat):=by omega
 (repeat(first|refine ze ?_|refine zgo ?_ (by simp(disch:=omega)only[go_sem,g2,zf,zn]<;>rfl)));refine zfc ?_ ?_
 ·intro h;cases h
 intro _;refine zQ ?_;show W _ _ _ _ _ _;have w3:(n.level:Int)+1=((n.level+1:Nat):Int):=by omega
 have w4:IntKind.u64.wrap (b:Int)=(b:Int):=zL (by omega) (by omega);have w5:IntKind.u64.wrap (to:Int)=(to:Int):=zL (by omega) (by omega);have hWd:=ziA 1 (zdP n b to low) (by dsimp only;omega) (by dsimp only;omega) (zAU9 _) (by simp);have hbk:=zkI x.up hid0 f 0 (zbB (zdP n b to low)) (by rw[zdw];show x.L.length+64<1000000;omega) (by show x.W.length<1000000;omega) (by rw[zdw];exact hfb);rw[huv]at hbk;have hyf:Id0 (wkv (x.up.does (zbv (64*f) (zbY (zbB (zdP n b to low)))))):=zcD (by rw[(zcz _ x.up).2.2.1];exact hid0);have hyL:=zcz (zbv (64*f) (zbY (zbB (zdP n b to low)))) x.up;have hDl:(zbv (64*f) (zbY (zbB (zdP n b to low)))).length=64:=by unfold zbv;rw[zAA9,zd6,zdw]
 generalize zbB (zdP n b to low)=LW at *
 generalize zbv (64*f) (zbY LW)=D at *
 generalize hYY:x.up.does D=y at *
 (repeat refine ze ?_);refine zap ?_;refine zdi hWd ?_ ?_ (by simp(disch:=omega)only[go_sem,h1,h2,h3,h5,h14,w3,w4,w5]<;>rfl);(repeat(first|exact trivial|refine And.intro ?_ ?_|exact .int _ _|exact .bool _|exact .list _ _ _|exact .elem _|exact .nilsl|exact .nil _ _|exact .str _|refine Frz.aggL ?_|refine Frz.fnL ?_|refine Frz.tupL ?_|refine .iface ?_|exact zy rfl rfl (by assumption)));(exact Frz.whole (l:=[pv (low,to)]) rfl rfl rfl (zAK9 _) (fun v hv=>by obtain rfl:=zBH9.1 hv;rfl) (zd2 (l:=[(low,to)]));exact trivial;exact trivial);refine zdf hbk ⟨hidu,.int _ _,.list _ _ _,trivial⟩ ?_ (by simp(disch:=omega)only[go_sem,h1,h5,h14]<;>rfl);refine zda ?_ (by simp(disch:=omega)only[go_sem,h5]<;>rfl);refine zdl ?_ (by simp(disch:=omega)only[go_sem,h5]<;>rfl);refine zR ?_;simp only[zo,zW,zg,go_sem];have hy0:Id0 y.fr:=by rw[hyL.2.2.1];exact hid0
 have hyW:y.W.length=x.W.length:=hyL.1;have hdo:=ze4 y hy0 0 0 [(at',f)] (by rw[hyL.2.1,hDl];show x.L.length+64+1<1000000;omega) (by omega) fun c hc=>by
  obtain rfl:=zBH9.1 hc;dsimp only;omega
 have hzf:Id0 (y.does (zbv 0 [(at',f)])).fr:=by rw[(zcz _ y).2.2.1];exact hy0
 have w6:IntKind.u64.wrap (f:Int)=(f:Int):=zL (by omega) (by omega);generalize y.does (zbv 0 [(at',f)])=z at *
 unfold wkv at hdo hyf⊢;refine zdu (fun tm=>tm 2=iv to/\tm 3=uv low/\tm 4=iv at'/\tm 5=.ptr 0 0 0 0 4/\tm 10=.ptr 1 0 0 0 4/\tm 14=iv f) ⟨by simp[upd,h2],by simp[upd,h3],by simp[upd,h4],by simp[upd,h5],by simp[upd,h10],by simp[upd,h14]⟩ ?_;clear h1 h2 h3 h4 h5 h10 h11 h12 h13 h14;rintro tm ⟨h2,h3,h4,h5,h10,h14⟩;(repeat refine ze ?_);refine zb ?_;refine zfx ?_ (by simp(disch:=omega)only[go_sem,h4,h5,h14,w6]<;>rfl);refine zpY 65 4 (w:=.list 0 2 ([(at',f)].map zag)) rfl (Frz.whole (l:=[zag (at',f)]) (zxj rfl) rfl rfl (zAK9 _) (fun v hv=>by obtain rfl:=zBH9.1 hv;rfl) (zcX (l:=[(at',f)]))) ?_;simp only[zBL9,zCL9];refine zcb (by first|rfl|(simp only[go_sem]<;>rfl)) (by simp only[go_sem]<;>rfl) hdo rfl ?_ ?_;(repeat(first|exact trivial|refine And.intro ?_ ?_|exact Id0.int _ _|exact Id0.bool _|exact Id0.list _ _ _|exact Id0.elem _|exact Id0.nilsl|exact Id0.str _|exact zce _ _ _))
 ·exact hyf
 ·(repeat(first|exact trivial|refine And.intro ?_ ?_|exact Id0.int _ _|exact Id0.bool _|exact Id0.list _ _ _|exact Id0.elem _|exact Id0.nilsl|exact Id0.str _|exact zce _ _ _))
 refine zfx ?_ (by simp(disch:=omega)only[go_sem,h2,h3,h10]<;>rfl);refine zd ?_;refine zF ?_;(try simp only[zg,zj,zh,zi,zo,zk,if_true,reduceIte]);refine zq (vs:=[wkv z,iv to,uv low,iv 0]) ?_ ?_
 ·unfold wkv;simp[T123,zI,okv,upd,h10,zao,zaK,za6,PV.cells]
 ·exact zxo hzf to low 0
end Fv
end Go.Proofs.YtfomlmhnmheenaaGreat
namespace Go.Proofs.YtfomlmhnmheenaaGreat
namespace Fv
open Tw
theorem zr6 (l:List Pr)(i:Nat):∀m,(upL l i m).length<=2*m/\∀y∈upL l i m,y.1<=2*m+1
 | 0=>⟨zAK9 _,fun y hy=>by simp[upL]at hy⟩
 | m+1=>by
  have ih:=zr6 l i m;rw[upL]
  split
  ·refine⟨by simp;omega,fun y hy=>?_⟩;rcases zAY9.1 hy with rfl|hy
   ·simp;omega
   rcases zAY9.1 hy with rfl|hy
   ·simp;omega
   ·have:=ih.2 y hy;omega
  ·exact⟨by simp,fun y hy=>by simp at hy⟩
theorem zvv {left:Nat}{w:List Nat}{x:Pr}(hw:w.length=56)(h:(zdt left w x).2=0):(zdt left w x).1.length<=70/\∀y∈(zdt left w x).1,y.1<56:=by
 unfold zdt at h⊢
 by_cases hp:zcc left w x=0
 rotate_left
 ·rw[if_neg hp]at h;exact absurd h hp
 rw[if_pos hp]at h⊢
 by_cases hs:sIs (zaB left w) x.1=true
 ·rw[if_pos hs]at h;cases h
 rw[if_neg hs]at h⊢
 split at h
 ·cases h
 rename_i hlong;rw[if_neg hlong];have hf:=zkW (zaB left w) x.1;generalize zaB left w=L at *
 generalize zct L x.1=i at *
 have hu:=zr6 L i L.length;unfold zmf;refine⟨by simp;omega,fun y hy=>?_⟩;rcases zAY9.1 hy with rfl|hy
 ·simp;omega
 rcases zBK9.1 hy with hy|hy
 ·have:=hu.2 y hy;omega
 ·simp at hy;rcases hy with rfl|rfl|rfl<;>simp<;>omega
theorem ztN {left:Nat}{w:List Nat}{key:Nat}(hw:w.length=56)(h:(zdj left w key).2=0):(zdj left w key).1.length<=70/\∀y∈(zdj left w key).1,y.1<56:=by
 unfold zdj at h⊢
 by_cases hc:zbW left w=0
 rotate_left
 ·rw[if_neg hc]at h;exact absurd h hc
 rw[if_pos hc]at h⊢;have hr:=zhm hc;have hl:=zkS left w
 by_cases hs:sIs (zaB left w) key=true
 rotate_left
 ·rw[if_neg hs]at h;cases h
 rw[if_pos hs];have hf:=zpf hs;generalize zaB left w=L at *
 generalize zct L key=i at *
 refine⟨by simp[zdU,zj4];omega,fun y hy=>?_⟩;rcases zAY9.1 hy with rfl|hy
 ·simp;omega
 unfold zdU at hy;rcases zBK9.1 hy with hy|hy
 ·unfold dnL at hy;obtain⟨q,hq,hy⟩:=zBI9.1 hy;have hq:=zCZ9.1 hq;simp at hy;rcases hy with rfl|rfl<;>simp<;>omega
 ·simp at hy;subst hy;simp;omega
theorem zs0 {w:List Nat}{v no:Nat}{r:List Pr×Nat}(h:r.2=0->r.1.length<=70/\∀y∈r.1,y.1<56):(chg w v no r).1.length<=71/\∀c∈(chg w v no r).1,c.1<64:=by
 unfold chg
 split
 ·split
  ·rename_i h2;obtain⟨k1,k2⟩:=h h2;have hw1:(zeh w v).length<=1:=by unfold zeh;split<;>simp
   refine⟨by simp[zcy];omega,fun c hc=>?_⟩;rcases zBK9.1 hc with hc|hc
   ·unfold zeh at hc
    split at hc
    ·simp at hc
    ·simp at hc;subst hc;simp
   ·unfold zcy at hc;obtain⟨y,hy,rfl⟩:=zAS9.1 hc;have:=k2 y hy;dsimp only;omega
  ·exact⟨by simp,fun c hc=>by simp at hc⟩
 ·exact⟨by simp,fun c hc=>by simp at hc⟩
theorem zin {w:List Nat}{x:Pr}(hw:w.length=64):(zb6 w x).1.length<=71/\∀c∈(zb6 w x).1,c.1<64:=zs0 fun h=>zvv (by simp[hw]) h
theorem zkU {w:List Nat}{key:Nat}(hw:w.length=64):(zdS w key).1.length<=71/\∀c∈(zdS w key).1,c.1<64:=zs0 fun h=>ztN (by simp[hw]) h
theorem zqv (m:Nat):∀k,(zgi m k).length<=k/\∀c∈zgi m k,c.1<8+2*k
 | 0=>⟨zAK9 _,fun c hc=>by simp[zgi]at hc⟩
 | k+1=>by
  have ih:=zqv m k;rw[zgi]
  split
  ·refine⟨by simp;omega,fun c hc=>?_⟩;rcases zAY9.1 hc with rfl|hc
   ·dsimp only;omega
   ·have:=ih.2 c hc;omega
  ·exact⟨by simp,fun c hc=>by simp at hc⟩
theorem zqI {n:zE}(a:Nat)(h:n.pairs.length<=28):(zeQ n a).length<=29/\∀c∈zeQ n a,c.1<64:=by
 have:=zqv (n.pairs.length/2) n.pairs.length;unfold zeQ;refine⟨by simp;omega,fun c hc=>?_⟩;rcases zAY9.1 hc with rfl|hc
 ·simp
 ·have:=this.2 c hc;omega
theorem zt9 {w:List Nat}(hw:w.length=64):(zbY w).length=64/\∀c∈zbY w,c.1<64:=by
 refine⟨by rw[zd6];exact hw,fun c hc=>?_⟩;unfold zbY at hc;obtain⟨j,hj,rfl⟩:=zAS9.1 hc;have:=zCZ9.1 hj;dsimp only;omega
theorem ziF:∀(l:List Pr) (x:Wk),(x.does l).W=zby x.W l
 | [],_=>rfl
 | c::l,x=>ziF l (x.one c)
theorem zkw (c:Nat):∀(l:List Pr) (w:List Nat),(∀s∈l,s.1<64*c\/64*c+64<=s.1)->zD (zby w l) c=zD w c
 | [],_,_=>rfl
 | s::l,w,h=>by
  have h1:=h s (zAV9 ..);have ih:=zkw c l (w.set s.1 s.2) fun t ht=>h t (zAW9 _ ht);have e:zby w (s::l)=zby (w.set s.1 s.2) l:=rfl;rw[e,ih];unfold zD
  apply zFF9
  intro j;rw[zBT9,zBT9,zBF9,zBF9]
  split
  ·rw[zAX9 (by omega)]
  ·rfl
theorem zj0 {b c:Nat}(hbc:b≠c)(l:List Pr)(w:List Nat)(h:∀s∈l,s.1<64):zD (zby w (zbv (64*b) l)) c=zD w c :=
 zkw c _ w fun s hs=>by
  unfold zbv at hs;obtain⟨y,hy,rfl⟩:=zAS9.1 hs;have:=h y hy;dsimp only;rcases Nat.lt_or_gt_of_ne hbc with h1|h1
  ·left;omega
  ·right;omega
theorem zfE (a:Nat)(l:List Pr):(zbv a l).length=l.length:=by unfold zbv;simp
structure zi9 (fr:List Nat)(rr:Nat)(x:Wk)(way:List Nat):Prop where
 hfr:x.fr=frV rr fr
 hN:x.W.length<=131072
 inn:∀c∈way,64*c+64<=x.W.length
 nd:way.Nodup
 chk:∀c∈way,zbJ (zD x.W c)=0
 ful:∀b,way.head?=some b->27<=(zai (zD x.W b)).pairs.length
 frN:∀f∈fr,1<=f/\64*f+64<=x.W.length
 out:∀f∈fr,f ∉ way
 few:way.length<=20
 hL:x.L.length+300*way.length<900000
 hu:x.used<=fr.length
 fl:fr.length<100000
def Wk.cut (x:Wk)(b to:Nat):Wk:=(x.up.does (zbv (64*to) (zbY (zbB (zci (zai (zD x.W b))))))).does (zbv (64*b) (zeQ (zai (zD x.W b)) to))
def Wk.fin (y:Wk)(ab to low:Nat):Wk×Nat×Nat×Nat:=(y.does (zbv (64*ab) (zb6 (zD y.W ab) (low,to)).1),to,low,0)
def Wk.split (fr:List Nat)(at':Nat):List Nat->Wk->Wk×Nat×Nat×Nat
 | [],x=>(x,0,0,0)
 | [b],x=>if fr.length<=x.used then(x,0,0,221)else(x.cut b (fr.getD x.used 0)).root fr at' b (fr.getD x.used 0) ((zbB (zci (zai (zD x.W b)))).getD 2 0)
 | b::above::up,x=>if fr.length<=x.used then(x,0,0,221)else
  if 27<=(ofN (zD (x.cut b (fr.getD x.used 0)).W above)).pairs.length then
   (if(Wk.split fr at' (above::up) (x.cut b (fr.getD x.used 0))).2.2.2=0 then
    (Wk.split fr at' (above::up) (x.cut b (fr.getD x.used 0))).1.fin (if(Wk.split fr at' (above::up) (x.cut b (fr.getD x.used 0))).2.2.1<=(zbB (zci (zai (zD x.W b)))).getD 2 0 then(Wk.split fr at' (above::up) (x.cut b (fr.getD x.used 0))).2.1 else above) (fr.getD x.used 0) ((zbB (zci (zai (zD x.W b)))).getD 2 0)
   else(x.cut b (fr.getD x.used 0),0,0,(Wk.split fr at' (above::up) (x.cut b (fr.getD x.used 0))).2.2.2))
  else(x.cut b (fr.getD x.used 0)).fin above (fr.getD x.used 0) ((zbB (zci (zai (zD x.W b)))).getD 2 0)
theorem zsM {w:List Nat}(h:zbJ w=0):ofN w=zai w:=by unfold ofN;rw[if_pos (zdk h)]
end Fv
end Go.Proofs.YtfomlmhnmheenaaGreat
namespace Go.Proofs.YtfomlmhnmheenaaGreat
namespace Fv
open Tw
set_option maxRecDepth 100000
structure zvC (fr:List Nat)(x y:Wk)(b to:Nat):Prop where
 W:y.W.length=x.W.length
 fr':y.fr=x.fr
 used:y.used=x.used+1
 L:y.L.length<=x.L.length+93
 blk:∀c,c≠b->c≠to->zD y.W c=zD x.W c
theorem zga (fr:List Nat)(x:Wk)(b to:Nat)(hp:(zai (zD x.W b)).pairs.length<=28):zvC fr x (x.cut b to) b to:=by
 have e1:=zt9 (zdw (zci (zai (zD x.W b))));have e2:=zqI (n:=zai (zD x.W b)) to hp;unfold Wk.cut;generalize zbY (zbB (zci (zai (zD x.W b))))=A at *
 generalize zeQ (zai (zD x.W b)) to=B at *
 have d1:=zcz (zbv (64*to) A) x.up;have d2:=zcz (zbv (64*b) B) (x.up.does (zbv (64*to) A));rw[zfE]at d1 d2;refine⟨d2.1.trans d1.1,d2.2.2.1.trans d1.2.2.1,d2.2.2.2.trans d1.2.2.2,?_,fun c h1 h2=>?_⟩
 ·rw[d2.2.1,d1.2.1];show x.L.length+A.length+B.length<=_;omega
 ·rw[ziF,ziF,zj0 (Ne.symm h1) _ _ e2.2,zj0 (Ne.symm h2) _ _ e1.2];rfl
theorem zi9.to {fr:List Nat}{rr:Nat}{x:Wk}{way:List Nat}(h:zi9 fr rr x way)(hu:x.used<fr.length):fr.getD x.used 0∈fr:=by
 rw[zAQ9,zAB9 hu];exact zBU9 hu
theorem zi9.cut {fr:List Nat}{rr:Nat}{x:Wk}{b above:Nat}{up:List Nat}(h:zi9 fr rr x (b::above::up))(hu:x.used<fr.length)(hf:27<=(ofN (zD (x.cut b (fr.getD x.used 0)).W above)).pairs.length):zi9 fr rr (x.cut b (fr.getD x.used 0)) (above::up):=by
 have c:=zga fr x b (fr.getD x.used 0) (zxf _);have hto:=h.to hu;generalize x.cut b (fr.getD x.used 0)=y at *
 have hnd:=zDW9.1 h.nd;have hblk:∀k∈above::up,zD y.W k=zD x.W k:=fun k hk=>c.blk k (fun e=>hnd.1 (e ▸ hk)) fun e=>h.out _ hto (e ▸ zAW9 _ hk);have hchk:∀k∈above::up,zbJ (zD y.W k)=0:=fun k hk=>by rw[hblk k hk];exact h.chk k (zAW9 _ hk)
 refine⟨c.fr'.trans h.hfr,by rw[c.W];exact h.hN,fun k hk=>by rw[c.W];exact h.inn k (zAW9 _ hk),hnd.2,hchk,fun k hk=>?_,fun f hf=>by rw[c.W];exact h.frN f hf,fun f hf hk=>h.out f hf (zAW9 _ hk),?_,?_,?_,h.fl⟩
 ·simp at hk;subst hk;rw[<- zsM (hchk _ (zAV9 ..))];exact hf
 ·have:=h.few;simp at this⊢;omega
 ·have h1:=h.hL;have h2:=c.L;simp only[zAE9]at h1⊢;omega
 ·rw[c.used];omega
structure ztg (fr:List Nat)(x:Wk)(k:Nat)(R:Wk×Nat×Nat×Nat):Prop where
 W:R.1.W.length=x.W.length
 fr':R.1.fr=x.fr
 L:R.1.L.length<=x.L.length+300*k
 used:R.1.used<=fr.length
 inn:R.2.2.2=0->64*R.2.1+64<=x.W.length
theorem zpe {fr:List Nat}{x:Wk}(at' b to low:Nat)(hu:x.used<=fr.length)(hto:64*to+64<=x.W.length):(x.root fr at' b to low).1.W.length=x.W.length/\(x.root fr at' b to low).1.fr=x.fr/\(x.root fr at' b to low).1.L.length<=x.L.length+65/\(x.root fr at' b to low).1.used<=fr.length/\((x.root fr at' b to low).2.2.2=0->64*(x.root fr at' b to low).2.1+64<=x.W.length):=by
 unfold Wk.root
 split
 ·exact⟨rfl,rfl,zDT9 _ _,hu,fun h=>by cases h⟩
 rename_i h1
 split
 ·exact⟨rfl,rfl,by show x.L.length<=_;omega,by show x.used+1<=_;omega,fun h=>by cases h⟩
 have d1:=zcz (zbv (64*fr.getD x.used 0) (zbY (zbB (zdP (ofN (zD x.W b)) b to low)))) x.up;have d2:=zcz (zbv 0 [(at',fr.getD x.used 0)]) (x.up.does (zbv (64*fr.getD x.used 0) (zbY (zbB (zdP (ofN (zD x.W b)) b to low)))));rw[zfE]at d1 d2;rw[zd6,zdw]at d1;refine⟨d2.1.trans d1.1,d2.2.2.1.trans d1.2.2.1,?_,?_,fun _=>hto⟩
 ·rw[d2.2.1,d1.2.1];show x.L.length+64+1<=_;omega
 ·rw[d2.2.2.2,d1.2.2.2];show x.used+1<=_;omega
theorem zql {y:Wk}(ab to low:Nat)(hab:64*ab+64<=y.W.length):(y.fin ab to low).1.W.length=y.W.length/\(y.fin ab to low).1.fr=y.fr/\(y.fin ab to low).1.L.length<=y.L.length+71/\(y.fin ab to low).1.used=y.used:=by
 have n:=zin (x:=(low,to)) (zcf y.W ab hab);unfold Wk.fin;have d:=zcz (zbv (64*ab) (zb6 (zD y.W ab) (low,to)).1) y;rw[zfE]at d;exact⟨d.1,d.2.2.1,by rw[d.2.1];omega,d.2.2.2⟩
theorem zjD {fr:List Nat}{rr at':Nat}:∀(up:List Nat) (b:Nat) (x:Wk),zi9 fr rr x (b::up)->ztg fr x (up.length+1) (Wk.split fr at' (b::up) x)
 | [],b,x,h=>by
  unfold Wk.split
  split
  ·exact⟨rfl,rfl,zDT9 _ _,h.hu,fun h=>by cases h⟩
  rename_i hu;have hu:x.used<fr.length:=by omega
  have c:=zga fr x b (fr.getD x.used 0) (zxf _);have hto:=(h.frN _ (h.to hu)).2;generalize x.cut b (fr.getD x.used 0)=y at *
  have r:=zpe (fr:=fr) (x:=y) at' b (fr.getD x.used 0) ((zbB (zci (zai (zD x.W b)))).getD 2 0) (by rw[c.used];omega) (by rw[c.W];exact hto);exact⟨r.1.trans c.W,r.2.1.trans c.fr',by have:=r.2.2.1;have:=c.L;(try simp only[zAE9,zAG9]at *);omega,r.2.2.2.1,fun h=>by rw[<- c.W];exact r.2.2.2.2 h⟩
 | above::up,b,x,h=>by
  unfold Wk.split
  split
  ·exact⟨rfl,rfl,zDT9 _ _,h.hu,fun h=>by cases h⟩
  rename_i hu;have hu:x.used<fr.length:=by omega
  have c:=zga fr x b (fr.getD x.used 0) (zxf _);have hto:=(h.frN _ (h.to hu)).2;have hin:=h.inn above (by simp)
  split
  ·rename_i hf;have ih:=zjD (at':=at') up above _ (h.cut hu hf);generalize x.cut b (fr.getD x.used 0)=y at *
   generalize Wk.split fr at' (above::up) y=R at *
   have hL:=ih.L;have hcL:=c.L
   split
   ·rename_i h0;generalize hab:(if R.2.2.1<=(zbB (zci (zai (zD x.W b)))).getD 2 0 then R.2.1 else above)=ab;have hab2:64*ab+64<=R.1.W.length:=by
     rw[ih.W];subst hab
     split
     ·exact ih.inn h0
     ·rw[c.W];exact hin
    have f:=zql (y:=R.1) ab (fr.getD x.used 0) ((zbB (zci (zai (zD x.W b)))).getD 2 0) hab2;exact⟨f.1.trans (ih.W.trans c.W),f.2.1.trans (ih.fr'.trans c.fr'),by have:=f.2.2.1;(try simp only[zAE9,zAG9]at *);omega,by rw[f.2.2.2];exact ih.used,fun _=>hto⟩
   ·rename_i h0;exact⟨c.W,c.fr',by(try simp only[zAE9,zAG9]at *);omega,by rw[c.used];omega,fun h=>absurd h h0⟩
  ·generalize x.cut b (fr.getD x.used 0)=y at *
   have f:=zql (y:=y) above (fr.getD x.used 0) ((zbB (zci (zai (zD x.W b)))).getD 2 0) (by rw[c.W];exact hin);have hcL:=c.L;exact⟨f.1.trans c.W,f.2.1.trans c.fr',by have:=f.2.2.1;(try simp only[zAE9,zAG9]at *);omega,by rw[f.2.2.2,c.used];omega,fun _=>hto⟩
theorem ztK {n:zE}{f:Nat}(h1:1<=f)(h2:f<=2047)(h3:2<=n.pairs.length):ziy n f=.ret (.tuple [wv 0 (zbB (zci n)),.list 0 2 ((zeQ n f).map zag),iv 0]):=by
 unfold ziy;rw[if_pos (by unfold zi3;simp;omega),zDD9]
theorem zrW {w:List Nat}{n:zE}(hn:zai w=n){f:Nat}(hc:zbJ w=0)(h1:1<=f)(h2:f<=2047)(h3:2<=n.pairs.length):zoc w f=.ret (.tuple [wv 0 (zbB (zci n)),.list 0 2 ((zeQ n f).map zag),iv 0]):=by
 unfold zoc;rw[if_pos hc,hn];exact ztK h1 h2 h3
attribute [local go_sem] zbb zaH zaf zas evs ev okv zbs zX.cls zba zbh zbm zV zU upd zB za2 zaW zaY zaF zaT za3 za4 zaZ zaS zaU zat zaX za5 zaR za1 zaV za0 zao zaK za6 zan zal zbr PV.cells ofC zbg zZ zau okF zah spl zaI zaL bnd zam zaq zar za8 zbl zY zaA zaN zaj zbj zbn zab lenP zf zn zak zbi PV.toT zaG zJ Nat.mul_mod_right Int.reduceOfNat Int.reduceToNat Int.cast_ofNat_Int Int.reduceLE Int.reduceLT Int.reduceAdd Int.reduceSub Int.reduceMul Int.reduceNegSucc Nat.reduceEqDiff if_true if_false ite_true ite_false decide_true decide_false Bool.not_true Bool.not_false and_true true_and and_self false_and and_false or_false false_or or_true true_or or_self List.length_cons List.length_nil List.length_map List.getElem?_cons_zero List.getElem?_cons_succ List.getElem?_map List.getElem?_nil Option.map_some Option.map_none Option.getD_some List.append_nil List.nil_append List.cons_append List.take_succ_cons List.take_zero List.drop_zero List.drop_succ_cons List.set_cons_zero List.set_cons_succ Int.toNat_natCast Int.natCast_nonneg Nat.le_refl Nat.zero_le Nat.reduceAdd Nat.reduceSub Nat.reduceMul Nat.reduceLeDiff Nat.reduceLT Bool.false_eq_true Bool.true_eq_false Nat.add_zero Nat.zero_add List.all_cons List.all_nil Bool.and_true Bool.and_self Bool.true_and Nat.reduceMod Nat.reduceDiv eq_self zaC zaM zac zbf evN za9 dpF zaO zbq zaE zbe zbp zaP List.filter_cons List.filter_nil List.contains_cons List.contains_nil Nat.reduceBEq zT zS zO Option.some.injEq Option.isSome_some wrap_i64 zL zaD Bool.or_self Bool.or_false Bool.false_or daF dnF yD yO yW yM yN yL yP yK yF yE yB yQ yV T6 T8 T12 T16 T18 T19 T22 T27 T28 T29 T33 T40 T42 T43 T45 T46 T47 T48 T49 T50 T51 T52 T53 T54 T57 T58 T61 T62 T65 T71 T72 T73 T74 T80 T81 T90 T91 T92 T93 T94 T95 T96 T97 T98 T99 T103 T104 T107 T119 T120 T121 T122 T123 T124 T135 T137 T138 T139 T140 T141 T142 T143 T144 T156 T157 T158 T161 T162 T163 T164 T170 T173 T181 T184 T185 T188 T195 T198 T199 T200 T201 T202 T203 T204 T205 T206 T207 T208 T209 T210 T211 T212 T213 T214 T215 T223
attribute [local go_sem ↓] reduceIte
theorem f81:ET.funcs.get 81=some T81:=z9 (by kernel_rfl) (by decide)
@[reducible] def zdQ (ws:List Nat):List PV:=ws.map fun (b:Nat)=>iv (b:Int)
theorem zjd {fr:List Nat}{at' b:Nat}{up:List Nat}{x:Wk}(h:fr.length<=x.used):Wk.split fr at' (b::up) x=(x,0,0,221):=by
 cases up<;>(unfold Wk.split;rw[if_pos h])
structure UpF (fr:List Nat)(rr at':Nat)(N:Nat)(z:Wk)(R:Wk×Nat×Nat×Nat)(f low:Nat)(above:Nat)(up':List Nat)(fb:Bool):Prop where
 inn:64*above+64<=N
 full:FN ET 124 [wkv z,iv above] (.ret (.bool fb))
 no:fb=false->R=z.fin above f low
 yes:fb=true->∃S,R=(if S.2.2.2=0 then S.1.fin (if S.2.2.1<=low then S.2.1 else above) f low else(z,0,0,S.2.2.2))/\ztg fr z (up'.length+1) S/\∀r,FP ET 81 [wkv z,.list r 1 (zdQ (up'.reverse++[above])),iv at'] (.ret (wk4 S))
set_option maxHeartbeats 4000000 in
theorem zpo (fr:List Nat)(rr at' r:Nat)(up:List Nat)(b f:Nat)(x y z:Wk)(R:Wk×Nat×Nat×Nat)(p:Nat)(blk LW:List Nat)(D:List Pr)(hfr:x.fr=frV rr fr)(hN:x.W.length<=131072)(hat:at'<x.W.length)(hfew:up.length+1<=20)(hLb:x.L.length+300*(up.length+1)<900000)(hfl:fr.length<100000)(hul:x.used<fr.length)(hf:fr[x.used]?=some f)(hfb:64*f+64<=x.W.length)(hbin:64*b+64<=x.W.length)
  (hat48:FP ET 48 [wkv x.up,iv b] (.ret (wv p blk))) (hSp:FN ET 121 [wv p blk,iv f] (.ret (.tuple [wv 0 LW,.list 0 2 (D.map zag),iv 0]))) (hLW:LW.length=64) (hbk:FP ET 122 [wkv x.up,iv f,wv 0 LW] (.ret (wkv y))) (hyf:y.fr=frV rr fr) (hdo:FP ET 49 [wkv y,iv (64*b:Nat),.list 0 2 (D.map zag)] (.ret (wkv z))) (hzf:z.fr=frV rr fr) (c1:z.W.length=x.W.length) (c4:z.L.length<=x.L.length+93) (c3:z.used<=fr.length) (hfrN:∀g∈fr,64*g+64<=x.W.length)
  (hRn:up=[]->R=z.root fr at' b f (LW.getD 2 0)) (hRc:∀above up',up=above::up'->∃fb,UpF fr rr at' x.W.length z R f (LW.getD 2 0) above up' fb) :
  FP ET 81 [wkv x,.list r 1 (zdQ (up.reverse++[b])),iv at'] (.ret (wk4 R)):=by
 refine zfp f81 ?_;have hid0:Id0 x.fr:=by rw[hfr];exact .list _ _ _
 have hidu:Id0 (wkv x.up):=zcD hid0;have hxv:wkv x=.agg [wv x.p x.W,.list x.q 2 (x.L.map zag),frV rr fr,iv x.used]:=by unfold wkv;rw[hfr]
 have huv:wkv x.up=.agg [wv x.p x.W,.list x.q 2 (x.L.map zag),frV rr fr,iv ((x.used+1:Nat):Int)]:=by rw[<- hfr];rfl
 rw[hxv];obtain⟨WL,hWL⟩:∃WL,WL=zdQ (up.reverse++[b]):=⟨_,rfl⟩
 have hw1:WL.length=up.length+1:=by rw[hWL];simp
 have hw2:WL[up.length]?=some (iv b):=by rw[hWL,zAL9,zAN9 (by simp)];simp
 have hw3:WL.take up.length=zdQ up.reverse:=by rw[hWL];simp[List.take_append]
 have hw4:((up.length+1:Nat):Int)-1=(up.length:Nat):=by omega
 have hw5:up.length<up.length+1:=zBR9 _;rw[<- hWL];clear hWL;have g:¬(fr.length:Int)<=(x.used:Nat):=by omega
 have hfv:(fr.map fun(b:Nat)=>iv (b:Int))[x.used]?=some (iv f):=by rw[zAL9,hf];rfl
 (repeat(first|refine ze ?_|refine zgo ?_ (by simp(disch:=omega)only[go_sem,g,hw1,hw2,hw4,hw5,zAA9]<;>rfl)));refine zfc ?_ ?_
 ·intro h;cases h
 intro _;refine zQ ?_;show W _ _ _ _ _ _;have w2:(x.used:Int)+1=((x.used+1:Nat):Int):=by omega
 (repeat refine ze ?_);refine zgo ?_ (by simp(disch:=omega)only[go_sem,g,hul,hfv,zAA9]<;>rfl);(repeat refine ze ?_);refine zgo ?_ (by simp(disch:=omega)only[go_sem,w2]<;>rfl);have hy0:Id0 y.fr:=by rw[hyf];exact .list _ _ _
 have hidy:Id0 (wkv y):=zcD hy0;have hidz0:Id0 z.fr:=by rw[hzf];exact .list _ _ _
 have hidz:Id0 (wkv z):=zcD hidz0;rw[<- huv];have w1:IntKind.i64.wrap ((64:Int)*(b:Int))=((64*b:Nat):Int):=by rw[wrap_i64 (by omega) (by omega)];omega
 refine zdu (fun tm=>tm 1=.list r 1 WL/\tm 2=iv at'/\tm 3=.ptr 0 0 0 0 4/\tm 6=.ptr 1 0 0 0 4/\tm 10=iv b/\tm 11=iv f) ⟨by simp[upd,zB],by simp[upd,zB],by simp[upd,zB],by simp[upd,zB],by simp[upd,zB],by simp[upd,zB]⟩ ?_;rintro tm ⟨h1,h2,h3,h6,h10,h11⟩;rw[huv]at hidu hat48 hbk⊢;(repeat refine ze ?_);refine zrg ?_ (by simp(disch:=omega)only[go_sem,h3,h10,h11]<;>rfl);refine zcb (by first|rfl|(simp only[go_sem]<;>rfl)) (by simp only[go_sem]<;>rfl) hat48 rfl ?_ ?_;(repeat(first|exact trivial|refine And.intro ?_ ?_|exact Id0.int _ _|exact Id0.bool _|exact Id0.list _ _ _|exact Id0.elem _|exact Id0.nilsl|exact Id0.str _|exact zce _ _ _))
 ·exact hidu
 ·(repeat(first|exact trivial|refine And.intro ?_ ?_|exact Id0.int _ _|exact Id0.bool _|exact Id0.list _ _ _|exact Id0.elem _|exact Id0.nilsl|exact Id0.str _|exact zce _ _ _))
 refine zfx ?_ (by simp(disch:=omega)only[go_sem,h11]<;>rfl);refine zca hSp ?_;refine zfx ?_;refine zd ?_;unfold wkv at hbk hdo hidy;rw[hzf]at hdo
 have hzv:wkv z=.agg [wv z.p z.W,.list z.q 2 (z.L.map zag),frV rr fr,iv z.used]:=by unfold wkv;rw[hzf]
 (repeat refine ze ?_);refine zrg ?_ (by simp(disch:=omega)only[go_sem,h3,h10,h11,w1]<;>rfl);refine zcb (by first|rfl|(simp only[go_sem]<;>rfl)) (by simp only[go_sem]<;>rfl) hbk rfl ?_ ?_;(repeat(first|exact trivial|refine And.intro ?_ ?_|exact Id0.int _ _|exact Id0.bool _|exact Id0.list _ _ _|exact Id0.elem _|exact Id0.nilsl|exact Id0.str _|exact zce _ _ _))
 ·exact hidu
 ·(repeat(first|exact trivial|refine And.intro ?_ ?_|exact Id0.int _ _|exact Id0.bool _|exact Id0.list _ _ _|exact Id0.elem _|exact Id0.nilsl|exact Id0.str _|exact zce _ _ _))
 refine zfx ?_ (by simp(disch:=omega)only[go_sem,h10,w1]<;>rfl);refine zcb (by first|rfl|(simp only[go_sem]<;>rfl)) (by simp only[go_sem]<;>rfl) hdo rfl ?_ ?_;(repeat(first|exact trivial|refine And.intro ?_ ?_|exact Id0.int _ _|exact Id0.bool _|exact Id0.list _ _ _|exact Id0.elem _|exact Id0.nilsl|exact Id0.str _|exact zce _ _ _))
 ·exact hidy
 ·(repeat(first|exact trivial|refine And.intro ?_ ?_|exact Id0.int _ _|exact Id0.bool _|exact Id0.list _ _ _|exact Id0.elem _|exact Id0.nilsl|exact Id0.str _|exact zce _ _ _))
 refine zfx ?_ (by simp(disch:=omega)only[go_sem,h3]<;>rfl);refine zd ?_;refine zdu (fun tm=>tm 1=.list r 1 WL/\tm 2=iv at'/\tm 3=.ptr 0 0 0 0 4/\tm 6=.ptr 1 0 0 0 4/\tm 10=iv b/\tm 11=iv f/\tm 12=wv 0 LW) ⟨by simp[upd,h1],by simp[upd,h2],by simp[upd,h3],by simp[upd,h6],by simp[upd,h10],by simp[upd,h11],by simp[upd]⟩ ?_;clear h1 h2 h3 h6 h10 h11 hbk hdo hSp hat48 hidu huv;rintro tm ⟨h1,h2,h3,h6,h10,h11,h12⟩;have hL2:2<LW.length:=by omega
 have hLW2:=zck hL2;have hlow:∃low,LW.getD 2 0=low:=⟨_,rfl⟩
 obtain⟨low,hlow⟩:=hlow;rw[hlow]at hLW2 hRn hRc;have hf48:f<2048:=by omega
 cases up with
 | nil =>
  have hw1:WL.length=1:=hw1;have hroot:=zrt z rr fr hzf at' b f low (by omega) (by omega) (by omega) hf48 (fun g hg=>by rw[c1];exact hfrN g hg) (by omega) (by omega);have hro:=zpe (fr:=fr) (x:=z) at' b f low (by omega) (by omega);rw[hRn rfl];generalize z.root fr at' b f low=RR at *
  obtain⟨R1,R2,R3,R4⟩:=RR;have hR0:Id0 R1.fr:=by rw[show R1.fr=z.fr from hro.2.1];exact hidz0
  have hR1v:wkv R1=.agg [wv R1.p R1.W,.list R1.q 2 (R1.L.map zag),frV rr fr,iv R1.used]:=by unfold wkv;rw[show R1.fr=z.fr from hro.2.1,hzf]
  clear hRn hRc hro;unfold wk4 at hroot;dsimp only at hroot;rw[hR1v,hzv]at hroot;rw[hzv]at hidz;(repeat(first|refine ze ?_|refine zgo ?_ (by simp(disch:=omega)only[go_sem,h1,hw1]<;>rfl)));refine zfc ?_ ?_;rotate_left
  ·intro h;cases h
  intro _;(repeat refine ze ?_);refine zap ?_;refine zdf hroot ⟨hidz,.int _ _,.int _ _,.int _ _,.int _ _,trivial⟩ ?_ (by simp(disch:=omega)only[go_sem,h2,h3,h10,h11,h12,hLW2,hL2,zAA9]<;>rfl);refine zda ?_ (by simp(disch:=omega)only[go_sem,h6]<;>rfl);refine zdl ?_ (by simp(disch:=omega)only[go_sem,h6,zBX9,zCF9,zBV9,zCG9,zCT9,Nat.reduceBEq,zT,zS,zO]<;>rfl);refine zR ?_;simp only[zo,zW,zg,go_sem];refine zF ?_;(try simp only[zg,zj,zh,zi,zo,zk,if_true,reduceIte]);refine zq (vs:=[wkv R1,iv R2,uv R3,iv R4]) ?_ ?_
  ·rw[hR1v];simp[T81,zI,okv,upd,h6,zao,zaK,za6,PV.cells]
  ·exact zxo hR0 R2 R3 R4
 | cons above up' =>
  obtain⟨fb,hU⟩:=hRc above up' rfl;obtain⟨u1,u2,u3,u4⟩:=hU;clear hRn hRc;simp only[zAE9]at hw1 hw2 hw3 hw4 hw5 hfew hLb;rw[zEP9]at hw3;have g1:¬((up'.length+1+1:Nat):Int)=1:=by omega
  have hw6:up'.length+1<=up'.length+1+1:=by omega
  obtain⟨WU,hWU⟩:∃WU,WU=zdQ (up'.reverse++[above]):=⟨_,rfl⟩
  have hu1:WU.length=up'.length+1:=by rw[hWU];simp
  have hu2:WU[up'.length]?=some (iv above):=by rw[hWU,zAL9,zAN9 (by simp)];simp
  have hu4:((up'.length+1:Nat):Int)-1=(up'.length:Nat):=by omega
  have hu5:up'.length<up'.length+1:=zBR9 _;rw[<- hWU]at hw3 u4;clear hWU;(repeat(first|refine ze ?_|refine zgo ?_ (by simp(disch:=omega)only[go_sem,h1,hw1,g1]<;>rfl)));refine zfc ?_ ?_
  ·intro h;cases h
  intro _;refine zQ ?_;show W _ _ _ _ _ _;(repeat(first|refine ze ?_|refine zgo ?_ (by simp(disch:=omega)only[go_sem,h1,hw1,hw3,hw4,hw6]<;>rfl)));(repeat(first|refine ze ?_|refine zgo ?_ (by simp(disch:=omega)only[go_sem,hu1,hu2,hu4,hu5]<;>rfl)));rw[hzv]at u2 hidz;(repeat refine ze ?_);refine zrg ?_ (by simp(disch:=omega)only[go_sem,h3]<;>rfl);refine zca u2 ?_;refine zfx ?_;refine zd ?_;have c1L:64*above+64<=z.W.length:=by omega
  (repeat refine ze ?_);refine zbN (Q:=fun yy s'=>(yy=.norm/\∃(v:Wk) (ab:Nat) (G:List zu),R=v.fin ab f low/\v.fr=frV rr fr/\v.W.length=x.W.length/\v.L.length<=899900/\64*ab+64<=x.W.length/\s'.tm 3=.ptr 0 0 0 0 4/\s'.tm 6=.ptr 1 0 0 0 4/\s'.tm 11=iv f/\s'.tm 12=wv 0 LW/\s'.tm 16=iv ab/\s'.df=[]/\s'.H=.row 107 4 0 0 [.agg [wv v.p v.W,.list v.q 2 (v.L.map zag),frV rr fr,iv v.used]]::.row 107 4 0 0 [.agg [.nilsl,.nilsl,.nilsl,iv 0]]::G)\/(yy=.ret/\zdI ET T81 (fun e' H=>zbo H 0 e' (.ret (wk4 R))) .ret s')) ?_ ?_
  ·cases fb with
   | false =>
    refine zfc ?_ ?_
    ·intro h;cases h
    intro _;refine zQ ?_;refine .inl ⟨rfl,z,above,[],u3 rfl,hzf,c1,by omega,u1,by simp[upd,h3],by simp[upd,h6],by simp[upd,h11],by simp[upd,h12],by simp[upd],rfl,rfl⟩
   | true =>
    obtain⟨S,hS,hSO,hIH⟩:=u4 rfl;have hIH:=hIH r;obtain⟨S1,S2,S3,S4⟩:=S;obtain⟨o1,o2,o3,o4,o5⟩:=hSO;dsimp only at o1 o2 o3 o4 o5 hS;have hS1v:wkv S1=.agg [wv S1.p S1.W,.list S1.q 2 (S1.L.map zag),frV rr fr,iv S1.used]:=by unfold wkv;rw[o2,hzf]
    unfold wk4 at hIH;dsimp only at hIH;rw[hS1v,hzv]at hIH;refine zfc ?_ ?_;rotate_left
    ·intro h;cases h
    intro _;(repeat refine ze ?_);refine zrg ?_ (by simp(disch:=omega)only[go_sem,h2,h3]<;>rfl);refine zcb (by first|rfl|(simp only[go_sem]<;>rfl)) (by simp only[go_sem]<;>rfl) hIH rfl ?_ ?_;(repeat(first|exact trivial|refine And.intro ?_ ?_|exact Id0.int _ _|exact Id0.bool _|exact Id0.list _ _ _|exact Id0.elem _|exact Id0.nilsl|exact Id0.str _|exact zce _ _ _))
    ·exact hidz
    ·(repeat(first|exact trivial|refine And.intro ?_ ?_|exact Id0.int _ _|exact Id0.bool _|exact Id0.list _ _ _|exact Id0.elem _|exact Id0.nilsl|exact Id0.str _|exact zce _ _ _))
    refine zfx ?_;refine zd ?_
    by_cases h0:S4=0
    rotate_left
    ·have g2:¬(S4:Int)=0:=by omega
     rw[if_neg h0]at hS;(repeat(first|refine ze ?_|refine zgo ?_ (by simp(disch:=omega)only[go_sem,g2,zf,zn]<;>rfl)));refine zfc ?_ ?_;rotate_left
     ·intro h;cases h
     intro _;(repeat(first|refine ze ?_|refine zgo ?_ (by simp(disch:=omega)only[go_sem,h3,h6,zf,zn]<;>rfl)));refine zF ?_;(try simp only[zg,zj,zh,zi,zo,zk,if_true,reduceIte]);refine .inr ⟨(by first|exact trivial|rfl),?_⟩;refine zq (vs:=[wkv z,iv 0,uv 0,iv S4]) ?_ ?_
     ·rw[hzv];simp[T81,zI,okv,upd,h6,zao,zaK,za6,PV.cells]
     ·rw[hS];exact zxo hidz0 0 0 S4
    have g2:(S4:Int)=0:=by omega
    rw[if_pos h0]at hS;(repeat(first|refine ze ?_|refine zgo ?_ (by simp(disch:=omega)only[go_sem,g2,zf,zn]<;>rfl)));refine zfc ?_ ?_
    ·intro h;cases h
    intro _;refine zQ ?_;show W _ _ _ _ _ _;have hS2in:=o5 h0
    by_cases hlo:S3<=low
    ·have g3:(S3:Int)<=(low:Nat):=by omega
     rw[if_pos hlo]at hS;(repeat(first|refine ze ?_|refine zgo ?_ (by simp(disch:=omega)only[go_sem,h3,h12,hLW2,hL2,g3,zf,zn,zAA9]<;>rfl)));refine zfc ?_ ?_;rotate_left
     ·intro h;cases h
     intro _;(repeat refine ze ?_);refine zrg ?_;refine zG ?_;simp only[zg,zj,zh,zi,zo,zk,if_true,↓reduceIte];refine .inl ⟨(by first|exact trivial|rfl),S1,S2,_,hS,by rw[o2,hzf],by omega,by omega,by omega,by simp[upd,h3],by simp[upd,h6],by simp[upd,h11],by simp[upd,h12],by simp[upd],trivial,rfl⟩
    ·have g3:¬(S3:Int)<=(low:Nat):=by omega
     rw[if_neg hlo]at hS;(repeat(first|refine ze ?_|refine zgo ?_ (by simp(disch:=omega)only[go_sem,h3,h12,hLW2,hL2,g3,zf,zn,zAA9]<;>rfl)));refine zfc ?_ ?_
     ·intro h;cases h
     intro _;refine zQ ?_;(try simp only[zg,zj,zh,zi,zo,zk,if_true,reduceIte]);refine .inl ⟨(by first|exact trivial|rfl),S1,above,_,hS,by rw[o2,hzf],by omega,by omega,by omega,by simp[upd,h3],by simp[upd,h6],by simp[upd,h11],by simp[upd,h12],by simp[upd],(by first|exact trivial|rfl),rfl⟩
  clear h1 h2 h3 h6 h10 h11 h12 u2 u3 u4 hidz hzv;rintro yy ⟨tm,df,H⟩ (⟨rfl,v,ab,G,hR,hvf,hvW,hvL,hab,h3,h6,h11,h12,h16,rfl,rfl⟩|⟨rfl,hfin⟩);rotate_left
  ·(try simp only[zg,zj,zh,zi,zo,zk,if_true,reduceIte]);exact hfin
  dsimp only at h3 h6 h11 h12 h16;simp only[zg,zj,zh,zi,zo,zk,if_true,reduceIte];have hv0:Id0 v.fr:=by rw[hvf];exact .list _ _ _
  have hvv:wkv v=.agg [wv v.p v.W,.list v.q 2 (v.L.map zag),frV rr fr,iv v.used]:=by unfold wkv;rw[hvf]
  have hidv:=zcD hv0;have hat2:=zfG v hv0 ab (by omega) (by omega);have hblen:=zcf v.W ab (by omega);have hpu:=zkX v.p (zD v.W ab) (low,f) (by rw[hblen];decide);have hpa:=zin (x:=(low,f)) hblen;have hdo2:=ze4 v hv0 (64*ab) 0 (zb6 (zD v.W ab) (low,f)).1 (by omega) (by omega) fun c hc=>by have:=hpa.2 c hc;omega
  have hfv:v.fin ab f low=(v.does (zbv (64*ab) (zb6 (zD v.W ab) (low,f)).1),f,low,0):=rfl;rw[hfv]at hR;have hqf:(v.does (zbv (64*ab) (zb6 (zD v.W ab) (low,f)).1)).fr=frV rr fr:=(zcz _ v).2.2.1.trans hvf;generalize v.does (zbv (64*ab) (zb6 (zD v.W ab) (low,f)).1)=q at *
  have hqv:wkv q=.agg [wv q.p q.W,.list q.q 2 (q.L.map zag),frV rr fr,iv q.used]:=by unfold wkv;rw[hqf]
  generalize zb6 (zD v.W ab) (low,f)=pr at *
  have w3:IntKind.u64.wrap (f:Int)=(f:Int):=zL (by omega) (by omega);have w4:IntKind.i64.wrap ((64:Int)*(ab:Int))=((64*ab:Nat):Int):=by rw[wrap_i64 (by omega) (by omega)];omega
  rw[hvv]at hat2 hidv hdo2;rw[hqv]at hdo2;(repeat refine ze ?_);refine zap ?_;refine zdf hat2 ⟨hidv,.int _ _,trivial⟩ ?_ (by simp(disch:=omega)only[go_sem,h3,h11,h12,h16,hLW2,hL2,w3,zAA9]<;>rfl);refine zdn hpu ?_ (by simp(disch:=omega)only[go_sem,h3,h11,h12,h16,hLW2,hL2,w3,zAA9]<;>rfl);refine zdl ?_ (by simp(disch:=omega)only[go_sem,h3]<;>rfl);refine zR ?_;simp only[zo,zW,zg,go_sem];(repeat refine ze ?_);refine zap ?_;refine zdf hdo2 ⟨hidv,.int _ _,.list _ _ _,trivial⟩ ?_ (by simp(disch:=omega)only[go_sem,h3,h11,h12,h16,hLW2,hL2,w4,zAA9]<;>rfl);refine zda ?_ (by simp(disch:=omega)only[go_sem,h6,h12]<;>rfl);refine zdl ?_ (by simp(disch:=omega)only[go_sem,h6,zBX9,zCF9,zBV9,zCG9,zCT9,Nat.reduceBEq,zT,zS,zO]<;>rfl);refine zR ?_;simp only[zo,zW,zg,go_sem];refine zF ?_;(try simp only[zg,zj,zh,zi,zo,zk,if_true,reduceIte]);refine zq (vs:=[wkv q,iv f,uv low,iv 0]) ?_ ?_
  ·rw[hqv];simp[T81,zI,okv,upd,h6,zao,zaK,za6,PV.cells]
  ·rw[hR];exact zxo (by rw[hqf];exact .list _ _ _) f low 0
end Fv
end Go.Proofs.YtfomlmhnmheenaaGreat
