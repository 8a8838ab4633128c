/- TreeFrom returns true for every input, and its input reads afterwards as it did. No condition. -/
import Derived.Test.YtfomlmhnmheenaaGreatTF7
import Derived.WalkKit
import Derived.WalkSpells
import Derived.WalkLawsBesides
import Derived.Lib.Hide
import Derived.Maps.AppendAt
import Derived.Maps.OwnOps
import Derived.Maps.Views
import Derived.Deep.AppendLies
import Derived.Deep.Draws
import Derived.Deep.RegionHeld3
import Derived.Deep.QuietTactic
import Derived.BigQuiet
import Derived.Deep.RegionWith
import Derived.Test.YtfomlmhnmheenaaGreatProg
import Derived.Laws.MakeOwn
import Derived.Laws.OwnMore
import Derived.RangeFuncNested
import Derived.RangeFuncBound
import Derived.RangeFuncCalls
import Derived.RangeFuncLeaves
import Derived.Shelf.RegionOpen
import Derived.OwnWalkIn
import Derived.TacticsInMore
import Derived.LoopNIn
import Derived.LoopIn
import Derived.Scope
import Derived.Shelf.Abstract
import Derived.OrdersHeld
import Derived.OrdersIn
import Derived.Maps.OwnIn
import Derived.RangeFuncOwn
import Derived.WalkArith
import Derived.Laws.CopyOwn
import Derived.Lib.AppendZerosOnto
import Derived.Lib.Overlaps
import Derived.Laws.Externs
import Derived.Shelf.RegionOpenPlain
import Derived.Lib.JoinLaws
import Derived.Lib.SliceRun
import Derived.Recover
import Derived.RecoverIn
import Derived.ProofKit
import Derived.OpenShut
import Derived.Deep.Slices
import Derived.Deep.SlicePairs
import Derived.ShutString
import Derived.ChangeOld
import Derived.Test.YtfomlmhnmheenaaGreatRows
set_option linter.unusedSimpArgs false
set_option linter.unusedVariables false
namespace Go.Proofs.YtfomlmhnmheenaaGreat
namespace Fv
open Tw
attribute [local go_sem] zbb zaH zaf zas evs ev okv zbs zX.cls zba zbh zbm zV zU upd zB za2 zaW zaY zaF zaT za3 za4 zaZ zaS zaU zat zaX za5 zaR za1 zaV za0 zao zaK za6 zan zal zbr PV.cells ofC zbg zZ zau okF zah spl zaI zaL bnd zam zaq zar za8 zbl zY zaA zaN zaj zbj zbn zab lenP zf zn zak zbi PV.toT zaG zJ Nat.mul_mod_right Int.reduceOfNat Int.reduceToNat Int.cast_ofNat_Int Int.reduceLE Int.reduceLT Int.reduceAdd Int.reduceSub Int.reduceMul Int.reduceNegSucc Nat.reduceEqDiff if_true if_false ite_true ite_false decide_true decide_false Bool.not_true Bool.not_false and_true true_and and_self false_and and_false or_false false_or or_true true_or or_self List.length_cons List.length_nil List.length_map List.getElem?_cons_zero List.getElem?_cons_succ List.getElem?_map List.getElem?_nil Option.map_some Option.map_none Option.getD_some List.append_nil List.nil_append List.cons_append List.take_succ_cons List.take_zero List.drop_zero List.drop_succ_cons List.set_cons_zero List.set_cons_succ Int.toNat_natCast Int.natCast_nonneg Nat.le_refl Nat.zero_le Nat.reduceAdd Nat.reduceSub Nat.reduceMul Nat.reduceLeDiff Nat.reduceLT Bool.false_eq_true Bool.true_eq_false Nat.add_zero Nat.zero_add List.all_cons List.all_nil Bool.and_true Bool.and_self Bool.true_and Nat.reduceMod Nat.reduceDiv eq_self zaC zaM zac zbf evN za9 dpF zaO zbq zaE zbe zbp zaP List.filter_cons List.filter_nil List.contains_cons List.contains_nil Nat.reduceBEq zT zS zO Option.some.injEq Option.isSome_some wrap_i64 zL zaD Bool.or_self Bool.or_false Bool.false_or daF dnF yD yO yW yM yN yL yP yK yF yE yB yQ yV T6 T8 T12 T16 T18 T19 T22 T27 T28 T29 T33 T40 T42 T43 T45 T46 T47 T48 T49 T50 T51 T52 T53 T54 T57 T58 T61 T62 T65 T71 T72 T73 T74 T80 T81 T90 T91 T92 T93 T94 T95 T96 T97 T98 T99 T103 T104 T107 T119 T120 T121 T122 T123 T124 T135 T137 T138 T139 T140 T141 T142 T143 T144 T156 T157 T158 T161 T162 T163 T164 T170 T173 T181 T184 T185 T188 T195 T198 T199 T200 T201 T202 T203 T204 T205 T206 T207 T208 T209 T210 T211 T212 T213 T214 T215 T223
attribute [local go_sem ↓] reduceIte
set_option maxRecDepth 100000
theorem zhK (fr:List Nat)(rr at' r:Nat)(up:List Nat)(b:Nat)(x:Wk)(hfr:x.fr=frV rr fr)(hfew:up.length+1<=20)(hus:fr.length<=x.used) :
  FP ET 81 [wkv x,.list r 1 (zdQ (up.reverse++[b])),iv at'] (.ret (wk4 (x,0,0,221))):=by
 refine zfp f81 ?_;have hid0:Id0 x.fr:=by rw[hfr];exact .list _ _ _
 have hxv:wkv x=.agg [wv x.p x.W,.list x.q 2 (x.L.map zag),frV rr fr,iv x.used]:=by unfold wkv;rw[hfr]
 rw[hxv];obtain⟨WL,hWL⟩:∃WL,WL=zdQ (up.reverse++[b]):=⟨_,rfl⟩
 have hw1:WL.length=up.length+1:=by rw[hWL];simp
 have hw2:WL[up.length]?=some (iv b):=by rw[hWL,zAL9,zAN9 (by simp)];simp
 have hw4:((up.length+1:Nat):Int)-1=(up.length:Nat):=by omega
 have hw5:up.length<up.length+1:=zBR9 _;rw[<- hWL];clear hWL;have g:(fr.length:Int)<=(x.used:Nat):=by omega
 (repeat(first|refine ze ?_|refine zgo ?_ (by simp(disch:=omega)only[go_sem,g,hw1,hw2,hw4,hw5,zAA9]<;>rfl)));refine zfc ?_ ?_;rotate_left
 ·intro h;cases h
 intro _;(repeat(first|refine ze ?_|refine zgo ?_));refine zF ?_;(try simp only[zg,zj,zh,zi,zo,zk,if_true,reduceIte]);refine zq (vs:=[wkv x,iv 0,uv 0,iv 221]) ?_ ?_
 ·rw[hxv];simp[T81,zI,okv,upd,zB,zao,zaK,za6,PV.cells]
 ·exact zxo hid0 0 0 221
theorem zkC (fr:List Nat)(rr at' r:Nat)(up:List Nat)(b:Nat)(x:Wk)(n:zE)(hn:zai (zD x.W b)=n)(hI:zi9 fr rr x (b::up))(hat:at'<x.W.length)(hu:x.used<fr.length)(hcf:zvC fr x (x.cut b (fr.getD x.used 0)) b (fr.getD x.used 0))
  (hp1:2<=n.pairs.length) (hp2:n.pairs.length<=28) (hcut:x.cut b (fr.getD x.used 0)=(x.up.does (zbv (64*fr.getD x.used 0) (zbY (zbB (zci n))))).does (zbv (64*b) (zeQ n (fr.getD x.used 0)))) (R:Wk×Nat×Nat×Nat)
  (hRn:up=[]->R=(x.cut b (fr.getD x.used 0)).root fr at' b (fr.getD x.used 0) ((zbB (zci n)).getD 2 0)) (hRc:∀above up',up=above::up'->∃fb,UpF fr rr at' x.W.length (x.cut b (fr.getD x.used 0)) R (fr.getD x.used 0) ((zbB (zci n)).getD 2 0) above up' fb) :
  FP ET 81 [wkv x,.list r 1 (zdQ (up.reverse++[b])),iv at'] (.ret (wk4 R)):=by
 have hto:=hI.to hu;have hf:fr[x.used]?=some (fr.getD x.used 0):=by rw[zAQ9,zAB9 hu];rfl
 obtain⟨hf1,hfb⟩:=hI.frN _ hto;have hN:=hI.hN;have hbin:=hI.inn b (zAV9 ..);have hchk:=hI.chk b (zAV9 ..);have hLb:=hI.hL;have hid0:Id0 x.fr:=by rw[hI.hfr];exact .list _ _ _
 generalize fr.getD x.used 0=f at *
 have hSp:=zp0 x.up.p (f:Int) (zD x.W b) (by rw[zcf _ _ hbin];decide);rw[zrW hn hchk hf1 (by omega) hp1]at hSp;have eB:=zqI f hp2;have hLW:=zdw (zci n);have hbk:=zkI x.up hid0 f 0 (zbB (zci n)) (by rw[hLW];show x.L.length+64<1000000;simp only[zAE9]at hLb;omega) (by show x.W.length<1000000;omega) (by rw[hLW];exact hfb);have hy:=zcz (zbv (64*f) (zbY (zbB (zci n)))) x.up;rw[zfE,zd6,hLW]at hy;have hy0:Id0 (x.up.does (zbv (64*f) (zbY (zbB (zci n))))).fr:=by rw[hy.2.2.1];exact hid0
 have hdo:=ze4 (x.up.does (zbv (64*f) (zbY (zbB (zci n))))) hy0 (64*b) 0 (zeQ n f) (by rw[hy.2.1];show x.L.length+64+_<1000000;simp only[zAE9]at hLb;omega) (by rw[hy.1];show x.W.length<1000000;omega) fun c hc=>by
  rw[hy.1];show 64*b+c.1<x.W.length;have:=eB.2 c hc;omega
 rw[<- hcut]at hdo
 exact zpo fr rr at' r up b f x _ _ R x.up.p (zD x.W b) (zbB (zci n)) (zeQ n f) hI.hfr hN hat hI.few (by simpa using hLb) hI.fl hu hf hfb hbin (zfG x.up hid0 b hbin hN) hSp hLW hbk (hy.2.2.1.trans hI.hfr) hdo (hcf.fr'.trans hI.hfr) hcf.W hcf.L (by rw[hcf.used];omega) (fun g hg=>(hI.frN g hg).2) hRn hRc
theorem zlI (fr:List Nat)(rr at':Nat):∀(up:List Nat) (b:Nat) (x:Wk) (r:Nat),zi9 fr rr x (b::up)->at'<x.W.length->FP ET 81 [wkv x,.list r 1 (zdQ (up.reverse++[b])),iv at'] (.ret (wk4 (Wk.split fr at' (b::up) x)))
 | [],b,x,r,hI,hat=>by
  by_cases hus:fr.length<=x.used
  ·rw[zjd hus];exact zhK fr rr at' r [] b x hI.hfr (by decide) hus
  have hu:x.used<fr.length:=by omega
  have hful:=hI.ful b rfl;have hcf:=zga fr x b (fr.getD x.used 0) (zxf _);have hR:Wk.split fr at' [b] x=(x.cut b (fr.getD x.used 0)).root fr at' b (fr.getD x.used 0) ((zbB (zci (zai (zD x.W b)))).getD 2 0):=by
   unfold Wk.split;rw[if_neg hus]
  obtain⟨n,hn⟩:∃n,zai (zD x.W b)=n:=⟨_,rfl⟩
  have hp2:=zxf (zD x.W b);have hcut:x.cut b (fr.getD x.used 0)=(x.up.does (zbv (64*fr.getD x.used 0) (zbY (zbB (zci (zai (zD x.W b))))))).does (zbv (64*b) (zeQ (zai (zD x.W b)) (fr.getD x.used 0))):=rfl;rw[hn]at hful hp2 hR hcut;exact zkC fr rr at' r [] b x n hn hI hat hu hcf (by omega) hp2 hcut _ (fun _=>hR) fun above up' e=>by cases e
 | above::up',b,x,r,hI,hat=>by
  by_cases hus:fr.length<=x.used
  ·rw[zjd hus];exact zhK fr rr at' r (above::up') b x hI.hfr hI.few hus
  have hu:x.used<fr.length:=by omega
  have hful:=hI.ful b rfl;have hcf:=zga fr x b (fr.getD x.used 0) (zxf _);have hSc:=hI.cut hu;have hR:Wk.split fr at' (b::above::up') x=if 27<=(ofN (zD (x.cut b (fr.getD x.used 0)).W above)).pairs.length then
   (if(Wk.split fr at' (above::up') (x.cut b (fr.getD x.used 0))).2.2.2=0 then
    (Wk.split fr at' (above::up') (x.cut b (fr.getD x.used 0))).1.fin (if(Wk.split fr at' (above::up') (x.cut b (fr.getD x.used 0))).2.2.1<=(zbB (zci (zai (zD x.W b)))).getD 2 0 then(Wk.split fr at' (above::up') (x.cut b (fr.getD x.used 0))).2.1 else above) (fr.getD x.used 0) ((zbB (zci (zai (zD x.W b)))).getD 2 0)
   else(x.cut b (fr.getD x.used 0),0,0,(Wk.split fr at' (above::up') (x.cut b (fr.getD x.used 0))).2.2.2))
  else(x.cut b (fr.getD x.used 0)).fin above (fr.getD x.used 0) ((zbB (zci (zai (zD x.W b)))).getD 2 0):=by
   conv=>lhs;unfold Wk.split
   rw[if_neg hus]
  obtain⟨n,hn⟩:∃n,zai (zD x.W b)=n:=⟨_,rfl⟩
  have hp2:=zxf (zD x.W b);have hcut:x.cut b (fr.getD x.used 0)=(x.up.does (zbv (64*fr.getD x.used 0) (zbY (zbB (zci (zai (zD x.W b))))))).does (zbv (64*b) (zeQ (zai (zD x.W b)) (fr.getD x.used 0))):=rfl;rw[hn]at hful hp2 hR hcut;have hin:=hI.inn above (by simp);have hN:=hI.hN;have hzf:(x.cut b (fr.getD x.used 0)).fr=frV rr fr:=hcf.fr'.trans hI.hfr;have hfu:=zq2 (x.cut b (fr.getD x.used 0)) (by rw[hzf];exact .list _ _ _) above (by rw[hcf.W];exact hin) (by rw[hcf.W];exact hN);refine zkC fr rr at' r (above::up') b x n hn hI hat hu hcf (by omega) hp2 hcut _ (fun e=>by cases e) fun above2 up2 e=>?_;injection e with e1 e2;subst e1 e2;refine⟨decide (27<=(ofN (zD (x.cut b (fr.getD x.used 0)).W above)).pairs.length),hin,hfu,fun h=>?_,fun h=>?_⟩
  ·rw[hR,if_neg (of_decide_eq_false h)]
  ·have h:=of_decide_eq_true h;have hI2:=hSc h;refine⟨Wk.split fr at' (above::up') (x.cut b (fr.getD x.used 0)),by rw[hR,if_pos h],zjD up' above _ hI2,fun r2=>zlI fr rr at' up' above _ r2 hI2 (by rw[hcf.W];exact hat)⟩
theorem zpP {w:List Nat}{lv:Int}:∀(k:Nat) (seen:List Nat) (b:Nat) (r:List Nat×List Nat×List zE),zbC w lv k seen [] [] b=some r->r.2.2 ≠ []->r.2.1.head?=some b
 | 0,seen,b,r,h,hr=>by
  rw[zbC]at h
  split at h
  ·injection h with h;subst h;exact absurd rfl hr
  ·cases h
 | k+1,seen,b,r,h,hr=>by
  rw[zbC]at h
  split at h
  ·injection h with h;subst h;exact absurd rfl hr
  split at h
  ·cases h
  split at h
  rotate_left
  ·cases h
  obtain⟨X,h1,_⟩:=zfT _ _ _ _ _ _ h;rw[h1];rfl
structure zv9 (b:Nat)(X:List Lev):Prop where
 first:∃M,X.head?=some M/\M.1.head?=some b
 apart:X.Pairwise fun L M=>∀c∈L.1,c ∉ M.1
 leaf:∀L,X.getLast?=some L->∀n∈L.2,n.level=0
 pos:∀L∈X,∀c∈L.1,c≠0
theorem zju {w:List Nat}(hw:w.length<=131072):∀(d:Nat) (seen:List Nat) (acc:List Lev) (b:Nat) (lv:Int),(zbI w d seen acc b lv).2=true->∃X,(zbI w d seen acc b lv).1=acc++X/\zv9 b X/\∀L∈X,∀c∈L.1,c ∉ seen
 | 0,_,_,_,_,h=>by cases h
 | d+1,seen,acc,b,lv,h=>by
  rw[zbI]at h⊢
  cases hr:zbC w lv (w.length/64) seen [] [] b with
  | none=>rw[hr]at h;cases h
  | some r =>
   obtain⟨s',bs,ns⟩:=r;rw[hr]at h
   cases ns with
   | nil=>cases h
   | cons n ns =>
    have hh:=zpP _ _ _ _ hr (by simp);obtain⟨X,x1,x2,x3,x4⟩:=zfT _ _ _ _ _ _ hr;obtain⟨hF,_,_⟩:=zen (N:=2048) _ _ _ _ _ _ hr (LvF.nil w) (fun n hn=>by simp at hn) (by simp;omega);dsimp only at hh x1 x2 hF h⊢;rw[zAI9]at x1;subst x1
    by_cases hl:n.level=0
    ·rw[if_pos hl]at h⊢;refine⟨[(bs,n::ns)],rfl,⟨⟨_,rfl,hh⟩,List.pairwise_singleton _ _,fun L hL m hm=>?_,fun L hL c hc=>?_⟩,fun L hL c hc=>?_⟩
     ·simp at hL;subst hL;exact(hF.same m hm n rfl).trans hl
     ·simp at hL;subst hL;exact(x4 c hc).2
     ·simp at hL;subst hL;exact(x4 c hc).1
    ·rw[if_neg hl]at h⊢;obtain⟨Y,y1,⟨y2,y3,y4,y6⟩,y5⟩:=zju hw d s' _ _ _ h;refine⟨(bs,n::ns)::Y,by rw[y1];simp,⟨⟨_,rfl,hh⟩,List.pairwise_cons.2 ⟨fun M hM c hc hcM=>y5 M hM c hcM ?_,y3⟩,fun L hL=>?_,fun L hL c hc=>?_⟩,fun L hL c hc=>?_⟩
     ·rw[x2];exact zEA9 _ (zEU9.2 hc)
     ·obtain⟨M,hM,_⟩:=y2
      cases Y with
      | nil=>cases hM
      | cons a Y=>exact y4 L (by rw[zDQ9]at hL;exact hL)
     ·rcases zAY9.1 hL with rfl|hL
      ·exact(x4 c hc).2
      ·exact y6 L hL c hc
     ·rcases zAY9.1 hL with rfl|hL
      ·exact(x4 c hc).1
      ·intro hs;exact y5 L hL c hc (by rw[x2];exact zDI9 _ hs)
theorem zfe {w:List Nat}:∀{bs:List Nat} {ns:List zE},bs.length=ns.length->zcA w bs ns=true->∀b∈bs,zbJ (zD w b)=0
 | [],_,_,_,b,hb=>by simp at hb
 | b'::bs,[],h,_,_,_=>by simp at h
 | b'::bs,n::ns,h,hs,b,hb=>by
  rw[zcA,zAR9,zAR9]at hs;rcases zAY9.1 hb with rfl|hb
  ·exact of_decide_eq_true hs.1.1
  ·exact zfe (by simpa using h) hs.2 b hb
def zib (w:List Nat)(key:Nat):List Lev->Nat->List Nat
 | [],_=>[]
 | [_],b=>[b]
 | _::M::T,b=>b::zib w key (M::T) (zcH (zD w b) key).1
structure zw2 (w:List Nat)(key:Nat)(T:List Lev)(b:Nat)(ws:List Nat):Prop where
 first:ws[0]?=some b
 next:∀(i:Nat) (b c:Nat),ws[i]?=some b->ws[i+1]?=some c->zcH (zD w b) key=(c,0)
 last:∀b,ws.getLast?=some b->¬(zcH (zD w b) key).2=0
 len:ws.length=T.length
 mem:∀(i c:Nat),ws[i]?=some c->∃L,T[i]?=some L/\c∈L.1
theorem zqD {w:List Nat}{key:Nat}:∀(T:List Lev) (b:Nat),(∀L∈T,zjP w L)->zcg w T=true->(∀L∈T.dropLast,zjY L)->(∀L,T.getLast?=some L->∀n∈L.2,n.level=0)->(∃L,T.head?=some L/\b∈L.1)->zw2 w key T b (zib w key T b)
 | [],b,_,_,_,_,h=>by obtain⟨L,h,_⟩:=h;cases h
 | [L],b,hF,hs,_,hlf,h=>by
  obtain⟨L',h,hb⟩:=h;simp at h;subst h;have hLF:=hF L (zAV9 ..);rw[zcg]at hs;have hc:=zfe hLF.lv.len hs b hb;have hn:zai (zD w b)∈L.2:=by rw[hLF.lv.is];exact zAS9.2 ⟨b,hb,rfl⟩
  have hl:=hlf L rfl _ hn;refine⟨rfl,fun i b' c h1 h2=>by simp[zib]at h2,fun c hcc=>?_,rfl,fun i c hi=>?_⟩
  ·simp[zib]at hcc;subst hcc;unfold zcH;rw[if_pos hc,if_pos hl]
   decide
  ·cases i with
   | zero=>simp[zib]at hi;subst hi;exact⟨L,rfl,hb⟩
   | succ i=>simp[zib]at hi
 | L::M::T,b,hF,hs,hp,hlf,h=>by
  obtain⟨L',h,hb⟩:=h;simp at h;subst h;have hLF:=hF L (zAV9 ..);have hMF:=hF M (zAW9 _ (zAV9 ..));rw[zcg,zAR9,zAR9]at hs;obtain⟨⟨hs1,hs2⟩,hs3⟩:=hs;have hs2:=of_decide_eq_true hs2;have hc:=zfe hLF.lv.len hs1 b hb;have hn:zai (zD w b)∈L.2:=by rw[hLF.lv.is];exact zAS9.2 ⟨b,hb,rfl⟩
  have hl:0<(zai (zD w b)).level:=hp L (by simp[List.dropLast]) _ hn;have hch:zcH (zD w b) key=(zeE (zai (zD w b)).left (zai (zD w b)).pairs key,0):=by
   unfold zcH;rw[if_pos hc,if_neg (by omega)]
  have hk:∃q∈zdz (zai (zD w b)),zeE (zai (zD w b)).left (zai (zD w b)).pairs key=q.2:=by
   rcases znA (zai (zD w b)).pairs key (zai (zD w b)).left with h|⟨q,hq,h⟩
   ·exact⟨_,zAV9 ..,h⟩
   ·exact⟨q,zAW9 _ hq,h⟩
  obtain⟨q,hq,hk⟩:=hk;have hq2:q∈ze8 M:=by rw[<- hs2];exact zBI9.2 ⟨_,hn,hq⟩
  have hcM:(zcH (zD w b) key).1∈M.1:=by
   rw[hch];dsimp only;rw[hk];unfold ze8 at hq2;exact(List.of_mem_zip (show (q.1,q.2)∈_ from hq2)).2
  have ih:=zqD (key:=key) (M::T) (zcH (zD w b) key).1 (fun K hK=>hF K (zAW9 _ hK)) hs3 (fun K hK=>hp K (by rw[List.dropLast_cons_cons];exact zAW9 _ hK)) (fun K hK=>hlf K (by rw[zDQ9];exact hK)) ⟨M,rfl,hcM⟩;have hw:zib w key (L::M::T) b=b::zib w key (M::T) (zcH (zD w b) key).1:=rfl;rw[hw];generalize zib w key (M::T) (zcH (zD w b) key).1=ws at ih;obtain⟨i1,i2,i3,i4,i5⟩:=ih;refine⟨rfl,fun i b' c h1 h2=>?_,fun c hcc=>?_,by simp at i4⊢;exact i4,fun i c hi=>?_⟩
  ·cases i with
   | zero =>
    simp at h1 h2;subst h1;rw[zAB9]at i1;rotate_left
    ·simp at i4;omega
    have:ws[0]?=some c:=by simpa using h2
    rw[hch];rw[zAB9 (by simp at i4;omega)]at this;injection i1 with i1;injection this with this;rw[<- this,i1,hch]
   | succ i=>exact i2 i b' c (by simpa using h1) (by simpa using h2)
  ·cases ws with
   | nil=>simp at i1
   | cons a ws=>rw[zDQ9]at hcc;exact i3 c hcc
  ·cases i with
   | zero=>simp at hi;subst hi;exact⟨L,rfl,hb⟩
   | succ i=>exact i5 i c (by simpa using hi)
theorem zkN {w:List Nat}:∀{T:List Lev},zcg w T=true->∀L∈T,zcA w L.1 L.2=true
 | [],_,L,h=>by simp at h
 | [L],hs,K,h=>by simp at h;subst h;exact hs
 | L::M::T,hs,K,h=>by
  rw[zcg,zAR9,zAR9]at hs;rcases zAY9.1 h with rfl|h
  ·exact hs.1.1
  ·exact zkN hs.2 K h
structure zqi (w:List Nat)(n key:Nat)(fr:List Nat)(ws:List Nat):Prop where
 way:zuI w (w.getD n 0) key ws
 chk:∀b∈ws,zbJ (zD w b)=0
 inn:∀b∈ws,b<w.length/64
 nd:ws.Nodup
 few:ws.length<=14
 ne:ws ≠ []
 frN:∀f∈fr,1<=f/\f<w.length/64
 out:∀f∈fr,f ∉ ws
 pos:∀b∈ws,b≠0
theorem zpQ {w:List Nat}{n:Nat}(key:Nat){fr:List Nat}(hw:w.length<=131072)(ht:(zaQ w n).2=true)(hs:zjT w (zaQ w n).1=true)(hf1:∀f∈fr,1<=f/\f<w.length/64)(hf2:zhy (zaQ w n).1 (fr.map fun(b:Nat)=>(b:Int))=true):∃ws,zqi w n key fr ws:=by
 obtain⟨f1,f2,f3,f4,f5⟩:=zcZ (w:=w) (T:=(zaQ w n).1) hw n (by rw[<- ht]);obtain⟨X,x1,⟨x2,x3,x4,x5⟩,_⟩:=zju hw 14 [] [] (w.getD n 0) (-1) ht;have hX:(zaQ w n).1=X:=by rw[show (zaQ w n).1=[]++X from x1,zAI9]
 rw[hX]at hs f1 f2 f3 f5 hf2;unfold zjT at hs;rw[zAR9]at hs;obtain⟨M,hM,hMb⟩:=x2;have hmem:∃L,X.head?=some L/\w.getD n 0∈L.1:=⟨M,hM,by cases h:M.1 with|nil=>rw[h]at hMb;cases hMb|cons a l=>rw[h]at hMb;injection hMb with hMb;rw[hMb];exact zAV9 ..⟩
 have hwy:=zqD (w:=w) (key:=key) X (w.getD n 0) f1 hs.2 f2 x4 hmem;generalize zib w key X (w.getD n 0)=ws at hwy;obtain⟨w1,w2,w3,w4,w5⟩:=hwy;have hin:∀b∈ws,∃L∈X,b∈L.1:=fun b hb=>by
  obtain⟨i,hi⟩:=zDU9.1 hb;obtain⟨L,hL,hbL⟩:=w5 i b hi;exact⟨L,zAO9 hL,hbL⟩
 have hlt:∀b∈ws,b<w.length/64:=fun b hb=>by
  obtain⟨L,hL,hbL⟩:=hin b hb;exact((f1 L hL).lv.each b hbL).1
 refine⟨ws,⟨w1,fun b hb=>by have:=hlt b hb;omega,w2,w3,by omega⟩,fun b hb=>?_,hlt,?_,by omega,fun e=>by subst e;simp at w1,hf1,fun f hf hfw=>?_,fun b hb=>?_⟩
 ·obtain⟨L,hL,hbL⟩:=hin b hb;exact zfe (f1 L hL).lv.len (zkN hs.2 L hL) b hbL
 ·refine zED9.2 fun i j hi hj hij e=>?_;obtain⟨L,hL,hbL⟩:=w5 i _ (zAB9 hi);obtain⟨K,hK,hbK⟩:=w5 j _ (zAB9 hj);rw[e]at hbL;obtain⟨hi1,hi2⟩:=zAD9.1 hL;obtain⟨hj1,hj2⟩:=zAD9.1 hK;have:=(zED9.1 x3) i j hi1 hj1 hij;rw[hi2,hj2]at this;exact this _ hbL hbK
 ·obtain⟨L,hL,hbL⟩:=hin f hfw;unfold zhy at hf2;have h1:=zBE9.1 hf2 L hL;unfold zn4 at h1;have h2:=zBE9.1 h1 (f:Int) (zAS9.2 ⟨f,hf,rfl⟩);rw[zjz]at h2;simp[hbL]at h2
 ·obtain⟨L,hL,hbL⟩:=hin b hb;exact x5 L hL b hbL
theorem zq3 {n:Nat}{fr:List Int}(h:zfY n fr fr.length=true):∀f∈fr,1<=f/\f<n:=fun f hf=>by
 obtain⟨i,hi⟩:=zDU9.1 hf;have hlt:=(zAD9.1 hi).1;unfold zfY at h;have:=zBE9.1 h i (zCZ9.2 hlt);rw[zAQ9,hi]at this;unfold zmW at this;simp only[zET9,zAR9,decide_eq_true_eq]at this;exact this.1
theorem zoH {w:List Nat}{a:Int}{fr:List Int}(key:Nat)(h:zif w a fr=0):∃(n:Nat) (frN ws:List Nat),a=n/\n<w.length/\64<=w.length/\w.length<=131072/\fr=frN.map (fun(b:Nat)=>(b:Int))/\(zaQ w n).2=true/\zjT w (zaQ w n).1=true/\zqi w n key frN ws:=by
 unfold zif at h
 split at h
 rotate_left
 ·cases h
 rename_i hr;have hb:=(zey _ _).1 hr;obtain⟨n,rfl⟩:∃n:Nat,a=n:=⟨a.toNat,by omega⟩
 rw[zDD9]at h
 split at h
 rotate_left
 ·cases h
 rename_i hf;unfold zkr at h;rw[if_pos hr,zDD9]at h
 split at h
 rotate_left
 ·cases h
 rename_i ht
 split at h
 rotate_left
 ·cases h
 rename_i hs;unfold zkn at hf;obtain⟨e1,e2⟩:=zfQ w n;rw[e1,ht,e2 ht,zAR9,Bool.not_true,Bool.false_or]at hf;have he:=zq3 hf.1;have hfr:fr=(fr.map Int.toNat).map (fun(b:Nat)=>(b:Int)):=by
  rw[zDO9]
  conv=>lhs;rw[<- List.map_id fr]
  exact zEH9 fun f hf=>by have:=he f hf;simp;omega
 have hf1:∀f∈fr.map Int.toNat,1<=f/\f<w.length/64:=fun f hf=>by
  obtain⟨g,hg,rfl⟩:=zAS9.1 hf;have:=he g hg;omega
 obtain⟨ws,hS⟩:=zpQ key hb.2.2.1 ht hs hf1 (by rw[<- hfr];exact hf.2);exact⟨n,fr.map Int.toNat,ws,rfl,by omega,hb.1,hb.2.2.1,hfr,ht,hs,hS⟩
theorem zsA {left:Nat}{w:List Nat}{x:Pr}(h:(zdt left w x).2=3):w.length/2<=(zaB left w).length+1/\zbG left w.length=true:=by
 unfold zdt at h
 by_cases hp:zcc left w x=0
 ·rw[if_pos hp]at h;have:=(zfz hp).1
  split at h
  ·cases h
  split at h
  ·exact⟨by assumption,this⟩
  ·cases h
 ·rw[if_neg hp]at h;dsimp only at h;unfold zcc at h
  split at h
  ·split at h
   ·cases h
   ·unfold zbW at h
    split at h
    ·split at h<;>cases h
    ·cases h
  ·cases h
theorem zrZ {w:List Nat}{x:Pr}(h:(zb6 w x).2=3):27<=(zai w).pairs.length:=by
 unfold zb6 chg at h
 by_cases hc:zeC w x=0
 ·rw[if_pos hc]at h;have hl:=ziB (zjp hc);have h3:(zdt (w.getD 3 0) (w.drop 8) x).2=3:=by
   split at h
   ·cases h
   ·exact h
  obtain⟨h1,h2⟩:=zsA h3;have hp:(zai w).pairs=zaB (w.getD 3 0) (w.drop 8):=by unfold zai zbO;dsimp only;rw[if_pos h2]
  rw[hp];rw[zCA9,hl]at h1;omega
 ·rw[if_neg hc]at h;dsimp only at h;unfold zeC at h
  split at h
  ·split at h<;>cases h
  ·unfold zbJ at h
   split at h
   ·split at h<;>cases h
   ·cases h
theorem zd4:∀(l:List Pr) (x:Wk),x.q=0->(x.does l).q=0
 | [],_,h=>h
 | c::l,x,_=>zd4 l (x.one c) rfl
theorem zvK {fr:List Nat}{x:Wk}{at' b to low:Nat}(h:x.q=0):(x.root fr at' b to low).1.q=0:=by
 unfold Wk.root
 split
 ·exact h
 split
 ·exact h
 ·exact zd4 _ _ (zd4 _ x.up h)
theorem zqw {fr:List Nat}{at':Nat}:∀(up:List Nat) (b:Nat) (x:Wk),x.q=0->(Wk.split fr at' (b::up) x).1.q=0
 | [],b,x,h=>by
  unfold Wk.split
  split
  ·exact h
  ·exact zvK (zd4 _ _ (zd4 _ x.up h))
 | above::up,b,x,h=>by
  unfold Wk.split;have hc:∀to,(x.cut b to).q=0:=fun to=>zd4 _ _ (zd4 _ x.up h)
  split
  ·exact h
  split
  ·split
   ·exact zd4 _ _ (zqw up above _ (hc _))
   ·exact hc _
  ·exact zd4 _ _ (hc _)
theorem f33:ET.funcs.get 33=some T33:=z9 (by kernel_rfl) (by decide)
theorem HR.nilBox {B:Ba}{c:Cx}{H:List zu}{h:TH}(k:HR B c H h){b e z G M:Nat}{v v':PV}(hb:H[b]?=some (.row e z G M [v]))(hl:v'.cells.length=v.cells.length)
  (hw:∀(i:Nat) (x y:PV),v.cells[i]?=some x->v'.cells[i]?=some y->y=x\/(x=.nilsl/\∃p z,y=.list p z [])):HR B c (H.set b (.row e z G M [v'])) h:=by
 have hlt:=(zAD9.1 hb).1;refine⟨k.le,k.keep,k.old,fun p b' hb'=>⟨(k.S p b' hb').1,fun id x hx e'=>?_⟩,fun id x hx=>by rw[zCN9];exact k.own id x hx,fun id hx=>by rw[zCN9];exact k.lz id hx,k.inj,fun id o ho=>?_⟩
 ·have:=(k.S p b' hb').2 id x hx e';rw[zAX9 (fun e''=>by subst e'';rw[hb]at this;cases this)];exact this
 ·by_cases hi:b=id
  ·subst hi;rw[zBD9 hlt]at ho;injection ho with ho;subst ho;rcases k.obj _ _ hb with⟨h1,_⟩|⟨b1,d,G',M',cells,cs,r1,r2,r3,r4,r5,r6⟩
   ·cases h1
   ·refine .inr ⟨b1,d,G',M',cells,cs,r1,r2,r3,r4,r5,ER.one' (by rw[hl];exact r6.one v (by simp)) ?_⟩;have hall:LR (VR c h) v.cells cs:=by have:=r6.all;simpa using this
    refine⟨by rw[hl];exact hall.1,fun j x y hx hy=>?_⟩;obtain⟨x0,hx0⟩:∃x0,v.cells[j]?=some x0:=⟨_,zAB9 (by rw[<- hl];exact(zAD9.1 hx).1)⟩
    have hv:=hall.2 j x0 y hx0 hy;rcases hw j x0 x hx0 hx with rfl|⟨rfl,p,z,rfl⟩
    ·exact hv
    ·obtain rfl:y=.nilsl:=by cases hv with|pure hv=>cases hv;rfl
     exact .pure (.listnil _ _)
  ·rw[zAX9 hi]at ho;exact k.obj id o ho
theorem zoG {E:Env}{caught:Tr Unit}{rnd:Option Nat}{code:zbu}{s:FSt}{Q:FX->FSt->Prop}(b:Nat){e z G M:Nat}{v v':PV}(hb:s.H[b]?=some (.row e z G M [v]))(hl:v'.cells.length=v.cells.length)
  (hw:∀(i:Nat) (x y:PV),v.cells[i]?=some x->v'.cells[i]?=some y->y=x\/(x=.nilsl/\∃p z,y=.list p z []))
  (k:W E caught rnd code ⟨s.tm,s.df,s.H.set b (.row e z G M [v'])⟩ Q):W E caught rnd code s Q:=fun B c t rnd' hs hn =>
 k B c t rnd' ⟨hs.hr.nilBox hb hl hw,hs.tm,hs.df⟩ hn
theorem zpd (p r:Nat)(w:List Nat)(f:PV):∀(i:Nat) (x y:PV),(PV.agg [wv p w,.nilsl,f,iv 0]).cells[i]?=some x->(PV.agg [wv p w,.list r 2 [],f,iv 0]).cells[i]?=some y->y=x\/(x=.nilsl/\∃p z,y=.list p z []):=fun i x y hx hy=>by
 match i with
 | 0=>injection hx with hx;injection hy with hy;subst hx hy;exact .inl rfl
 | 1=>injection hx with hx;injection hy with hy;subst hx hy;exact .inr ⟨rfl,_,_,rfl⟩
 | 2=>injection hx with hx;injection hy with hy;subst hx hy;exact .inl rfl
 | 3=>injection hx with hx;injection hy with hy;subst hx hy;exact .inl rfl
 | k+4=>simp[PV.cells]at hx
@[reducible] def zj5 (R:List Pr × Nat × Nat):PV:=.tuple [.list 0 2 (R.1.map zag),iv (R.2.1:Nat),iv (R.2.2:Nat)]
theorem zqr (R:List Pr×Nat×Nat):Lb (zj5 R):=Lb.three (zcY _) (.int _ _) (.int _ _)
theorem ztk (p r:Nat)(w:List Nat)(a:Int)(pr:Pr)(fr:List Int)(no:Nat)(hno:¬no=0)(hA:FN ET 45 [wv p w,iv a,.list r 1 (fr.map iv)] (.ret (iv (no:Nat)))):FN ET 33 [wv p w,iv a,pv pr,.list r 1 (fr.map iv)] (.ret (zj5 ([],0,no))):=by
 refine zfn f33 (zqr _) ?_;have g:¬(no:Int)=0:=by omega
 (repeat(first|refine ze ?_|refine zgo ?_));(repeat refine ze ?_);refine zrg ?_;refine zca hA ?_;refine zfx ?_;refine zd ?_;(repeat(first|refine ze ?_|refine zgo ?_ (by simp(disch:=omega)only[go_sem,g]<;>rfl)));refine zfc ?_ ?_;rotate_left
 ·intro h;cases h
 intro _;(repeat(first|refine ze ?_|refine zgo ?_));refine zF ?_;(try simp only[zg,zj,zh,zi,zk]);refine zq (by simp only[T33,zI,go_sem]<;>rfl) ?_;simp only[zP];exact Frz.tupL ⟨.nil _ _,.int _ _,.int _ _,trivial⟩
def Wk.put (y:Wk)(lf:Nat)(pr:Pr):List Pr×Nat×Nat:=((y.does (zbv (64*lf) (zb6 (zD y.W lf) pr).1)).L,y.used,0)
structure zq5 (fr:List Nat)(r:Nat)(N:Nat)(y:Wk):Prop where
 fr':y.fr=frV r fr
 W:y.W.length=N
 L:y.L.length<=899900
 q:y.q=0
set_option maxHeartbeats 4000000 in
theorem zru (p r n:Nat)(w:List Nat)(pr:Pr)(fr ws:List Nat)(leaf:Nat)(x0:Wk)(pu:List Pr×Nat)(S:Wk×Nat×Nat×Nat)(R:List Pr×Nat×Nat)(hN:w.length<=131072)(hx0:x0=⟨p,0,w,[],frV r fr,0⟩)
  (hA:FN ET 45 [wv p w,iv n,frV r fr] (.ret (iv (0:Nat)))) (hW:FN ET 46 [wv p w,iv n,uv pr.1] (.ret (.list 0 1 (zdQ ws)))) (hwl:ws.length<=20) (hlf:ws[ws.length-1]?=some leaf) (hne:0<ws.length) (hin:64*leaf+64<=w.length)
  (hpu:FN ET 80 [wv p (zD w leaf),pv pr] (.ret (.tuple [.list 0 2 (pu.1.map zag),iv (pu.2:Nat)])))
  (h3:pu.2=3->FP ET 81 [wkv x0,.list 0 1 (zdQ ws),iv n] (.ret (wk4 S))/\S.1.fr=frV r fr/\(S.2.2.2=0->zq5 fr r w.length S.1/\64*S.2.1+64<=w.length))
  (hR1:¬pu.2=0->¬pu.2=3->R=([],0,pu.2)) (hR2:pu.2=3->¬S.2.2.2=0->R=([],0,S.2.2.2)) (hR3:pu.2=3->S.2.2.2=0->R=S.1.put (if S.2.2.1<=pr.1 then S.2.1 else leaf) pr) (hR4:pu.2=0->R=x0.put leaf pr) :
  FN ET 33 [wv p w,iv n,pv pr,frV r fr] (.ret (zj5 R)):=by
 refine zfn f33 (zqr _) ?_;have hx0f:Id0 x0.fr:=by rw[hx0];exact .list _ _ _
 have hidx:Id0 (wkv x0):=zcD hx0f;have hxv:wkv x0=.agg [wv p w,.list 0 2 [],frV r fr,iv 0]:=by rw[hx0];rfl
 have hxW:x0.W=w:=by rw[hx0]
 have hxp:x0.p=p:=by rw[hx0]
 have hat0:=zfG x0 hx0f leaf (by rw[hxW];exact hin) (by rw[hxW];exact hN);rw[hxp,hxW,hxv]at hat0;have hput0:zq5 fr r w.length x0:=⟨by rw[hx0],by rw[hxW],by rw[hx0];exact zAU9 _,by rw[hx0]⟩
 rw[hxv]at hidx;have hlv:(zdQ ws)[ws.length-1]?=some (iv leaf):=by rw[zAL9,hlf];rfl
 have e1:(ws.length:Int)-1=((ws.length-1:Nat):Int):=by omega
 have e2:ws.length-1<ws.length:=by omega
 (repeat(first|refine ze ?_|refine zgo ?_));(repeat refine ze ?_);refine zrg ?_;refine zca hA ?_;refine zfx ?_;refine zd ?_;(repeat(first|refine ze ?_|refine zgo ?_));refine zfc ?_ ?_
 ·intro h;cases h
 intro _;refine zQ ?_;show W _ _ _ _ _ _;(repeat refine ze ?_);refine zrg ?_;refine zca hW ?_;refine zfx ?_;refine zd ?_;(repeat(first|refine ze ?_|refine zgo ?_ (by simp(disch:=omega)only[go_sem,hlv,e1,e2,zf,zn,zAA9]<;>rfl)));refine zoG 1 (v':=.agg [wv p w,.list 0 2 [],frV r fr,iv 0]) rfl rfl (zpd p 0 w _) ?_;simp only[zBL9,zCL9];refine zdu (fun tm=>tm 1=iv n/\tm 6=.ptr 0 0 0 0 2/\tm 12=.list 0 1 (zdQ ws)/\tm 13=iv leaf/\tm 14=.ptr 1 0 0 0 4) ⟨by simp[upd,zB],by simp[upd,zB],by simp[upd,zB],by simp[upd,zB],by simp[upd,zB]⟩ ?_;rintro tm ⟨h1,h6,h12,h13,h14⟩;(repeat refine ze ?_);refine zap ?_;refine zdf hat0 ⟨hidx,.int _ _,trivial⟩ ?_ (by simp(disch:=omega)only[go_sem,h6,h13,h14,zAA9]<;>rfl);refine zdn hpu ?_ (by simp(disch:=omega)only[go_sem,h6,h13,h14,zAA9]<;>rfl);refine zdl ?_ (by simp(disch:=omega)only[go_sem,h6]<;>rfl);refine zR ?_;simp only[zo,zW,zg,go_sem];refine zdu (fun tm=>tm 1=iv n/\tm 6=.ptr 0 0 0 0 2/\tm 12=.list 0 1 (zdQ ws)/\tm 13=iv leaf/\tm 14=.ptr 1 0 0 0 4/\tm 16=iv pu.2) ⟨by simp[upd,h1],by simp[upd,h6],by simp[upd,h12],by simp[upd,h13],by simp[upd,h14],by simp[upd]⟩ ?_;clear h1 h6 h12 h13 h14;rintro tm ⟨h1,h6,h12,h13,h14,h16⟩
 by_cases hbad:¬pu.2=0/\¬pu.2=3
 ·rw[hR1 hbad.1 hbad.2];have g1:¬((pu.2:Nat):Int)=0:=by omega
  have g2:¬((pu.2:Nat):Int)=3:=by omega
  (repeat(first|refine ze ?_|refine zgo ?_ (by simp(disch:=omega)only[go_sem,h16,g1,g2]<;>rfl)));refine zfc ?_ ?_;rotate_left
  ·intro h;cases h
  intro _;(repeat(first|refine ze ?_|refine zgo ?_ (by simp(disch:=omega)only[go_sem,h16]<;>rfl)));refine zF ?_;(try simp only[zg,zj,zh,zi,zk]);refine zq (by simp only[T33,zI,go_sem]<;>rfl) ?_;simp only[zP];exact Frz.tupL ⟨.nil _ _,.int _ _,.int _ _,trivial⟩
 have h03:pu.2=0\/pu.2=3:=by omega
 clear hbad;(repeat refine ze ?_);refine zbN (Q:=fun yy s'=>yy=.norm/\s'.tm 1=iv n/\s'.tm 6=.ptr 0 0 0 0 2/\s'.tm 12=.list 0 1 (zdQ ws)/\s'.tm 13=iv leaf/\s'.tm 14=.ptr 1 0 0 0 4/\s'.tm 16=iv pu.2/\s'.tm 57=.bool false/\s'.df=[]/\s'.H=[.row 66 2 0 0 [pv pr],.row 107 4 0 0 [.agg [wv p w,.list 0 2 [],frV r fr,iv 0]]]) (zb ?_) ?_
 ·rcases h03 with h|h
  ·have g1:((pu.2:Nat):Int)=0:=by omega
   refine zfx ?_ (by simp(disch:=omega)only[go_sem,h16,g1]<;>rfl);refine zG ?_;simp only[zg,zj,zh,zi,zo,zk,if_true,↓reduceIte];exact⟨trivial,h1,h6,h12,h13,h14,by simp[upd,h16],by simp[upd],(by first|exact trivial|rfl),(by first|exact trivial|rfl)⟩
  ·have g1:¬((pu.2:Nat):Int)=0:=by omega
   have g2:=eq_true (show ((pu.2:Nat):Int)=3 by omega);refine zfx ?_ (by simp(disch:=omega)only[go_sem,h16,g1,g2]<;>rfl);refine zG ?_;simp only[zg,zj,zh,zi,zo,zk,if_true,↓reduceIte];exact⟨trivial,h1,h6,h12,h13,h14,by simp[upd,h16],by simp[upd],(by first|exact trivial|rfl),(by first|exact trivial|rfl)⟩
 clear h1 h6 h12 h13 h14 h16;rintro yy ⟨tm,df,H⟩ ⟨rfl,h1,h6,h12,h13,h14,h16,h57,rfl,rfl⟩;dsimp only at h1 h6 h12 h13 h14 h16 h57;simp only[zg,zj,zh,zi,zo,zk,if_true,reduceIte];refine zfc ?_ ?_ (by simp only[go_sem,h57]<;>rfl)
 ·intro h;cases h
 intro _;refine zQ ?_;show W _ _ _ _ _ _;(repeat refine ze ?_);refine zbN (Q:=fun yy s'=>yy=.norm/\s'.tm 1=iv n/\s'.tm 6=.ptr 0 0 0 0 2/\s'.tm 12=.list 0 1 (zdQ ws)/\s'.tm 13=iv leaf/\s'.tm 14=.ptr 1 0 0 0 4/\s'.tm 16=iv pu.2/\s'.tm 60=.bool (decide (pu.2=3))/\s'.df=[]/\s'.H=[.row 66 2 0 0 [pv pr],.row 107 4 0 0 [.agg [wv p w,.list 0 2 [],frV r fr,iv 0]]]) (zb ?_) ?_
 ·rcases h03 with h|h
  ·have g1:¬((pu.2:Nat):Int)=3:=by omega
   refine zfx ?_ (by simp(disch:=omega)only[go_sem,h16,g1]<;>rfl);refine zG ?_;simp only[zg,zj,zh,zi,zo,zk,if_true,↓reduceIte];exact⟨trivial,h1,h6,h12,h13,h14,by simp[upd,h16],by simp[upd,h],(by first|exact trivial|rfl),(by first|exact trivial|rfl)⟩
  ·have g2:=eq_true (show ((pu.2:Nat):Int)=3 by omega);refine zfx ?_ (by simp(disch:=omega)only[go_sem,h16,g2]<;>rfl);refine zG ?_;simp only[zg,zj,zh,zi,zo,zk,if_true,↓reduceIte];exact⟨trivial,h1,h6,h12,h13,h14,by simp[upd,h16],by simp[upd,h],(by first|exact trivial|rfl),(by first|exact trivial|rfl)⟩
 clear h1 h6 h12 h13 h14 h16 h57;rintro yy ⟨tm,df,H⟩ ⟨rfl,h1,h6,h12,h13,h14,h16,h60,rfl,rfl⟩;dsimp only at h1 h6 h12 h13 h14 h16 h60;simp only[zg,zj,zh,zi,zo,zk,if_true,reduceIte];refine zbN (Q:=fun yy s'=>(yy=.norm/\∃(v:Wk) (lf:Nat) (G:List zu),R=v.put lf pr/\zq5 fr r w.length v/\64*lf+64<=w.length/\s'.tm 6=.ptr 0 0 0 0 2/\s'.tm 13=iv lf/\s'.tm 14=.ptr 1 0 0 0 4/\s'.df=[]/\s'.H=.row 66 2 0 0 [pv pr]::.row 107 4 0 0 [.agg [wv v.p v.W,.list v.q 2 (v.L.map zag),frV r fr,iv v.used]]::G)\/(yy=.ret/\zdI ET T33 (fun e' H=>zbo H 0 e' (.ret (zj5 R))) .ret s')) ?_ ?_
 ·rcases h03 with h|h
  ·rw[h]at h60;refine zfc ?_ ?_ (by simp only[go_sem,h60]<;>rfl)
   ·intro h;cases h
   intro _;refine zQ ?_;(try simp only[zg,zj,zh,zi,zo,zk,if_true,reduceIte]);exact .inl ⟨(by first|exact trivial|rfl),x0,leaf,[],hR4 h,hput0,hin,h6,h13,h14,(by first|exact trivial|rfl),by rw[hx0];rfl⟩
  ·obtain⟨hsp,hSf,hSp⟩:=h3 h;have hR2:=hR2 h;have hR3:=hR3 h;rw[h]at h60;obtain⟨S1,S2,S3,S4⟩:=S;dsimp only at hSf hSp hR2 hR3;have hS1v:wkv S1=.agg [wv S1.p S1.W,.list S1.q 2 (S1.L.map zag),frV r fr,iv S1.used]:=by unfold wkv;rw[hSf]
   unfold wk4 at hsp;dsimp only at hsp;rw[hS1v,hxv]at hsp;refine zfc ?_ ?_ (by simp only[go_sem,h60]<;>rfl);rotate_left
   ·intro h;cases h
   intro _;(repeat refine ze ?_);refine zrg ?_ (by simp(disch:=omega)only[go_sem,h1,h12,h14]<;>rfl);refine zcb (by first|rfl|(simp only[go_sem]<;>rfl)) (by simp only[go_sem]<;>rfl) hsp rfl ?_ ?_;(repeat(first|exact trivial|refine And.intro ?_ ?_|exact Id0.int _ _|exact Id0.bool _|exact Id0.list _ _ _|exact Id0.elem _|exact Id0.nilsl|exact Id0.str _|exact zce _ _ _))
   ·exact hidx
   ·(repeat(first|exact trivial|refine And.intro ?_ ?_|exact Id0.int _ _|exact Id0.bool _|exact Id0.list _ _ _|exact Id0.elem _|exact Id0.nilsl|exact Id0.str _|exact zce _ _ _))
   refine zfx ?_;refine zd ?_
   by_cases h0:S4=0
   rotate_left
   ·have g2:¬(S4:Int)=0:=by omega
    rw[hR2 h0];(repeat(first|refine ze ?_|refine zgo ?_ (by simp(disch:=omega)only[go_sem,g2,zf,zn]<;>rfl)));refine zfc ?_ ?_;rotate_left
    ·intro h;cases h
    intro _;(repeat(first|refine ze ?_|refine zgo ?_));refine zF ?_;(try simp only[zg,zj,zh,zi,zo,zk,if_true,reduceIte]);refine .inr ⟨(by first|exact trivial|rfl),?_⟩;refine zq (vs:=[.nilsl,iv 0,iv S4]) ?_ ?_
    ·simp[T33,zI,okv,upd]
    ·exact Frz.tupL ⟨.nil _ _,.int _ _,.int _ _,trivial⟩
   have g2:(S4:Int)=0:=by omega
   obtain⟨hSp1,hSp2⟩:=hSp h0;have hR3:=hR3 h0;(repeat(first|refine ze ?_|refine zgo ?_ (by simp(disch:=omega)only[go_sem,g2,zf,zn]<;>rfl)));refine zfc ?_ ?_
   ·intro h;cases h
   intro _;refine zQ ?_;show W _ _ _ _ _ _
   by_cases hlo:S3<=pr.1
   ·have g3:(S3:Int)<=(pr.1:Nat):=by omega
    rw[if_pos hlo]at hR3;(repeat(first|refine ze ?_|refine zgo ?_ (by simp(disch:=omega)only[go_sem,h6,h14,g3,zf,zn]<;>rfl)));refine zfc ?_ ?_;rotate_left
    ·intro h;cases h
    intro _;(repeat refine ze ?_);refine zrg ?_;refine zG ?_;simp only[zg,zj,zh,zi,zo,zk,if_true,↓reduceIte];refine .inl ⟨(by first|exact trivial|rfl),S1,S2,_,hR3,hSp1,hSp2,by simp[upd,h6],by simp[upd],by simp[upd,h14],(by first|exact trivial|rfl),rfl⟩
   ·have g3:¬(S3:Int)<=(pr.1:Nat):=by omega
    rw[if_neg hlo]at hR3;(repeat(first|refine ze ?_|refine zgo ?_ (by simp(disch:=omega)only[go_sem,h6,h14,g3,zf,zn]<;>rfl)));refine zfc ?_ ?_
    ·intro h;cases h
    intro _;refine zQ ?_;(try simp only[zg,zj,zh,zi,zo,zk,if_true,reduceIte]);refine .inl ⟨(by first|exact trivial|rfl),S1,leaf,_,hR3,hSp1,hin,by simp[upd,h6],by simp[upd,h13],by simp[upd,h14],(by first|exact trivial|rfl),rfl⟩
 clear h1 h6 h12 h13 h14 h16 h60;rintro yy ⟨tm,df,H⟩ (⟨rfl,v,lf,G,hR,hv,hlin,h6,h13,h14,rfl,rfl⟩|⟨rfl,hfin⟩);rotate_left
 ·(try simp only[zg,zj,zh,zi,zo,zk,if_true,reduceIte]);exact hfin
 dsimp only at h6 h13 h14;simp only[zg,zj,zh,zi,zo,zk,if_true,reduceIte];obtain⟨hvf,hvW,hvL,hvq⟩:=hv;have hv0:Id0 v.fr:=by rw[hvf];exact .list _ _ _
 have hvv:wkv v=.agg [wv v.p v.W,.list v.q 2 (v.L.map zag),frV r fr,iv v.used]:=by unfold wkv;rw[hvf]
 have hidv:=zcD hv0;have hat2:=zfG v hv0 lf (by omega) (by omega);have hblen:=zcf v.W lf (by omega);have hpu2:=zkX v.p (zD v.W lf) pr (by rw[hblen];decide);have hpa:=zin (x:=pr) hblen;have hdo2:=ze4 v hv0 (64*lf) 0 (zb6 (zD v.W lf) pr).1 (by omega) (by omega) fun c hc=>by have:=hpa.2 c hc;omega
 unfold Wk.put at hR;have hqf:(v.does (zbv (64*lf) (zb6 (zD v.W lf) pr).1)).fr=frV r fr:=(zcz _ v).2.2.1.trans hvf;have hqu:(v.does (zbv (64*lf) (zb6 (zD v.W lf) pr).1)).used=v.used:=(zcz _ v).2.2.2;have hqq:=zd4 (zbv (64*lf) (zb6 (zD v.W lf) pr).1) v hvq;generalize v.does (zbv (64*lf) (zb6 (zD v.W lf) pr).1)=q at *
 have hqv:wkv q=.agg [wv q.p q.W,.list q.q 2 (q.L.map zag),frV r fr,iv q.used]:=by unfold wkv;rw[hqf]
 generalize zb6 (zD v.W lf) pr=pr2 at *
 have w4:IntKind.i64.wrap ((64:Int)*(lf:Int))=((64*lf:Nat):Int):=by rw[wrap_i64 (by omega) (by omega)];omega
 rw[hvv]at hat2 hidv hdo2;rw[hqv]at hdo2;(repeat refine ze ?_);refine zap ?_;refine zdf hat2 ⟨hidv,.int _ _,trivial⟩ ?_ (by simp(disch:=omega)only[go_sem,h6,h13,h14,zAA9]<;>rfl);refine zdn hpu2 ?_ (by simp(disch:=omega)only[go_sem,h6,h13,h14,zAA9]<;>rfl);refine zdl ?_ (by simp(disch:=omega)only[go_sem,h6]<;>rfl);refine zR ?_;simp only[zo,zW,zg,go_sem];(repeat refine ze ?_);refine zrg ?_ (by simp(disch:=omega)only[go_sem,h13,h14,w4]<;>rfl);refine zcb (by first|rfl|(simp only[go_sem]<;>rfl)) (by simp only[go_sem]<;>rfl) hdo2 rfl ?_ ?_;(repeat(first|exact trivial|refine And.intro ?_ ?_|exact Id0.int _ _|exact Id0.bool _|exact Id0.list _ _ _|exact Id0.elem _|exact Id0.nilsl|exact Id0.str _|exact zce _ _ _))
 ·exact hidv
 ·(repeat(first|exact trivial|refine And.intro ?_ ?_|exact Id0.int _ _|exact Id0.bool _|exact Id0.list _ _ _|exact Id0.elem _|exact Id0.nilsl|exact Id0.str _|exact zce _ _ _))
 refine zfx ?_ (by simp(disch:=omega)only[go_sem,h14]<;>rfl);refine zd ?_;(repeat refine ze ?_);refine zap ?_;refine zdl ?_ (by simp(disch:=omega)only[go_sem,h14]<;>rfl);refine zR ?_;simp only[zo,zW,zg,go_sem];refine zF ?_;(try simp only[zg,zj,zh,zi,zo,zk,if_true,reduceIte]);refine zq (vs:=[.list q.q 2 (q.L.map zag),iv q.used,iv 0]) ?_ ?_
 ·simp[T33,zI,okv,upd]
 ·rw[hR,hqq,<- hqu];exact Frz.tupL ⟨.list _ _ _,.int _ _,.int _ _,trivial⟩
theorem zjE {α:Type}{l:List α}(h:l ≠ []):∃i a,l=i++[a]:=⟨l.dropLast,l.getLast h,(List.dropLast_concat_getLast h).symm⟩
theorem ztQ (p r:Nat)(w:List Nat)(a:Int)(pr:Pr)(fr:List Int)(hs:zbH w.length)(hfl:fr.length<100000):∃R:List Pr×Nat×Nat,FN ET 33 [wv p w,iv a,pv pr,.list r 1 (fr.map iv)] (.ret (zj5 R))/\R.2.1<=fr.length/\R.1.length<=900000:=by
 have hA:=zlD p r w a fr hs (by omega)
 by_cases h0:zif w a fr=0
 rotate_left
 ·exact⟨_,ztk p r w a pr fr _ h0 hA,zAU9 _,zAU9 _⟩
 obtain⟨n,frN,ws,rfl,hn,h64,hN,rfl,ht,hset,hS⟩:=zoH pr.1 h0;rw[h0]at hA;rw[zmA]at hA⊢;obtain⟨s1,s2,s3,s4,s5,s6,s7,s8,s9⟩:=hS;have hW:=zoz p w n pr.1 ws hN hn s1;obtain⟨init,leaf,rfl⟩:=zjE s6;have hleaf:leaf∈init++[leaf]:=by simp
 have hin:64*leaf+64<=w.length:=by have:=s3 leaf hleaf;omega
 have hpu:=zkX p (zD w leaf) pr (by rw[zcf _ _ hin];decide);have hlong:=zrZ (w:=zD w leaf) (x:=pr);have hfn:frN.length<100000:=by simpa using hfl
 have hpa:=zin (x:=pr) (zcf w leaf hin);obtain⟨x0,hx0⟩:∃x0:Wk,x0=⟨p,0,w,[],frV r frN,0⟩:=⟨_,rfl⟩
 have hxW:x0.W=w:=by rw[hx0]
 have hI:(zb6 (zD w leaf) pr).2=3->zi9 frN r x0 (leaf::init.reverse):=fun h=>by
  have hrev:leaf::init.reverse=(init++[leaf]).reverse:=by simp
  refine⟨by rw[hx0],by rw[hxW];exact hN,fun c hc=>?_,?_,fun c hc=>?_,fun c hc=>?_,fun f hf=>?_,fun f hf hc=>?_,?_,?_,by rw[hx0];exact zAU9 _,hfn⟩
  ·rw[hrev,zEU9]at hc;have:=s3 c hc;rw[hxW];omega
  ·rw[hrev];exact List.pairwise_reverse.2 (s4.imp Ne.symm)
  ·rw[hrev,zEU9]at hc;rw[hxW];exact s2 c hc
  ·simp at hc;subst hc;rw[hxW];exact hlong h
  ·have:=s7 f hf;rw[hxW];omega
  ·rw[hrev,zEU9]at hc;exact s8 f hf hc
  ·rw[hrev,List.length_reverse];omega
  ·rw[hrev,List.length_reverse,hx0];show 0+300*_<900000;omega
 have hway:init.reverse.reverse++[leaf]=init++[leaf]:=by rw[List.reverse_reverse]
 obtain⟨S,hSd⟩:∃S,S=Wk.split frN n (leaf::init.reverse) x0:=⟨_,rfl⟩
 have hO:(zb6 (zD w leaf) pr).2=3->ztg frN x0 (init.reverse.length+1) S:=fun h=>by rw[hSd];exact zjD _ _ _ (hI h)
 have hq:S.1.q=0:=by rw[hSd];exact zqw _ _ _ (by rw[hx0])
 have hfp:(zb6 (zD w leaf) pr).2=3->FP ET 81 [wkv x0,.list 0 1 (zdQ (init++[leaf])),iv n] (.ret (wk4 S)):=fun h=>by
  rw[<- hway,hSd];exact zlI frN r n init.reverse leaf x0 0 (hI h) (by rw[hxW];exact hn)
 have hil:(init.reverse.length+1)<=14:=by simpa using s5
 have hP:(zb6 (zD w leaf) pr).2=3->S.2.2.2=0->zq5 frN r w.length S.1/\64*S.2.1+64<=w.length:=fun h h2=>by
  have o:=hO h;refine⟨⟨o.fr'.trans (by rw[hx0]),o.W.trans (by rw[hxW]),?_,hq⟩,by have:=o.inn h2;rw[hxW]at this;exact this⟩;have:=o.L;have h0:x0.L.length=0:=by rw[hx0];rfl
  omega
 clear hSd hI hlong;obtain⟨R,hR1,hR2,hR3,hR4⟩:∃R:List Pr×Nat×Nat,(¬(zb6 (zD w leaf) pr).2=0->¬(zb6 (zD w leaf) pr).2=3->R=([],0,(zb6 (zD w leaf) pr).2))/\((zb6 (zD w leaf) pr).2=3->¬S.2.2.2=0->R=([],0,S.2.2.2))/\((zb6 (zD w leaf) pr).2=3->S.2.2.2=0->R=S.1.put (if S.2.2.1<=pr.1 then S.2.1 else leaf) pr)/\((zb6 (zD w leaf) pr).2=0->R=x0.put leaf pr):=by
  by_cases c0:(zb6 (zD w leaf) pr).2=0
  ·exact⟨_,fun h=>absurd c0 h,fun h=>absurd (c0.symm.trans h) (by decide),fun h=>absurd (c0.symm.trans h) (by decide),fun _=>rfl⟩
  by_cases c3:(zb6 (zD w leaf) pr).2=3
  ·by_cases c4:S.2.2.2=0
   ·exact⟨_,fun _ h=>absurd c3 h,fun _ h=>absurd c4 h,fun _ _=>rfl,fun h=>absurd h c0⟩
   ·exact⟨_,fun _ h=>absurd c3 h,fun _ _=>rfl,fun _ h=>absurd h c4,fun h=>absurd h c0⟩
  ·exact⟨_,fun _ _=>rfl,fun h=>absurd h c3,fun h=>absurd h c3,fun h=>absurd h c0⟩
 refine⟨R,zru p r n w pr frN (init++[leaf]) leaf x0 _ S R hN hx0 hA hW (by omega) (by simp) (by simp) hin hpu (fun h=>⟨hfp h,(hO h).fr'.trans (by rw[hx0]),hP h⟩) hR1 hR2 hR3 hR4,?_⟩;rw[zAA9];have hputf:∀(y:Wk) (lf:Nat),64*lf+64<=y.W.length->y.L.length<=899900->y.used<=frN.length->(y.put lf pr).2.1<=frN.length/\(y.put lf pr).1.length<=900000:=fun y lf h1 h2 h3=>by
  have k:=zin (x:=pr) (zcf y.W lf h1);have d:=zcz (zbv (64*lf) (zb6 (zD y.W lf) pr).1) y;rw[zfE]at d;unfold Wk.put;exact⟨h3,by dsimp only;rw[d.2.1];omega⟩
 by_cases c0:(zb6 (zD w leaf) pr).2=0
 ·rw[hR4 c0];exact hputf x0 leaf (by rw[hxW];exact hin) (by rw[hx0];exact zAU9 _) (by rw[hx0];exact zAU9 _)
 by_cases c3:(zb6 (zD w leaf) pr).2=3
 ·by_cases c4:S.2.2.2=0
  ·rw[hR3 c3 c4];obtain⟨hp1,hp2⟩:=hP c3 c4;refine hputf S.1 _ ?_ hp1.L (hO c3).used;rw[hp1.W]
   split
   ·exact hp2
   ·exact hin
  ·rw[hR2 c3 c4];exact⟨zAU9 _,zAU9 _⟩
 ·rw[hR1 c0 c3];exact⟨zAU9 _,zAU9 _⟩
structure zjh (n m:zE):Prop where
 level:m.level=n.level
 sib:m.sib=n.sib
 low:m.low=n.low
 left:m.left=n.left
def ziC (ns ms:List zE):Prop:=ns.length=ms.length/\∀(i:Nat) (n m:zE),ns[i]?=some n->ms[i]?=some m->zjh n m
theorem ziC.snoc {ns ms:List zE}{n m:zE}(h:ziC ns ms)(k:zjh n m):ziC (ns++[n]) (ms++[m]):=by
 refine⟨by simp[h.1],fun i a b ha hb=>?_⟩;rcases zCM9 i ns.length with hi|hi
 ·rw[zAP9 hi]at ha;rw[zAP9 (by rw[<- h.1];exact hi)]at hb;exact h.2 i a b ha hb
 ·rw[zAN9 hi]at ha;rw[zAN9 (by rw[<- h.1];exact hi)]at hb;obtain rfl:=zBH9.1 (zAO9 ha);obtain rfl:=zBH9.1 (zAO9 hb);exact k
theorem ziC.goes {ns ms:List zE}{n m:zE}{lv:Int}(h:ziC ns ms)(k:zjh n m):zbL ms m lv=zbL ns n lv:=by
 unfold zbL;rw[zCE9,zCE9,<- h.1]
 cases hn:ns[ns.length-1]? with
 | none =>
  have hm:ms[ns.length-1]?=none:=by
   rw[List.getElem?_eq_none_iff]at hn⊢;rw[<- h.1];exact hn
  rw[hm];simp only;rw[k.low,k.level]
 | some z =>
  have hlt:=(zAD9.1 hn).1;obtain⟨y,hy⟩:∃y,ms[ns.length-1]?=some y:=⟨_,zAB9 (by rw[<- h.1];exact hlt)⟩
  rw[hy];have e:=h.2 _ _ _ hn hy;simp only;rw[k.low,k.level,e.low,e.level]
structure zji (w v:List Nat):Prop where
 len:v.length=w.length
 head:∀b,zbP (zD w b)=true->zbP (zD v b)=true/\zjh (zai (zD w b)) (zai (zD v b))
theorem zjN {w v:List Nat}(hwv:zji w v){lv:Int}{s:List Nat}{B:List Nat}{N:List zE}:∀(k:Nat) (seen bs:List Nat) (ns ms:List zE) (b:Nat),ziC ns ms->zbC w lv k seen bs ns b=some (s,B,N)->∃M,zbC v lv k seen bs ms b=some (s,B,M)/\ziC N M
 | 0,seen,bs,ns,ms,b,h,hr=>by
  rw[zbC]at hr⊢
  split at hr
  ·rename_i hb;injection hr with hr;injection hr with r1 hr;injection hr with r2 r3;subst r1 r2 r3;exact⟨ms,by rw[if_pos hb],h⟩
  ·cases hr
 | k+1,seen,bs,ns,ms,b,h,hr=>by
  rw[zbC]at hr⊢
  split at hr
  ·rename_i hb;injection hr with hr;injection hr with r1 hr;injection hr with r2 r3;subst r1 r2 r3;exact⟨ms,by rw[if_pos hb],h⟩
  rename_i hb
  split at hr
  ·cases hr
  rename_i hbad
  split at hr
  rotate_left
  ·cases hr
  rename_i hg;rw[zAR9]at hg;obtain⟨e1,e2⟩:=hwv.head b hg.1;rw[if_neg hb,hwv.len,if_neg hbad,if_pos (by rw[zAR9];exact⟨e1,by rw[h.goes e2];exact hg.2⟩),e2.sib];exact zjN hwv k _ _ _ _ _ (h.snoc e2) hr
theorem zpk {w v:List Nat}(hwv:zji w v):∀(d:Nat) (seen:List Nat) (acc acc':List Lev) (b:Nat) (lv:Int),(zc7 w d seen acc b lv).1 ≠ []->(zc7 v d seen acc' b lv).1 ≠ []
 | 0,_,_,_,_,_,h=>absurd rfl h
 | d+1,seen,acc,acc',b,lv,h=>by
  rw[zc7]at h⊢
  cases hr:zbC w lv (w.length/64) seen [] [] b with
  | none=>rw[hr]at h;exact absurd rfl h
  | some r =>
   obtain⟨s',bs,ns⟩:=r;obtain⟨M,hM,hA⟩:=zjN hwv _ _ _ _ [] _ ⟨rfl,fun i n m hn=>by simp at hn⟩ hr;rw[hr]at h;rw[hwv.len,hM]
   cases ns with
   | nil=>exact absurd rfl h
   | cons n ns =>
    cases M with
    | nil=>have:=hA.1;simp at this
    | cons m M =>
     have e:=hA.2 0 n m rfl rfl;simp only at h⊢;rw[e.level]
     by_cases hl:n.level=0
     ·rw[if_pos hl];simp
     ·rw[if_neg hl]at h⊢;rw[e.left];exact zpk hwv d _ _ _ _ _ h
theorem zlX (b:Nat):∀(l:List Pr) (w:List Nat),64*b+64<=w.length->(∀s∈l,s.1<64)->zD (zby w (zbv (64*b) l)) b=zby (zD w b) l
 | [],_,_,_=>rfl
 | s::l,w,hb,h=>by
  have h1:=h s (zAV9 ..);have e1:zby w (zbv (64*b) (s::l))=zby (w.set (64*b+s.1) s.2) (zbv (64*b) l):=rfl;have e2:zby (zD w b) (s::l)=zby ((zD w b).set s.1 s.2) l:=rfl;rw[e1,e2,zlX b l _ (by simpa using hb) fun t ht=>h t (zAW9 _ ht)]
  congr 1
  unfold zD
  apply zFF9
  intro j;rw[zBT9,zBF9,zFE9,zFE9,zBT9,zBF9];simp only[zCA9,zBA9]
  by_cases hj:s.1=j
  ·subst hj;rw[if_pos (by omega),if_pos rfl,if_pos (by omega),if_pos rfl,if_pos (by omega)]
  ·rw[if_neg hj]
   by_cases hj2:64*b+j<64*b+64
   ·rw[if_pos hj2,if_neg (by omega),if_pos hj2]
   ·rw[if_neg hj2,if_neg hj2]
theorem zjj (i:Nat):∀(l:List Pr) (w:List Nat),(∀s∈l,s.1≠i)->(zby w l).getD i 0=w.getD i 0
 | [],_,_=>rfl
 | s::l,w,h=>by
  have e:zby w (s::l)=zby (w.set s.1 s.2) l:=rfl;rw[e,zjj i l _ fun t ht=>h t (zAW9 _ ht),zAQ9,zAX9 (h s (zAV9 ..)),<- zAQ9]
theorem znB (i x:Nat):∀(l:List Pr) (w:List Nat),(∀s∈l,s.1=i->s.2<=x)->w.getD i 0<=x->(zby w l).getD i 0<=x
 | [],_,_,h=>h
 | s::l,w,h,hw=>by
  have e:zby w (s::l)=zby (w.set s.1 s.2) l:=rfl;rw[e];refine znB i x l _ (fun t ht=>h t (zAW9 _ ht)) ?_;rw[zAQ9,zFE9]
  split
  ·rename_i hi
   split
   ·exact h s (zAV9 ..) hi
   ·exact zAU9 _
  ·rw[<- zAQ9];exact hw
theorem zr4 {w:List Nat}{v no:Nat}{r:List Pr×Nat}:∀c∈(chg w v no r).1,(c.1=4/\c.2=v)\/8<=c.1:=fun c hc=>by
 unfold chg at hc
 split at hc
 ·split at hc
  ·rcases zBK9.1 hc with hc|hc
   ·unfold zeh at hc
    split at hc
    ·simp at hc
    ·simp at hc;subst hc;exact .inl ⟨rfl,rfl⟩
   ·unfold zcy at hc;obtain⟨y,hy,rfl⟩:=zAS9.1 hc
    right;dsimp only;omega
  ·simp at hc
 ·simp at hc
theorem zuo {w:List Nat}{l:List Pr}(hw:zbP w=true)(h:∀c∈l,(c.1=4/\c.2<=2)\/8<=c.1):zbP (zby w l)=true/\zjh (zai w) (zai (zby w l)):=by
 have hg:∀i,i<8->i≠4->(zby w l).getD i 0=w.getD i 0:=fun i hi h4=>zjj i l w fun s hs e=>by
  rcases h s hs with h|h<;>omega
 rw[zhX,zAR9]at hw;obtain⟨h8,h1⟩:=hw;unfold zdN at h8;simp only[zAR9,decide_eq_true_eq]at h8;obtain⟨⟨⟨⟨⟨⟨⟨k0,k1⟩,k2⟩,k3⟩,k4⟩,k5⟩,k6⟩,k7⟩:=h8;have h4:(zby w l).getD 4 0<=2:=znB 4 2 l w (fun s hs e=>by rcases h s hs with h|h<;>omega) k4;refine⟨?_,⟨?_,?_,?_,?_⟩⟩
 ·rw[zhX,zAR9];refine⟨?_,by rw[hg 0 (by decide) (by decide),hg 3 (by decide) (by decide)];exact h1⟩;unfold zdN;simp only[zAR9,decide_eq_true_eq];rw[zep,hg 0 (by decide) (by decide),hg 1 (by decide) (by decide),hg 5 (by decide) (by decide),hg 6 (by decide) (by decide),hg 7 (by decide) (by decide)];exact⟨⟨⟨⟨⟨⟨⟨k0,k1⟩,k2⟩,k3⟩,h4⟩,k5⟩,k6⟩,k7⟩
 ·show zgq _=zgq _;rw[hg 0 (by decide) (by decide)]
 ·exact hg 1 (by decide) (by decide)
 ·exact hg 2 (by decide) (by decide)
 ·exact hg 3 (by decide) (by decide)
theorem zra {w:List Nat}{b key:Nat}(hb:64*b+64<=w.length):zji w (zby w (zbv (64*b) (zdS (zD w b) key).1)):=by
 have ha:=zkU (key:=key) (zcf w b hb);refine⟨zep _ _,fun c hc=>?_⟩
 by_cases h:c=b
 ·subst h;rw[zlX c _ w hb ha.2];exact zuo hc fun s hs=>by
   rcases zr4 s hs with h|h
   ·exact .inl ⟨h.1,by omega⟩
   ·exact .inr h
 ·rw[zj0 (Ne.symm h) _ _ ha.2];exact⟨hc,⟨rfl,rfl,rfl,rfl⟩⟩
theorem zr7 {w:List Nat}{n b key:Nat}(hb:64*b+64<=w.length)(hn:(zbR w n).1 ≠ [])(hne:¬n/64=b):(zbR (zby w (zbv (64*b) (zdS (zD w b) key).1)) n).1 ≠ []:=by
 have ha:=zkU (key:=key) (zcf w b hb);have hg:(zby w (zbv (64*b) (zdS (zD w b) key).1)).getD n 0=w.getD n 0:=zjj n _ w fun s hs e=>by
  unfold zbv at hs;obtain⟨y,hy,rfl⟩:=zAS9.1 hs;have:=ha.2 y hy;dsimp only at e;omega
 unfold zbR at hn⊢;rw[hg];exact zpk (zra hb) _ _ _ _ _ _ hn
theorem f12:ET.funcs.get 12=some T12:=z9 (by kernel_rfl) (by decide)
@[reducible] def zmP (L:List Pr) (n:Nat) (bs:List Nat) (no:Nat):PV:=.tuple [.list 0 2 (L.map zag),iv n,.list 0 1 (bs.map fun (b:Nat)=>iv (b:Int)),iv no]
theorem zqP (L:List Pr)(n:Nat)(bs:List Nat)(no:Nat):Lb (zmP L n bs no):=.tuple fun v hv=>by
 simp at hv;rcases hv with rfl|rfl|rfl|rfl
 ·exact zcY _
 ·exact .int _ _
 ·exact Lb.ivn _
 ·exact .int _ _
theorem zuq {H:List zu}(q:Nat)(hq:q=0)(L:List Pr)(n no:Nat):Frz H 0 (.tuple [.list q 2 (L.map zag),iv (n:Int),.nilsl,iv (no:Int)]) (zmP L n [] no):=by
 subst hq;exact Frz.tupL ⟨.list _ _ _,.int _ _,.nil _ _,.int _ _,trivial⟩
theorem zsf (p r:Nat)(w:List Nat)(a:Int)(key:Nat)(fr:List Int)(no:Nat)(hno:¬no=0)(hA:FN ET 45 [wv p w,iv a,.list r 1 (fr.map iv)] (.ret (iv (no:Nat)))):FN ET 12 [wv p w,iv a,uv key,.list r 1 (fr.map iv)] (.ret (zmP [] 0 [] no)):=by
 refine zfn f12 (zqP _ _ _ _) ?_;have g:¬(no:Int)=0:=by omega
 (repeat(first|refine ze ?_|refine zgo ?_));(repeat refine ze ?_);refine zrg ?_;refine zca hA ?_;refine zfx ?_;refine zd ?_;(repeat(first|refine ze ?_|refine zgo ?_ (by simp(disch:=omega)only[go_sem,g]<;>rfl)));refine zfc ?_ ?_;rotate_left
 ·intro h;cases h
 intro _;(repeat(first|refine ze ?_|refine zgo ?_));refine zF ?_;(try simp only[zg,zj,zh,zi,zk]);refine zq (by simp only[T12,zI,go_sem]<;>rfl) ?_;simp only[zP];exact Frz.tupL ⟨.nil _ _,.int _ _,.nil _ _,.int _ _,trivial⟩
theorem znj {w:List Nat}(hw:w.length<=131072):∀(d:Nat) (seen:List Nat) (acc:List Lev) (b:Nat) (lv:Int),(∀L∈acc,L.1.length<=w.length/64)->∀L∈(zc7 w d seen acc b lv).1,L.1.length<=w.length/64
 | 0,_,_,_,_,_,L,hL=>by simp[zc7]at hL
 | d+1,seen,acc,b,lv,h,L,hL=>by
  rw[zc7]at hL
  cases hr:zbC w lv (w.length/64) seen [] [] b with
  | none=>rw[hr]at hL;simp at hL
  | some r =>
   obtain⟨s',bs,ns⟩:=r;obtain⟨_,_,hb⟩:=zen (N:=w.length/64) _ _ _ _ _ _ hr (LvF.nil w) (fun n hn=>by simp at hn) (by simp);rw[hr]at hL
   cases ns with
   | nil=>simp at hL
   | cons n ns =>
    simp only at hL;have h2:∀K∈acc++[(bs,n::ns)],K.1.length<=w.length/64:=fun K hK=>by
     rcases zBK9.1 hK with hK|hK
     ·exact h K hK
     ·obtain rfl:=zBH9.1 hK;exact hb
    by_cases hl:n.level=0
    ·rw[if_pos hl]at hL;exact h2 L hL
    ·rw[if_neg hl]at hL;exact znj hw d _ _ _ _ h2 L hL
theorem zu1 (L:List zE):∃(P:List Pr) (f:Bool),ze7 L=.ret (.tuple [psv 0 P,.bool f])/\P.length<=(zbS L).length:=by
 unfold ze7
 split
 ·exact⟨_,_,rfl,zAK9 _⟩
 ·exact⟨[],_,rfl,zAU9 _⟩
set_option maxHeartbeats 4000000 in
theorem zp7 (p r n key:Nat)(w:List Nat)(ws:List Nat)(leaf:Nat)(x0 x1:Wk)(tk:List Pr×Nat)(T:List Lev)(LL:Lev)(P:List Pr)(f f2:Bool)(hN:w.length<=131072)(hx0:x0=⟨p,0,w,[],frV r [],0⟩)
  (hA:FN ET 45 [wv p w,iv n,frV r []] (.ret (iv (0:Nat)))) (hW:FN ET 46 [wv p w,iv n,uv key] (.ret (.list 0 1 (zdQ ws)))) (hwl:ws.length<=20) (hlf:ws[ws.length-1]?=some leaf) (hne:0<ws.length) (hin:64*leaf+64<=w.length)
  (htk:FN ET 47 [wv p (zD w leaf),uv key] (.ret (.tuple [.list 0 2 (tk.1.map zag),iv (tk.2:Nat)])))
  (hdo:tk.2=0->FP ET 49 [wkv x0,iv (64*leaf:Nat),.list 0 2 (tk.1.map zag)] (.ret (wkv x1))/\x1.fr=frV r []/\x1.q=0/\x1.used=0)
  (hlv:tk.2=0->FN ET 50 [wv x1.p x1.W,iv n] (.ret (.tuple [zde T,.bool f]))) (hT:T[T.length-1]?=some LL) (hTl:0<T.length/\T.length<=14) (hLL:LL.2.length<=40)
  (hpa:FN ET 51 [zbX 0 0 LL.1 LL.2] (.ret (.tuple [psv 0 P,.bool f2]))) (hP:P.length<=100000) :
  FN ET 12 [wv p w,iv n,uv key,frV r []] (.ret (zmP (if tk.2=0 then x1.L else[]) 0 [] tk.2)):=by
 refine zfn f12 (zqP _ _ _ _) ?_;have hx0f:Id0 x0.fr:=by rw[hx0];exact .list _ _ _
 have hidx:Id0 (wkv x0):=zcD hx0f;have hxv:wkv x0=.agg [wv p w,.list 0 2 [],frV r [],iv 0]:=by rw[hx0];rfl
 have hxW:x0.W=w:=by rw[hx0]
 have hxp:x0.p=p:=by rw[hx0]
 have hat0:=zfG x0 hx0f leaf (by rw[hxW];exact hin) (by rw[hxW];exact hN);rw[hxp,hxW,hxv]at hat0;rw[hxv]at hidx hdo
 have hlvv:(zdQ ws)[ws.length-1]?=some (iv leaf):=by rw[zAL9,hlf];rfl
 have e1:(ws.length:Int)-1=((ws.length-1:Nat):Int):=by omega
 have e2:ws.length-1<ws.length:=by omega
 (repeat(first|refine ze ?_|refine zgo ?_));(repeat refine ze ?_);refine zrg ?_;refine zca hA ?_;refine zfx ?_;refine zd ?_;(repeat(first|refine ze ?_|refine zgo ?_));refine zfc ?_ ?_
 ·intro h;cases h
 intro _;refine zQ ?_;show W _ _ _ _ _ _;(repeat refine ze ?_);refine zrg ?_;refine zca hW ?_;refine zfx ?_;refine zd ?_;(repeat(first|refine ze ?_|refine zgo ?_ (by simp(disch:=omega)only[go_sem,hlvv,e1,e2,zf,zn,zAA9]<;>rfl)));refine zoG 0 (v':=.agg [wv p w,.list 0 2 [],frV r [],iv 0]) rfl rfl (zpd p 0 w _) ?_;simp only[zCL9];refine zdu (fun tm=>tm 0=wv p w/\tm 1=iv n/\tm 2=uv key/\tm 3=frV r []/\tm 14=iv leaf/\tm 15=.ptr 0 0 0 0 4) ⟨by simp[upd,zB],by simp[upd,zB],by simp[upd,zB],by simp[upd,zB],by simp[upd,zB],by simp[upd,zB]⟩ ?_;rintro tm ⟨h0,h1,h2,h3,h14,h15⟩;(repeat refine ze ?_);refine zrg ?_ (by simp(disch:=omega)only[go_sem,h14,h15]<;>rfl);refine zcb (by first|rfl|(simp only[go_sem]<;>rfl)) (by simp only[go_sem]<;>rfl) hat0 rfl ?_ ?_;(repeat(first|exact trivial|refine And.intro ?_ ?_|exact Id0.int _ _|exact Id0.bool _|exact Id0.list _ _ _|exact Id0.elem _|exact Id0.nilsl|exact Id0.str _|exact zce _ _ _))
 ·exact hidx
 ·(repeat(first|exact trivial|refine And.intro ?_ ?_|exact Id0.int _ _|exact Id0.bool _|exact Id0.list _ _ _|exact Id0.elem _|exact Id0.nilsl|exact Id0.str _|exact zce _ _ _))
 refine zfx ?_ (by simp(disch:=omega)only[go_sem,h2]<;>rfl);refine zca htk ?_;refine zfx ?_;refine zd ?_
 by_cases hok:tk.2=0
 rotate_left
 ·rw[if_neg hok];have g1:¬((tk.2:Nat):Int)=0:=by omega
  (repeat(first|refine ze ?_|refine zgo ?_ (by simp(disch:=omega)only[go_sem,g1]<;>rfl)));refine zfc ?_ ?_;rotate_left
  ·intro h;cases h
  intro _;(repeat(first|refine ze ?_|refine zgo ?_));refine zF ?_;(try simp only[zg,zj,zh,zi,zk]);refine zq (by simp only[T12,zI,go_sem]<;>rfl) ?_;simp only[zP];exact Frz.tupL ⟨.nil _ _,.int _ _,.nil _ _,.int _ _,trivial⟩
 rw[if_pos hok];have g1:((tk.2:Nat):Int)=0:=by omega
 obtain⟨hdo,hxf,hxq,hxu⟩:=hdo hok;have hlv:=hlv hok;have hx1v:wkv x1=.agg [wv x1.p x1.W,.list x1.q 2 (x1.L.map zag),frV r [],iv x1.used]:=by unfold wkv;rw[hxf]
 rw[hx1v]at hdo
 have w4:IntKind.i64.wrap ((64:Int)*(leaf:Int))=((64*leaf:Nat):Int):=by rw[wrap_i64 (by omega) (by omega)];omega
 (repeat(first|refine ze ?_|refine zgo ?_ (by simp(disch:=omega)only[go_sem,g1]<;>rfl)));refine zfc ?_ ?_
 ·intro h;cases h
 intro _;refine zQ ?_;show W _ _ _ _ _ _;(repeat refine ze ?_);refine zrg ?_ (by simp(disch:=omega)only[go_sem,h14,h15,w4]<;>rfl);refine zcb (by first|rfl|(simp only[go_sem]<;>rfl)) (by simp only[go_sem]<;>rfl) hdo rfl ?_ ?_;(repeat(first|exact trivial|refine And.intro ?_ ?_|exact Id0.int _ _|exact Id0.bool _|exact Id0.list _ _ _|exact Id0.elem _|exact Id0.nilsl|exact Id0.str _|exact zce _ _ _))
 ·exact hidx
 ·(repeat(first|exact trivial|refine And.intro ?_ ?_|exact Id0.int _ _|exact Id0.bool _|exact Id0.list _ _ _|exact Id0.elem _|exact Id0.nilsl|exact Id0.str _|exact zce _ _ _))
 refine zfx ?_ (by simp(disch:=omega)only[go_sem,h15]<;>rfl);refine zd ?_;have hTv:(T.map fun L=>zbX 0 0 L.1 L.2)[T.length-1]?=some (zbX 0 0 LL.1 LL.2):=by rw[zAL9,hT];rfl
 have e3:(T.length:Int)-1=((T.length-1:Nat):Int):=by omega
 have e4:T.length-1<T.length:=by omega
 refine zdu (fun tm=>tm 1=iv n/\tm 3=frV r []/\tm 15=.ptr 0 0 0 0 4) ⟨by simp[upd,h1],by simp[upd,h3],by simp[upd,h15]⟩ ?_;clear h0 h1 h2 h3 h14 h15;rintro tm ⟨h1,h3,h15⟩;(repeat refine ze ?_);refine zrg ?_ (by simp(disch:=omega)only[go_sem,h1,h15]<;>rfl);refine zca hlv ?_;refine zfx ?_;refine zd ?_;(repeat refine ze ?_);refine zrg ?_ (by simp(disch:=omega)only[go_sem,hTv,e3,e4,zAA9]<;>rfl);refine zca hpa ?_;refine zfx ?_;refine zd ?_;refine zdu (fun tm=>tm 3=frV r []/\tm 15=.ptr 0 0 0 0 4/\tm 18=zde T/\tm 20=psv 0 P) ⟨by simp[upd,h3],by simp[upd,h15],by simp[upd],by simp[upd]⟩ ?_;clear h1 h3 h15;rintro tm ⟨h3,h15,h18,h20⟩;(repeat refine ze ?_);refine zbN (Q:=fun yy s'=>yy=.norm/\s'.tm 15=.ptr 0 0 0 0 4/\s'.tm 110=.bool true/\s'.df=[]/\s'.H=[.row 107 4 0 0 [.agg [wv x1.p x1.W,.list x1.q 2 (x1.L.map zag),frV r [],iv x1.used]]]) (zb ?_) ?_
 ·by_cases hT1:T.length=1
  ·have c1:=eq_true (show ((T.length:Nat):Int)=1 by omega);refine zfx ?_ (by simp(disch:=omega)only[go_sem,h18,h20,c1,zAA9]<;>rfl);refine zG ?_;simp only[zg,zj,zh,zi,zo,zk,if_true,↓reduceIte];exact⟨(by first|exact trivial|rfl),h15,by simp[upd],(by first|exact trivial|rfl),(by first|exact trivial|rfl)⟩
  have c1:¬((T.length:Nat):Int)=1:=by omega
  have w6:IntKind.i64.wrap ((6:Int)*(LL.2.length:Int))=((6*LL.2.length:Nat):Int):=by rw[wrap_i64 (by omega) (by omega)];omega
  by_cases hP6:6*LL.2.length<P.length
  ·have c2:((6*LL.2.length:Nat):Int)<(P.length:Nat):=by omega
   refine zfx ?_ (by simp(disch:=omega)only[go_sem,h18,h20,c1,c2,w6,hTv,e3,e4,zAA9]<;>rfl);refine zG ?_;simp only[zg,zj,zh,zi,zo,zk,if_true,↓reduceIte];exact⟨(by first|exact trivial|rfl),h15,by simp[upd],(by first|exact trivial|rfl),(by first|exact trivial|rfl)⟩
  have c2:¬((6*LL.2.length:Nat):Int)<(P.length:Nat):=by omega
  have hnd:=zoJ P.length (by omega);have hn1:1<=zd9 P.length:=by
   unfold zd9;rw[zee];have:=Nat.le_max_left 1 ((P.length+17)/18);omega
  have c3:(0:Int)<(zd9 P.length:Nat):=by omega
  refine zfx ?_ (by simp(disch:=omega)only[go_sem,h18,h20,h3,c1,c2,w6,hTv,e3,e4,zAA9]<;>rfl);refine zca hnd ?_;refine zfx ?_ (by simp(disch:=omega)only[go_sem,h3,c3,zBQ9,zAG9]<;>rfl);refine zG ?_;simp only[zg,zj,zh,zi,zo,zk,if_true,↓reduceIte];exact⟨(by first|exact trivial|rfl),h15,by simp[upd],(by first|exact trivial|rfl),(by first|exact trivial|rfl)⟩
 clear h3 h15 h18 h20;rintro yy ⟨tm,df,H⟩ ⟨rfl,h15,h110,rfl,rfl⟩;dsimp only at h15 h110;simp only[zg,zj,zh,zi,zo,zk,if_true,reduceIte];refine zfc ?_ ?_ (by simp only[go_sem,h110]<;>rfl);rotate_left
 ·intro h;cases h
 intro _;(repeat(first|refine ze ?_|refine zgo ?_ (by simp(disch:=omega)only[go_sem,h15]<;>rfl)));refine zF ?_;(try simp only[zg,zj,zh,zi,zk]);refine zq (by simp only[T12,zI,go_sem]<;>rfl) ?_;simp only[zP];rw[hok];exact zuq _ hxq x1.L 0 0
theorem zq7 (p r n key:Nat)(w:List Nat)(hw:w.length<=2560)(hn:n<64):∃(L:List Pr) (no:Nat),FN ET 12 [wv p w,iv n,uv key,.list r 1 []] (.ret (zmP L 0 [] no))/\L.length<=900000:=by
 have hA:=zlD p r w n [] (by unfold zbH;omega) (by decide)
 by_cases h0:zif w n []=0
 rotate_left
 ·exact⟨_,_,zsf p r w n key [] _ h0 hA,zAU9 _⟩
 obtain⟨n',frN,ws,hnn,hn2,h64,hN,hfr,ht,hset,hS⟩:=zoH key h0;obtain rfl:n'=n:=by omega
 obtain rfl:frN=[]:=by cases frN with|nil=>rfl|cons a l=>simp at hfr
 rw[h0]at hA;obtain⟨s1,s2,s3,s4,s5,s6,s7,s8,s9⟩:=hS;have hW:=zoz p w n' key ws hN hn2 s1;obtain⟨init,leaf,rfl⟩:=zjE s6;have hleaf:leaf∈init++[leaf]:=by simp
 have hin:64*leaf+64<=w.length:=by have:=s3 leaf hleaf;omega
 have hpos:=s9 leaf hleaf;have htk:=zsm p key (zD w leaf) (by rw[zcf _ _ hin];decide);have hta:=zkU (key:=key) (zcf w leaf hin);obtain⟨x0,hx0⟩:∃x0:Wk,x0=⟨p,0,w,[],frV r [],0⟩:=⟨_,rfl⟩
 have hxW:x0.W=w:=by rw[hx0]
 have hxL:x0.L.length=0:=by rw[hx0];rfl
 have hd:=ze4 x0 (by rw[hx0];exact .list _ _ _) (64*leaf) 0 (zdS (zD w leaf) key).1 (by omega) (by rw[hxW];omega) fun c hc=>by have:=hta.2 c hc;rw[hxW];omega
 have hdf:=zcz (zbv (64*leaf) (zdS (zD w leaf) key).1) x0;have hdq:=zd4 (zbv (64*leaf) (zdS (zD w leaf) key).1) x0 (by rw[hx0]);have hdW:=ziF (zbv (64*leaf) (zdS (zD w leaf) key).1) x0;rw[hxW]at hdW;rw[zfE]at hdf;obtain⟨t1,t2⟩:=zfQ w n';have hne0:(zbR w n').1 ≠ []:=by
  rw[t2 ht];exact(zcZ (w:=w) (T:=(zaQ w n').1) hN n' (by rw[<- ht])).2.2.1
 have hne:=zr7 (key:=key) hin hne0 (by omega);rw[<- hdW]at hne;have hWl:(x0.does (zbv (64*leaf) (zdS (zD w leaf) key).1)).W.length=w.length:=hdf.1.trans (by rw[hxW]);generalize x0.does (zbv (64*leaf) (zdS (zD w leaf) key).1)=x1 at *
 have hlv:=zfV x1.p x1.W ⟨by omega,by omega⟩ n' (by omega);obtain⟨tf1,tf2⟩:=ziu (w:=x1.W) (by omega) n';have tf3:∀L∈(zbR x1.W n').1,L.1.length<=x1.W.length/64:=znj (by omega) 14 [] [] _ _ fun L hL=>by simp at hL
 generalize (zbR x1.W n').1=T at *
 obtain⟨tinit,LL,rfl⟩:=zjE hne;have hLm:LL∈tinit++[LL]:=by simp
 have hLF:=tf1 LL hLm;have hL40:LL.2.length<=40:=by have:=tf3 LL hLm;have:=hLF.lv.len;omega
 have hp28:∀m∈LL.2,m.pairs.length<=28:=fun m hm=>(hLF.lv.node hm).1;have hll:=zeR LL.2 hp28;have hpa:=ziZ 0 0 LL.1 LL.2 (by omega) hp28 (by omega);obtain⟨P,f2,hE,hPl⟩:=zu1 LL.2;rw[hE]at hpa;refine⟨_,_,zp7 p r n' key w (init++[leaf]) leaf x0 x1 (zdS (zD w leaf) key) (tinit++[LL]) LL P _ f2 hN hx0 hA hW (by omega) (by simp) (by simp) hin htk (fun _=>⟨hd,hdf.2.2.1.trans (by rw[hx0]),hdq,hdf.2.2.2.trans (by rw[hx0])⟩) (fun _=>hlv) (by simp) ⟨by simp,tf2⟩ hL40 hpa (by omega),?_⟩
 split
 ·rw[hdf.2.1];omega
 ·exact zAU9 _
end Fv
end Go.Proofs.YtfomlmhnmheenaaGreat
namespace Go.Proofs.YtfomlmhnmheenaaGreat
namespace Fv
open Tw
attribute [local go_sem] zbb zaH zaf zas evs ev okv zbs zX.cls zba zbh zbm zV zU upd zB za2 zaW zaY zaF zaT za3 za4 zaZ zaS zaU zat zaX za5 zaR za1 zaV za0 zao zaK za6 zan zal zbr PV.cells ofC zbg zZ zau okF zah spl zaI zaL bnd zam zaq zar za8 zbl zY zaA zaN zaj zbj zbn zab lenP zf zn zak zbi PV.toT zaG zJ Nat.mul_mod_right Int.reduceOfNat Int.reduceToNat Int.cast_ofNat_Int Int.reduceLE Int.reduceLT Int.reduceAdd Int.reduceSub Int.reduceMul Int.reduceNegSucc Nat.reduceEqDiff if_true if_false ite_true ite_false decide_true decide_false Bool.not_true Bool.not_false and_true true_and and_self false_and and_false or_false false_or or_true true_or or_self List.length_cons List.length_nil List.length_map List.getElem?_cons_zero List.getElem?_cons_succ List.getElem?_map List.getElem?_nil Option.map_some Option.map_none Option.getD_some List.append_nil List.nil_append List.cons_append List.take_succ_cons List.take_zero List.drop_zero List.drop_succ_cons List.set_cons_zero List.set_cons_succ Int.toNat_natCast Int.natCast_nonneg Nat.le_refl Nat.zero_le Nat.reduceAdd Nat.reduceSub Nat.reduceMul Nat.reduceLeDiff Nat.reduceLT Bool.false_eq_true Bool.true_eq_false Nat.add_zero Nat.zero_add List.all_cons List.all_nil Bool.and_true Bool.and_self Bool.true_and Nat.reduceMod Nat.reduceDiv eq_self zaC zaM zac zbf evN za9 dpF zaO zbq zaE zbe zbp zaP List.filter_cons List.filter_nil List.contains_cons List.contains_nil Nat.reduceBEq zT zS zO Option.some.injEq Option.isSome_some wrap_i64 zL zaD Bool.or_self Bool.or_false Bool.false_or daF dnF yD yO yW yM yN yL yP yK yF yE yB yQ yV T6 T8 T12 T16 T18 T19 T22 T27 T28 T29 T33 T40 T42 T43 T45 T46 T47 T48 T49 T50 T51 T52 T53 T54 T57 T58 T61 T62 T65 T71 T72 T73 T74 T80 T81 T90 T91 T92 T93 T94 T95 T96 T97 T98 T99 T103 T104 T107 T119 T120 T121 T122 T123 T124 T135 T137 T138 T139 T140 T141 T142 T143 T144 T156 T157 T158 T161 T162 T163 T164 T170 T173 T181 T184 T185 T188 T195 T198 T199 T200 T201 T202 T203 T204 T205 T206 T207 T208 T209 T210 T211 T212 T213 T214 T215 T223
attribute [local go_sem ↓] reduceIte
set_option maxRecDepth 100000
variable {E:Env}
def FNx (E:Env)(f:Nat)(args:List PV)(P:FE->Prop):Prop :=
 ∀S h us,(∀p b,S p b->b<h.next)->LR (PR S h) args us->∃e r h',P e/\Ev E (fun C _=>C.fn f us h=some (r,h'))/\h.next<=h'.next/\(∀b,b<h.next->h'.get b=h.get b)/\RE (PR (S0 S h.next h'.next) h') e r
theorem zv4 {f:Nat}{F:zC}(hF:E.funcs.get f=some F){args:List PV}(hn:args.length<=F.N){P:FE->Prop}(hl:∀e,P e->LbE e)(hW:W E E.caught none F.body ⟨zB args,[],[]⟩ (zdI E F fun e' H=>∃e,P e/\zbo H 0 e' e)):FNx E f args P:=fun S h us hS ha=>by
 have hr:HR ⟨h.next,h,S⟩ ⟨S,fun _=>none,fun _=>False⟩ [] h:=⟨zAK9 _,fun _ _=>rfl,fun p b hb=>.inl hb,fun p b hb=>⟨hS p b hb,fun id x hx=>(by cases hx)⟩,fun id x hx=>(by cases hx),fun id hx=>hx.elim,fun id id' x x' hx=>(by cases hx),fun id o ho=>(by simp at ho)⟩
 obtain⟨r,h',e',H',c',e1,⟨e,hP,q1⟩,m1,hr1,re,_⟩:=zxz hF hn hW _ _ h us hr (LR.pure (c:=⟨S,fun _=>none,fun _=>False⟩) ha);have hkeep:∀b,b<h.next->h'.get b=h.get b:=fun b hb=>hr1.keep b hb;have hS1:∀p b,c'.S p b->S1 S h.next h'.next p b:=fun p b hb=>by
  rcases hr1.old p b hb with h1|⟨h1,h2⟩
  ·exact .inl h1
  ·exact .inr ⟨h1,h2,(hr1.S p b hb).1⟩
 have hown:∀id x,c'.ρ id=some x->S1 S h.next h'.next 0 x.1:=fun id x hx=>by
  obtain⟨h1,h2,_⟩:=hr1.own id x hx;exact .inr ⟨rfl,h1,h2⟩
 have hS0:∀b,S1 S h.next h'.next 0 b->S0 S h.next h'.next 0 b:=fun b hb=>by
  rcases hb with hb|⟨_,hb⟩
  ·exact⟨rfl,.inl hb⟩
  ·exact⟨rfl,.inr hb⟩
 have hle:=hl e hP;refine⟨e,r,h',hP,e1,hr1.le,hkeep,?_⟩
 cases e'<;>cases r<;>first|exact re.elim|skip
 ·cases e with
  | panic v=>exact q1.elim
  | ret w=>exact Lb.ok hS0 (Frz.ok hr1 hS1 hown q1 re) hle
 ·cases e with
  | ret v=>exact q1.elim
  | panic w=>exact Lb.ok hS0 (Frz.ok hr1 hS1 hown q1 re) hle
theorem znx {f:Nat}{F:zC}{c:zbu}{args:List PV}{P:FE->Prop}(hF:E.funcs.get f=some F)(hl:∀e,P e->LbE e)(hW:W E E.caught none c ⟨zB args,[],[]⟩ (zdI E F fun e' H=>∃e,P e/\zbo H 0 e' e))(hc:F.body=c:=by simp only[go_sem]<;>rfl)(hn:args.length<=F.N:=by exact zAZ9 rfl):FNx E f args P:=zv4 hF hn hl (by rw[hc];exact hW)
theorem FNx.FO {f:Nat}{args aS:List PV}{P:FE->Prop}{H:List zu}(k:FNx E f aS P)(hl:LF H 1 args aS):FO E f args H true (fun e' H'=>P e'/\H'=H):=fun B c h us hr ha=>by
 have h1:=LF.ok hr (S:=zri c) (fun p b hb=>.inl hb) (fun id x hx=>.inr ⟨rfl,id,x,hx,rfl⟩) hl ha;obtain⟨e,r,h',hP,e1,hn,hk,re⟩:=k (zri c) h us (fun p b hb=>by
  rcases hb with hb|⟨_,id,x,hx,rfl⟩
  ·exact(hr.S p b hb).1
  ·exact(hr.own _ _ hx).2.1) h1
 obtain⟨m,hr'⟩:=hr.grown hn hk;refine⟨r,h',e,H,c.lay h.next h'.next,e1,⟨hP,rfl⟩,m,hr',re.mono fun v u hv=>.pure (hv.mono (fun p b hb=>?_) fun _ _ _ _ _ _ _ hr=>hr),fun _ id x hx=>hk _ (hr.own _ _ hx).2.1⟩;obtain⟨rfl,hb|hb⟩:=hb
 ·rcases hb with hb|⟨h0,_⟩
  ·exact .inl hb
  ·cases h0
 ·exact .inr ⟨rfl,hb⟩
theorem ztG {caught:Tr Unit}{d:Option Nat}{args:List TOp}{g:Option (TOp×Bool)}{ops:List zad}{s:FSt}{Q:FX->FSt->Prop}{f:Nat}{caps vs aS:List PV}{P:FE->Prop}
  (hg:zaf s.tm g=some true) (ha:evs s.tm args=some (.fn f caps::vs)) (k:FNx E f aS P) (hl:LF s.H 1 (vs++caps) aS) (hQ:∀e,P e->ztp E caught ops s d Q e s.H):WO E caught (⟨d,.call,args,g⟩::ops) s Q :=
 zhe hg ha ((FNx.FO k hl).mono fun e H' he=>by obtain⟨h1,rfl⟩:=he;exact hQ e h1)
theorem zkJ (q:Nat)(H:List zu)(iw gw qw M0:Nat)(w:List Nat)(l:List Pr)(hl:l.length<10000000)(hw:0<w.length/\w.length<=1000000)(hM0:M0<=gw)(hr:H[iw]?=some (.row 24 1 gw M0 (w.map uv))):FO ET 28 [.sl iw gw 0 w.length qw 1,.list q 2 (l.map zag)] H false fun e H'=>zet H H'/\∃id g M,e=.ret (.sl id g 0 w.length (2*w.length) 1)/\M<=g/\H'[id]?=some (.row 24 1 g M ((zby w l).map uv)):=by
 refine zro f28 ?_;have hb:w.length*9<=140737488355328:=by omega
 have hne:¬w.length=0:=by omega
 have hX:∀X,(H++X)[iw]?=some (.row 24 1 gw M0 (w.map uv)):=fun X=>zbM hr;have hlw:(w.map uv).length=w.length:=zAA9 ..;have hle:w.length<=w.length:=zAK9 _;have htk:(w.map uv).take w.length=w.map uv:=by rw[<- hlw,zBM9]
 (repeat(first|refine ze ?_|refine zgo ?_ (by simp(disch:=omega)only[go_sem,hb,hne,hX,hM0,hlw,hle,htk,zf,zn,zAI9,zAM9]<;>rfl)));refine zK (zbd (fun m s=>∃(i M:Nat),m=l.length-i/\i<=l.length/\M<=1/\s.tm 1=.list q 2 (l.map zag)/\s.tm 5=.sl H.length 1 0 w.length (2*w.length) 1/\s.tm 6=iv i/\s.df=[]/\s.H=H++[.row 24 1 1 M ((zby w (l.take i)).map uv)]) (n:=l.length) ?_ ?_)
 ·exact⟨0,0,rfl,zAU9 _,by decide,by simp[upd,zB],by simp[upd],by simp[upd],rfl,rfl⟩
 ·rintro m ⟨tm,df,Hx⟩ ⟨i,M,rfl,hi,hM,h1,h5,h6,rfl,rfl⟩;dsimp only at h1 h5 h6;have hal:=zep (l.take i) w;(try refine zaa ?_);refine ze (zb ?_);refine zfx ?_ (by simp(disch:=omega)only[go_sem,h1,h6,zAA9]<;>rfl);refine zd ?_;refine zae (by simp only[go_sem]<;>rfl) ?_ ?_;rotate_left
  ·intro hlt;have hlt:¬i<l.length:=by have:=of_decide_eq_false hlt;omega
   obtain rfl:i=l.length:=by omega
   simp only[zg,zj,zh,zi,zo,zk,if_true,reduceIte];(repeat(first|refine ze ?_|refine zgo ?_ (by simp(disch:=omega)only[go_sem,h5]<;>rfl)));refine zF ?_;(try simp only[zg,zj,zh,zi,zk]);refine zq (by simp only[T28,zI,go_sem]<;>rfl) ?_;simp only[zP];rw[zBM9]at hal⊢;exact⟨(zet.refl H).app _,H.length,1,M,rfl,hM,by simp⟩
  intro hlt;have hlt:i<l.length:=by have:=of_decide_eq_true hlt;omega
  obtain⟨x,hx⟩:∃x,l[i]?=some x:=⟨_,zAB9 hlt⟩
  have hxv:(l.map zag)[i]?=some (zag x):=by rw[zAL9,hx];rfl
  have htk:zby w (l.take (i+1))=(zby w (l.take i)).set x.1 x.2:=by
   rw[zBN9,hx,znS];rfl
  have g0:(0:Int)<=(x.1:Nat):=zEY9 _;(repeat refine ze ?_);refine zK ?_
  by_cases hlx:x.1<w.length
  ·have g1:((x.1:Nat):Int)<(w.length:Nat):=by omega
   obtain⟨o,ho⟩:∃old,(zby w (l.take i))[x.1]?=some old:=⟨_,zAB9 (by omega)⟩
   have z1:((zby w (l.take i)).map uv)[x.1]?=some (uv o):=by rw[zAL9,ho];rfl
   have y1:((zby w (l.take i)).map uv).set x.1 (.int .u64 (x.2:Int))=(zby w (l.take (i+1))).map uv:=by rw[htk];exact zES9.symm
   generalize (zby w (l.take i)).map uv=K0 at *
   (repeat refine ze ?_);(repeat refine ze ?_);refine zgo ?_ (by simp(disch:=omega)only[go_sem,h1,h5,h6,hxv,hlt,g0,g1,zAA9]<;>rfl);refine zfc ?_ ?_;rotate_left
   ·intro h;cases h
   intro _;refine zap ?_;refine zda ?_ (by simp(disch:=omega)only[go_sem,h1,h5,h6,hxv,hlt,hlx,hM,z1,y1,zf,zn,zAA9]<;>rfl);refine zdl ?_ (by simp(disch:=omega)only[go_sem,h5]<;>rfl);refine zR ?_;simp only[zo,zW,zg,go_sem];(repeat refine ze ?_);refine zrg ?_ (by simp(disch:=omega)only[go_sem,h6]<;>rfl);refine zG ?_;simp only[zg,zj,zh,zi,zo,zk,if_true,↓reduceIte];refine⟨_,?m,i+1,1,rfl,hlt,zAK9 _,by simp[upd,h1],by simp[upd,h5],by simp[upd,h6],trivial,rfl⟩
   case m=>omega
  ·have g1:¬((x.1:Nat):Int)<(w.length:Nat):=by omega
   have y1:(zby w (l.take (i+1)))=zby w (l.take i):=by rw[htk,List.set_eq_of_length_le (by omega)]
   (repeat refine ze ?_);(repeat refine ze ?_);refine zgo ?_ (by simp(disch:=omega)only[go_sem,h1,h5,h6,hxv,hlt,g0,g1,zAA9]<;>rfl);refine zfc ?_ ?_
   ·intro h;cases h
   intro _;refine zQ ?_;simp only[zg,zj,zh,zi,zo,zk,if_true,reduceIte];(repeat refine ze ?_);refine zrg ?_ (by simp(disch:=omega)only[go_sem,h6]<;>rfl);refine zG ?_;simp only[zg,zj,zh,zi,zo,zk,if_true,↓reduceIte];refine⟨_,?m,i+1,M,rfl,hlt,hM,by simp[upd,h1],by simp[upd,h5],by simp[upd,h6],trivial,by rw[y1]⟩
   case m=>omega
end Fv
end Go.Proofs.YtfomlmhnmheenaaGreat
namespace Go.Proofs.YtfomlmhnmheenaaGreat
namespace Fv
open Tw
attribute [local go_sem] zbb zaH zaf zas evs ev okv zbs zX.cls zba zbh zbm zV zU upd zB za2 zaW zaY zaF zaT za3 za4 zaZ zaS zaU zat zaX za5 zaR za1 zaV za0 zao zaK za6 zan zal zbr PV.cells ofC zbg zZ zau okF zah spl zaI zaL bnd zam zaq zar za8 zbl zY zaA zaN zaj zbj zbn zab lenP zf zn zak zbi PV.toT zaG zJ Nat.mul_mod_right Int.reduceOfNat Int.reduceToNat Int.cast_ofNat_Int Int.reduceLE Int.reduceLT Int.reduceAdd Int.reduceSub Int.reduceMul Int.reduceNegSucc Nat.reduceEqDiff if_true if_false ite_true ite_false decide_true decide_false Bool.not_true Bool.not_false and_true true_and and_self false_and and_false or_false false_or or_true true_or or_self List.length_cons List.length_nil List.length_map List.getElem?_cons_zero List.getElem?_cons_succ List.getElem?_map List.getElem?_nil Option.map_some Option.map_none Option.getD_some List.append_nil List.nil_append List.cons_append List.take_succ_cons List.take_zero List.drop_zero List.drop_succ_cons List.set_cons_zero List.set_cons_succ Int.toNat_natCast Int.natCast_nonneg Nat.le_refl Nat.zero_le Nat.reduceAdd Nat.reduceSub Nat.reduceMul Nat.reduceLeDiff Nat.reduceLT Bool.false_eq_true Bool.true_eq_false Nat.add_zero Nat.zero_add List.all_cons List.all_nil Bool.and_true Bool.and_self Bool.true_and Nat.reduceMod Nat.reduceDiv eq_self zaC zaM zac zbf evN za9 dpF zaO zbq zaE zbe zbp zaP List.filter_cons List.filter_nil List.contains_cons List.contains_nil Nat.reduceBEq zT zS zO Option.some.injEq Option.isSome_some wrap_i64 zL zaD Bool.or_self Bool.or_false Bool.false_or daF dnF yD yO yW yM yN yL yP yK yF yE yB yQ yV T6 T8 T12 T16 T18 T19 T22 T27 T28 T29 T33 T40 T42 T43 T45 T46 T47 T48 T49 T50 T51 T52 T53 T54 T57 T58 T61 T62 T65 T71 T72 T73 T74 T80 T81 T90 T91 T92 T93 T94 T95 T96 T97 T98 T99 T103 T104 T107 T119 T120 T121 T122 T123 T124 T135 T137 T138 T139 T140 T141 T142 T143 T144 T156 T157 T158 T161 T162 T163 T164 T170 T173 T181 T184 T185 T188 T195 T198 T199 T200 T201 T202 T203 T204 T205 T206 T207 T208 T209 T210 T211 T212 T213 T214 T215 T223
attribute [local go_sem ↓] reduceIte
set_option maxRecDepth 100000
theorem f8:ET.funcs.get 8=some T8:=z9 (by kernel_rfl) (by decide)
def zn7 (blocks:Int)(e:FE):Prop:=∃(ws:List Nat) (fr:List Int) (b:Bool),e=.ret (.tuple [wv 0 ws,.list 0 1 (fr.map iv),.bool b])/\(b=true->2<=blocks/\blocks<=40/\(ws.length:Int)=64*blocks/\fr.length<=40)
theorem zvd {blocks:Int}:∀e,zn7 blocks e->LbE e:=fun e h=>by
 obtain⟨ws,fr,b,rfl,_⟩:=h;refine Lb.three (Lb.uvs _) (.list fun x hx=>?_) (.bool _);obtain⟨y,hy,hx⟩:=zBI9.1 hx;obtain⟨n,_,rfl⟩:=zAS9.1 hy;simp[PV.cells]at hx;subst hx;exact .int _ _
theorem zu7 {blocks:Int}{H:List zu}:∃e,zn7 blocks e/\zbo H 0 (.ret (.tuple [.nilsl,.nilsl,.bool false])) e:=⟨_,⟨[],[],false,rfl,fun h=>by cases h⟩,Frz.tupL ⟨.nil _ _,.nil _ _,.bool _,trivial⟩⟩
theorem zsq (l:List Pr)(fr:List Int)(hl:l.length<=500):∃(root used no:Nat) (puts:List Pr),zeg l fr=.ret (.tuple [iv root,.list 0 2 (puts.map zag),iv used,iv no])/\puts.length<=64*fr.length/\used<=fr.length/\root<2048:=by
 unfold zeg
 by_cases hP:okP l=true
 rotate_left
 ·rw[show okP l=false by simpa using hP];exact⟨0,0,2,[],rfl,zAU9 _,zAU9 _,by decide⟩
 by_cases hI:okI [] fr=true
 rotate_left
 ·rw[show okI [] fr=false by simpa using hI,Bool.and_false];exact⟨0,0,2,[],rfl,zAU9 _,zAU9 _,by decide⟩
 rw[hP,hI];obtain⟨free,rfl,hF⟩:=zpi hI;have hfree:(free.map fun(b:Nat)=>(b:Int)).map Int.toNat=free:=by rw[zDO9];exact List.map_id free
 rw[hfree];simp only[Bool.and_self,if_true]
 cases hb:zf5 l free with
 | none=>exact⟨0,0,221,[],rfl,zAU9 _,zAU9 _,by decide⟩
 | some T =>
  have hT:=zrY hP hF hl hb;obtain⟨used,hu,e⟩:=hT.blocks;obtain⟨b,n,T',hT1,_⟩:=hT.one;have hlen:(zd8 T.reverse).length=64*(free.take used).length:=by
   rw[zjL _ fun M hM=>hT.len M (zEU9.1 hM),e]
  have hbm:b∈free:=zDB9 (i:=used) (by rw[<- e,hT1];simp);have hroot:zmr T=b:=by rw[hT1];rfl
  refine⟨zmr T,_,0,_,rfl,by rw[hlen,zBA9,zAA9];omega,by rw[e,zBA9,zAA9];omega,by rw[hroot];exact(((zi1 free).1 hF).1 b hbm).2⟩
theorem zh8 (n m:Nat):(n+1==n+(m+1+1+1))=false:=by rw[beq_eq_false_iff_ne];omega
theorem zhT (n m:Nat):(n+(m+1+1+1)==n+1)=false:=by rw[beq_eq_false_iff_ne];omega
theorem zh4 (n m:Nat):(n+1+1==n+(m+1+1+1))=false:=by rw[beq_eq_false_iff_ne];omega
theorem zh7 (n m:Nat):(n+(m+1+1+1)==n+1+1)=false:=by rw[beq_eq_false_iff_ne];omega
theorem zuS {l:List Bool}:∀v∈(l.map PV.bool).flatMap PV.cells,Id0 v:=fun v hv=>by
 obtain⟨x,hx,hv⟩:=zBI9.1 hv;obtain⟨n,_,rfl⟩:=zAS9.1 hx;simp[PV.cells]at hv;subst hv;exact .bool _
section mid3
variable {α:Type}
theorem gc0 (G G2 l:List α)(a b c x:α):(G++a::b::c::(G2++x::l))[G.length+(G2.length+1+1+1)]?=some x:=by
 rw[zAN9 (by omega),show G.length+(G2.length+1+1+1)-G.length=G2.length+1+1+1 by omega];simp
theorem gc1 (G G2 l:List α)(a b c x y:α):(G++a::b::c::(G2++x::y::l))[G.length+(G2.length+1+1+1+1)]?=some y:=by
 rw[zAN9 (by omega),show G.length+(G2.length+1+1+1+1)-G.length=G2.length+1+1+1+1 by omega];simp
theorem gc2 (G G2 l:List α)(a b c x y z:α):(G++a::b::c::(G2++x::y::z::l))[G.length+(G2.length+1+1+1+1+1)]?=some z:=by
 rw[zAN9 (by omega),show G.length+(G2.length+1+1+1+1+1)-G.length=G2.length+1+1+1+1+1 by omega];simp[zAN9]
theorem sc0 (G G2 l:List α)(a b c x u:α):(G++a::b::c::(G2++x::l)).set (G.length+(G2.length+1+1+1)) u=G++a::b::c::(G2++u::l):=by
 rw[zBS9 _ _ (by omega),show G.length+(G2.length+1+1+1)-G.length=G2.length+1+1+1 by omega];simp
theorem gd0 (G G2 G3 l:List α)(a b c d x:α):(G++a::b::c::(G2++d::(G3++x::l)))[G.length+(G2.length+(G3.length+1)+1+1+1)]?=some x:=by
 rw[zAN9 (by omega),show G.length+(G2.length+(G3.length+1)+1+1+1)-G.length=G2.length+(G3.length+1)+1+1+1 by omega];simp only[zAT9];rw[zAN9 (by omega),show G2.length+(G3.length+1)-G2.length=G3.length+1 by omega,zAT9];simp
theorem gd1 (G G2 G3 l:List α)(a b c d x y:α):(G++a::b::c::(G2++d::(G3++x::y::l)))[G.length+(G2.length+(G3.length+1+1)+1+1+1)]?=some y:=by
 rw[zAN9 (by omega),show G.length+(G2.length+(G3.length+1+1)+1+1+1)-G.length=G2.length+(G3.length+1+1)+1+1+1 by omega];simp only[zAT9];rw[zAN9 (by omega),show G2.length+(G3.length+1+1)-G2.length=G3.length+1+1 by omega,zAT9];simp
end mid3
@[reducible] def zcT (l:List Nat):List PV:=l.map fun (b:Nat)=>.int .u8 (b:Int)
@[reducible] def wdV (l:List (Int × Nat)):List PV:=l.map fun x=>.agg [iv x.1,uv x.2]
set_option maxHeartbeats 4000000 in
theorem ztA (q1 q2:Nat)(blocks:Int)(zbA:List Nat)(bent:List (Int×Nat)):FNx ET 8 [iv blocks,.list q1 1 (zcT zbA),.list q2 2 (wdV bent)] (zn7 blocks):=by
 refine znx f8 zvd ?_;have no:∀(tm:Nat->PV) (H:List zu),tm 6=.nilsl->tm 7=.nilsl->tm 8=.bool false->zdI ET T8 (fun e' H=>∃e,zn7 blocks e/\zbo H 0 e' e) .ret ⟨tm,[],H⟩:=fun tm H h6 h7 h8=>by
  refine zq (vs:=[.nilsl,.nilsl,.bool false]) ?_ zu7;simp[T8,zI,okv,h6,h7,h8]
 (repeat(first|refine ze ?_|refine zgo ?_));(repeat refine ze ?_);refine zbN (Q:=fun yy s'=>yy=.norm/\s'.tm 0=iv blocks/\s'.tm 1=.list q1 1 (zcT zbA)/\s'.tm 2=.list q2 2 (wdV bent)/\s'.tm 40=.bool (decide (blocks<2)||decide (40<blocks)||decide (400<zbA.length)||decide (20<bent.length))/\s'.df=[]/\s'.H=[]) (zb ?_) ?_
 ·have h0:zB [iv blocks,.list q1 1 (zcT zbA),.list q2 2 (wdV bent)] 0=iv blocks:=rfl;have h1:zB [iv blocks,.list q1 1 (zcT zbA),.list q2 2 (wdV bent)] 1=.list q1 1 (zcT zbA):=rfl;have h2:zB [iv blocks,.list q1 1 (zcT zbA),.list q2 2 (wdV bent)] 2=.list q2 2 (wdV bent):=rfl;generalize zB [iv blocks,.list q1 1 (zcT zbA),.list q2 2 (wdV bent)]=tm at *
  by_cases c1:blocks<2
  ·refine zfx ?_ (by simp(disch:=omega)only[go_sem,h0,h1,h2,c1,zAA9]<;>rfl);refine zG ?_;simp only[zg,zj,zh,zi,zo,zk,if_true,↓reduceIte];exact⟨(by first|exact trivial|rfl),by simp[upd,h0],by simp[upd,h1],by simp[upd,h2],by simp[upd,c1],(by first|exact trivial|rfl),(by first|exact trivial|rfl)⟩
  by_cases c2:40<blocks
  ·refine zfx ?_ (by simp(disch:=omega)only[go_sem,h0,h1,h2,c1,c2,zAA9]<;>rfl);refine zG ?_;simp only[zg,zj,zh,zi,zo,zk,if_true,↓reduceIte];exact⟨(by first|exact trivial|rfl),by simp[upd,h0],by simp[upd,h1],by simp[upd,h2],by simp[upd,c1,c2],(by first|exact trivial|rfl),(by first|exact trivial|rfl)⟩
  by_cases c3:400<zbA.length
  ·have g3:(400:Int)<(zbA.length:Nat):=by omega
   refine zfx ?_ (by simp(disch:=omega)only[go_sem,h0,h1,h2,c1,c2,g3,zAA9]<;>rfl);refine zG ?_;simp only[zg,zj,zh,zi,zo,zk,if_true,↓reduceIte];exact⟨(by first|exact trivial|rfl),by simp[upd,h0],by simp[upd,h1],by simp[upd,h2],by simp[upd,c1,c2,c3],(by first|exact trivial|rfl),(by first|exact trivial|rfl)⟩
  have g3:¬(400:Int)<(zbA.length:Nat):=by omega
  by_cases c4:20<bent.length
  ·have g4:(20:Int)<(bent.length:Nat):=by omega
   refine zfx ?_ (by simp(disch:=omega)only[go_sem,h0,h1,h2,c1,c2,g3,g4,zAA9]<;>rfl);refine zG ?_;simp only[zg,zj,zh,zi,zo,zk,if_true,↓reduceIte];exact⟨(by first|exact trivial|rfl),by simp[upd,h0],by simp[upd,h1],by simp[upd,h2],by simp[upd,c1,c2,c3,c4],(by first|exact trivial|rfl),(by first|exact trivial|rfl)⟩
  have g4:¬(20:Int)<(bent.length:Nat):=by omega
  refine zfx ?_ (by simp(disch:=omega)only[go_sem,h0,h1,h2,c1,c2,g3,g4,zAA9]<;>rfl);refine zG ?_;simp only[zg,zj,zh,zi,zo,zk,if_true,↓reduceIte];exact⟨(by first|exact trivial|rfl),by simp[upd,h0],by simp[upd,h1],by simp[upd,h2],by simp[upd,c1,c2,c3,c4],(by first|exact trivial|rfl),(by first|exact trivial|rfl)⟩
 rintro yy ⟨tm,df,H⟩ ⟨rfl,h0,h1,h2,h40,rfl,rfl⟩;dsimp only at h0 h1 h2 h40;simp only[zg,zj,zh,zi,zo,zk,if_true,reduceIte]
 by_cases hbad:(decide (blocks<2)||decide (40<blocks)||decide (400<zbA.length)||decide (20<bent.length))=true
 ·rw[hbad]at h40;refine zfc ?_ ?_ (by simp only[go_sem,h40]<;>rfl);rotate_left
  ·intro h;cases h
  intro _;(repeat(first|refine ze ?_|refine zgo ?_));refine zF ?_;(try simp only[zg,zj,zh,zi,zo,zk,if_true,reduceIte]);exact no _ _ (by simp[upd]) (by simp[upd]) (by simp[upd])
 have hbad:(decide (blocks<2)||decide (40<blocks)||decide (400<zbA.length)||decide (20<bent.length))=false:=by simpa using hbad
 rw[hbad]at h40;refine zfc ?_ ?_ (by simp only[go_sem,h40]<;>rfl)
 ·intro h;cases h
 intro _;refine zQ ?_;show W _ _ _ _ _ _;simp only[Bool.or_eq_false_iff,decide_eq_false_iff_not]at hbad;obtain⟨⟨⟨c1,c2⟩,c3⟩,c4⟩:=hbad;obtain⟨N,rfl⟩:∃N:Nat,blocks=N:=⟨blocks.toNat,by omega⟩
 have w1:IntKind.i64.wrap ((64:Int)*(N:Int))=((64*N:Nat):Int):=by rw[wrap_i64 (by omega) (by omega)];omega
 have w2:(64:Int)*(N:Int)=((64*N:Nat):Int):=by omega
 have m1:((64*N:Nat):Int)<=((64*N:Nat):Int):=Int.le_refl _;have m2:((64*N:Nat):Int)<=1000000:=by omega
 have m3:((64*N:Nat):Int)*8<=140737488355328:=by omega
 (repeat refine ze ?_);refine zgo ?_ (by simp(disch:=omega)only[go_sem,h0,w1,w2,m1,m2,m3]<;>rfl);(repeat(first|refine ze ?_|refine zgo ?_));refine zcn 3 1 (i:=10) rfl ?_;simp only[lzy,zAC9,zAE9,zAG9,zAM9,zAF9,zAH9,zAI9];(repeat(first|refine ze ?_|refine zgo ?_));refine zdu (fun tm=>tm 0=iv N/\tm 1=.list q1 1 (zcT zbA)/\tm 2=.list q2 2 (wdV bent)/\tm 9=.sl 0 0 0 (64*N) (2*(64*N)) 1/\tm 10=.sl 1 0 0 0 0 1/\tm 11=iv 1) ⟨by simp[upd,h0],by simp[upd,h1],by simp[upd,h2],by simp[upd],by simp[upd],by simp[upd]⟩ ?_;clear h0 h1 h2 h40;rintro tm ⟨h0,h1,h2,h9,h10,h11⟩;refine zK (zbd (fun m s=>∃(i:Nat) (V:List Int) (G:List zu),m=N-i/\i<N/\V.length=i/\s.tm 0=iv N/\s.tm 1=.list q1 1 (zcT zbA)/\s.tm 2=.list q2 2 (wdV bent)/\s.tm 9=.sl 0 0 0 (64*N) (2*(64*N)) 1/\s.tm 10=.sl 1 i 0 i (2*i) 1/\s.tm 11=iv (i+1:Nat)/\s.df=[]/\s.H=.row 24 1 0 0 (List.replicate (64*N) (uv 0))::.row 3 1 i 0 (V.map iv)::G) (n:=N) ?_ ?_)
 ·exact⟨0,[],[],rfl,by omega,rfl,h0,h1,h2,h9,h10,h11,rfl,rfl⟩
 clear h0 h1 h2 h9 h10 h11;rintro m ⟨tm,df,H⟩ ⟨i,V,G,rfl,hi,hV,h0,h1,h2,h9,h10,h11,rfl,rfl⟩;dsimp only at h0 h1 h2 h9 h10 h11
 by_cases hlt:i+1<N
 ·have g:((i+1:Nat):Int)<(N:Nat):=by omega
  (try refine zaa ?_);refine ze (zb ?_);refine zfx ?_ (by simp(disch:=omega)only[go_sem,h0,h11,g]<;>rfl);refine zd ?_;refine zae (by simp only[go_sem]<;>rfl) ?_ ?_;rotate_left
  ·intro h;cases h
  intro _;have hbb:(i+1)*9<=140737488355328:=by omega
  (repeat refine ze ?_);refine zK ?_;(repeat refine ze ?_);refine zrg ?_ (by simp(disch:=omega)only[go_sem,h10,h11,hbb,hV,zf]<;>rfl);refine zG ?_;simp only[zg,zj,zh,zi,zo,zk,if_true,↓reduceIte];have w5:((i+1:Nat):Int)+1=((i+1+1:Nat):Int):=by omega
  (repeat refine ze ?_);refine zrg ?_ (by simp(disch:=omega)only[go_sem,h11,w5]<;>rfl);refine zG ?_;simp only[zg,zj,zh,zi,zo,zk,if_true,↓reduceIte];refine⟨_,?m,i+1,V++[((i+1:Nat):Int)],?G,rfl,hlt,by simp[hV],by simp[upd,h0],by simp[upd,h1],by simp[upd,h2],by simp[upd,h9],by simp[upd],by simp[upd,h11],trivial,?H⟩
  case m=>omega
  case H=>rw[zBY9];rfl
 have g:¬((i+1:Nat):Int)<(N:Nat):=by omega
 (try refine zaa ?_);refine ze (zb ?_);refine zfx ?_ (by simp(disch:=omega)only[go_sem,h0,h11,g]<;>rfl);refine zd ?_;refine zae (by simp only[go_sem]<;>rfl) ?_ ?_
 ·intro h;cases h
 intro _;simp only[zg,zj,zh,zi,zo,zk,if_true,reduceIte];have hiN:i+1=N:=by omega
 refine zdu (fun tm=>tm 0=iv N/\tm 1=.list q1 1 (zcT zbA)/\tm 2=.list q2 2 (wdV bent)/\tm 9=.sl 0 0 0 (64*N) (2*(64*N)) 1/\tm 10=.sl 1 i 0 i (2*i) 1) ⟨by simp[upd,h0],by simp[upd,h1],by simp[upd,h2],by simp[upd,h9],by simp[upd,h10]⟩ ?_;clear h0 h1 h2 h9 h10 h11;rintro tm ⟨h0,h1,h2,h9,h10⟩;refine zfj 10 1 (w:=.list 0 1 (V.map iv)) rfl (by
  dsimp only;rw[h10];exact Frz.whole (zxj rfl) rfl (by simp[hV]) (by simp[hV]) (fun v hv=>by obtain⟨x,_,rfl⟩:=zAS9.1 hv;rfl) zqt) ?_
 simp only[zBL9,zCL9];(repeat(first|refine ze ?_|refine zgo ?_));refine zcn 66 2 (i:=12) rfl ?_;refine zcn 66 2 (i:=13) rfl ?_;refine zcn 4 1 (i:=14) rfl ?_;simp only[lzy,zAF9,zAH9,zAI9,zAC9,zAE9,zAG9,zAM9];refine zK (zbd (fun m s=>∃(j key:Nat) (P L:List Pr) (U:List Bool) (G2:List zu),m=zbA.length-j/\j<=zbA.length/\key<=10*j/\P.length<=j/\L.length<=j/\U.length=L.length/\s.tm 1=.list q1 1 (zcT zbA)/\s.tm 2=.list q2 2 (wdV bent)/\s.tm 9=.sl 0 0 0 (64*N) (2*(64*N)) 1/\s.tm 10=.list 0 1 (V.map iv)/\s.tm 12=.sl (G.length+1+1) P.length 0 P.length (2*P.length) 2/\s.tm 13=.sl (G.length+1+1+1) L.length 0 L.length (2*L.length) 2/\s.tm 14=.sl (G.length+1+1+1+1) L.length 0 L.length (2*L.length) 1/\s.tm 15=uv key/\s.tm 16=iv j/\s.df=[]/\s.H=.row 24 1 0 0 (List.replicate (64*N) (uv 0))::.void::(G++.row 66 2 P.length 0 (P.map pv)::.row 66 2 L.length 0 (L.map pv)::.row 4 1 L.length 0 (U.map PV.bool):: G2)) (n:=zbA.length) ?_ ?_)
 ·exact⟨0,0,[],[],[],[],rfl,zAU9 _,zAU9 _,zAU9 _,zAU9 _,rfl,by simp[upd,h1],by simp[upd,h2],by simp[upd,h9],by simp[upd],by simp[upd],by simp[upd],by simp[upd],by simp[upd],by simp[upd],rfl,rfl⟩
 clear h0 h1 h2 h9 h10 g m1 m2 m3 w1 w2;rintro m ⟨tm,df,H⟩ ⟨j,key,P,L,U,G2,rfl,hj,hkey,hP,hL,hU,h1,h2,h9,h10,h12,h13,h14,h15,h16,rfl,rfl⟩;dsimp only at h1 h2 h9 h10 h12 h13 h14 h15 h16;(try refine zaa ?_);refine ze (zb ?_);refine zfx ?_ (by simp(disch:=omega)only[go_sem,h1,h16,zAA9]<;>rfl);refine zd ?_;refine zae (by simp only[go_sem]<;>rfl) ?_ ?_
 ·intro hlt;have hlt:j<zbA.length:=by have:=of_decide_eq_true hlt;omega
  obtain⟨b,hb⟩:∃b,zbA[j]?=some b:=⟨_,zAB9 hlt⟩
  have hbv:(zcT zbA)[j]?=some (.int .u8 (b:Int)):=by rw[zAL9,hb];rfl
  have r1:((b:Int)).tmod 9=((b%9:Nat):Int):=by rw[IntWalk.rem_in _ _ (by omega)];omega
  have r2:IntKind.u64.wrap ((b%9:Nat):Int)=((b%9:Nat):Int):=zL (by omega) (by omega);have r3:(key:Int)+1=((key+1:Nat):Int):=by omega
  have r4:((key+1:Nat):Int)+((b%9:Nat):Int)=((key+1+b%9:Nat):Int):=by omega
  have r5:(1000:Int)+(j:Nat)=((1000+j:Nat):Int):=by omega
  have r6:IntKind.u64.wrap ((1000+j:Nat):Int)=((1000+j:Nat):Int):=zL (by omega) (by omega);have hk2:key+1+b%9<=10*(j+1):=by omega
  (repeat refine ze ?_);refine zK ?_;(repeat refine ze ?_);refine zgo ?_ (by simp(disch:=omega)only[go_sem,h1,h15,h16,hbv,hlt,r1,r2,r3,r4,zaF,zAA9]<;>rfl);(repeat refine ze ?_);refine zgo ?_ (by simp(disch:=omega)only[go_sem,h16,r5,r6,ga0,ga1,ga2,sa0,sa1,sa2,gc0,gc1,gc2,sc0,zAF9,zAH9,zAI9,zAC9,zAE9,zAG9,zAM9,zAA9]<;>rfl);generalize key+1+b%9=key2 at *
  refine zdu (fun tm=>tm 1=.list q1 1 (zcT zbA)/\tm 2=.list q2 2 (wdV bent)/\tm 9=.sl 0 0 0 (64*N) (2*(64*N)) 1/\tm 10=.list 0 1 (V.map iv)/\tm 12=.sl (G.length+1+1) P.length 0 P.length (2*P.length) 2/\tm 13=.sl (G.length+1+1+1) L.length 0 L.length (2*L.length) 2/\tm 14=.sl (G.length+1+1+1+1) L.length 0 L.length (2*L.length) 1/\tm 15=uv key2/\tm 16=iv j/\tm 17=.ptr (G.length+(G2.length+1+1+1)+1+1) 0 0 0 2) ⟨by simp[upd,h1],by simp[upd,h2],by simp[upd,h9],by simp[upd,h10],by simp[upd,h12],by simp[upd,h13],by simp[upd,h14],by simp[upd],by simp[upd,h16],by simp[upd]⟩ ?_;clear h1 h2 h9 h10 h12 h13 h14 h15 h16;rintro tm ⟨h1,h2,h9,h10,h12,h13,h14,h15,h16,h17⟩;have hbb:(P.length+1)*17<=140737488355328:=by omega
  (repeat refine ze ?_);refine zgo ?_ (by simp(disch:=omega)only[go_sem,h1,h16,hbv,hlt,zAA9]<;>rfl);refine zbN (Q:=fun yy s'=>yy=.norm/\∃(P:List Pr) (G3:List zu),P.length<=j+1/\s'.tm 1=.list q1 1 (zcT zbA)/\s'.tm 2=.list q2 2 (wdV bent)/\s'.tm 9=.sl 0 0 0 (64*N) (2*(64*N)) 1/\s'.tm 10=.list 0 1 (V.map iv)/\s'.tm 12=.sl (G.length+1+1) P.length 0 P.length (2*P.length) 2/\s'.tm 13=.sl (G.length+1+1+1) L.length 0 L.length (2*L.length) 2/\s'.tm 14=.sl (G.length+1+1+1+1) L.length 0 L.length (2*L.length) 1/\s'.tm 15=uv key2/\s'.tm 16=iv j/\s'.tm 17=.ptr (G.length+(G2.length+1+1+1)+1+1) 0 0 0 2/\s'.df=[]/\s'.H=.row 24 1 0 0 (List.replicate (64*N) (uv 0))::.void::(G++.row 66 2 P.length 0 (P.map pv)::.row 66 2 L.length 0 (L.map pv)::.row 4 1 L.length 0 (U.map PV.bool)::(G2++.row 66 2 0 0 [pv (key2,1000+j)]::G3))) ?_ ?_
  ·refine zfc ?_ ?_
   ·intro _;(repeat refine ze ?_);refine zrg ?_ (by simp(disch:=omega)only[go_sem,h12,h17,hbb,ga0,ga1,ga2,sa0,sa1,sa2,gc0,gc1,gc2,sc0,zAF9,zAH9,zAI9,zAC9,zAE9,zAG9,zAM9,zAA9]<;>rfl);refine zG ?_;simp only[zg,zj,zh,zi,zo,zk,if_true,↓reduceIte];refine⟨(by first|exact trivial|rfl),P++[(key2,1000+j)],?G3,by simp;omega,by simp[upd,h1],by simp[upd,h2],by simp[upd,h9],by simp[upd,h10],by simp[upd],by simp[upd,h13],by simp[upd,h14],by simp[upd,h15],by simp[upd,h16],by simp[upd,h17],(by first|exact trivial|rfl),?H3⟩
    case H3=>rw[zBY9,zAC9];rfl
   ·intro _;refine zQ ?_;(try simp only[zg,zj,zh,zi,zo,zk,if_true,reduceIte]);exact⟨(by first|exact trivial|rfl),P,[],by omega,by simp[upd,h1],by simp[upd,h2],by simp[upd,h9],by simp[upd,h10],by simp[upd,h12],by simp[upd,h13],by simp[upd,h14],by simp[upd,h15],by simp[upd,h16],by simp[upd,h17],(by first|exact trivial|rfl),(by first|exact trivial|rfl)⟩
  clear h1 h2 h9 h10 h12 h13 h14 h15 h16 h17 hP hbb;clear P;rintro yy ⟨tm,df,H⟩ ⟨rfl,P,G3,hP,h1,h2,h9,h10,h12,h13,h14,h15,h16,h17,rfl,rfl⟩;dsimp only at h1 h2 h9 h10 h12 h13 h14 h15 h16 h17;simp only[zg,zj,zh,zi,zo,zk,if_true,reduceIte];(repeat refine ze ?_);refine zbN (Q:=fun yy s'=>yy=.norm/\(∃c,s'.tm 91=.bool c)/\s'.tm 1=.list q1 1 (zcT zbA)/\s'.tm 2=.list q2 2 (wdV bent)/\s'.tm 9=.sl 0 0 0 (64*N) (2*(64*N)) 1/\s'.tm 10=.list 0 1 (V.map iv)/\s'.tm 12=.sl (G.length+1+1) P.length 0 P.length (2*P.length) 2/\s'.tm 13=.sl (G.length+1+1+1) L.length 0 L.length (2*L.length) 2/\s'.tm 14=.sl (G.length+1+1+1+1) L.length 0 L.length (2*L.length) 1/\s'.tm 15=uv key2/\s'.tm 16=iv j/\s'.tm 17=.ptr (G.length+(G2.length+1+1+1)+1+1) 0 0 0 2/\s'.df=[]/\s'.H=.row 24 1 0 0 (List.replicate (64*N) (uv 0))::.void::(G++.row 66 2 P.length 0 (P.map pv)::.row 66 2 L.length 0 (L.map pv)::.row 4 1 L.length 0 (U.map PV.bool)::(G2++.row 66 2 0 0 [pv (key2,1000+j)]::G3))) (zb ?_) ?_
  ·by_cases hc:128<=b
   ·have g1:(128:Int)<=b:=by omega
    refine zfx ?_ (by simp(disch:=omega)only[go_sem,h1,h13,h16,hbv,hlt,g1,zAA9]<;>rfl);refine zG ?_;simp only[zg,zj,zh,zi,zo,zk,if_true,↓reduceIte];exact⟨(by first|exact trivial|rfl),⟨_,by simp[upd]<;>rfl⟩,by simp[upd,h1],by simp[upd,h2],by simp[upd,h9],by simp[upd,h10],by simp[upd,h12],by simp[upd,h13],by simp[upd,h14],by simp[upd,h15],by simp[upd,h16],by simp[upd,h17],(by first|exact trivial|rfl),(by first|exact trivial|rfl)⟩
   ·have g1:¬(128:Int)<=b:=by omega
    refine zfx ?_ (by simp(disch:=omega)only[go_sem,h1,h13,h16,hbv,hlt,g1,zAA9]<;>rfl);refine zG ?_;simp only[zg,zj,zh,zi,zo,zk,if_true,↓reduceIte];exact⟨(by first|exact trivial|rfl),⟨_,by simp[upd]<;>rfl⟩,by simp[upd,h1],by simp[upd,h2],by simp[upd,h9],by simp[upd,h10],by simp[upd,h12],by simp[upd,h13],by simp[upd,h14],by simp[upd,h15],by simp[upd,h16],by simp[upd,h17],(by first|exact trivial|rfl),(by first|exact trivial|rfl)⟩
  clear h1 h2 h9 h10 h12 h13 h14 h15 h16 h17;rintro yy ⟨tm,df,H⟩ ⟨rfl,⟨c,h91⟩,h1,h2,h9,h10,h12,h13,h14,h15,h16,h17,rfl,rfl⟩;dsimp only at h1 h2 h9 h10 h12 h13 h14 h15 h16 h17 h91;simp only[zg,zj,zh,zi,zo,zk,if_true,reduceIte];have hbb:(L.length+1)*17<=140737488355328:=by omega
  have hbc:(L.length+1)*2<=140737488355328:=by omega
  refine zbN (Q:=fun yy s'=>yy=.norm/\∃(L:List Pr) (U:List Bool) (G3:List zu),L.length<=j+1/\U.length=L.length/\s'.tm 1=.list q1 1 (zcT zbA)/\s'.tm 2=.list q2 2 (wdV bent)/\s'.tm 9=.sl 0 0 0 (64*N) (2*(64*N)) 1/\s'.tm 10=.list 0 1 (V.map iv)/\s'.tm 12=.sl (G.length+1+1) P.length 0 P.length (2*P.length) 2/\s'.tm 13=.sl (G.length+1+1+1) L.length 0 L.length (2*L.length) 2/\s'.tm 14=.sl (G.length+1+1+1+1) L.length 0 L.length (2*L.length) 1/\s'.tm 15=uv key2/\s'.tm 16=iv j/\s'.df=[]/\s'.H=.row 24 1 0 0 (List.replicate (64*N) (uv 0))::.void::(G++.row 66 2 P.length 0 (P.map pv)::.row 66 2 L.length 0 (L.map pv)::.row 4 1 L.length 0 (U.map PV.bool)::(G2++G3))) ?_ ?_
  ·refine zfc ?_ ?_ (by simp only[go_sem,h91]<;>rfl)
   ·intro _;(repeat refine ze ?_);refine zap ?_;refine zda ?_ (by simp(disch:=omega)only[go_sem,h1,h13,h14,h16,h17,hbv,hlt,hbb,hbc,hU,ga0,ga1,ga2,sa0,sa1,sa2,gc0,gc1,gc2,sc0,gd0,gd1,zh8,zhT,zh4,zh7,zax,zaw,zay,zaz,zT,zS,zO,zAF9,zAH9,zAI9,zAC9,zAE9,zAG9,zAM9,zAA9]<;>rfl) (by first|exact trivial|simp only[go_sem,h1,h13,h14,h16,h17,hbv,hlt,hbb,hbc,hU,ga0,ga1,ga2,sa0,sa1,sa2,gc0,gc1,gc2,sc0,gd0,gd1,zh8,zhT,zh4,zh7,zax,zaw,zay,zaz,zT,zS,zO,zAF9,zAH9,zAI9,zAC9,zAE9,zAG9,zAM9,zAA9]);refine zda ?_ (by simp(disch:=omega)only[go_sem,h1,h13,h14,h16,h17,hbv,hlt,hbb,hbc,hU,ga0,ga1,ga2,sa0,sa1,sa2,gc0,gc1,gc2,sc0,gd0,gd1,zh8,zhT,zh4,zh7,zax,zaw,zay,zaz,zT,zS,zO,zAF9,zAH9,zAI9,zAC9,zAE9,zAG9,zAM9,zAA9]<;>rfl) (by first|exact trivial|simp only[go_sem,h1,h13,h14,h16,h17,hbv,hlt,hbb,hbc,hU,ga0,ga1,ga2,sa0,sa1,sa2,gc0,gc1,gc2,sc0,gd0,gd1,zh8,zhT,zh4,zh7,zax,zaw,zay,zaz,zT,zS,zO,zAF9,zAH9,zAI9,zAC9,zAE9,zAG9,zAM9,zAA9]);refine zdl ?_ (by simp(disch:=omega)only[go_sem,h13,ga0,ga1,ga2,sa0,sa1,sa2,gc0,gc1,gc2,sc0,gd0,gd1,zh8,zhT,zh4,zh7,zax,zaw,zay,zaz,zT,zS,zO,zAF9,zAH9,zAI9,zAC9,zAE9,zAG9,zAM9,zAA9]<;>rfl) (by first|exact trivial|simp only[go_sem,h13,ga0,ga1,ga2,sa0,sa1,sa2,gc0,gc1,gc2,sc0,gd0,gd1,zh8,zhT,zh4,zh7,zax,zaw,zay,zaz,zT,zS,zO,zAF9,zAH9,zAI9,zAC9,zAE9,zAG9,zAM9,zAA9]);refine zR ?_;simp only[zo,zW,zg,go_sem];refine⟨L++[(key2,1000+j)],U++[decide (192<=(b:Int))],?G6,by simp;omega,by simp[hU],h1,h2,h9,h10,h12,by simp,by simp,h15,h16,?H6⟩
    case H6 =>
     simp only[zAC9,zAE9,zAG9,zAM9,zBY9,zCI9,zBQ9];rfl
   ·intro _;refine zQ ?_;(try simp only[zg,zj,zh,zi,zo,zk,if_true,reduceIte]);exact⟨(by first|exact trivial|rfl),L,U,_,by omega,hU,h1,h2,h9,h10,h12,h13,h14,h15,h16,(by first|exact trivial|rfl),rfl⟩
  clear h1 h2 h9 h10 h12 h13 h14 h15 h16 h17 h91 hL hU hbb hbc;clear L U;rintro yy ⟨tm,df,H⟩ ⟨rfl,L,U,G4,hL,hU,h1,h2,h9,h10,h12,h13,h14,h15,h16,rfl,rfl⟩;dsimp only at h1 h2 h9 h10 h12 h13 h14 h15 h16;simp only[zg,zj,zh,zi,zo,zk,if_true,reduceIte];(repeat refine ze ?_);refine zrg ?_ (by simp(disch:=omega)only[go_sem,h16]<;>rfl);refine zG ?_;simp only[zg,zj,zh,zi,zo,zk,if_true,↓reduceIte];refine⟨_,?m5,j+1,key2,P,L,U,?G5,rfl,hlt,hk2,hP,hL,hU,by simp[upd,h1],by simp[upd,h2],by simp[upd,h9],by simp[upd,h10],by simp[upd,h12],by simp[upd,h13],by simp[upd,h14],by simp[upd,h15],by simp[upd,h16],trivial,?H5⟩
  case m5=>omega
  case H5=>rfl
 intro hlt;have hlt:¬j<zbA.length:=by have:=of_decide_eq_false hlt;omega
 simp only[zg,zj,zh,zi,zo,zk,if_true,reduceIte];refine zdu (fun tm=>tm 2=.list q2 2 (wdV bent)/\tm 9=.sl 0 0 0 (64*N) (2*(64*N)) 1/\tm 10=.list 0 1 (V.map iv)/\tm 12=.sl (G.length+1+1) P.length 0 P.length (2*P.length) 2/\tm 13=.sl (G.length+1+1+1) L.length 0 L.length (2*L.length) 2/\tm 14=.sl (G.length+1+1+1+1) L.length 0 L.length (2*L.length) 1) ⟨by simp[upd,h2],by simp[upd,h9],by simp[upd,h10],by simp[upd,h12],by simp[upd,h13],by simp[upd,h14]⟩ ?_;clear h1 h2 h9 h10 h12 h13 h14 h15 h16;rintro tm ⟨h2,h9,h10,h12,h13,h14⟩;have hPl:P.length<=400:=by omega
 have hLl:L.length<=400:=by omega
 refine zfj 12 (G.length+1+1) (w:=psv 0 P) (o:=.row 66 2 P.length 0 (P.map pv)) (by simp only[zAT9,ga0]) (by
  dsimp only;rw[h12];exact Frz.whole (l:=P.map pv) (zxj (by simp only[zAT9,ga0]<;>rfl)) rfl (by simp) (by simp) (fun v hv=>by obtain⟨x,_,rfl⟩:=zAS9.1 hv;rfl) zd2) ?_
 simp only[zBL9,sa0];refine zfj 13 (G.length+1+1+1) (w:=psv 0 L) (o:=.row 66 2 L.length 0 (L.map pv)) (by simp only[zAT9,ga1]) (by
  have h13':upd tm 12 (psv 0 P) 13=.sl (G.length+1+1+1) L.length 0 L.length (2*L.length) 2:=by simp[upd,h13]
  dsimp only;rw[h13'];exact Frz.whole (l:=L.map pv) (zxj (by simp only[zAT9,ga1]<;>rfl)) rfl (by simp) (by simp) (fun v hv=>by obtain⟨x,_,rfl⟩:=zAS9.1 hv;rfl) zd2) ?_
 simp only[zBL9,sa1];refine zfj 14 (G.length+1+1+1+1) (w:=.list 0 1 (U.map PV.bool)) (o:=.row 4 1 L.length 0 (U.map PV.bool)) (by simp only[zAT9,ga2]) (by
  have h14':upd (upd tm 12 (psv 0 P)) 13 (psv 0 L) 14=.sl (G.length+1+1+1+1) L.length 0 L.length (2*L.length) 1:=by simp[upd,h14]
  dsimp only;rw[h14'];exact Frz.whole (l:=U.map PV.bool) (zxj (by simp only[zAT9,ga2]<;>rfl)) rfl (by simp[hU]) (by simp[hU]) (fun v hv=>by obtain⟨x,_,rfl⟩:=zAS9.1 hv;rfl) zuS) ?_
 simp only[zBL9,sa2];refine zdu (fun tm=>tm 2=.list q2 2 (wdV bent)/\tm 9=.sl 0 0 0 (64*N) (2*(64*N)) 1/\tm 10=.list 0 1 (V.map iv)/\tm 12=psv 0 P/\tm 13=psv 0 L/\tm 14=.list 0 1 (U.map PV.bool)) ⟨by simp[upd,h2],by simp[upd,h9],by simp[upd,h10],by simp[upd],by simp[upd],by simp[upd]⟩ ?_;clear h2 h9 h10 h12 h13 h14;rintro tm ⟨h2,h9,h10,h12,h13,h14⟩;obtain⟨w0,hw0,hw0l⟩:∃w:List Nat,List.replicate (64*N) (uv 0)=w.map uv/\w.length=64*N:=⟨List.replicate (64*N) 0,by rw[List.map_replicate],by simp⟩
 rw[hw0];generalize hHH:(.row 24 1 0 0 (w0.map uv)::.void::(G++.void::.void::.void::G2):List zu)=H;have hr0:H[0]?=some (.row 24 1 0 0 (w0.map uv)):=by rw[<- hHH];rfl
 clear hHH;have hB:=zsN 0 0 P V (by omega) (by omega);obtain⟨root,used,no',puts,hE,hpl,hused,hroot⟩:=zsq P V (by omega);rw[hE]at hB;(repeat refine ze ?_);refine zrg ?_ (by simp(disch:=omega)only[go_sem,h10,h12]<;>rfl);refine zca hB ?_;refine zfx ?_;refine zd ?_
 by_cases hno:no'=0
 rotate_left
 ·have g1:¬(no':Int)=0:=by omega
  (repeat(first|refine ze ?_|refine zgo ?_ (by simp(disch:=omega)only[go_sem,g1]<;>rfl)));refine zfc ?_ ?_;rotate_left
  ·intro h;cases h
  intro _;(repeat(first|refine ze ?_|refine zgo ?_));refine zF ?_;(try simp only[zg,zj,zh,zi,zo,zk,if_true,reduceIte]);exact no _ _ (by simp[upd]) (by simp[upd]) (by simp[upd])
 have g1:(no':Int)=0:=by omega
 (repeat(first|refine ze ?_|refine zgo ?_ (by simp(disch:=omega)only[go_sem,g1]<;>rfl)));refine zfc ?_ ?_
 ·intro h;cases h
 intro _;refine zQ ?_;show W _ _ _ _ _ _;have hap:=zkJ 0 H 0 0 (2*w0.length) 0 w0 puts (by omega) ⟨by omega,by omega⟩ (zAK9 _) hr0;rw[<- hw0l]at h9;(repeat refine ze ?_);refine zrg ?_ (by simp(disch:=omega)only[go_sem,h9]<;>rfl);refine zeY (caps:=?_) (vs:=?_) ?_ ?_ hap ?_ ?_ ?_;rotate_left 2;(first|rfl|(simp only[zaf,zas,go_sem,h9]<;>rfl));(simp only[go_sem,h9]<;>rfl);rfl;rfl;rintro e H1 ⟨hst,id,g,M,rfl,hM,hr⟩;refine zfx ?_;refine zd ?_;have hal:=zep puts w0;generalize zby w0 puts=w1' at *
 have r5:5<w1'.length:=by omega
 have r6:IntKind.u64.wrap (root:Int)=(root:Int):=zL (by omega) (by omega);obtain⟨o5,ho5⟩:∃o,w1'[5]?=some o:=⟨_,zAB9 r5⟩
 have z5:(w1'.map uv)[5]?=some (uv o5):=by rw[zAL9,ho5];rfl
 have y5:(w1'.map uv).set 5 (.int .u64 (root:Int))=(w1'.set 5 root).map uv:=zES9.symm;have r7:5<w0.length:=by omega
 (repeat refine ze ?_);refine zgo ?_ (by simp(disch:=omega)only[go_sem,hr,hM,r5,r6,r7,z5,y5,zAA9]<;>rfl);(repeat(first|refine ze ?_|refine zgo ?_));have hr2:(H1.set id (.row 24 1 g g ((w1'.set 5 root).map uv)))[id]?=some (.row 24 1 g g ((w1'.set 5 root).map uv)):=zBD9 (zAD9.1 hr).1;have hw2:(w1'.set 5 root).length=64*N:=by simp;omega
 have hw20:w0.length=(w1'.set 5 root).length:=by omega
 rw[hw20];clear hr z5 y5 ho5 r5 r6 r7 hal hap hr0 hst hB hE hw0 hw0l h9 hw20;refine zK (zbd (fun m s=>∃(i id g M used:Nat) (w:List Nat),m=L.length-i/\i<=L.length/\w.length=64*N/\M<=g/\used<=V.length/\s.tm 2=.list q2 2 (wdV bent)/\s.tm 9=.sl id g 0 w.length (2*w.length) 1/\s.tm 10=.list 0 1 (V.map iv)/\s.tm 13=psv 0 L/\s.tm 14=.list 0 1 (U.map PV.bool)/\s.tm 20=iv used/\s.tm 22=iv i/\s.df=[]/\s.H[id]?=some (.row 24 1 g M (w.map uv))) (n:=L.length) ?_ ?_)
 ·exact⟨0,id,g,g,used,_,rfl,zAU9 _,hw2,zAK9 _,hused,by simp[upd,h2],by simp[upd],by simp[upd,h10],by simp[upd,h13],by simp[upd,h14],by simp[upd],by simp[upd],rfl,hr2⟩
 clear hr2 hw2 hM h2 h10 h12 h13 h14 hused hpl;clear puts w0 w1';rintro m ⟨tm,df,H⟩ ⟨i,id,g,M,used,w,rfl,hi,hwl,hM,hused,h2,h9,h10,h13,h14,h20,h22,rfl,hr⟩;dsimp only at h2 h9 h10 h13 h14 h20 h22 hr;(try refine zaa ?_);refine ze (zb ?_);refine zfx ?_ (by simp(disch:=omega)only[go_sem,h13,h22,zAA9]<;>rfl);refine zd ?_;refine zae (by simp only[go_sem]<;>rfl) ?_ ?_
 ·intro hlt;have hlt:i<L.length:=by have:=of_decide_eq_true hlt;omega
  obtain⟨pr,hpr⟩:∃pr,L[i]?=some pr:=⟨_,zAB9 hlt⟩
  have hprv:(L.map pv)[i]?=some (pv pr):=by rw[zAL9,hpr];rfl
  obtain⟨u,hu⟩:∃u,U[i]?=some u:=⟨_,zAB9 (by omega)⟩
  have huv:(U.map PV.bool)[i]?=some (.bool u):=by rw[zAL9,hu];rfl
  have hiu:i<U.length:=by omega
  have fz:Frz H 1 (.sl id g 0 w.length (2*w.length) 1) (wv 1 w):=Frz.wholeM hr hM rfl (by simp) (by simp) (fun v hv=>by obtain⟨x,_,rfl⟩:=zAS9.1 hv;rfl) zki;have hdv:List.drop used (V.map iv)=(V.drop used).map iv:=by rw[zCO9]
  have hdl:(V.drop used).length=V.length-used:=zCA9;(repeat refine ze ?_);refine zK ?_;(repeat(first|refine ze ?_|refine zgo ?_ (by simp(disch:=omega)only[go_sem,h14,h22,huv,hiu,zAA9]<;>rfl)));(repeat refine ze ?_);refine zbN (Q:=fun yy s'=>yy=.norm/\∃(PL:List Pr) (n:Nat),PL.length<=900000/\used+n<=V.length/\s'.tm 2=.list q2 2 (wdV bent)/\s'.tm 9=.sl id g 0 w.length (2*w.length) 1/\s'.tm 10=.list 0 1 (V.map iv)/\s'.tm 13=psv 0 L/\s'.tm 14=.list 0 1 (U.map PV.bool)/\s'.tm 20=iv used/\s'.tm 22=iv i/\s'.tm 19=.list 0 2 (PL.map zag)/\s'.tm 23=iv n/\s'.df=[]/\s'.H=H) ?_ ?_
  ·cases u with
   | true =>
    obtain⟨R,hR,hR1,hR2⟩:=ztQ 1 0 w 5 pr (V.drop used) (by unfold zbH;omega) (by omega);unfold zj5 at hR;refine zfc ?_ ?_;rotate_left
    ·intro h;cases h
    intro _;(repeat refine ze ?_);refine zap ?_;refine zdi hR ?_ ?_ (by simp(disch:=omega)only[go_sem,h9,h10,h13,h20,h22,hprv,hlt,hdv,hused,zAA9]<;>rfl);(repeat(first|exact trivial|refine And.intro ?_ ?_|exact .int _ _|exact .bool _|exact .list _ _ _|exact .elem _|exact .nilsl|exact .nil _ _|exact .str _|refine Frz.aggL ?_|refine Frz.fnL ?_|refine Frz.tupL ?_|refine .iface ?_|exact zy rfl rfl (by assumption)));(exact fz;exact⟨.int _ _,Frz.aggL ⟨.int _ _,.int _ _,trivial⟩,.list _ _ _,trivial⟩);refine zdl ?_ (by simp(disch:=omega)only[go_sem,h10]<;>rfl);refine zR ?_;simp only[zo,zW,zg,go_sem];exact⟨R.1,R.2.1,hR2,by omega,h2,h9,h10,h13,h14,h20,h22,rfl,rfl⟩
   | false =>
    obtain⟨PL,no'',hT,hTl⟩:=zq7 1 0 5 pr.1 w (by omega) (by decide);unfold zmP at hT;refine zfc ?_ ?_
    ·intro h;cases h
    intro _;(repeat refine ze ?_);refine zrg ?_ (by simp(disch:=omega)only[go_sem,h9,h13,h22,hprv,hlt,zAA9]<;>rfl);refine zcl hT ?_ ?_;(repeat(first|exact trivial|refine And.intro ?_ ?_|exact .int _ _|exact .bool _|exact .list _ _ _|exact .elem _|exact .nilsl|exact .nil _ _|exact .str _|refine Frz.aggL ?_|refine Frz.fnL ?_|refine Frz.tupL ?_|refine .iface ?_|exact zy rfl rfl (by assumption)))
    ·exact fz
    ·(repeat(first|exact trivial|refine And.intro ?_ ?_|exact .int _ _|exact .bool _|exact .list _ _ _|exact .elem _|exact .nilsl|exact .nil _ _|exact .str _|refine Frz.aggL ?_|refine Frz.fnL ?_|refine Frz.tupL ?_|refine .iface ?_|exact zy rfl rfl (by assumption)))
    refine zfx ?_;refine zG ?_;simp only[zg,zj,zh,zi,zo,zk,if_true,↓reduceIte];refine⟨(by first|exact trivial|rfl),PL,0,hTl,by omega,by simp[upd,h2],by simp[upd,h9],by simp[upd,h10],by simp[upd,h13],by simp[upd,h14],by simp[upd,h20],by simp[upd,h22],by simp[upd],by simp[upd],(by first|exact trivial|rfl),(by first|exact trivial|rfl)⟩
  clear h2 h9 h10 h13 h14 h20 h22;rintro yy ⟨tm,df,H⟩ ⟨rfl,PL,n,hPLl,hun,h2,h9,h10,h13,h14,h20,h22,h19,h23,rfl,rfl⟩;dsimp only at h2 h9 h10 h13 h14 h20 h22 h19 h23;simp only[zg,zj,zh,zi,zo,zk,if_true,reduceIte];have hap:=zkJ 0 H id g (2*w.length) M w PL (by omega) ⟨by omega,by omega⟩ hM hr;have wu:(used:Int)+(n:Nat)=((used+n:Nat):Int):=by omega
  (repeat refine ze ?_);refine zrg ?_ (by simp(disch:=omega)only[go_sem,h9,h19]<;>rfl);refine zeY (caps:=?_) (vs:=?_) ?_ ?_ hap ?_ ?_ ?_;rotate_left 2;(first|rfl|(simp only[zaf,zas,go_sem,h9]<;>rfl));(simp only[go_sem,h9]<;>rfl);rfl;rfl;rintro e H1 ⟨hst,id2,g2,M2,rfl,hM2,hr2⟩;refine zfx ?_ (by simp(disch:=omega)only[go_sem,h20,h23,wu]<;>rfl);refine zG ?_;simp only[zg,zj,zh,zi,zo,zk,if_true,↓reduceIte];(repeat refine ze ?_);refine zrg ?_ (by simp(disch:=omega)only[go_sem,h22]<;>rfl);refine zG ?_;simp only[zg,zj,zh,zi,zo,zk,if_true,↓reduceIte];have hal:=zep PL w;refine⟨_,?m7,i+1,id2,g2,M2,used+n,zby w PL,rfl,hlt,by rw[hal];exact hwl,hM2,hun,by simp[upd,h2],by simp[upd,hal],by simp[upd,h10],by simp[upd,h13],by simp[upd,h14],by simp[upd],by simp[upd,h22],trivial,hr2⟩
  case m7=>omega
 intro hlt;simp only[zg,zj,zh,zi,zo,zk,if_true,reduceIte];(repeat(first|refine ze ?_|refine zgo ?_));refine zK (zbd (fun m s=>∃(k id g M:Nat) (w:List Nat),m=bent.length-k/\k<=bent.length/\w.length=64*N/\M<=g/\s.tm 2=.list q2 2 (wdV bent)/\s.tm 9=.sl id g 0 w.length (2*w.length) 1/\s.tm 10=.list 0 1 (V.map iv)/\s.tm 20=iv used/\s.tm 24=iv k/\s.df=[]/\s.H[id]?=some (.row 24 1 g M (w.map uv))) (n:=bent.length) ?_ ?_)
 ·exact⟨0,id,g,M,w,rfl,zAU9 _,hwl,hM,by simp[upd,h2],by simp[upd,h9],by simp[upd,h10],by simp[upd,h20],by simp[upd],rfl,hr⟩
 clear h2 h9 h10 h13 h14 h20 h22 hr hM hwl;clear w;rintro m ⟨tm,df,H⟩ ⟨k,id,g,M,w,rfl,hk,hwl,hM,h2,h9,h10,h20,h24,rfl,hr⟩;dsimp only at h2 h9 h10 h20 h24 hr;(try refine zaa ?_);refine ze (zb ?_);refine zfx ?_ (by simp(disch:=omega)only[go_sem,h2,h24,zAA9]<;>rfl);refine zd ?_;refine zae (by simp only[go_sem]<;>rfl) ?_ ?_
 ·intro hltk;have hltk:k<bent.length:=by have:=of_decide_eq_true hltk;omega
  obtain⟨x,hx⟩:∃x,bent[k]?=some x:=⟨_,zAB9 hltk⟩
  have hxv:(wdV bent)[k]?=some (.agg [iv x.1,uv x.2]):=by rw[zAL9,hx];rfl
  (repeat refine ze ?_);refine zK ?_
  by_cases hin:0<=x.1/\x.1<(w.length:Nat)
  ·obtain⟨a,ha⟩:∃a:Nat,x.1=a:=⟨x.1.toNat,by omega⟩
   have g1:(0:Int)<=(a:Nat):=by omega
   have g2:((a:Nat):Int)<(w.length:Nat):=by omega
   have g3:a<w.length:=by omega
   rw[ha]at hxv;obtain⟨o,ho⟩:∃o,w[a]?=some o:=⟨_,zAB9 g3⟩
   have z1:(w.map uv)[a]?=some (uv o):=by rw[zAL9,ho];rfl
   have y1:(w.map uv).set a (.int .u64 (x.2:Int))=(w.set a x.2).map uv:=zES9.symm;(repeat(first|refine ze ?_|refine zgo ?_ (by simp(disch:=omega)only[go_sem,h2,h9,h24,hxv,hltk,hr,hM,g1,g2,zAA9]<;>rfl)));refine zfc ?_ ?_;rotate_left
   ·intro h;cases h
   intro _;(repeat refine ze ?_);refine zap ?_;refine zda ?_ (by simp(disch:=omega)only[go_sem,h2,h9,h24,hxv,hltk,hr,hM,g1,g2,g3,z1,y1,zAA9]<;>rfl);refine zdl ?_ (by simp(disch:=omega)only[go_sem,h9]<;>rfl);refine zR ?_;simp only[zo,zW,zg,go_sem];(repeat refine ze ?_);refine zrg ?_ (by simp(disch:=omega)only[go_sem,h24]<;>rfl);refine zG ?_;simp only[zg,zj,zh,zi,zo,zk,if_true,↓reduceIte];refine⟨_,?m8,k+1,id,g,g,w.set a x.2,rfl,hltk,by simpa using hwl,zAK9 _,by simp[upd,h2],by simp[upd,h9],by simp[upd,h10],by simp[upd,h20],by simp[upd,h24],trivial,?hr8⟩
   case m8=>omega
   case hr8=>exact zBD9 (zAD9.1 hr).1
  ·by_cases h0:(0:Int)<=x.1
   ·have g2:¬x.1<(w.length:Nat):=fun h=>hin ⟨h0,h⟩;(repeat(first|refine ze ?_|refine zgo ?_ (by simp(disch:=omega)only[go_sem,h2,h9,h24,hxv,hltk,hr,hM,h0,g2,zAA9]<;>rfl)));refine zfc ?_ ?_
    ·intro h;cases h
    intro _;refine zQ ?_;simp only[zg,zj,zh,zi,zo,zk,if_true,reduceIte];(repeat refine ze ?_);refine zrg ?_ (by simp(disch:=omega)only[go_sem,h24]<;>rfl);refine zG ?_;simp only[zg,zj,zh,zi,zo,zk,if_true,↓reduceIte];refine⟨_,?m9,k+1,id,g,M,w,rfl,hltk,hwl,hM,by simp[upd,h2],by simp[upd,h9],by simp[upd,h10],by simp[upd,h20],by simp[upd,h24],trivial,hr⟩
    case m9=>omega
   ·(repeat(first|refine ze ?_|refine zgo ?_ (by simp(disch:=omega)only[go_sem,h2,h9,h24,hxv,hltk,hr,hM,h0,zAA9]<;>rfl)));refine zfc ?_ ?_
    ·intro h;cases h
    intro _;refine zQ ?_;simp only[zg,zj,zh,zi,zo,zk,if_true,reduceIte];(repeat refine ze ?_);refine zrg ?_ (by simp(disch:=omega)only[go_sem,h24]<;>rfl);refine zG ?_;simp only[zg,zj,zh,zi,zo,zk,if_true,↓reduceIte];refine⟨_,?m9,k+1,id,g,M,w,rfl,hltk,hwl,hM,by simp[upd,h2],by simp[upd,h9],by simp[upd,h10],by simp[upd,h20],by simp[upd,h24],trivial,hr⟩
    case m9=>omega
 intro hltk;simp only[zg,zj,zh,zi,zo,zk,if_true,reduceIte];have hdv:List.drop used (V.map iv)=(V.drop used).map iv:=by rw[zCO9]
 (repeat refine ze ?_);refine zap ?_;refine zdl ?_ (by simp(disch:=omega)only[go_sem,h9,h10,h20,hdv,hused,zAA9]<;>rfl);refine zR ?_;simp only[zo,zW,zg,go_sem];refine zF ?_;(try simp only[zg,zj,zh,zi,zo,zk,if_true,reduceIte]);refine zq (vs:=[.sl id g 0 w.length (2*w.length) 1,.list 0 1 ((V.drop used).map iv),.bool true]) ?_ ?_
 ·simp[T8,zI,okv,upd,h9]
 ·refine⟨_,⟨w,V.drop used,true,rfl,fun _=>⟨by omega,by omega,by omega,by simp;omega⟩⟩,Frz.tupL ⟨?_,.list _ _ _,.bool _,trivial⟩⟩;exact Frz.wholeM hr hM rfl (by simp) (by simp) (fun v hv=>by obtain⟨x,_,rfl⟩:=zAS9.1 hv;rfl) zki
theorem f29:ET.funcs.get 29=some T29:=z9 (by kernel_rfl) (by decide)
theorem f74:ET.funcs.get 74=some T74:=z9 (by kernel_rfl) (by decide)
theorem f18:ET.funcs.get 18=some T18:=z9 (by kernel_rfl) (by decide)
def zjU (w:List Nat)(a:Int):List Pr×Nat:=if zbU w.length a=true then if(zaQ w a.toNat).2=true then(zbS (zb7 (zaQ w a.toNat).1).2,0)else([],220)else([],2)
theorem zmz (w:List Nat)(a:Int):ze9 w a=.ret (.tuple [psv 0 (zjU w a).1,iv (zjU w a).2]):=by
 unfold ze9 zjU
 split
 ·split<;>rfl
 ·rfl
theorem ztP (w:List Nat)(a:Int)(hw:w.length<=131072):(zjU w a).1.length<=60000:=by
 unfold zjU
 split
 ·split
  ·rename_i hr ht;obtain⟨f1,f2,f3,f4,f5⟩:=zcZ (w:=w) (T:=(zaQ w a.toNat).1) hw a.toNat (by rw[<- ht]);obtain⟨g1,g2⟩:=zfR f3;have hLF:=f1 _ (zAO9 g1);have hll:=zeR (zb7 (zaQ w a.toNat).1).2 fun n hn=>(hLF.lv.node hn).1;have hfew:=hLF.few;dsimp only;omega
  ·exact zAU9 _
 ·exact zAU9 _
theorem zsY (p:Nat)(w:List Nat)(a:Int)(key:Nat)(hs:zbH w.length):FP ET 29 [wv p w,iv a,uv key] (.ret (.fn 74 [.elem [psv 0 (zjU w a).1],.elem [uv key]])):=by
 refine zfp f29 ?_;have hA:=zvF p w a hs;rw[zmz]at hA;generalize (zjU w a).1=A at *
 (repeat(first|refine ze ?_|refine zgo ?_));(repeat refine ze ?_);refine zrg ?_;refine zca hA ?_;refine zfx ?_;refine zd ?_;(repeat(first|refine ze ?_|refine zgo ?_));refine zF ?_;(try simp only[zg,zj,zh,zi,zk]);refine zq (by simp only[T29,zI,go_sem]<;>rfl) ?_;simp only[zP];refine Frz.fnL ⟨?_,?_,trivial⟩
 ·refine .ptr (w:=psv 0 A) (by simp[zaK]) (by simp[PV.cells]) rfl fun j x y hx hy=>?_
  match j with
  | 0=>injection hx with hx;injection hy with hy;subst hx hy;exact .list _ _ _
  | j+1=>simp at hy
 ·refine .ptr (w:=uv key) (by simp[zaK]) (by simp[PV.cells]) rfl fun j x y hx hy=>?_
  match j with
  | 0=>injection hx with hx;injection hy with hy;subst hx hy;exact .int _ _
  | j+1=>simp at hy
def zc6 (key:Nat)(A:List Pr):List Pr:=A.filter fun x=>decide (key<=x.1)
theorem zms (key:Nat)(A:List Pr)(i:Nat)(x:Pr)(hx:A[i]?=some x):zc6 key (A.take (i+1))=zc6 key (A.take i)++(if key<=x.1 then[x]else[]):=by
 unfold zc6;rw[zBN9,hx,zFX9]
 congr 1
 by_cases h:key<=x.1<;>simp[h]
theorem zsb (key:Nat)(A:List Pr)(i:Nat)(x:Pr)(hx:A[i]?=some x)(hk:key<=x.1):(zc6 key A)[(zc6 key (A.take i)).length]?=some x:=by
 have hi:=(zAD9.1 hx).1;have h1:A=A.take i++x::A.drop (i+1):=by
  conv=>lhs;rw[<- zEQ9 i A,zBB9 hi]
  rw[(zAD9.1 hx).2]
 have h2:zc6 key A=zc6 key (A.take i)++x::zc6 key (A.drop (i+1)):=by
  unfold zc6
  conv=>lhs;rw[h1,zFX9,zBX9,if_pos (by simpa using hk)]
 rw[h2];simp
set_option maxHeartbeats 2000000 in
theorem zsc (id p:Nat)(A:List Pr)(key:Nat)(hA:A.length<1000000)(P:Nat->List zu)(K:Nat)(hK:1<=K)(hlen:∀k,(P k).length=(P 0).length)(hkp:∀(k i:Nat) (o:zu),(P k)[i]?=some o->(P 0)[i]?=some o\/NRO (P 0).length o)
  (hy:∀(k:Nat) (x:Pr) (G:List zu),(zc6 key A)[k]?=some x->k<K->FY ET id [pv x] (P k++G) fun r H'=>r=decide (k+1<K)/\H'=P (k+1)++G) :
  FO ET 74 [.yield id,.elem [psv p A],.elem [uv key]] (P 0) false fun e H'=>e=.ret (.tuple [])/\H'=P (min (zc6 key A).length K):=by
 refine FO.gc (zro f74 ?_);have fin:∀(tm:Nat->PV) (k:Nat) (G:List zu),k=min (zc6 key A).length K->zdI ET T74 (fun e H'=>∃H'' G,zgQ (P 0) H' H'' G/\NRE (P 0).length e/\e=.ret (.tuple [])/\H''=P (min (zc6 key A).length K)) .norm ⟨tm,[],P k++G⟩:=fun tm k G hk=>by
  subst hk;exact⟨[],rfl,P (min (zc6 key A).length K),G,⟨rfl,hlen _,hkp _⟩,.tuple (fun x h=>by cases h),rfl,rfl⟩
 refine zmy ?_;refine ze (zQ ?_);simp only[zg,zj,zh,zi,zo,zk,if_true,reduceIte];(repeat(first|refine ze ?_|refine zgo ?_));refine zK (zbd (fun m s=>∃(i k:Nat) (G:List zu),m=A.length-i/\i<=A.length/\k=(zc6 key (A.take i)).length/\k<K/\s.tm 0=.yield id/\s.tm 2=.elem [uv key]/\s.tm 6=psv p A/\s.tm 7=iv A.length/\s.tm 8=iv i/\s.df=[]/\s.H=P k++G) (n:=A.length) ?_ ?_)
 ·exact⟨0,0,[],rfl,zAU9 _,rfl,hK,by simp[upd,zB],by simp[upd,zB],by simp[upd,zB],by simp[upd,zB],by simp[upd],rfl,by simp⟩
 rintro m ⟨tm,df,H⟩ ⟨i,k,G,rfl,hi,hk,hkK,h0,h2,h6,h7,h8,rfl,rfl⟩;dsimp only at h0 h2 h6 h7 h8;(try refine zaa ?_);refine ze (zb ?_);refine zfx ?_ (by simp(disch:=omega)only[go_sem,h7,h8]<;>rfl);refine zd ?_;refine zae (by simp only[go_sem]<;>rfl) ?_ ?_;rotate_left
 ·intro hlt;have hlt:¬i<A.length:=by have:=of_decide_eq_false hlt;omega
  obtain rfl:i=A.length:=by omega
  rw[zBM9]at hk;simp only[zg,zj,zh,zi,zo,zk,if_true,reduceIte];exact fin _ k G (by omega)
 intro hlt;have hlt:i<A.length:=by have:=of_decide_eq_true hlt;omega
 obtain⟨x,hx⟩:∃x,A[i]?=some x:=⟨_,zAB9 hlt⟩
 have hxv:(A.map pv)[i]?=some (pv x):=by rw[zAL9,hx];rfl
 have hst:=zms key A i x hx;(repeat refine ze ?_);refine zK ?_;(repeat refine ze ?_);refine zgo ?_ (by simp(disch:=omega)only[go_sem,h6,h8,hxv,hlt,zf,zn,zAA9]<;>rfl)
 by_cases hkey:key<=x.1
 rotate_left
 ·have g:¬(key:Int)<=(x.1:Nat):=by omega
  rw[if_neg hkey,zDV9]at hst;(repeat(first|refine ze ?_|refine zgo ?_ (by simp(disch:=omega)only[go_sem,h2,g,zf]<;>rfl)));refine zfc ?_ ?_
  ·intro h;cases h
  intro _;refine zQ ?_;simp only[zg,zj,zh,zi,zo,zk,if_true,reduceIte];(repeat refine ze ?_);refine zrg ?_ (by simp(disch:=omega)only[go_sem,h8]<;>rfl);refine zG ?_;simp only[zg,zj,zh,zi,zo,zk,if_true,↓reduceIte];refine⟨_,?m1,i+1,k,G++[.row 66 2 0 0 [pv x]],rfl,hlt,by rw[hst];exact hk,hkK,by simp[upd,h0],by simp[upd,h2],by simp[upd,h6],by simp[upd,h7],by simp[upd,h8],trivial,by simp⟩
  case m1=>omega
 have g:(key:Int)<=(x.1:Nat):=by omega
 rw[if_pos hkey]at hst;have hget:=zsb key A i x hx hkey;rw[<- hk]at hget;have hlk:k<(zc6 key A).length:=(zAD9.1 hget).1;have hF:=hy k x (G++[.row 66 2 0 0 [pv x]]) hget hkK;rw[<- zAF9]at hF;(repeat refine ze ?_);refine zb ?_;refine zfx ?_ (by simp(disch:=omega)only[go_sem,h0,h2,g,zf]<;>rfl);refine zut (vs:=[pv x]) ?_ ?_ (FY.mono hF fun r H' he=>?_)
 ·simp only[zaf,zas,go_sem]
 ·simp only[go_sem]<;>rfl
 obtain⟨rfl,rfl⟩:=he
 by_cases hb:k+1<K
 ·rw[decide_eq_true hb];refine zfx ?_;refine zd ?_;refine zfc ?_ ?_
  ·intro h;cases h
  intro _;refine zQ ?_;simp only[zg,zj,zh,zi,zo,zk,if_true,reduceIte];(repeat refine ze ?_);refine zrg ?_ (by simp(disch:=omega)only[go_sem,h8]<;>rfl);refine zG ?_;simp only[zg,zj,zh,zi,zo,zk,if_true,↓reduceIte];refine⟨_,?m2,i+1,k+1,G++[.row 66 2 0 0 [pv x]],rfl,hlt,by rw[hst,zAC9,<- hk];rfl,hb,by simp[upd,h0],by simp[upd,h2],by simp[upd,h6],by simp[upd,h7],by simp[upd,h8],trivial,rfl⟩
  case m2=>omega
 ·rw[decide_eq_false hb];refine zfx ?_;refine zd ?_;refine zfc ?_ ?_;rotate_left
  ·intro h;cases h
  intro _;refine zgc ?_;simp only[zg,zj,zh,zi,zo,zk,if_true,reduceIte];exact fin _ (k+1) _ (by omega)
theorem zvi (w:List Nat)(a:Int):LbE (ze9 w a):=by
 rw[zmz];exact Lb.two (Lb.pvs _) (.int _ _)
theorem ztb (p:Nat)(w:List Nat)(a:Int)(hs:zbH w.length):FN ET 18 [wv p w,iv a] (ze9 w a):=by
 have hr:=ziQ p w a hs;have hlb:=zvi w a;unfold ze9 at hlb⊢
 by_cases h:zbU w.length a=true
 rotate_left
 ·rw[if_neg h]at hlb⊢;rw[show zbU w.length a=false by simpa using h]at hr;refine zfn f18 hlb ?_;(repeat(first|refine ze ?_|refine zgo ?_));(repeat refine ze ?_);refine zrg ?_;refine zca hr ?_;refine zfx ?_;refine zd ?_;refine zfc ?_ ?_;rotate_left
  ·intro h;cases h
  intro _;(repeat(first|refine ze ?_|refine zgo ?_));refine zF ?_;(try simp only[zg,zj,zh,zi,zk]);refine zq (by simp only[T18,zI,go_sem]<;>rfl) ?_;simp only[zP];exact Frz.tupL ⟨.nil _ _,.int _ _,trivial⟩
 rw[if_pos h]at hlb⊢;have hb:=(zey _ _).1 h;rw[h]at hr;obtain⟨n,rfl⟩:∃n:Nat,a=n:=⟨a.toNat,by omega⟩
 rw[zDD9]at hlb⊢;have hl:=zfV p w ⟨hb.1,hb.2.2.1⟩ n (by omega);obtain⟨e1,e2⟩:=zfQ w n
 by_cases ht:(zaQ w n).2=true
 rotate_left
 ·rw[if_neg ht]at hlb⊢;rw[e1,show (zaQ w n).2=false by simpa using ht]at hl;generalize (zbR w n).1=T at hl;refine zfn f18 hlb ?_;(repeat(first|refine ze ?_|refine zgo ?_));(repeat refine ze ?_);refine zrg ?_;refine zca hr ?_;refine zfx ?_;refine zd ?_;refine zfc ?_ ?_
  ·intro h;cases h
  intro _;refine zQ ?_;show W _ _ _ _ _ _;(repeat refine ze ?_);refine zrg ?_;refine zca hl ?_;refine zfx ?_;refine zd ?_;(repeat(first|refine ze ?_|refine zgo ?_));refine zfc ?_ ?_;rotate_left
  ·intro h;cases h
  intro _;(repeat(first|refine ze ?_|refine zgo ?_));refine zF ?_;(try simp only[zg,zj,zh,zi,zk]);refine zq (by simp only[T18,zI,go_sem]<;>rfl) ?_;simp only[zP];exact Frz.tupL ⟨.nil _ _,.int _ _,trivial⟩
 rw[if_pos ht]at hlb⊢;rw[e1,e2 ht,ht]at hl;obtain⟨f1,f2,f3,f4,f5⟩:=zcZ (w:=w) (T:=(zaQ w n).1) (by omega) n (by rw[<- ht]);generalize (zaQ w n).1=T at *
 obtain⟨g1,g2⟩:=zfR f3;have hlen:T.length≠0:=fun h=>f3 (zCP9 h);have hLF:=f1 _ (zAO9 g1);have hget:(T.map fun L=>zbX 0 0 L.1 L.2)[T.length-1]?=some (zbX 0 0 (zb7 T).1 (zb7 T).2):=by rw[zAL9,g1];rfl
 have hll:=zeR (zb7 T).2 fun n hn=>(hLF.lv.node hn).1;have hfew:=hLF.few;have hlp:=ziZ 0 0 (zb7 T).1 (zb7 T).2 (by omega) (fun n hn=>(hLF.lv.node hn).1) (by omega);unfold ze7 at hlp;rw[if_pos f4]at hlp;have e3:(T.length:Int)-1=((T.length-1:Nat):Int):=by omega
 have e4:T.length-1<T.length:=by omega
 refine zfn f18 hlb ?_;(repeat(first|refine ze ?_|refine zgo ?_));(repeat refine ze ?_);refine zrg ?_;refine zca hr ?_;refine zfx ?_;refine zd ?_;refine zfc ?_ ?_
 ·intro h;cases h
 intro _;refine zQ ?_;show W _ _ _ _ _ _;(repeat refine ze ?_);refine zrg ?_;refine zca hl ?_;refine zfx ?_;refine zd ?_;(repeat(first|refine ze ?_|refine zgo ?_));refine zfc ?_ ?_
 ·intro h;cases h
 intro _;refine zQ ?_;show W _ _ _ _ _ _;(repeat refine ze ?_);refine zrg ?_ (by simp(disch:=omega)only[go_sem,hget,e3,e4,zAA9]<;>rfl);refine zca hlp ?_;refine zfx ?_;refine zd ?_;(repeat(first|refine ze ?_|refine zgo ?_));refine zF ?_;(try simp only[zg,zj,zh,zi,zk]);refine zq (by simp only[T18,zI,go_sem]<;>rfl) ?_;simp only[zP];exact Frz.tupL ⟨.list _ _ _,.int _ _,trivial⟩
theorem f6:ET.funcs.get 6=some T6:=z9 (by kernel_rfl) (by decide)
theorem ztU {E:Env}{caught:Tr Unit}{rnd:Option Nat}{code:zbu}{s:FSt}{Q:FX->FSt->Prop}(tm':Nat->PV)(h:∀i,tm' i=.bad\/tm' i=s.tm i)(k:W E caught rnd code ⟨tm',s.df,s.H⟩ Q):W E caught rnd code s Q:=fun B c t rnd' hs hn =>
 k B c t rnd' ⟨hs.hr,fun i=>by
  rcases h i with h1|h1
  ·exact .inl h1
  ·rcases hs.tm i with h2|⟨u,u1,u2⟩
   ·exact .inl (h1.trans h2)
   ·exact .inr ⟨u,u1,by dsimp only;rw[h1];exact u2⟩,hs.df⟩ hn
theorem zhh {f tm:Nat->PV}{j:Nat}{v:PV}(h:∀i,f i=.bad\/f i=tm i)(hv:tm j=v):∀i,upd f j v i=.bad\/upd f j v i=tm i:=fun i=>by
 unfold upd
 by_cases hi:i=j
 ·subst hi;rw[if_pos rfl];exact .inr hv.symm
 ·rw[if_neg hi];exact h i
def zos:Nat->PV:=fun _=>.bad
theorem zwa {tm:Nat->PV}:∀i,zos i=.bad\/zos i=tm i:=fun _=>.inl rfl
theorem zwd {n:Nat}:∀i,zos i=.bad\/NR n (zos i):=fun _=>.inl rfl
def frH (many:Int)(z:PV)(r3:zu)(G:List zu):List zu:=.row 3 1 0 0 [iv many]::.row 4 1 0 0 [.bool false]::.row 41 1 0 0 [z]::r3::G
theorem zec {α:Type}(G l:List α)(a b c d:α):(G++a::b::c::d::l)[G.length+1+1+1]?=some d:=ga3 G l a b c d
theorem sa3 {α:Type}(G l:List α)(a b c d x:α):(G++a::b::c::d::l).set (G.length+1+1+1) x=G++a::b::c::x::l:=by
 rw[zBS9 _ _ (by omega),show G.length+1+1+1-G.length=3 by omega];rfl
def zfF:zbu:=(.region [⟨(some 21),(.alloc 66 [(.int .u64 (.ofNat 0)),(.int .u64 (.ofNat 0))]),[],none⟩,⟨none,(.store 2),[(.tmp 21),(.tmp 68)],none⟩])
def zfL:zbu:=(.block 5 (.seq (.seq (.drawn [⟨[],[⟨(some 69),(.load false 1),[(.tmp 20)],none⟩,⟨(some 70),(.load false 1),[(.tmp 16)],none⟩,⟨(some 71),(.len 1),[(.new 70)],none⟩,⟨(some 72),(.bin .geq),[(.new 69),(.new 71)],none⟩,⟨(some 73),.mov,[(.new 72)],none⟩,⟨(some 74),(.load true 2),[(.tmp 21)],(some ⟨(.new 73),false⟩)⟩,⟨(some 75),(.load false 1),[(.tmp 16)],(some ⟨(.new 73),false⟩)⟩,⟨(some 76),(.load false 1),[(.tmp 20)],(some ⟨(.new 73),false⟩)⟩,⟨(some 77),(.iaddr 2),[(.new 75),(.new 76)],(some ⟨(.new 73),false⟩)⟩,⟨(some 78),(.load true 2),[(.new 77)],(some ⟨(.new 73),false⟩)⟩,⟨(some 79),(.eqagg true [1,1]),[(.new 74),(.new 78)],(some ⟨(.new 73),false⟩)⟩,⟨(some 80),.pick,[(.new 73),(.const (.bool true)),(.new 79)],none⟩],none⟩] [69,70,71,72,73,74,75,76,77,78,79,80]) (.cond (.tmp 80) (.seq (.region [⟨none,(.store 1),[(.tmp 10),(.const (.bool false))],none⟩]) .ret) .skip)) (.seq (.region [⟨(some 81),(.load false 1),[(.tmp 20)],none⟩,⟨(some 82),(.bin .add),[(.tmp 81),(.const (.int .i64 (.ofNat 1)))],none⟩,⟨none,(.store 1),[(.tmp 20),(.tmp 82)],none⟩]) (.seq (.region [⟨(some 83),(.load false 1),[(.tmp 19)],none⟩,⟨(some 84),(.bin .eql),[(.tmp 83),(.const (.int .i64 (.ofNat 0)))],none⟩,⟨(some 85),.mov,[(.tmp 84)],none⟩,⟨(some 86),(.load false 1),[(.tmp 20)],(some ⟨(.tmp 85),true⟩)⟩,⟨(some 87),(.load false 1),[(.tmp 9)],(some ⟨(.tmp 85),true⟩)⟩,⟨(some 88),(.bin .geq),[(.tmp 86),(.tmp 87)],(some ⟨(.tmp 85),true⟩)⟩,⟨(some 89),.pick,[(.tmp 85),(.tmp 88),(.const (.bool false))],none⟩]) (.cond (.tmp 89) (.exit 4) .skip)))))
section mid4
variable {α:Type}
theorem ge0 (G G2 l:List α)(a b c d x:α):(G++a::b::c::d::(G2++x::l))[G.length+(G2.length+1+1+1+1)]?=some x:=by
 rw[zAN9 (by omega),show G.length+(G2.length+1+1+1+1)-G.length=G2.length+1+1+1+1 by omega];simp
theorem se0 (G G2 l:List α)(a b c d x y:α):(G++a::b::c::d::(G2++x::l)).set (G.length+(G2.length+1+1+1+1)) y=G++a::b::c::d::(G2++y::l):=by
 rw[zBS9 _ _ (by omega),show G.length+(G2.length+1+1+1+1)-G.length=G2.length+1+1+1+1 by omega];simp
end mid4
@[reducible] def frF (key:Nat) (A:List Pr):PV:=.fn 74 [.elem [psv 0 A],.elem [uv key]]
def zcP (key:Nat)(A:List Pr)(g:Nat):Nat->PV:=upd (upd (upd (upd (upd (upd (upd zos 9 (.ptr 0 0 0 0 1)) 10 (.ptr 1 0 0 0 1)) 16 (.ptr 2 0 0 0 1)) 18 (frF key A)) 67 (frF key A)) 19 (.ptr (g+1+1+1+1) 0 0 0 1)) 20 (.ptr (g+1+1+1+1+1) 0 0 0 1)
def zeH (key:Nat)(A:List Pr)(g K k:Nat):zu:=if k<K then .loop .ready .norm (zcP key A g) [68] zfF zfL (g+1+1+1+1+1+1)else .loop .done (.exit 4) (zcP key A g) [68] zfF zfL (g+1+1+1+1+1+1)
def frP (many:Int)(V:List Pr)(key:Nat)(A:List Pr)(G:List zu)(tn K k:Nat):List zu :=
 .row 3 1 0 0 [iv many]::.row 4 1 0 0 [.bool false]::.row 41 1 0 0 [psv 0 V]::.void::(G++.row 3 1 0 0 [iv tn]::.row 3 1 0 0 [iv k]::.dfr false::zeH key A G.length K k::[])
theorem zha (many:Int)(V:List Pr)(key:Nat)(A:List Pr)(G:List zu)(tn K k:Nat)(X:List zu):frP many V key A G tn K k++X=.row 3 1 0 0 [iv many]::.row 4 1 0 0 [.bool false]::.row 41 1 0 0 [psv 0 V]::.void::(G++.row 3 1 0 0 [iv tn]::.row 3 1 0 0 [iv k]::.dfr false::zeH key A G.length K k::X):=by
 unfold frP;simp
theorem zeZ (many:Int)(V:List Pr)(key:Nat)(A:List Pr)(G:List zu)(tn K k:Nat):(frP many V key A G tn K k).length=G.length+8:=by unfold frP;simp
theorem zsD {n key:Nat}{A:List Pr}:NR n (frF key A):=.fn fun x hx=>by simp at hx;rcases hx with rfl|rfl<;>exact .elem _
theorem zqg {key:Nat}{A:List Pr}{g n:Nat}(hn:g+8<=n):∀i,zcP key A g i=.bad\/NR n (zcP key A g i) :=
 zef (zef (zef (zef (zef (zef (zef zwd (.ptr _ _ _ _ (by omega))) (.ptr _ _ _ _ (by omega))) (.ptr _ _ _ _ (by omega))) zsD) zsD) (.ptr _ _ _ _ (by omega))) (.ptr _ _ _ _ (by omega))
theorem zoT {many:Int}{V:List Pr}{key:Nat}{A:List Pr}{G:List zu}{tn K k:Nat}(j:Nat){i:Nat}{o:zu}(h:(frP many V key A G tn K k)[i]?=some o):(frP many V key A G tn K j)[i]?=some o\/NRO (G.length+8) o:=by
 unfold frP at h⊢
 match i,h with
 | 0,h=>exact .inl h
 | 1,h=>exact .inl h
 | 2,h=>exact .inl h
 | 3,h=>exact .inl h
 | i+4,h =>
  simp only[zAT9]at h⊢;rcases zCM9 i G.length with hi|hi
  ·rw[zAP9 hi]at h⊢;exact .inl h
  rw[zAN9 hi]at h⊢
  match i-G.length,h with
  | 0,h=>exact .inl h
  | 1,h=>simp at h;subst h;right;intro x hx;simp[PV.cells]at hx;subst hx;exact .int _ _
  | 2,h=>exact .inl h
  | 3,h =>
   simp at h;subst h;right
   unfold zeH
   split
   ·exact⟨by omega,zqg (zAK9 _),trivial⟩
   ·exact⟨by omega,zqg (zAK9 _),trivial⟩
  | q+4,h=>simp at h
theorem zvS {many:Int}{V:List Pr}{key:Nat}{A:List Pr}{G:List zu}{tn K:Nat}(k j:Nat)(X Y:List zu)(hX:∀(i:Nat) (o:zu),X[i]?=some o->True):zgQ (frP many V key A G tn K k++X) (frP many V key A G tn K j++X++Y) (frP many V key A G tn K j++X) Y:=by
 refine⟨rfl,by simp[zeZ],fun i o ho=>?_⟩;rcases zCM9 i (frP many V key A G tn K j).length with hi|hi
 ·rw[zAP9 hi]at ho;rcases zoT k ho with h|h
  ·left;rw[zAP9 (by rw[zeZ]at hi⊢;exact hi)];exact h
  ·right
   rw[zAC9,zeZ]
   cases o with
   | row e z G M l=>exact fun x hx=>(h x hx).mono (zDT9 _ _)
   | mapI k m=>exact fun x v hx=>(h x v hx).mono (zDT9 _ _)
   | loop st pe tm ps aS bo m =>
    obtain⟨a1,a2,a3⟩:=h;refine⟨by omega,fun i=>(a2 i).imp id fun h=>h.mono (zDT9 _ _),?_⟩
    cases pe<;>first|trivial|exact NR.mono (zDT9 _ _) a3
   | map0=>trivial
   | dfr _=>trivial
   | void=>trivial
 ·left
  rw[zAN9 hi]at ho;rw[zAN9 (by rw[zeZ]at hi⊢;exact hi)];rw[zeZ]at ho⊢;exact ho
theorem zpE {E:Env}{Q:FM->List zu->Prop}:∀(ids:List Nat) (H:List zu),ids.Nodup->(∀id∈ids,H[id]?=some (.dfr false))->(∀H',(∀i,i ∉ ids->H'[i]?=H[i]?)->Q .returning H')->LV E (ids.map FD.mark) .returning H Q
 | [],H,_,_,k=>k H fun _ _=>rfl
 | id::ids,H,hn,hm,k=>by
  have hn:=zDW9.1 hn;refine⟨hm id (zAV9 ..),zpE ids _ hn.2 (fun j hj=>?_) fun H' h'=>k H' fun i hi=>?_⟩
  ·rw[zAX9 (fun e=>hn.1 (by rw[e];exact hj))];exact hm j (zAW9 _ hj)
  ·rw[zAY9,not_or]at hi;rw[h' i hi.2,zAX9 (Ne.symm hi.1)]
theorem zsE {E:Env}{F:zC}{R:FE->List zu->Prop}{tm:Nat->PV}{H:List zu}{vs:List PV}{ids:List Nat}(hn:ids.Nodup)(hm:∀id∈ids,H[id]?=some (.dfr false))(h:∀H',(∀i,i ∉ ids->H'[i]?=H[i]?)->zI tm H' F.res=some vs/\R (.ret (zP vs)) H'):zdI E F R .ret ⟨tm,ids.map FD.mark,H⟩ :=
 zpE ids H hn hm fun H' h'=>by
  obtain⟨h1,h2⟩:=h H' h';exact⟨vs,h1,h2⟩
set_option maxHeartbeats 2000000 in
theorem zty (many:Int)(V:List Pr)(key:Nat)(A:List Pr)(G:List zu)(tn K k:Nat)(x:Pr)(X:List zu)(hx:V[k]?=some x)(hk:k<K)(hV:V.length<1000000)(htn:tn<2)(hK:(tn=0->(K:Int)=max 1 many)/\(tn≠0->K=V.length+1)) :
  FY ET (G.length+1+1+1+1+1+1+1) [pv x] (frP many V key A G tn K k++X) fun r H'=>r=decide (k+1<K)/\H'=frP many V key A G tn K (k+1)++X:=by
 have hkV:=(zAD9.1 hx).1;have hxv:(V.map pv)[k]?=some (pv x):=by rw[zAL9,hx];rfl
 have hlob:zeH key A G.length K k=.loop .ready .norm (zcP key A G.length) [68] zfF zfL (G.length+1+1+1+1+1+1):=by unfold zeH;rw[if_pos hk]
 refine FY.gc (zoP (tm:=zcP key A G.length) (ps:=[68]) (aS:=zfF) (bo:=zfL) (m:=G.length+1+1+1+1+1+1) (pe:=.norm) (st:=.ready) ?_ rfl ?_)
 ·rw[zha,hlob];simp only[zAT9,zec]
 have h9:zcP key A G.length 9=.ptr 0 0 0 0 1:=rfl;have h16:zcP key A G.length 16=.ptr 2 0 0 0 1:=rfl;have h19:zcP key A G.length 19=.ptr (G.length+1+1+1+1) 0 0 0 1:=rfl;have h20:zcP key A G.length 20=.ptr (G.length+1+1+1+1+1) 0 0 0 1:=rfl;rw[zha,hlob];have hgc:=zvS (many:=many) (V:=V) (key:=key) (A:=A) (G:=G) (tn:=tn) (K:=K) k (k+1) X [.row 66 2 0 0 [pv x]] fun _ _ _=>trivial;rw[zha many V key A G tn K k X,hlob]at hgc;have hend:∀r,r=decide (k+1<K)->(if r=true then zeH key A G.length K (k+1)=.loop .ready .norm (zcP key A G.length) [68] zfF zfL (G.length+1+1+1+1+1+1)else zeH key A G.length K (k+1)=.loop .done (.exit 4) (zcP key A G.length) [68] zfF zfL (G.length+1+1+1+1+1+1)):=fun r hr=>by
  subst hr
  by_cases h:k+1<K
  ·rw[decide_eq_true h,if_pos rfl];unfold zeH;rw[if_pos h]
  ·rw[decide_eq_false h,if_neg (by decide)];unfold zeH;rw[if_neg h]
 generalize zcP key A G.length=tm at *
 clear hlob;refine zb ?_;simp only[zaG];refine zfx ?_ (by simp(disch:=omega)only[go_sem,h9,h16,h19,h20,ge0,se0,ga0,ga1,ga2,zec,zAF9,zAH9,zAI9,zAC9,zAE9,zAG9,zAM9]<;>rfl);refine zG ?_;refine⟨rfl,_,_,_,_,_,_,by simp only[zAT9,zec]<;>rfl,?_⟩;simp only[zBL9,sa3];refine zK ?_;(repeat refine ze ?_);refine zap ?_;have g1:¬(V.length:Int)<=(k:Nat):=by omega
 have g2:k<V.length:=hkV;refine zdl ?_ (by simp(disch:=omega)only[go_sem,zuv,h9,h16,h19,h20,g1,g2,hxv,ge0,se0,ga0,ga1,ga2,zec,zAF9,zAH9,zAI9,zAC9,zAE9,zAG9,zAM9,zAA9]<;>rfl);refine zR ?_;simp only[zo,zW,zg,go_sem];refine zfc ?_ ?_
 ·intro h;cases h
 intro _;refine zQ ?_;show W _ _ _ _ _ _;have w1:(k:Int)+1=((k+1:Nat):Int):=by omega
 (repeat refine ze ?_);refine zgo ?_ (by simp(disch:=omega)only[go_sem,h9,h16,h19,h20,w1,ge0,se0,ga0,ga1,ga2,zec,sa1,zAF9,zAH9,zAI9,zAC9,zAE9,zAG9,zAM9]<;>rfl);obtain⟨hK0,hK1⟩:=hK
 by_cases ht:tn=0
 ·have hK0:=hK0 ht;have gt:=eq_true (show ((tn:Nat):Int)=0 by omega)
  by_cases hm:many<=((k+1:Nat):Int)
  ·have hlt:¬k+1<K:=by omega
   (repeat refine ze ?_);refine zgo ?_ (by simp(disch:=omega)only[go_sem,h9,h19,h20,gt,hm,ge0,se0,ga0,ga1,ga2,zec,sa1,zAF9,zAH9,zAI9,zAC9,zAE9,zAG9,zAM9]<;>rfl);refine zfc ?_ ?_;rotate_left
   ·intro h;cases h
   intro _;refine zgc ?_;(try simp only[zg,zj,zh,zi,zo,zk,if_true,reduceIte]);refine⟨(by first|exact trivial|rfl),.busy,.norm,tm,[68],zfF,zfL,_,by simp only[zAT9,zec]<;>rfl,frP many V key A G tn K (k+1)++X,[.row 66 2 0 0 [pv x]],?k1,(decide_eq_false hlt).symm,rfl⟩
   case k1 =>
    have hl:=hend false (decide_eq_false hlt).symm;rw[if_neg (by decide)]at hl;rw[zAF9,zha,hl]at hgc;simp only[zBL9,sa3];exact hgc
  have hlt:k+1<K:=by omega
  (repeat refine ze ?_);refine zgo ?_ (by simp(disch:=omega)only[go_sem,h9,h19,h20,gt,hm,ge0,se0,ga0,ga1,ga2,zec,sa1,zAF9,zAH9,zAI9,zAC9,zAE9,zAG9,zAM9]<;>rfl);refine zfc ?_ ?_
  ·intro h;cases h
  intro _;refine zQ ?_;(try simp only[zg,zj,zh,zi,zo,zk,if_true,reduceIte]);refine⟨(by first|exact trivial|rfl),.busy,.norm,tm,[68],zfF,zfL,_,by simp only[zAT9,zec]<;>rfl,frP many V key A G tn K (k+1)++X,[.row 66 2 0 0 [pv x]],?k2,(decide_eq_true hlt).symm,rfl⟩
  case k2 =>
   have hl:=hend true (decide_eq_true hlt).symm;rw[if_pos rfl]at hl;rw[zAF9,zha,hl]at hgc;simp only[zBL9,sa3];exact hgc
 ·have hK1:=hK1 ht;have gt:¬((tn:Nat):Int)=0:=by omega
  have hlt:k+1<K:=by omega
  (repeat refine ze ?_);refine zgo ?_ (by simp(disch:=omega)only[go_sem,h9,h19,h20,gt,ge0,se0,ga0,ga1,ga2,zec,sa1,zAF9,zAH9,zAI9,zAC9,zAE9,zAG9,zAM9]<;>rfl);refine zfc ?_ ?_
  ·intro h;cases h
  intro _;refine zQ ?_;(try simp only[zg,zj,zh,zi,zo,zk,if_true,reduceIte]);refine⟨(by first|exact trivial|rfl),.busy,.norm,tm,[68],zfF,zfL,_,by simp only[zAT9,zec]<;>rfl,frP many V key A G tn K (k+1)++X,[.row 66 2 0 0 [pv x]],?k3,(decide_eq_true hlt).symm,rfl⟩
  case k3 =>
   have hl:=hend true (decide_eq_true hlt).symm;rw[if_pos rfl]at hl;rw[zAF9,zha,hl]at hgc;simp only[zBL9,sa3];exact hgc
set_option maxHeartbeats 4000000 in
theorem zuR (q1 q2:Nat)(blocks:Int)(zbA:List Nat)(bent:List (Int×Nat))(key:Nat)(many:Int):FN ET 6 [iv blocks,.list q1 1 (zcT zbA),.list q2 2 (wdV bent),uv key,iv many] (.ret (.bool true)):=by
 refine zfn f6 (.bool _) ?_;have hM:=ztA q1 q2 blocks zbA bent;(repeat(first|refine ze ?_|refine zgo ?_));(repeat refine ze ?_);refine zrg ?_;refine ztG (caps:=?_) (vs:=?_) ?_ ?_ hM ?_ ?_;rotate_left 2;(first|rfl|(simp only[zaf,zas,go_sem,zAG9]<;>rfl));(simp only[go_sem,zAG9]<;>rfl);(repeat(first|exact trivial|refine And.intro ?_ ?_|exact .int _ _|exact .bool _|exact .list _ _ _|exact .elem _|exact .nilsl|exact .nil _ _|exact .str _|refine Frz.aggL ?_|refine Frz.fnL ?_|refine Frz.tupL ?_|refine .iface ?_|exact zy rfl rfl (by assumption)));rintro e ⟨ws,fr,b,rfl,hfine⟩;refine zfx ?_;refine zd ?_
 cases b with
 | false =>
  (repeat(first|refine ze ?_|refine zgo ?_));refine zfc ?_ ?_;rotate_left
  ·intro h;cases h
  intro _;(repeat refine ze ?_);refine zrg ?_;refine zca f9 ?_;refine zfx ?_;refine zd ?_;refine zF ?_;(try simp only[zg,zj,zh,zi,zo,zk,if_true,reduceIte]);refine zq (vs:=[.bool true]) ?_ (Frz.bool _);simp[T6,zI,okv,upd,zao,zaK,za6,PV.cells,zau]
 | true =>
  obtain⟨hb1,hb2,hwl,hfl⟩:=hfine rfl;have hA:=ztb 0 ws 5 (by unfold zbH;omega);have hF:=zsY 0 ws 5 key (by unfold zbH;omega);have hAl:=ztP ws 5 (by omega);rw[zmz]at hA;generalize (zjU ws 5).1=A at *
  (repeat(first|refine ze ?_|refine zgo ?_));refine zfc ?_ ?_
  ·intro h;cases h
  intro _;refine zQ ?_;show W _ _ _ _ _ _;(repeat refine ze ?_);refine zrg ?_;refine zca hA ?_;refine zfx ?_;refine zd ?_;(repeat(first|refine ze ?_|refine zgo ?_));refine zjf 66 2 (id:=2) rfl ?_;simp only[lzy,zAE9,zAG9,zCL9,zBL9,zAH9,zAI9];refine zdu (fun tm=>tm 3=uv key/\tm 9=.ptr 0 0 0 0 1/\tm 10=.ptr 1 0 0 0 1/\tm 11=wv 0 ws/\tm 14=psv 0 A/\tm 16=.ptr 2 0 0 0 1/\tm 17=iv 0) ⟨by simp[upd,zB],by simp[upd,zB],by simp[upd,zB],by simp[upd,zB],by simp[upd,zB],by simp[upd,zB],by simp[upd,zB]⟩ ?_;rintro tm ⟨h3,h9,h10,h11,h14,h16,h17⟩;refine zK (zbd (fun m s=>∃(i:Nat) (V:List Pr) (G:List zu),m=A.length-i/\i<=A.length/\V=zc6 key (A.take i)/\s.tm 3=uv key/\s.tm 9=.ptr 0 0 0 0 1/\s.tm 10=.ptr 1 0 0 0 1/\s.tm 11=wv 0 ws/\s.tm 14=psv 0 A/\s.tm 16=.ptr 2 0 0 0 1/\s.tm 17=iv i/\s.df=[]/\s.H=frH many (.sl 3 V.length 0 V.length (2*V.length) 2) (.row 66 2 V.length 0 (V.map pv)) G) (n:=A.length) ?_ ?_)
  ·exact⟨0,[],[],rfl,zAU9 _,rfl,h3,h9,h10,h11,h14,h16,h17,rfl,rfl⟩
  clear h3 h9 h10 h11 h14 h16 h17;rintro m ⟨tm,df,H⟩ ⟨i,V,G,rfl,hi,hV,h3,h9,h10,h11,h14,h16,h17,rfl,rfl⟩;dsimp only at h3 h9 h10 h11 h14 h16 h17;have hVl:V.length<=A.length:=by
   rw[hV];unfold zc6;exact zBG9 (zFL9 _ _) (by rw[zBA9];omega)
  unfold frH;(try refine zaa ?_);refine ze (zb ?_);refine zfx ?_ (by simp(disch:=omega)only[go_sem,h14,h17,zAA9]<;>rfl);refine zd ?_;refine zae (by simp only[go_sem]<;>rfl) ?_ ?_
  ·intro hlt;have hlt:i<A.length:=by have:=of_decide_eq_true hlt;omega
   obtain⟨x,hx⟩:∃x,A[i]?=some x:=⟨_,zAB9 hlt⟩
   have hxv:(A.map pv)[i]?=some (pv x):=by rw[zAL9,hx];rfl
   have hst:=zms key A i x hx;have hbb:(V.length+1)*17<=140737488355328:=by omega
   (repeat refine ze ?_);refine zK ?_
   by_cases hk:key<=x.1
   ·have g:(key:Int)<=(x.1:Nat):=by omega
    rw[if_pos hk]at hst;(repeat(first|refine ze ?_|refine zgo ?_ (by simp(disch:=omega)only[go_sem,h3,h14,h17,hxv,hlt,g,zAA9]<;>rfl)));refine zfc ?_ ?_;rotate_left
    ·intro h;cases h
    intro _;(repeat refine ze ?_);refine zap ?_;refine zda ?_ (by simp(disch:=omega)only[go_sem,h14,h16,h17,hxv,hlt,hbb,zax,zaw,zay,zaz,zT,zS,zO,zf,zAA9]<;>rfl) (by first|exact trivial|simp only[go_sem,h14,h16,h17,hxv,hlt,hbb,zax,zaw,zay,zaz,zT,zS,zO,zf,zAA9]);refine zda ?_ (by simp(disch:=omega)only[go_sem,h14,h16,h17,hxv,hlt,hbb,zax,zaw,zay,zaz,zT,zS,zO,zf,zAA9]<;>rfl) (by first|exact trivial|simp only[go_sem,h14,h16,h17,hxv,hlt,hbb,zax,zaw,zay,zaz,zT,zS,zO,zf,zAA9]);refine zdl ?_ (by simp(disch:=omega)only[go_sem,h14]<;>rfl);refine zR ?_;simp only[zo,zW,zg,go_sem];(repeat refine ze ?_);refine zrg ?_ (by simp(disch:=omega)only[go_sem,h17]<;>rfl);refine zG ?_;simp only[zg,zj,zh,zi,zo,zk,if_true,↓reduceIte];refine⟨_,?m1,i+1,V++[x],?G1,rfl,hlt,by rw[hst,hV],by simp[upd,h3],by simp[upd,h9],by simp[upd,h10],by simp[upd,h11],by simp[upd,h14],by simp[upd,h16],by simp[upd,h17],trivial,?H1⟩
    case m1=>omega
    case H1=>rw[zAC9,zBY9];rfl
   ·have g:¬(key:Int)<=(x.1:Nat):=by omega
    rw[if_neg hk,zDV9]at hst;(repeat(first|refine ze ?_|refine zgo ?_ (by simp(disch:=omega)only[go_sem,h3,h14,h17,hxv,hlt,g,zAA9]<;>rfl)));refine zfc ?_ ?_
    ·intro h;cases h
    intro _;refine zQ ?_;simp only[zg,zj,zh,zi,zo,zk,if_true,reduceIte];(repeat refine ze ?_);refine zrg ?_ (by simp(disch:=omega)only[go_sem,h17]<;>rfl);refine zG ?_;simp only[zg,zj,zh,zi,zo,zk,if_true,↓reduceIte];refine⟨_,?m2,i+1,V,G,rfl,hlt,by rw[hst,hV],by simp[upd,h3],by simp[upd,h9],by simp[upd,h10],by simp[upd,h11],by simp[upd,h14],by simp[upd,h16],by simp[upd,h17],trivial,rfl⟩
    case m2=>omega
  intro hlt;have hlt:¬i<A.length:=by have:=of_decide_eq_false hlt;omega
  obtain rfl:i=A.length:=by omega
  rw[zBM9]at hV;simp only[zg,zj,zh,zi,zo,zk,if_true,reduceIte];refine zkQ 2 3 (v:=.sl 3 V.length 0 V.length (2*V.length) 2) (v':=psv 0 V) rfl rfl (by decide) rfl rfl (fun k u v hu hv=>?_) ?_
  ·match k with
   | 0 =>
    injection hu with hu;injection hv with hv;subst hu hv;exact .inr (Frz.whole (zxj rfl) rfl (by simp) (by simp) (fun v hv=>by obtain⟨x,_,rfl⟩:=zAS9.1 hv;rfl) zd2)
   | k+1=>simp[PV.cells]at hu
  simp only[zBL9,zCL9];(repeat refine ze ?_);refine zrg ?_ (by simp(disch:=omega)only[go_sem,h3,h11]<;>rfl);refine zcb (by first|rfl|(simp only[go_sem]<;>rfl)) (by simp only[go_sem]<;>rfl) hF rfl ?_ ?_;(repeat(first|exact trivial|refine And.intro ?_ ?_|exact Id0.int _ _|exact Id0.bool _|exact Id0.list _ _ _|exact Id0.elem _|exact Id0.nilsl|exact Id0.str _|exact zce _ _ _));refine zfx ?_;refine zd ?_;(repeat(first|refine ze ?_|refine zgo ?_));refine zfc ?_ ?_
  ·intro h;cases h
  intro _;refine zQ ?_;show W _ _ _ _ _ _;(repeat(first|refine ze ?_|refine zgo ?_));refine zdu (fun tm=>tm 9=.ptr 0 0 0 0 1/\tm 10=.ptr 1 0 0 0 1/\tm 16=.ptr 2 0 0 0 1/\tm 18=frF key A/\tm 19=.ptr (G.length+1+1+1+1) 0 0 0 1) ⟨by simp[upd,h9],by simp[upd,h10],by simp[upd,h16],by simp[upd],by simp[upd]⟩ ?_;clear h3 h9 h10 h11 h14 h16 h17;rintro tm ⟨h9,h10,h16,h18,h19⟩;refine zK (zbd (fun m s=>∃(tn:Nat) (G:List zu) (ids:List Nat),m=2-tn/\tn<=2/\ids.Nodup/\(∀id∈ids,∃q,id=q+4/\G[q]?=some (.dfr false))/\s.tm 9=.ptr 0 0 0 0 1/\s.tm 10=.ptr 1 0 0 0 1/\s.tm 16=.ptr 2 0 0 0 1/\s.tm 18=frF key A/\s.tm 19=.ptr (G.length+1+1+1+1) 0 0 0 1/\s.df=ids.map FD.mark/\s.H=frH many (psv 0 V) .void (G++[.row 3 1 0 0 [iv tn]])) (n:=2) ?_ ?_)
  ·exact⟨0,G,[],rfl,by decide,List.nodup_nil,fun id h=>by simp at h,h9,h10,h16,h18,h19,rfl,rfl⟩
  clear h9 h10 h16 h18 h19;clear G;rintro m ⟨tm,df,H⟩ ⟨tn,G,ids,rfl,htn,hnd,hids,h9,h10,h16,h18,h19,rfl,rfl⟩;dsimp only at h9 h10 h16 h18 h19;unfold frH
  by_cases hlt:tn<2
  rotate_left
  ·have g:¬(tn:Int)<2:=by omega
   (try refine zaa ?_);refine ze (zb ?_);refine zfx ?_ (by simp(disch:=omega)only[go_sem,h19,g,zf]<;>rfl);refine zd ?_;refine zae (by simp only[go_sem]<;>rfl) ?_ ?_
   ·intro h;cases h
   intro _;simp only[zg,zj,zh,zi,zo,zk,if_true,reduceIte];(repeat refine ze ?_);refine zrg ?_;refine zca f9 ?_;refine zfx ?_ (by simp(disch:=omega)only[go_sem,h10]<;>rfl);refine zd ?_;refine zF ?_;(try simp only[zg,zj,zh,zi,zo,zk,if_true,reduceIte]);refine zsE (vs:=[.bool true]) hnd (fun id hid=>?_) fun H' h'=>⟨?_,Frz.bool _⟩
   ·obtain⟨q,rfl,hq⟩:=hids id hid;simp only[zAT9];rw[zAP9 (zAD9.1 hq).1];exact hq
   ·have h1:=h' 1 fun hid=>by obtain⟨q,hq,_⟩:=hids 1 hid;omega
    simp only[zAT9,zEI9]at h1;simp[T6,zI,okv,upd,h10,zao,zaK,za6,PV.cells,zau,h1]
  have g:(tn:Int)<2:=by omega
  (try refine zaa ?_);refine ze (zb ?_);refine zfx ?_ (by simp(disch:=omega)only[go_sem,h19,g,zf]<;>rfl);refine zd ?_;refine zae (by simp only[go_sem]<;>rfl) ?_ ?_;rotate_left
  ·intro h;cases h
  intro _;(repeat refine ze ?_);refine zK ?_;(repeat refine ze ?_);refine zgo ?_ (by simp(disch:=omega)only[go_sem,ge0,se0,ga0,ga1,ga2,zec,sa0,sa1,zf,zn,zAF9,zAH9,zAI9,zAC9,zAE9,zAG9,zAM9]<;>rfl);(repeat(first|refine ze ?_|refine zgo ?_ (by simp(disch:=omega)only[go_sem,h18]<;>rfl)));refine ztU (zcP key A G.length) ?_ ?_
  ·exact zhh (zhh (zhh (zhh (zhh (zhh (zhh zwa (by simp[upd,h9])) (by simp[upd,h10])) (by simp[upd,h16])) (by simp[upd,h18])) (by simp[upd])) (by simp[upd,h19])) (by simp[upd])
  clear h9 h10 h16 h18 h19;obtain⟨K,hK1,hK⟩:∃K:Nat,1<=K/\((tn=0->(K:Int)=max 1 many)/\(tn≠0->K=V.length+1)):=by
   by_cases h:tn=0
   ·exact⟨(max 1 many).toNat,by omega,fun _=>by omega,fun h2=>absurd h h2⟩
   ·exact⟨V.length+1,by omega,fun h2=>absurd h2 h,fun _=>rfl⟩
  have hE:=zsc (G.length+1+1+1+1+1+1+1) 0 A key (by omega) (frP many V key A G tn K) K hK1 (fun k=>by rw[zeZ,zeZ]) (fun k i o h=>by rw[zeZ];exact zoT 0 h) fun k x X hx hk=>zty many V key A G tn K k x X (by rw[hV];exact hx) hk (by omega) hlt hK;rw[<- hV]at hE;have e1:(.row 3 1 0 0 [iv many]::.row 4 1 0 0 [.bool false]::.row 41 1 0 0 [psv 0 V]::.void::(G++.row 3 1 0 0 [iv tn]::.row 3 1 0 0 [iv 0]::[]):List zu).length=G.length+1+1+1+1+1+1:=by simp
  have e2:(.row 3 1 0 0 [iv many]::.row 4 1 0 0 [.bool false]::.row 41 1 0 0 [psv 0 V]::.void::(G++.row 3 1 0 0 [iv tn]::.row 3 1 0 0 [iv 0]::[]):List zu)++[.dfr false]++[.loop .ready .norm (zcP key A G.length) [68] zfF zfL (G.length+1+1+1+1+1+1)]=frP many V key A G tn K 0:=by
   unfold frP zeH;rw[if_pos (by omega)];simp
  refine zK (zpv (g:=74) (cap:=[.elem [psv 0 A],.elem [uv key]]) (b:=false) rfl ?_);dsimp only;rw[e1];refine FO.mono (fun e H' he=>?_) (e2 ▸ hE);obtain⟨rfl,rfl⟩:=he;have hnn:=hK;obtain⟨L,pe,hLob,hpe⟩:∃(st:LoopState) (pe:FX),zeH key A G.length K (min V.length K)=.loop st pe (zcP key A G.length) [68] zfF zfL (G.length+1+1+1+1+1+1)/\(st ≠ .busy/\(pe=.norm\/pe=.exit 4)):=by
   unfold zeH
   by_cases h:min V.length K<K
   ·rw[if_pos h];exact⟨_,_,rfl,fun e=>by(cases e),.inl rfl⟩
   ·rw[if_neg h];exact⟨_,_,rfl,fun e=>by(cases e),.inr rfl⟩
  unfold frP;rw[hLob];refine⟨⟨_,rfl⟩,L,pe,zcP key A G.length,[68],zfF,zfL,G.length+1+1+1+1+1+1,hpe.1,by simp only[zAT9,zec],?_⟩;simp only[zBL9,sa3];obtain⟨cnt,hcnt⟩:∃cnt:Nat,cnt=min V.length K:=⟨_,rfl⟩
  rw[<- hcnt];have h9:zcP key A G.length 9=.ptr 0 0 0 0 1:=rfl;have h10:zcP key A G.length 10=.ptr 1 0 0 0 1:=rfl;have h16:zcP key A G.length 16=.ptr 2 0 0 0 1:=rfl;have h18:zcP key A G.length 18=frF key A:=rfl;have h19:zcP key A G.length 19=.ptr (G.length+1+1+1+1) 0 0 0 1:=rfl;have h20:zcP key A G.length 20=.ptr (G.length+1+1+1+1+1) 0 0 0 1:=rfl;generalize (zu.loop .exhausted pe (zcP key A G.length) [68] zfF zfL (G.length+1+1+1+1+1+1))=lx at *
  generalize zcP key A G.length=tm at *
  clear hE e1 e2 hLob;have hblk:∀(Q:FX->FSt->Prop) (s:FSt),Q .norm s->zh 4 Q pe s:=fun Q s h=>by
   rcases hpe.2 with e|e<;>(rw[e];simpa[zh]using h)
  refine hblk _ _ ?_;simp only[zg,zj,zh,zi,zo,zk,if_true,reduceIte];(repeat refine ze ?_);refine zbN (Q:=fun yy s'=>yy=.norm/\s'.tm 9=.ptr 0 0 0 0 1/\s'.tm 10=.ptr 1 0 0 0 1/\s'.tm 16=.ptr 2 0 0 0 1/\s'.tm 18=frF key A/\s'.tm 19=.ptr (G.length+1+1+1+1) 0 0 0 1/\s'.tm 110=.bool false/\s'.df=.mark (G.length+1+1+1+1+1+1)::ids.map FD.mark/\s'.H=(.row 3 1 0 0 [iv many]::.row 4 1 0 0 [.bool false]::.row 41 1 0 0 [psv 0 V]::.void::(G++.row 3 1 0 0 [iv tn]::.row 3 1 0 0 [iv cnt]::.dfr false::lx::[]))) (zb ?_) ?_
  ·by_cases ht:tn=0
   ·have gt0:=eq_true (show ((tn:Nat):Int)=0 by omega);have gt1:=eq_false (show ¬((tn:Nat):Int)=1 by omega);have hK0:=hK.1 ht;have f1:=eq_true (show (cnt:Int)=min (V.length:Int) (max 1 many) by omega);refine zfx ?_ (by simp(disch:=omega)only[go_sem,h9,h16,h19,h20,gt0,gt1,f1,zAA9,ge0,se0,ga0,ga1,ga2,zec,sa0,sa1,zf,zn,zAF9,zAH9,zAI9,zAC9,zAE9,zAG9,zAM9]<;>rfl);refine zG ?_;simp only[zg,zj,zh,zi,zo,zk,if_true,↓reduceIte];exact⟨(by first|exact trivial|rfl),h9,h10,h16,h18,h19,by simp[upd],(by first|exact trivial|rfl),(by first|exact trivial|rfl)⟩
   ·have gt0:=eq_false (show ¬((tn:Nat):Int)=0 by omega);have gt1:=eq_true (show ((tn:Nat):Int)=1 by omega);have hK1:=hK.2 ht;have f1:=eq_true (show (cnt:Int)=(V.length:Int) by omega);refine zfx ?_ (by simp(disch:=omega)only[go_sem,h9,h16,h19,h20,gt0,gt1,f1,zAA9,ge0,se0,ga0,ga1,ga2,zec,sa0,sa1,zf,zn,zAF9,zAH9,zAI9,zAC9,zAE9,zAG9,zAM9]<;>rfl);refine zG ?_;simp only[zg,zj,zh,zi,zo,zk,if_true,↓reduceIte];exact⟨(by first|exact trivial|rfl),h9,h10,h16,h18,h19,by simp[upd],(by first|exact trivial|rfl),(by first|exact trivial|rfl)⟩
  clear h9 h10 h16 h18 h19 h20;rintro yy ⟨tm,df,H⟩ ⟨rfl,h9,h10,h16,h18,h19,h110,rfl,rfl⟩;dsimp only at h9 h10 h16 h18 h19 h110;simp only[zg,zj,zh,zi,zo,zk,if_true,reduceIte];refine zfc ?_ ?_ (by simp only[go_sem,h110]<;>rfl)
  ·intro h;cases h
  intro _;refine zQ ?_;simp only[zg,zj,zh,zi,zo,zk,if_true,reduceIte];(repeat(first|refine ze ?_|refine zgo ?_ (by simp(disch:=omega)only[go_sem,h19,ge0,se0,ga0,ga1,ga2,zec,sa0,sa1,zf,zn,zAF9,zAH9,zAI9,zAC9,zAE9,zAG9,zAM9]<;>rfl)));have hids2:∀id∈(G.length+1+1+1+1+1+1)::ids,∃q,id=q+4/\(G++.row 3 1 0 0 [iv tn]::.row 3 1 0 0 [iv cnt]::.dfr false::lx::[])[q]?=some (.dfr false):=fun id hid=>by
   rcases zAY9.1 hid with rfl|hid
   ·exact⟨G.length+1+1,rfl,by simp only[ga2]⟩
   ·obtain⟨q,hq,hq2⟩:=hids id hid;exact⟨q,hq,by rw[zAP9 (zAD9.1 hq2).1];exact hq2⟩
  have hnd2:((G.length+1+1+1+1+1+1)::ids).Nodup:=zDW9.2 ⟨fun hid=>by
   obtain⟨q,hq,hq2⟩:=hids _ hid;have:=(zAD9.1 hq2).1;omega,hnd⟩
  generalize (G++.row 3 1 0 0 [iv tn]::.row 3 1 0 0 [iv cnt]::.dfr false::lx::[])=G9 at *
  generalize hid9:((G.length+1+1+1+1+1+1)::ids)=ids9 at *
  have hdf9:FD.mark (G.length+1+1+1+1+1+1)::ids.map FD.mark=ids9.map FD.mark:=by rw[<- hid9];rfl
  rw[hdf9];have w1:(tn:Int)+1=((tn+1:Nat):Int):=by omega
  (repeat refine ze ?_);refine zrg ?_ (by simp(disch:=omega)only[go_sem,zf,zn]<;>rfl);refine zG ?_;simp only[zg,zj,zh,zi,zo,zk,if_true,↓reduceIte];(repeat refine ze ?_);refine zrg ?_ (by simp(disch:=omega)only[go_sem,w1,zf,zn]<;>rfl);refine zG ?_;simp only[zg,zj,zh,zi,zo,zk,if_true,↓reduceIte];refine⟨_,?m9,tn+1,G9,ids9,rfl,by omega,hnd2,hids2,by simp[upd,h9],by simp[upd,h10],by simp[upd,h16],by simp[upd,h18],by simp[upd],(by first|exact trivial|rfl),?H9⟩
  case m9=>omega
  case H9=>rfl

end Fv
end Go.Proofs.YtfomlmhnmheenaaGreat
namespace Go.Proofs.YtfomlmhnmheenaaGreat
open Go.RowKit
variable {Z:Nat}
def Ext (w w':World):Prop:=Below w.heap.size w w'
theorem Ext.refl (w:World):Ext w w:=Below.refl _ w
theorem Ext.trans {w w1 w2:World}(h:Ext w w1)(k:Ext w1 w2):Ext w w2:=Below.trans h (Below.mono k (Below.size h))
theorem Ext.drew {w w1:World}(h:Ext w w1):Ext w w1.drew:=Below.drew h
theorem Ext.alloc {w w1:World}(h:Ext w w1)(o:Obj):Ext w (w1.alloc o):=Below.alloc h (Below.size h) o
theorem Ext.setCell {w w1:World}(h:Ext w w1){p:Addr}(hp:w.heap.size<=p.block)(u:Value):Ext w (w1.setCell p u):=Below.setCell h hp u
theorem Ext.grown {w w1 w2:World}{row:Option Nat}(h:Ext w w1)(hg:w1.grownBy w2 row)(hr:∀k,row=some k->w.heap.size<=k):Ext w w2:=Below.grown h hg (Below.size h) hr
theorem Ext.size {w w1:World}(h:Ext w w1):w.heap.size<=w1.heap.size:=Below.size h
theorem Ext.below {w w1:World}(h:Ext w w1):Below w.heap.size w w1:=h
theorem Ext.of {w w1:World}(h:Below w.heap.size w w1):Ext w w1:=h
theorem Ext.cells {W w1:World}(hb:Ext W w1):(∀b o,b<W.heap.size->w1.cell? ⟨b,o,none⟩=W.cell? ⟨b,o,none⟩)/\(∀b o,b<W.heap.size->w1.frozen? ⟨b,o,none⟩=W.frozen? ⟨b,o,none⟩) :=
 ⟨fun b o h=>Below.cell hb (p:=⟨b,o,none⟩) h,fun b o h=>Below.frozen hb (p:=⟨b,o,none⟩) h⟩
theorem Ext.cell {w w1:World}(h:Ext w w1){p:Addr}{v:Value}(hc:w.cell? p=some v):w1.cell? p=some v:=(Below.cell h (World.block_lt_of_cell? w _ hc)).trans hc
theorem Ext.block {w w1:World}(h:Ext w w1){b:Nat}{o:Obj}(hc:w.heap[b]?=some o):w1.heap[b]?=some o:=(Below.block h b (zBP9.1 hc).1).trans hc
theorem zw3 (w:World)(o1:Obj):Ext w (w.alloc o1):=(Ext.refl w).alloc o1
theorem Ext.grownBy {w w1:World}(h:Ext w w1)(row:Option Nat):w.grownBy w1 row:=⟨h.os,h.tape,h.output,h.size,fun k hk _=>Below.block h k hk⟩
theorem ze0 (b o j:Nat):(⟨b,o,none⟩:Addr).add j=⟨b,o+j,none⟩:=by unfold Addr.add;split<;>simp_all
def Typ (w:World)(b:Nat)(t:TypeId):Prop:=∃cs fr,w.heap[b]?=some (.cells cs t fr)
theorem Typ.lt {w:World}{b:Nat}{t:TypeId}(h:Typ w b t):b<w.heap.size:=by obtain⟨_,_,h⟩:=h;exact(zBP9.1 h).1
theorem Typ.ext {w w':World}{b:Nat}{t:TypeId}(h:Typ w b t)(hb:Ext w w'):Typ w' b t:=by obtain⟨cs,fr,h⟩:=h;exact⟨cs,fr,hb.block h⟩
theorem Typ.set {w:World}{b:Nat}{t:TypeId}(h:Typ w b t)(p:Addr)(v:Value):Typ (w.setCell p v) b t:=by
 obtain⟨cs,fr,h⟩:=h
 by_cases e:p.block=b
 ·subst e;exact⟨_,_,by simp[World.setCell,zFK9,h];exact⟨rfl,rfl⟩⟩
 ·exact⟨cs,fr,(Below.heap_setCell w p v b (fun x=>e x.symm)).trans h⟩
theorem Typ.same {w w':World}{b:Nat}{t:TypeId}(h:Typ w b t)(he:w'.heap[b]?=w.heap[b]?):Typ w' b t:=by obtain⟨cs,fr,h⟩:=h;exact⟨cs,fr,he.trans h⟩
theorem Typ.one {w:World}{b:Nat}{t t':TypeId}(h:Typ w b t)(h':Typ w b t'):t=t':=by
 obtain⟨cs,fr,h⟩:=h;obtain⟨cs',fr',h'⟩:=h';rw[h]at h';injection h' with h';injection h' with _ h'
theorem Typ.new (w:World)(cs:Array Value)(t:TypeId):Typ (w.alloc (.cells cs t)) w.heap.size t:=⟨_,_,heap_alloc_new w _⟩
theorem zve {w:World}{base:Nat}{e:TypeId}{size n:Nat}{v:Value}{xs:List Value}(h:w.ownsRow base e size v n xs){b:Nat}(hb:v.ownBlock=some b):Typ w b e:=by
 rcases h.2 with⟨rfl,_⟩|⟨g,cap,cur,rfl,_,hg,_⟩
 ·simp[Value.ownBlock]at hb
 ·simp[Value.ownBlock]at hb;subst hb;exact⟨_,_,hg⟩
def zgu (t:TypeId)(Z:Nat)(w:World)(b:Nat):Prop:=b<Z\/Typ w b t
theorem zgu.same {w w':World}{b:Nat}{t:TypeId}(h:zgu t Z w b)(he:w'.heap[b]?=w.heap[b]?):zgu t Z w' b:=h.imp id fun h=>h.same he
theorem zgu.ne {w:World}{b X:Nat}{t t':TypeId}(h:zgu t Z w b)(hX:Z<=X)(ht:Typ w X t')(hne:t'≠t):b≠X:=by
 rintro rfl;rcases h with h|h
 ·omega
 ·exact hne (ht.one h)
def RT (t:TypeId)(Z:Nat)(w:World)(A:Option Addr)(xs:List Value):Prop :=
 xs ≠ []->∃b o,A=some ⟨b,o,none⟩/\zgu t Z w b/\∀(j:Nat) u,xs[j]?=some u->w.cell? ⟨b,o+j,none⟩=some u
variable {t:TypeId}
theorem RT.nil (w:World)(A:Option Addr):RT t Z w A []:=fun h=>(h rfl).elim
theorem RT.move {w w':World}{A xs}(h:RT t Z w A xs)(hb:∀b o,A=some ⟨b,o,none⟩->zgu t Z w b->b<w.heap.size->w'.heap[b]?=w.heap[b]?):RT t Z w' A xs:=fun hl=>by
 obtain⟨b,o,hA,ht,hc⟩:=h hl;have hlt:b<w.heap.size:=by
  obtain⟨u,l,rfl⟩:=List.exists_cons_of_ne_nil hl;exact World.block_lt_of_cell? w _ (hc 0 u rfl)
 have he:=hb b o hA ht hlt;exact⟨b,o,hA,ht.same he,fun j u hj=>(World.cell?_of_block (a:=⟨b,o+j,none⟩) he).trans (hc j u hj)⟩
theorem RT.ext {w w':World}{A xs}(h:RT t Z w A xs)(hb:Ext w w'):RT t Z w' A xs:=h.move fun b _ _ _ hl=>Below.block hb b hl
theorem RT.drew {w:World}{A xs}(h:RT t Z w A xs):RT t Z w.drew A xs:=h.ext (Ext.refl _).drew
theorem RT.alloc {w:World}{A xs}(h:RT t Z w A xs)(o:Obj):RT t Z (w.alloc o) A xs:=h.ext (zw3 _ _)
theorem RT.grown {w w':World}{A xs}(h:RT t Z w A xs){base:Nat}{e:TypeId}{size n:Nat}{v:Value}{ys:List Value}(hown:w.ownsRow base e size v n ys)(he:e≠t)(hb:Z<=base)(hg:w.grownBy w' v.ownBlock):RT t Z w' A xs :=
 h.move fun b _ _ ht hl=>hg.block b hl fun e'=>ht.ne (zBG9 hb (hown.lt b e'.symm).1) (zve hown e'.symm) he rfl
theorem RT.set {w:World}{A xs}(h:RT t Z w A xs){p:Addr}{e:TypeId}(hp:Z<=p.block)(ht:Typ w p.block e)(he:e≠t)(v:Value):RT t Z (w.setCell p v) A xs :=
 h.move fun b _ _ ho _=>Below.heap_setCell w p v b (ho.ne hp ht he)
theorem RT.lt {w:World}{A xs}(h:RT t Z w A xs){b o:Nat}(hA:A=some ⟨b,o,none⟩)(hl:xs ≠ []):b<w.heap.size:=by
 obtain⟨b',o',hA',_,hc⟩:=h hl;rw[hA]at hA';injection hA' with hA';injection hA' with hA' hA2;subst hA';subst hA2;obtain⟨u,l,rfl⟩:=List.exists_cons_of_ne_nil hl;exact World.block_lt_of_cell? w _ (hc 0 u rfl)
theorem RT.old {w:World}{A xs}(h:RT t Z w A xs){t':TypeId}:RT t' w.heap.size w A xs:=fun hl=>by
 obtain⟨b,o,hA,_,hc⟩:=h hl;exact⟨b,o,hA,.inl (h.lt hA hl),hc⟩
theorem RT.mono {w:World}{A xs}(h:RT t Z w A xs){Z':Nat}(hz:Z<=Z'):RT t Z' w A xs:=fun hl=>by
 obtain⟨b,o,hA,ht,hc⟩:=h hl;exact⟨b,o,hA,ht.imp (fun h=>zBC9 h hz) id,hc⟩
theorem RT.sub {w:World}{b o:Nat}{xs}(h:RT t Z w (some ⟨b,o,none⟩) xs)(k n:Nat):RT t Z w (some ⟨b,o+k,none⟩) ((xs.drop k).take n):=fun hl=>by
 have hne:xs ≠ []:=by rintro rfl;simp at hl
 obtain⟨b',o',hA,ht,hc⟩:=h hne;injection hA with hA;injection hA with h1 h2;subst h1;subst h2;refine⟨b,o+k,rfl,ht,fun j u hj=>?_⟩;rw[zBF9]at hj
 split at hj
 ·rw[zBT9]at hj;have:=hc (k+j) u hj
  rwa [<- zCY9]at this
 ·cases hj
theorem RT.drop {w:World}{b o:Nat}{xs}(h:RT t Z w (some ⟨b,o,none⟩) xs)(k:Nat):RT t Z w (some ⟨b,o+k,none⟩) (xs.drop k):=by
 have:=h.sub k (xs.drop k).length
 rwa [zBM9]at this
theorem RT.take {w:World}{A xs}(h:RT t Z w A xs)(n:Nat):RT t Z w A (xs.take n):=fun hl=>by
 have hne:xs ≠ []:=by rintro rfl;simp at hl
 obtain⟨b,o,hA,ht,hc⟩:=h hne;refine⟨b,o,hA,ht,fun j u hj=>hc j u ?_⟩;rw[zBF9]at hj
 split at hj
 ·exact hj
 ·cases hj
theorem zvJ {w:World}{base:Nat}{e:TypeId}{size n:Nat}{v:Value}{xs:List Value}(h:w.ownsRow base e size v n xs) :
  ∃A c,v=.slice A n c/\n<=c/\c<=maxLen/\RT e Z w A xs/\∀b o,A=some ⟨b,o,none⟩->base<=b/\b<w.heap.size/\o=0/\v.ownBlock=some b:=by
 rcases h.2 with⟨rfl,rfl⟩|⟨g,cap,cur,rfl,hb,hg,hc,hm,_⟩
 ·have:xs=[]:=zCP9 (by simpa using h.1);subst this;exact⟨none,0,rfl,zAK9 _,zAU9 _,RT.nil _ _,fun _ _ h=>by cases h⟩
 ·refine⟨_,_,rfl,hc,hm,fun _=>⟨g,0,rfl,.inr ⟨_,_,hg⟩,fun j u hj=>?_⟩,fun b o e=>?_⟩
  ·have:=h.cells (g:=g) rfl j u hj
   rwa [ze0]at this
  ·injection e with e;injection e with e1 e2;subst e1;subst e2;exact⟨hb,(zBP9.1 hg).1,rfl,rfl⟩
theorem zu9 {w w':World}{base:Nat}{e:TypeId}{size n:Nat}{v:Value}{xs:List Value}(h:w.ownsRow base e size v n xs)(hx:Ext w w'):w'.ownsRow base e size v n xs:=by
 refine World.ownsRow.kept h (row:=none) (hx.grownBy none) ?_
 cases v.ownBlock<;>simp
theorem Ext.own {w w1 w2:World}{v:Value}(h:Ext w w1)(hg:w1.grownBy w2 v.ownBlock){e size n xs}(hown:w1.ownsRow w.heap.size e size v n xs):Ext w w2 :=
 h.grown hg (fun k hk=>(hown.lt k hk).1)
section
variable {P:Program}(w:World)
end
structure Lay (α:Type) where
 t:TypeId
 size:Nat
 bytes:Nat
 enc:α->List Value
 len:∀a,(enc a).length=size
 one:∀a,∀u∈enc a,u.oneCell'=true
 pos:0<size
 z:Value
 info:(Tryz.prog.info? t).map (fun i=>(i.zero,i.size,i.bytes))=some (some z,size,bytes)
 zs:z.cells.size=size
variable {α:Type}{L:Lay α}
def Lay.all (L:Lay α)(l:List α):List Value:=l.flatMap L.enc
theorem Lay.all_nil (L:Lay α):L.all []=[]:=rfl
theorem Lay.all_cons (L:Lay α)(a:α)(l:List α):L.all (a::l)=L.enc a++L.all l:=rfl
theorem Lay.all_one (L:Lay α)(a:α):L.all [a]=L.enc a:=by simp[Lay.all]
theorem Lay.all_len (L:Lay α)(l:List α):(L.all l).length=l.length*L.size:=by
 induction l with
 | nil=>simp[Lay.all]
 | cons a l ih=>rw[L.all_cons,zAC9,L.len,ih,zAE9,zCV9,zDG9]
theorem Lay.all_oneCell (L:Lay α)(l:List α):∀u∈L.all l,u.oneCell'=true:=by
 intro u hu;obtain⟨a,_,ha⟩:=zBI9.1 hu;exact L.one a u ha
theorem Lay.all_at (L:Lay α):∀(l:List α) (j:Nat) (a:α),l[j]?=some a->∀i u,(L.enc a)[i]?=some u->(L.all l)[j*L.size+i]?=some u
 | [],_,_,h,_,_,_=>by simp at h
 | x::l,0,a,h,i,u,hu=>by
  simp at h;subst h;have hi:i<(L.enc x).length:=(zAD9.1 hu).1;rw[L.all_cons,Nat.zero_mul,zAM9,zAP9 hi];exact hu
 | x::l,j+1,a,h,i,u,hu=>by
  have hi:i<L.size:=by rw[<- L.len a];exact(zAD9.1 hu).1
  rw[L.all_cons,zAN9 (by rw[L.len];rw[zCV9];omega),L.len];have:=L.all_at l j a (by simpa using h) i u hu;rw[show (j+1)*L.size+i-L.size=j*L.size+i by rw[zCV9];omega];exact this
theorem Lay.all_drop (L:Lay α):∀(k:Nat) (l:List α),L.all (l.drop k)=(L.all l).drop (k*L.size)
 | 0,l=>by simp
 | k+1,[]=>by simp[Lay.all]
 | k+1,x::l=>by
  have e:(k+1)*L.size=L.size+k*L.size:=by rw[zCV9,zDG9]
  rw[List.drop_succ_cons,L.all_drop k l,L.all_cons,e,<- zEE9];have e2:List.drop L.size (L.enc x++L.all l)=L.all l:=by
   have:=List.drop_left (l₁:=L.enc x) (l₂:=L.all l)
   rwa [L.len]at this
  rw[e2]
theorem Lay.all_take (L:Lay α):∀(k:Nat) (l:List α),L.all (l.take k)=(L.all l).take (k*L.size)
 | 0,l=>by simp[Lay.all]
 | k+1,[]=>by simp[Lay.all]
 | k+1,x::l=>by
  have e:(k+1)*L.size=(L.enc x).length+k*L.size:=by rw[zCV9,zDG9,L.len]
  rw[zFS9,L.all_cons,L.all_take k l,L.all_cons,e,List.take_length_add_append]
theorem Lay.all_ne (L:Lay α){l:List α}(h:l ≠ []):L.all l ≠ []:=by
 intro e;have:=L.all_len l;rw[e]at this;have h0:=Nat.mul_pos (zBZ9.2 h) L.pos;rw[zAG9]at this;omega
def RL (L:Lay α)(Z:Nat)(w:World)(A:Option Addr)(l:List α):Prop:=RT L.t Z w A (L.all l)
theorem RL.nil (w:World)(A:Option Addr):RL L Z w A []:=RT.nil w A
theorem RL.ext {w w':World}{A}{l:List α}(h:RL L Z w A l)(hb:Ext w w'):RL L Z w' A l:=RT.ext h hb
theorem RL.alloc {w:World}{A}{l:List α}(h:RL L Z w A l)(o:Obj):RL L Z (w.alloc o) A l:=RT.alloc h o
theorem RL.drew {w:World}{A}{l:List α}(h:RL L Z w A l):RL L Z w.drew A l:=RT.drew h
theorem RL.old {w:World}{A}{l:List α}(h:RL L Z w A l):RL L w.heap.size w A l:=RT.old h
theorem RL.at {w:World}{A}{l:List α}(h:RL L Z w A l)(hl:l ≠ []):∃b o,A=some ⟨b,o,none⟩/\b<w.heap.size/\zgu L.t Z w b/\∀j a,l[j]?=some a->∀i u,(L.enc a)[i]?=some u->w.cell? ⟨b,o+(j*L.size+i),none⟩=some u:=by
 obtain⟨b,o,hA,ht,hc⟩:=h (L.all_ne hl);exact⟨b,o,hA,RT.lt h hA (L.all_ne hl),ht,fun j a hj i u hu=>hc _ u (L.all_at l j a hj i u hu)⟩
theorem RL.sub {w:World}{b o:Nat}{l:List α}(h:RL L Z w (some ⟨b,o,none⟩) l)(k n:Nat):RL L Z w (some ⟨b,o+k*L.size,none⟩) ((l.drop k).take n):=by
 unfold RL;rw[L.all_take,L.all_drop];exact RT.sub h (k*L.size) (n*L.size)
theorem RL.take {w:World}{A}{l:List α}(h:RL L Z w A l)(n:Nat):RL L Z w A (l.take n):=by
 unfold RL;rw[L.all_take];exact RT.take h _
def OL (L:Lay α)(w:World)(base:Nat)(v:Value)(l:List α):Prop:=w.ownsRow base L.t L.size v l.length (L.all l)
theorem OL.nil (L:Lay α)(w:World)(base:Nat):OL L w base (.slice none 0 0) []:=World.ownsRow_nil w base _ _
theorem OL.rl {w:World}{base v}{l:List α}(h:OL L w base v l):∃A c,v=.slice A l.length c/\l.length<=c/\c<=maxLen/\RL L Z w A l/\∀b o,A=some ⟨b,o,none⟩->base<=b/\b<w.heap.size/\o=0/\v.ownBlock=some b:=zvJ h
theorem OL.alloc {w:World}{base v}{l:List α}(h:OL L w base v l)(o:Obj):OL L (w.alloc o) base v l:=World.ownsRow.alloc h o
theorem OL.ext {w w':World}{base v}{l:List α}(h:OL L w base v l)(hx:Ext w w'):OL L w' base v l:=zu9 h hx
abbrev Pr:=Nat×Nat
structure zE where
 level:Nat
 sib:Nat
 low:Nat
 left:Nat
 way:Nat
 pairs:List Pr
structure NA where
 n:zE
 A:Option Addr
 c:Nat
def LU:Lay Nat:=⟨24,1,8,fun x=>[.int .u64 x],fun _=>rfl,fun _ u hu=>(by simp only[zAY9,zEV9,or_false]at hu;subst hu;rfl),by decide,.int .u64 0,by kernel_rfl,rfl⟩
def LI:Lay Int:=⟨3,1,8,fun x=>[.int .i64 x],fun _=>rfl,fun _ u hu=>(by simp only[zAY9,zEV9,or_false]at hu;subst hu;rfl),by decide,.int .i64 0,by kernel_rfl,rfl⟩
def LP:Lay Pr:=⟨66,2,16,fun x=>[.int .u64 x.1,.int .u64 x.2],fun _=>rfl,fun _ u hu=>(by simp only[zAY9,zEV9,or_false]at hu;rcases hu with rfl|rfl<;>rfl),by decide,.agg #[.int .u64 0,.int .u64 0],by kernel_rfl,rfl⟩
def LT:Lay (Int×Nat):=⟨83,2,16,fun x=>[.int .i64 x.1,.int .u64 x.2],fun _=>rfl,fun _ u hu=>(by simp only[zAY9,zEV9,or_false]at hu;rcases hu with rfl|rfl<;>rfl),by decide,.agg #[.int .i64 0,.int .u64 0],by kernel_rfl,rfl⟩
def LN:Lay NA:=⟨124,6,64,fun x=>[.int .i64 x.n.level,.int .i64 x.n.sib,.int .u64 x.n.low,.int .u64 x.n.left,.int .i64 x.n.way,.slice x.A x.n.pairs.length x.c],fun _=>rfl,
 fun _ u hu=>(by simp only[zAY9,zEV9,or_false]at hu;rcases hu with rfl|rfl|rfl|rfl|rfl|rfl<;>rfl),by decide,.agg #[.int .i64 0,.int .i64 0,.int .u64 0,.int .u64 0,.int .i64 0,.slice none 0 0],by kernel_rfl,rfl⟩
theorem RL.u64 {w:World}{A}{l:List Nat}(h:RL LU Z w A l)(hl:l ≠ []):∃b o,A=some ⟨b,o,none⟩/\b<w.heap.size/\zgu 24 Z w b/\∀j (hj:j<l.length),w.cell? ⟨b,o+j,none⟩=some (.int .u64 (l[j]:Nat)):=by
 obtain⟨b,o,hA,hb,ht,hc⟩:=h.at hl;refine⟨b,o,hA,hb,ht,fun j hj=>?_⟩;have:=hc j l[j] (zAB9 hj) 0 (.int .u64 (l[j]:Nat)) rfl;simpa[LU]using this
theorem RL.int {w:World}{A}{l:List Int}(h:RL LI Z w A l)(hl:l ≠ []):∃b o,A=some ⟨b,o,none⟩/\b<w.heap.size/\zgu 3 Z w b/\∀j (hj:j<l.length),w.cell? ⟨b,o+j,none⟩=some (.int .i64 l[j]):=by
 obtain⟨b,o,hA,hb,ht,hc⟩:=h.at hl;refine⟨b,o,hA,hb,ht,fun j hj=>?_⟩;have:=hc j l[j] (zAB9 hj) 0 (.int .i64 l[j]) rfl;simpa[LI]using this
theorem RL.put {w:World}{A}{l:List (Int×Nat)}(h:RL LT Z w A l)(hl:l ≠ []):∃b o,A=some ⟨b,o,none⟩/\b<w.heap.size/\zgu 83 Z w b/\∀j (hj:j<l.length),w.cell? ⟨b,o+j*2,none⟩=some (.int .i64 l[j].1)/\w.cell? ⟨b,o+j*2+1,none⟩=some (.int .u64 (l[j].2:Nat)):=by
 obtain⟨b,o,hA,hb,ht,hc⟩:=h.at hl;refine⟨b,o,hA,hb,ht,fun j hj=>⟨?_,?_⟩⟩
 ·have:=hc j l[j] (zAB9 hj) 0 (.int .i64 l[j].1) rfl;simpa[LT]using this
 ·have:=hc j l[j] (zAB9 hj) 1 (.int .u64 (l[j].2:Nat)) rfl;simpa[LT,zCY9]using this
def zl8 (w:World)(b o:Nat)(x:NA):Prop :=
 w.cell? ⟨b,o,none⟩=some (.int .i64 x.n.level)/\w.cell? ⟨b,o+1,none⟩=some (.int .i64 x.n.sib)/\w.cell? ⟨b,o+2,none⟩=some (.int .u64 x.n.low)/\w.cell? ⟨b,o+3,none⟩=some (.int .u64 x.n.left) /\
 w.cell? ⟨b,o+4,none⟩=some (.int .i64 x.n.way)/\w.cell? ⟨b,o+5,none⟩=some (.slice x.A x.n.pairs.length x.c)
theorem zl8.ext {w w':World}{b o:Nat}{x:NA}(h:zl8 w b o x)(hx:Ext w w'):zl8 w' b o x:=⟨hx.cell h.1,hx.cell h.2.1,hx.cell h.2.2.1,hx.cell h.2.2.2.1,hx.cell h.2.2.2.2.1,hx.cell h.2.2.2.2.2⟩
theorem RL.node {w:World}{A}{l:List NA}(h:RL LN Z w A l)(hl:l ≠ []):∃b o,A=some ⟨b,o,none⟩/\b<w.heap.size/\zgu 124 Z w b/\∀j (hj:j<l.length),zl8 w b (o+j*6) l[j]:=by
 obtain⟨b,o,hA,hb,ht,hc⟩:=h.at hl;refine⟨b,o,hA,hb,ht,fun j hj=>?_⟩;have hh:=hc j l[j] (zAB9 hj);refine⟨?_,?_,?_,?_,?_,?_⟩
 ·simpa[LN]using hh 0 _ rfl
 ·simpa[LN,zCY9]using hh 1 _ rfl
 ·simpa[LN,zCY9]using hh 2 _ rfl
 ·simpa[LN,zCY9]using hh 3 _ rfl
 ·simpa[LN,zCY9]using hh 4 _ rfl
 ·simpa[LN,zCY9]using hh 5 _ rfl
structure RN (Z:Nat)(w:World)(A:Option Addr)(l:List NA):Prop where
 row:RL LN Z w A l
 sub:∀x∈l,RL LP Z w x.A x.n.pairs
theorem RN.ext {w w':World}{A}{l:List NA}(h:RN Z w A l)(hx:Ext w w'):RN Z w' A l:=⟨h.row.ext hx,fun x hm=>(h.sub x hm).ext hx⟩
theorem Ext.frozen {w w1:World}(h:Ext w w1){b o:Nat}{u:Bool}(hc:w.frozen? ⟨b,o,none⟩=u)(hb:b<w.heap.size):w1.frozen? ⟨b,o,none⟩=u:=(h.cells.2 b o hb).trans hc

end Go.Proofs.YtfomlmhnmheenaaGreat
namespace Go.Proofs.YtfomlmhnmheenaaGreat
open Go.RowKit
def zbG (left n:Nat):Bool:=decide (left≠0)&&decide (n%2=0)&&decide (2<=n/2)&&decide (n/2<=28)
def zbz:List Nat->Nat
 | _::p::l=>if p=0 then 0 else zbz l+1
 | _=>0
def zaB:Nat->List Nat->List Pr
 | prev,k::p::l=>if p=0 then[]else if p=prev then zaB p l else(k,p)::zaB p l
 | _,_=>[]
def zbO (left:Nat)(l:List Nat):List Pr:=if zbG left l.length=true then zaB left l else[]
def zbt:List Pr->Bool
 | a::b::l=>decide (a.1<b.1)&&zbt (b::l)
 | _=>true
def zc3:List Nat->List Pr->Bool
 | seen,p::l=>!seen.contains p.2&&zc3 (p.2::seen) l
 | _,[]=>true
def zej:List Nat->Bool
 | _::p::l=>decide (p=0)&&zej l
 | _=>true
def zdm (left:Nat)(l:List Nat):Bool :=
 zbt (zbO left l)&&zc3 [left] (zbO left l)&&decide ((zbO left l).length=zbz l)&&decide ((zbO left l).length<l.length/2)&&zej (l.drop (2*(zbO left l).length))
def zbW (left:Nat)(l:List Nat):Nat:=if zbG left l.length=true then if zdm left l=true then 0 else 190 else 2
theorem zkf (l:List Nat)(j:Nat)(h:2*j+1<l.length):l.drop (2*j)=l[2*j]::l[2*j+1]::l.drop (2*(j+1)):=by
 rw[zBB9 (i:=2*j) (by omega),zBB9 (i:=2*j+1) h];rfl
theorem zih:∀l:List Nat,2*zbz l<=l.length
 | []=>by simp[zbz]
 | [_]=>by simp[zbz]
 | _::p::l=>by
  have:=zih l;rw[zbz]
  split<;>simp<;>omega
end Go.Proofs.YtfomlmhnmheenaaGreat
namespace Go.Proofs.YtfomlmhnmheenaaGreat
open Go.RowKit
variable {Z:Nat}
set_option maxRecDepth 100000
@[reducible] def zi2 (A:Option Addr) (n c left:Nat):Value:=.agg #[.slice A n c,.int .u64 (left:Nat)]
def zb0 (left:Nat)(l:List Nat)(j:Nat):Nat:=if j=0 then left else l.getD (2*(j-1)+1) 0
end Go.Proofs.YtfomlmhnmheenaaGreat
namespace Go.Proofs.YtfomlmhnmheenaaGreat
open Go.RowKit
attribute [local go_sem] Oper.semAt_some
structure zdL (n0:Nat)(t:TypeId)(A B:World):Prop where
 size:A.heap.size<=B.heap.size
 low:∀b,b<n0->b<A.heap.size->B.heap[b]?=A.heap[b]?
 own:∀b,Typ A b t->B.heap[b]?=A.heap[b]?
theorem zdL.refl (n0:Nat)(t:TypeId)(A:World):zdL n0 t A A:=⟨zAK9 _,fun _ _ _=>rfl,fun _ _=>rfl⟩
theorem zdL.trans {n0:Nat}{t:TypeId}{A B C:World}(h:zdL n0 t A B)(k:zdL n0 t B C):zdL n0 t A C :=
 ⟨zBG9 h.size k.size,fun b h1 h2=>(k.low b h1 (zBC9 h2 h.size)).trans (h.low b h1 h2),fun b hb=>(k.own b (hb.same (h.own b hb))).trans (h.own b hb)⟩
theorem zdL.ext {n0:Nat}{t:TypeId}{A B:World}(h:Ext A B):zdL n0 t A B:=⟨h.size,fun b _ hb=>Below.block h b hb,fun b hb=>Below.block h b hb.lt⟩
theorem zdL.cell {n0:Nat}{t:TypeId}{A B:World}(h:zdL n0 t A B){b o:Nat}{u:Value}(hb:b<n0\/Typ A b t)(hc:A.cell? ⟨b,o,none⟩=some u):B.cell? ⟨b,o,none⟩=some u :=
 (World.cell?_of_block (a:=⟨b,o,none⟩) (hb.elim (fun hb=>h.low b hb (World.block_lt_of_cell? A ⟨b,o,none⟩ hc)) (h.own b))).trans hc
theorem zdL.rl {α:Type}{L:Lay α}{n0:Nat}{t:TypeId}{A B:World}(h:zdL n0 t A B){S:Option Addr}{l:List α}{Z:Nat}(hr:RL L Z A S l)(hb:∀b o,S=some ⟨b,o,none⟩->l ≠ []->b<n0):RL L Z B S l:=by
 by_cases hl:l=[]
 ·subst hl;exact RL.nil _ _
 ·exact RT.move hr fun b o hA _ hlt=>h.low b (hb b o hA hl) hlt
def zhn (n0:Nat)(t:TypeId)(I:World->Prop)(Ix:Code->World->Prop)(A:World):Exit->Act->World->Prop
 | .normal,_,B=>KeepsOthers A B/\zdL n0 t A B/\I B
 | .ret,_,B=>KeepsOthers A B/\zdL n0 t A B/\Ix .ret B
 | .exit id,_,B=>KeepsOthers A B/\zdL n0 t A B/\Ix (.exit id) B
 | _,_,_=>False
theorem Typ.cells {w:World}{b:Nat}{t:TypeId}(h:Typ w b t):∃o,w.heap[b]?=some o/\o.isCells=true:=by
 obtain⟨cs,fr,h⟩:=h;exact⟨_,h,rfl⟩
theorem RT.putObj {t:TypeId}{Z:Nat}{w:World}{A:Option Addr}{l:List Value}{L:Nat}{o:Obj}(h:RT t Z w A l)(hL:w.heap[L]?=some o)(ho:o.isCells=false)(hZ:Z<=L)(o':Obj):RT t Z (w.putObj L o') A l :=
 h.move fun b _ _ hb _=>World.putObj_heap_other (by
  rintro rfl;rcases hb with hb|⟨cs,fr,hb⟩
  ·omega
  ·rw[hL]at hb;injection hb with hb;subst hb;cases ho)
section
variable {n:Nat}{P:Program}{ops:Array Oper}{Q:Exit->Act->World->Prop}{md:Region.Mode}{S:World->Prop}
end
end Go.Proofs.YtfomlmhnmheenaaGreat
namespace Go.Proofs.YtfomlmhnmheenaaGreat
open Go.RowKit
variable {Z:Nat}
set_option maxRecDepth 100000
attribute [local go_sem] Oper.semAt_some
def zbD:Nat->Nat->List Nat->List (Nat×Pr)
 | j,prev,k::p::l=>if p=0 then[]else if p=prev then zbD (j+1) p l else(j,(k,p))::zbD (j+1) p l
 | _,_,_=>[]
theorem zcj:∀(l:List Nat) (j prev:Nat),(zbD j prev l).map Prod.snd=zaB prev l
 | [],_,_=>rfl
 | [_],_,_=>rfl
 | k::p::l,j,prev=>by
  rw[zbD,zaB]
  split
  ·rfl
  ·split
   ·exact zcj l _ _
   ·rw[zCI9,zcj l]
def zxg (left:Nat)(l:List Nat):List (Nat×Pr):=if zbG left l.length=true then zbD 0 left l else[]
theorem zfO (left:Nat)(l:List Nat):(zxg left l).map Prod.snd=zbO left l:=by
 unfold zxg zbO
 split
 ·exact zcj _ _ _
 ·rfl
end Go.Proofs.YtfomlmhnmheenaaGreat
namespace Go.Proofs.YtfomlmhnmheenaaGreat
open Go.RowKit
variable {Z:Nat}{α:Type}
variable {L:Lay α}{th:TypeId}{w:World}{bx base:Nat}{l:List α}
end Go.Proofs.YtfomlmhnmheenaaGreat
namespace Go.Proofs.YtfomlmhnmheenaaGreat
open Go.RowKit
variable {Z:Nat}
set_option maxRecDepth 100000
attribute [local go_sem] Oper.semAt_some
theorem zdB:∀(l:List Nat) (j p:Nat),2*(zbD j p l).length<=l.length
 | [],_,_=>by simp[zbD]
 | [_],_,_=>by simp[zbD]
 | k::q::l,j,p=>by
  rw[zbD];have h1:=zdB l (j+1) q
  split
  ·simp
  ·split<;>simp<;>omega
theorem zst (left:Nat)(l:List Nat):(zxg left l).length<=28:=by
 unfold zxg
 split
 ·rename_i h;simp only[zbG,zAR9,decide_eq_true_eq]at h;have:=zdB l 0 left;omega
 ·simp
theorem zeV (left:Nat)(l:List Nat):(zbO left l).length<=28:=by
 rw[<- zfO,zAA9];exact zst _ _

end Go.Proofs.YtfomlmhnmheenaaGreat
namespace Go.Proofs.YtfomlmhnmheenaaGreat
open Go.RowKit Go.Maps
variable {Z:Nat}
structure zxb where
 t:TypeId
 k:TypeId
 q:IntKind
 hk:Tryz.prog.underlying k=some (.int q)
 ht:Tryz.prog.underlying t=some (.map k 3)
variable {M:zxb}{B:Nat}{S:List Int}
theorem RT.map {t:TypeId}{w w':World}{A xs}(h:RT t Z w A xs){o:Obj}(ho:w.heap[B]?=some o)(hc:o.isCells=false)(hB:Z<=B)(hg:w.grownBy w' (some B)):RT t Z w' A xs :=
 h.move fun b _ _ ht hl=>hg.block b hl fun e=>by
  injection e with e;subst e;rcases ht with ht|⟨cs,fr,ht⟩
  ·omega
  ·rw[ho]at ht;injection ht with ht;subst ht;cases hc
end Go.Proofs.YtfomlmhnmheenaaGreat
namespace Go.Proofs.YtfomlmhnmheenaaGreat
open Go.RowKit
variable {Z:Nat}
set_option maxRecDepth 100000
def zrw (l:List Nat):List Int:=l.map fun(x:Nat)=>(x:Int)
theorem OL.read {α:Type}{L:Lay α}{w:World}{base n c:Nat}{A:Option Addr}{l:List α}(h:OL L w base (.slice A n c) l):n=l.length/\RL L Z w A l/\∀b o,A=some ⟨b,o,none⟩->base<=b/\b<w.heap.size:=by
 obtain⟨A',c',hv,_,_,hr,hb⟩:=OL.rl (Z:=Z) h;injection hv with h1 h2 h3;subst h1;subst h2;subst h3;exact⟨rfl,hr,fun b o e=>⟨(hb b o e).1,(hb b o e).2.1⟩⟩
theorem ztc {P:Program}(w:World)(dT sT ty elem:TypeId)(size g o dLen dCap:Nat)(a:Addr)(sLen sCap:Nat)(cur:List Value)(t:TypeId)(cs:List Value)
  (hu:P.underlying dT=some (.slice elem)) (hs:(P.info? elem).map (·.size)=some size)
  (hg:w.heap[g]?=some (.cells cur.toArray t (0,0))) (hn:cs.length=Nat.min sLen dLen*size)
  (hsrc:∀j v,cs[j]?=some v->w.cell? (a.add j)=some v) (hfit:o+cs.length<=cur.length) (h1:∀v∈cs,v.oneCell'=true) :
  (Builtin.copy_ #[dT,sT] ty #[.slice (some ⟨g,o,none⟩) dLen dCap,.slice (some a) sLen sCap]).run P w =
   .ok (goInt (Nat.min sLen dLen:Nat)) (w.setRow g (splice cur o cs).toArray):=by
 have hl:=run_loadCells_list (P:=P) w a cs hsrc;have hst:=run_storeCells_at P g o t cs 0 cur.toArray w hg (by simpa using hfit) h1
 cases hq:P.info? elem with
 | none=>simp[hq]at hs
 | some i =>
  have hi:i.size=size:=by simpa[hq]using hs
  simp only[zDF9,zAF9]at hst;simp[Builtin.copy_,run_underlying hu,Builtin.lenOf,Builtin.firstCells,sizeOf,typeInfo,hq,hi,<- hn,hl,hst,splice]
theorem zqc {α:Type}(R X S:List α)(hX:X.length=2):splice (splice R 0 X) 2 S=X++(S++R.drop (2+S.length)):=by
 have e1:splice R 0 X=X++R.drop 2:=by unfold splice;simp[hX]
 rw[e1];unfold splice;rw[zEO9 (by omega),zDC9 (by omega),List.drop_append,zEN9 (by omega),zEE9,zAI9]
 congr 3;omega
theorem zo5 {α:Type}(C X S:List α)(hX:X.length=2)(hC:2<=C.length):splice (splice C 2 S) 0 X=X++(S++C.drop (2+S.length)):=by
 unfold splice;rw[zFV9,zAI9,zAM9,hX,List.drop_append,zEN9 (by rw[zBA9];omega),zBA9,zAI9,show 2-min 2 C.length=0 by omega,zFU9]
theorem zjX (w:World)(g:Nat)(cs:Array Value):w.grownBy (w.setRow g cs) (some g) :=
 ⟨rfl,rfl,rfl,by simp[World.setRow],fun k _ hk=>setRow_other w g k cs (fun e=>hk (by rw[e]))⟩
theorem zcI {w:World}{ops:Array Oper}{rest:List Oper}{o:Oper}{a:Act}{Q:Exit->Act->World->Prop}(hgd:o.guard=none)(d s:Operand)(dT sT:TypeId)
  (ho:o.op=.call { callee:=.builtin .copy,args:=#[d,s],argTypes:=#[dT,sT] }) (elem:TypeId) (hu:Tryz.prog.underlying dT=some (.slice elem)) (size:Nat) (hsz:(Tryz.prog.info? elem).map (·.size)=some size)
  (g off dLen dCap:Nat) (ad:Addr) (sLen sCap:Nat) (hd:a.eval d=.slice (some ⟨g,off,none⟩) dLen dCap) (hs:a.eval s=.slice (some ad) sLen sCap)
  (cur:List Value) (t:TypeId) (hg:w.heap[g]?=some (.cells cur.toArray t (0,0))) (cs:List Value) (hn:cs.length=Nat.min sLen dLen*size)
  (hsrc:∀j v,cs[j]?=some v->w.cell? (ad.add j)=some v) (hfit:off+cs.length<=cur.length) (h1:∀v∈cs,v.oneCell'=true)
  (h:∀w',Hid (w'.heap[g]?=some (.cells (splice cur off cs).toArray t (0,0)))->Hid (w.grownBy w' (some g))->wpList Tryz.prog ops Q rest (a.put o.dst (goInt (Nat.min sLen dLen:Nat))) w'):wpList Tryz.prog ops Q (o::rest) a w:=by
 refine wpList_plain hgd fun K hK=>?_;have hrun:=ztc (P:=Tryz.prog) w dT sT o.type elem size g off dLen dCap ad sLen sCap cur t cs hu hsz hg hn hsrc hfit h1;unfold Oper.wp;simp[execOp,ho,resolve,invoke,builtin,hd,hs,hrun,Result.andThen];exact hK _ _ (h _ (Lib.hid (setRow_heap w g _ _ t _ hg)) (Lib.hid (zjX _ _ _)))
theorem zqf {w:World}{ops:Array Oper}{o:Oper}{a:Act}{K:Act->World->Prop}{Q:Exit->Act->World->Prop}{E:Prop}(hgd:o.guard=none)(d s:Operand)(dT sT:TypeId)
  (ho:o.op=.call { callee:=.builtin .copy,args:=#[d,s],argTypes:=#[dT,sT] }) (elem:TypeId) (hu:Tryz.prog.underlying dT=some (.slice elem)) (size:Nat) (hsz:(Tryz.prog.info? elem).map (·.size)=some size)
  (g off dLen dCap:Nat) (ad:Addr) (sLen sCap:Nat) (hd:a.eval d=.slice (some ⟨g,off,none⟩) dLen dCap) (hs:a.eval s=.slice (some ad) sLen sCap)
  (cur:List Value) (t:TypeId) (hg:w.heap[g]?=some (.cells cur.toArray t (0,0))) (cs:List Value) (hn:cs.length=Nat.min sLen dLen*size)
  (hsrc:∀j v,cs[j]?=some v->w.cell? (ad.add j)=some v) (hfit:off+cs.length<=cur.length) (h1:∀v∈cs,v.oneCell'=true)
  (h:∀w',Hid (w'.heap[g]?=some (.cells (splice cur off cs).toArray t (0,0)))->Hid (w.grownBy w' (some g))->K (a.put o.dst (goInt (Nat.min sLen dLen:Nat))) w') :
  if Region.wanted o (yielded ops a.tmps)=true then Oper.wp Tryz.prog o a w K Q else E:=by
 have hw:Region.wanted o (yielded ops a.tmps)=true:=by simp[Region.wanted,hgd]
 rw[if_pos hw];have hrun:=ztc (P:=Tryz.prog) w dT sT o.type elem size g off dLen dCap ad sLen sCap cur t cs hu hsz hg hn hsrc hfit h1;unfold Oper.wp;simp[execOp,ho,resolve,invoke,builtin,hd,hs,hrun,Result.andThen];exact h _ (Lib.hid (setRow_heap w g _ _ t _ hg)) (Lib.hid (zjX _ _ _))
theorem zbQ:(Tryz.prog.info? 83).map (·.size)=some 2:=by
 obtain⟨i0,hi0,hz0,hz1,hz2⟩:=info_parts LT.info;rw[show 83=LT.t from rfl,hi0];simp[hz1,LT]
set_option maxHeartbeats 4000000 in
theorem ztd (l:List (Int×Nat))(x:Int×Nat)(base g c vb vc:Nat)(w:World)(hl:l ≠ [])(hn:l.length<=100000)(hroom:¬l.length+1<=c)
  (h:OL LT w base (.slice (some ⟨g,0,none⟩) l.length c) l) (hv:RL LT Z w (some ⟨vb,0,none⟩) [x]) (hb:base<=w.heap.size) :
  Calls Tryz.prog 127 #[.slice (some ⟨g,0,none⟩) l.length c,.int .i64 0,.slice (some ⟨vb,0,none⟩) 1 vc] w fun e w'=>∃v,e=.returned v/\OL LT w' base v (x::l)/\Below base w w'/\(∃g' c',v=.slice (some ⟨g',0,none⟩) (l.length+1) c'/\(g'=g\/w.heap.size<=g'))/\∀k,k≠g->k<w.heap.size->w'.heap[k]?=w.heap[k]?:=by
 obtain⟨A,c',hv',hlc,hcm,hrl,hbd⟩:=OL.rl (Z:=0) h;injection hv' with e1 e2 e3;subst e1;subst e3;have hgb:=hbd g 0 rfl;have hpos:0<l.length:=zBZ9.2 hl;obtain rfl:c=l.length:=by omega
 obtain⟨bb,oo,hbo,hvw,_,hvc⟩:=RL.at hv (by simp);injection hbo with hbo;injection hbo with hbo1 hbo2;subst hbo1;subst hbo2;obtain⟨i0,hi0,hz0,hzs,hzb⟩:=info_parts LT.info;have hxl:(LT.all l).length=l.length*2:=LT.all_len l;have hxv:∀j u,(LT.all [x])[j]?=some u->w.cell? ((⟨vb,0,none⟩:Addr).add j)=some u:=fun j u hj=>by
  rw[ze0];have:=hvc 0 x rfl j u (by rwa [LT.all_one]at hj);simpa using this
 have hxs:∀j u,(LT.all l)[j]?=some u->w.cell? ((⟨g,0,none⟩:Addr).add j)=some u:=World.ownsRow.cells h rfl;have h1s:∀u∈LT.all l,u.oneCell'=true:=LT.all_oneCell l;have h1x:∀u∈LT.all [x],u.oneCell'=true:=LT.all_oneCell [x];have hxl1:(LT.all [x]).length=2:=LT.all_len [x];have hold:(Builtin.firstCells i0.size 0 (.slice (some ⟨g,0,none⟩) 0 l.length)).run Tryz.prog w.drew=.ok ([]:List Value).toArray w.drew :=
  run_firstCells_some w.drew _ 0 ⟨g,0,none⟩ 0 l.length [] (by simp) (fun j v hj=>by simp at hj)
 have hrz:∀ty,(Builtin.append_ #[30,3] ty #[.slice (some ⟨g,0,none⟩) 0 l.length,.int .i64 ((l.length:Int)+1)]).run Tryz.prog w =
   .ok (.slice (some ⟨w.heap.size,0,none⟩) (l.length+1) (grownCap w (l.length+1) l.length 83)) (w.drew.alloc (.cells (([]:List Value).toArray++Builtin.zeroCells LT.z.cells (l.length+1)++Builtin.zeroCells LT.z.cells (grownCap w (l.length+1) l.length 83-(l.length+1))) 83)):=fun ty=>by
  have h:=Lib.run_append_grow_zeros w 30 3 ty 83 i0 _ .i64 .i64 Tryz.underlying30 Tryz.underlying3 hi0 hz0 (some ⟨g,0,none⟩) 0 l.length [] hold (l.length+1) (by omega) (by rw[hzs];exact LT.pos) (by omega) (by omega) (by rw[hzb];simp only[LT];omega) (by rw[hzb];exact growslice_fits (by omega) (by simp only[LT];omega));simp only[zAM9]at h;exact h
 have hGn:=grownCap_ge w (l.length+1) l.length 83;have hGm:=grownCap_le_maxLen w (l.length+1) l.length 83 (by simp only[maxLen];omega);obtain⟨G,hG⟩:∃G,G=grownCap w (l.length+1) l.length 83:=⟨_,rfl⟩
 rw[<- hG]at hrz hGn hGm;obtain⟨ROW,hROW⟩:∃ROW:List Value,ROW.toArray=([]:List Value).toArray++Builtin.zeroCells LT.z.cells (l.length+1)++Builtin.zeroCells LT.z.cells (G-(l.length+1)):=⟨_,Array.toArray_toList⟩
 rw[<- hROW]at hrz;have hRl:ROW.length=G*2:=by
  have:=congrArg Array.size hROW;simp only[zDP9,zFD9,size_zeroCells,zAG9]at this;rw[show LT.z.cells.size=2 from rfl]at this;omega
 have hg1:(w.drew.alloc (.cells ROW.toArray 83)).heap[w.heap.size]?=some (.cells ROW.toArray 83 (0,0)):=heap_alloc_new w.drew _;have hx1:Ext w (w.drew.alloc (.cells ROW.toArray 83)):=((Ext.refl w).drew).alloc _;obtain⟨W1,hW1⟩:∃W1,W1=w.drew.alloc (.cells ROW.toArray 83):=⟨_,rfl⟩
 rw[<- hW1]at hrz hg1 hx1;clear hW1 hROW hG hold;have hsz1:w.heap.size+1<=W1.heap.size:=(zBP9.1 hg1).1;have hg63:G<=9223372036854775807:=by simp only[maxLen]at hGm;omega
 have k1:¬((l.length:Int)=0):=by omega
 have k1':¬((0:Int)=(l.length:Int)):=by omega
 have k2:¬G=0:=by omega
 have k3:¬G=1:=by omega
 have k4:¬l.length=0:=by omega
 have k5:(l.length:Int)<(l.length:Int)+1:=by omega
 have k6:(0:Int)<=(l.length:Int):=by omega
 have mixed:Tryz.prog.follows Departure.mixedOrders=true:=by kernel_rfl
 have k7:IntKind.i64.wrap 1=1:=by rw[IntKind.wrap_i64];omega
 have k8:(1:Int)<=(l.length:Int)+1:=by omega
 have k9:(1:Int).toNat=1:=rfl;have HG1:=Lib.hid hg1;have HXV:=Lib.hid hxv;have HXS:=Lib.hid hxs;have H1S:=Lib.hid h1s;have H1X:=Lib.hid h1x;have HL:=Lib.hid hxl;have HL1:=Lib.hid hxl1;have HRL:=Lib.hid hRl;have HX1:=Lib.hid hx1;have HO:=Lib.hid h;have HGB:=Lib.hid (And.intro hgb.1 hgb.2.1);clear hg1 hxv hxs h1s h1x hxl hxl1 hRl hx1 hrl hbd hgb hvc e2 hlc hcm h hv hi0 hz0 hzs hzb
 go_enter Tryz.func127,Tryz.ntmps127
 iterate 137 go_step
 refine Lib.wpList_append_run _ rfl _ _ _ _ rfl _ _ rfl rfl _ _ (hrz _) ?_
 iterate 20 go_step
 refine zcI rfl _ _ 30 30 rfl 83 Tryz.underlying30 2 zbQ w.heap.size 0 _ _ ⟨vb,0,none⟩ 1 _ rfl rfl ROW 83 HG1.out (LT.all [x]) (by show _=min _ _*2;rw[HL1.out];omega) (fun j u hj=>HX1.out.cell (HXV.out j u hj)) (by rw[HL1.out,HRL.out];omega) H1X.out ?_;intro w2 hg2 hy2
 iterate 4 go_step
 have hc2:∀j u,(LT.all l)[j]?=some u->(w2.drew).cell? ((⟨g,0,none⟩:Addr).add j)=some u:=fun j u hj=>by
  have h1:=HX1.out.cell (HXS.out j u hj);rw[ze0]at h1⊢;exact hy2.out.cell h1 (fun e=>by injection e with e;have:=HGB.out.2;dsimp only at e;omega)
 have hl2:(splice ROW 0 (LT.all [x])).length=G*2:=by rw[length_splice _ _ _ (by rw[HL1.out,HRL.out];omega)];exact HRL.out
 have HC2:=Lib.hid hc2;have HL2:=Lib.hid hl2;clear hc2 hl2
 go_region_law_o (refine zqf rfl _ _ 30 30 rfl 83 Tryz.underlying30 2 zbQ w.heap.size 2 l.length (G-1) ⟨g,0,none⟩ l.length l.length (by simp[Act.eval,Act.put]) (by simp[Act.eval,Act.put]) (splice ROW 0 (LT.all [x])) 83 hg2.out (LT.all l) (by show _=min _ _*2;rw[HL.out];omega) HC2.out (by rw[HL.out,HL2.out];omega) H1S.out ?_;intro w4 hg4 hy4)
 go_wp2
 go_ret
 refine⟨_,rfl,⟨?_,.inr ⟨w.heap.size,G,_,rfl,by omega,hg4.out,hGn,hGm,?_,?_⟩⟩,?_,?_,?_⟩
 ·rw[LT.all_len]
 ·rw[zDP9,length_splice _ _ _ (by rw[HL.out,HL2.out];omega),HL2.out];rfl
 ·have e1:splice (splice ROW 0 (LT.all [x])) 2 (LT.all l)=LT.all (x::l)++ROW.drop (2+(LT.all l).length):=by
   rw[zqc _ _ _ HL1.out,LT.all_cons x l,<- LT.all_one x,zAF9]
  rw[show (splice (splice ROW 0 (LT.all [x])) 2 (LT.all l)).toArray.toList=splice (splice ROW 0 (LT.all [x])) 2 (LT.all l)from rfl,e1];rw[zEO9 (by rw[LT.all_len];simp[LT]),zDC9 (by rw[LT.all_len];simp[LT])]
 ·have b1:Below base w W1:=HX1.out.below.mono hb;have b2:=(b1.grown hy2.out (by have:=HX1.out.size;omega) (fun k e=>by injection e with e;omega)).drew;exact b2.grown hy4.out (by have:=hy2.out.size;have:=HX1.out.size;show base<=w2.heap.size;omega) (fun k e=>by injection e with e;omega)
 ·have hle:=zAK9 w.heap.size
  first|exact⟨_,_,rfl,.inr hle⟩|exact⟨_,⟨_,rfl⟩,.inr hle⟩
 ·have b1:Below w.heap.size w W1:=HX1.out.below;have b2:=(b1.grown hy2.out (by have:=HX1.out.size;omega) (fun k e=>by injection e with e;omega)).drew;have b3:=b2.grown hy4.out (by have:=hy2.out.size;have:=HX1.out.size;show w.heap.size<=w2.heap.size;omega) (fun k e=>by injection e with e;omega);exact fun k _ hk=>b3.block k hk
set_option maxHeartbeats 4000000 in
theorem zrL (l:List (Int×Nat))(x:Int×Nat)(base g c vb vc:Nat)(w:World)(hl:l ≠ [])(hn:l.length<=100000)(hroom:l.length+1<=c)
  (h:OL LT w base (.slice (some ⟨g,0,none⟩) l.length c) l) (hv:RL LT Z w (some ⟨vb,0,none⟩) [x]) (hvg:vb≠g) (tA:TypeId) (kA:Nat) (hsa:w.shape? vb=some (tA,kA)) (hfa:w.frozen? ⟨vb,0,none⟩=false) (hfe:w.frozen? ⟨vb,kA,none⟩=false) (hb:base<=w.heap.size) :
  Calls Tryz.prog 127 #[.slice (some ⟨g,0,none⟩) l.length c,.int .i64 0,.slice (some ⟨vb,0,none⟩) 1 vc] w fun e w'=>∃v,e=.returned v/\OL LT w' base v (x::l)/\Below base w w'/\(∃g' c',v=.slice (some ⟨g',0,none⟩) (l.length+1) c'/\(g'=g\/w.heap.size<=g'))/\∀k,k≠g->k<w.heap.size->w'.heap[k]?=w.heap[k]?:=by
 rcases h with⟨hxl,⟨h1,_⟩|⟨g',cap,cur,h1,hbg,hg,hnc,hcm,hcs,htk⟩⟩
 ·cases h1
 injection h1 with e1 _ e3;injection e1 with e1;injection e1 with e1;subst e1;subst e3;have hpos:0<l.length:=zBZ9.2 hl;obtain⟨bb,oo,hbo,hvw,_,hvc⟩:=RL.at hv (by simp);injection hbo with hbo;injection hbo with hbo1 hbo2;subst hbo1;subst hbo2;have hxl:(LT.all l).length=l.length*2:=LT.all_len l;have hxv:∀j u,(LT.all [x])[j]?=some u->w.cell? ((⟨vb,0,none⟩:Addr).add j)=some u:=fun j u hj=>by
  rw[ze0];have:=hvc 0 x rfl j u (by rwa [LT.all_one]at hj);simpa using this
 have hcl:cur.toList.length=c*2:=by rw[zFR9];exact hcs
 have hxs:∀j u,(LT.all l)[j]?=some u->w.cell? ((⟨g,0,none⟩:Addr).add j)=some u:=fun j u hj=>by
  rw[ze0,zAM9];rw[<- htk,zBF9]at hj
  split at hj
  ·simp only[World.cell?,hg];rw[<- zCB9];exact hj
  ·cases hj
 have h1s:∀u∈LT.all l,u.oneCell'=true:=LT.all_oneCell l;have h1x:∀u∈LT.all [x],u.oneCell'=true:=LT.all_oneCell [x];have hxl1:(LT.all [x]).length=2:=LT.all_len [x];have hsb:w.shape? g=some (83,cur.size):=by show _=some (LT.t,_);simp[World.shape?,hg]
 have hov:∀lb cb,(callFunc 179 #[.slice (some ⟨vb,0,none⟩) 1 vc,.slice (some ⟨g,2,none⟩) lb cb]).run Tryz.prog w=.ok (.value (.bool false)) w:=fun lb cb=>by
  obtain⟨i0,hi0,hz0,hzs,hzb⟩:=info_parts LT.info;rw[run_callFunc_extern Tryz.func179 (by kernel_rfl) (by kernel_rfl) (by kernel_rfl) (e:=Extern.SlicesOverlaps.overlaps #[30,30] #[4]) (by kernel_rfl),
   Lib.run_overlaps_apart w 30 4 83 Tryz.underlying30 2 (fun w=>by kernel_rfl) ⟨vb,0,none⟩ ⟨g,2,none⟩ 1 vc lb cb hvg tA 83 kA cur.size hsa hsb (by rw[hcs];simp only[LT];omega) hfa hfe]
  rfl
 have mixed:Tryz.prog.follows Departure.mixedOrders=true:=by kernel_rfl
 have hc63:c<=9223372036854775807:=by simp only[maxLen]at hcm;omega
 have k1:¬((l.length:Int)=0):=by omega
 have k1':¬((0:Int)=(l.length:Int)):=by omega
 have k2:¬c=0:=by omega
 have k3:¬c=1:=by omega
 have k5:¬(c:Int)<(l.length:Int)+1:=by omega
 have k6:(0:Int)<=(l.length:Int):=by omega
 have k7:IntKind.i64.wrap 1=1:=by rw[IntKind.wrap_i64];omega
 have k8:(1:Int)<=(l.length:Int)+1:=by omega
 have k9:(1:Int).toNat=1:=rfl;have k10:(0:Int)<=(l.length:Int)+1:=by omega
 have HG1:Hid (w.drew.heap[g]?=some (.cells cur.toList.toArray 83 (0,0))):=Lib.hid hg;have HXV:=Lib.hid hxv;have HXS:Hid (∀j u,(LT.all l)[j]?=some u->w.drew.cell? ((⟨g,0,none⟩:Addr).add j)=some u):=Lib.hid hxs;have H1S:=Lib.hid h1s;have H1X:=Lib.hid h1x;have HL:=Lib.hid hxl;have HL1:=Lib.hid hxl1;have HCL:=Lib.hid hcl;have HBG:=Lib.hid hbg;have HCM:=Lib.hid hcm;clear hxv hxs h1s h1x hxl hxl1 hcl hbg hcm hv hvc hg hcs htk hsb hsa hfa hfe hnc;generalize cur.toList=CUR at *
 go_enter Tryz.func127,Tryz.ntmps127
 go_wp2_with (simp only[hov])
 go_region_law_o (refine zqf rfl _ _ 30 30 rfl 83 Tryz.underlying30 2 zbQ g 2 l.length (c-1) ⟨g,0,none⟩ (l.length+1) c (by simp[Act.eval,Act.put]) (by simp[Act.eval,Act.put]) CUR 83 HG1.out (LT.all l) (by show _=min _ _*2;rw[HL.out];omega) HXS.out (by rw[HL.out,HCL.out];omega) H1S.out ?_;intro w4 hg4 hy4)
 have hc4:∀j u,(LT.all [x])[j]?=some u->w4.cell? ((⟨vb,0,none⟩:Addr).add j)=some u:=fun j u hj=>by
  have h1:=HXV.out j u hj;rw[ze0]at h1⊢;exact hy4.out.cell h1 (fun e=>by injection e with e;exact hvg e)
 have hl4:(splice CUR 2 (LT.all l)).length=c*2:=by rw[length_splice _ _ _ (by rw[HL.out,HCL.out];omega)];exact HCL.out
 have HC4:=Lib.hid hc4;have HL4:=Lib.hid hl4;clear hc4 hl4
 first
 | ((iterate 10 (go_step));refine zcI rfl _ _ 30 30 rfl 83 Tryz.underlying30 2 zbQ g 0 _ _ ⟨vb,0,none⟩ 1 _ rfl rfl (splice CUR 2 (LT.all l)) 83 hg4.out (LT.all [x]) (by show _=min _ _*2;rw[HL1.out];omega) HC4.out (by rw[HL1.out,HL4.out];omega) H1X.out ?_)
 | ((iterate 11 (go_step));refine zcI rfl _ _ 30 30 rfl 83 Tryz.underlying30 2 zbQ g 0 _ _ ⟨vb,0,none⟩ 1 _ rfl rfl (splice CUR 2 (LT.all l)) 83 hg4.out (LT.all [x]) (by show _=min _ _*2;rw[HL1.out];omega) HC4.out (by rw[HL1.out,HL4.out];omega) H1X.out ?_)
 | ((iterate 12 (go_step));refine zcI rfl _ _ 30 30 rfl 83 Tryz.underlying30 2 zbQ g 0 _ _ ⟨vb,0,none⟩ 1 _ rfl rfl (splice CUR 2 (LT.all l)) 83 hg4.out (LT.all [x]) (by show _=min _ _*2;rw[HL1.out];omega) HC4.out (by rw[HL1.out,HL4.out];omega) H1X.out ?_)
 | ((iterate 13 (go_step));refine zcI rfl _ _ 30 30 rfl 83 Tryz.underlying30 2 zbQ g 0 _ _ ⟨vb,0,none⟩ 1 _ rfl rfl (splice CUR 2 (LT.all l)) 83 hg4.out (LT.all [x]) (by show _=min _ _*2;rw[HL1.out];omega) HC4.out (by rw[HL1.out,HL4.out];omega) H1X.out ?_)
 | ((iterate 14 (go_step));refine zcI rfl _ _ 30 30 rfl 83 Tryz.underlying30 2 zbQ g 0 _ _ ⟨vb,0,none⟩ 1 _ rfl rfl (splice CUR 2 (LT.all l)) 83 hg4.out (LT.all [x]) (by show _=min _ _*2;rw[HL1.out];omega) HC4.out (by rw[HL1.out,HL4.out];omega) H1X.out ?_)
 | ((iterate 15 (go_step));refine zcI rfl _ _ 30 30 rfl 83 Tryz.underlying30 2 zbQ g 0 _ _ ⟨vb,0,none⟩ 1 _ rfl rfl (splice CUR 2 (LT.all l)) 83 hg4.out (LT.all [x]) (by show _=min _ _*2;rw[HL1.out];omega) HC4.out (by rw[HL1.out,HL4.out];omega) H1X.out ?_)
 | ((iterate 16 (go_step));refine zcI rfl _ _ 30 30 rfl 83 Tryz.underlying30 2 zbQ g 0 _ _ ⟨vb,0,none⟩ 1 _ rfl rfl (splice CUR 2 (LT.all l)) 83 hg4.out (LT.all [x]) (by show _=min _ _*2;rw[HL1.out];omega) HC4.out (by rw[HL1.out,HL4.out];omega) H1X.out ?_)
 | ((iterate 17 (go_step));refine zcI rfl _ _ 30 30 rfl 83 Tryz.underlying30 2 zbQ g 0 _ _ ⟨vb,0,none⟩ 1 _ rfl rfl (splice CUR 2 (LT.all l)) 83 hg4.out (LT.all [x]) (by show _=min _ _*2;rw[HL1.out];omega) HC4.out (by rw[HL1.out,HL4.out];omega) H1X.out ?_)
 | ((iterate 18 (go_step));refine zcI rfl _ _ 30 30 rfl 83 Tryz.underlying30 2 zbQ g 0 _ _ ⟨vb,0,none⟩ 1 _ rfl rfl (splice CUR 2 (LT.all l)) 83 hg4.out (LT.all [x]) (by show _=min _ _*2;rw[HL1.out];omega) HC4.out (by rw[HL1.out,HL4.out];omega) H1X.out ?_)
 | ((iterate 19 (go_step));refine zcI rfl _ _ 30 30 rfl 83 Tryz.underlying30 2 zbQ g 0 _ _ ⟨vb,0,none⟩ 1 _ rfl rfl (splice CUR 2 (LT.all l)) 83 hg4.out (LT.all [x]) (by show _=min _ _*2;rw[HL1.out];omega) HC4.out (by rw[HL1.out,HL4.out];omega) H1X.out ?_)
 | ((iterate 20 (go_step));refine zcI rfl _ _ 30 30 rfl 83 Tryz.underlying30 2 zbQ g 0 _ _ ⟨vb,0,none⟩ 1 _ rfl rfl (splice CUR 2 (LT.all l)) 83 hg4.out (LT.all [x]) (by show _=min _ _*2;rw[HL1.out];omega) HC4.out (by rw[HL1.out,HL4.out];omega) H1X.out ?_)
 | ((iterate 21 (go_step));refine zcI rfl _ _ 30 30 rfl 83 Tryz.underlying30 2 zbQ g 0 _ _ ⟨vb,0,none⟩ 1 _ rfl rfl (splice CUR 2 (LT.all l)) 83 hg4.out (LT.all [x]) (by show _=min _ _*2;rw[HL1.out];omega) HC4.out (by rw[HL1.out,HL4.out];omega) H1X.out ?_)
 | ((iterate 22 (go_step));refine zcI rfl _ _ 30 30 rfl 83 Tryz.underlying30 2 zbQ g 0 _ _ ⟨vb,0,none⟩ 1 _ rfl rfl (splice CUR 2 (LT.all l)) 83 hg4.out (LT.all [x]) (by show _=min _ _*2;rw[HL1.out];omega) HC4.out (by rw[HL1.out,HL4.out];omega) H1X.out ?_)
 | ((iterate 23 (go_step));refine zcI rfl _ _ 30 30 rfl 83 Tryz.underlying30 2 zbQ g 0 _ _ ⟨vb,0,none⟩ 1 _ rfl rfl (splice CUR 2 (LT.all l)) 83 hg4.out (LT.all [x]) (by show _=min _ _*2;rw[HL1.out];omega) HC4.out (by rw[HL1.out,HL4.out];omega) H1X.out ?_)
 | ((iterate 24 (go_step));refine zcI rfl _ _ 30 30 rfl 83 Tryz.underlying30 2 zbQ g 0 _ _ ⟨vb,0,none⟩ 1 _ rfl rfl (splice CUR 2 (LT.all l)) 83 hg4.out (LT.all [x]) (by show _=min _ _*2;rw[HL1.out];omega) HC4.out (by rw[HL1.out,HL4.out];omega) H1X.out ?_)
 | ((iterate 25 (go_step));refine zcI rfl _ _ 30 30 rfl 83 Tryz.underlying30 2 zbQ g 0 _ _ ⟨vb,0,none⟩ 1 _ rfl rfl (splice CUR 2 (LT.all l)) 83 hg4.out (LT.all [x]) (by show _=min _ _*2;rw[HL1.out];omega) HC4.out (by rw[HL1.out,HL4.out];omega) H1X.out ?_)
 intro w5 hg5 hy5
 go_wp2
 go_ret
 refine⟨_,rfl,⟨?_,.inr ⟨g,c,_,rfl,HBG.out,hg5.out,hroom,HCM.out,?_,?_⟩⟩,?_,⟨_,_,rfl,.inl rfl⟩,?_⟩
 ·rw[LT.all_len]
 ·rw[zDP9,length_splice _ _ _ (by rw[HL1.out,HL4.out];omega),HL4.out];rfl
 ·have e1:splice (splice CUR 2 (LT.all l)) 0 (LT.all [x])=LT.all (x::l)++CUR.drop (2+(LT.all l).length):=by
   rw[zo5 _ _ _ HL1.out (by rw[HCL.out];omega),LT.all_cons x l,<- LT.all_one x,zAF9]
  rw[show (splice (splice CUR 2 (LT.all l)) 0 (LT.all [x])).toArray.toList=splice (splice CUR 2 (LT.all l)) 0 (LT.all [x])from rfl,e1];rw[zEO9 (by rw[LT.all_len];simp[LT]),zDC9 (by rw[LT.all_len];simp[LT])]
 ·have b2:=(Below.refl base w).drew.grown hy4.out hb (fun k e=>by injection e with e;have:=HBG.out;omega);exact b2.grown hy5.out (by have:=hy4.out.size;exact zBG9 hb this) (fun k e=>by injection e with e;have:=HBG.out;omega)
 ·intro k hk hlt;obtain⟨_,_,_,s4,f4⟩:=hy4.out;obtain⟨_,_,_,s5,f5⟩:=hy5.out;exact(f5 k (zBC9 hlt s4) (fun e=>hk (by injection e))).trans (f4 k hlt (fun e=>hk (by injection e)))
end Go.Proofs.YtfomlmhnmheenaaGreat
namespace Go.Proofs.YtfomlmhnmheenaaGreat
open Go.RowKit
namespace Tw
variable {ρ ρ':Rho}{Z:Nat}{h h':TH}{w:World}
set_option maxRecDepth 100000
theorem zjC:∀(n:Nat) (l:List TV) (r:List (Int×Nat)) (cs:List Value),l.length<=n->zf9 l=some r->VL ρ l cs->cs=LT.all r/\l.length=r.length*2
 | n,[],r,cs,_,h,hv=>by
  simp only[zf9]at h;injection h with h;subst h;exact⟨by rw[hv.of_nil];rfl,rfl⟩
 | 0,_::_,r,cs,hn,h,hv=>by simp at hn
 | n+1,x::l0,r,cs,hn,h,hv=>by
  unfold zf9 at h
  split at h
  ·rename_i e;cases e
  ·rename_i a b l e;injection e with e1 e2;subst e1;subst e2
   split at h
   ·rename_i r' hr;injection h with h;subst h;obtain⟨y,c1,rfl,v1,hvA⟩:=hv.of_cons;obtain⟨z,c2,rfl,v2,hvB⟩:=hvA.of_cons
    cases v1;cases v2
    obtain⟨h1,h2⟩:=zjC n l r' c2 (by simp at hn;omega) hr hvB;exact⟨by rw[h1,LT.all_cons];rfl,by simp[h2];omega⟩
   ·cases h
  ·cases h
theorem zlO:∀(n:Nat) (l:List TV) (r:List (Int×Nat)),l.length<=n->zf9 l=some r->∀x∈l,x.one=true
 | n,[],r,_,h=>by simp
 | 0,_::_,r,hn,h=>by simp at hn
 | n+1,x::l0,r,hn,h=>by
  unfold zf9 at h
  split at h
  ·rename_i e;cases e
  ·rename_i a b l e;injection e with e1 e2;subst e1;subst e2
   split at h
   ·rename_i r' hr;intro y hy;rcases zAY9.1 hy with rfl|hy
    ·rfl
    ·rcases zAY9.1 hy with rfl|hy
     ·rfl
     ·exact zlO n l r' (by simp at hn;omega) hr y hy
   ·cases h
  ·cases h
theorem VR.sl_inv {b g o n q z:Nat}{v:Value}(h:VR ρ (.sl b g o n q z) v):∃loc o' c,v=.slice (some ⟨loc.r,o',none⟩) n c/\ρ b g=some loc/\n<=q/2/\q/2<=c/\o+q/2*z<=loc.L/\(o'=o\/n=0/\c=0/\o≠0)/\(q%2=0->o+c*z=loc.S)/\c<=maxLen:=by
 cases h
 exact⟨_,_,_,rfl,‹_›,‹_›,‹_›,‹_›,‹_›,‹_›,‹_›⟩
theorem zqz (k:WR Tryz.prog Z ρ h w){b g n:Nat}{loc:Loc}(hl:ρ b g=some loc){M len:Nat}{cells:Tr TV}(hro:h.get b=some (.row 83 g M len cells)){news old:List TV}{x:Int×Nat}{l:List (Int×Nat)}(hn:l.length=n)(hv:VL ρ (news++old) (LT.all (x::l)))(h1:∀y∈news++old,y.one=true)
  {v:Value} {w':World} (hO:OL LT w' Z v (x::l)) (hb:Below Z w w') {g' c':Nat} (hvv:v=.slice (some ⟨g',0,none⟩) (l.length+1) c') (hg:g'=loc.r\/w.heap.size<=g') (hfr:∀k,k≠loc.r->k<w.heap.size->w'.heap[k]?=w.heap[k]?) :
  ziJ Tryz.prog Z ρ h (h.set b (.row 83 (g+1) (g+1) ((n+1)*2) (Tr.putL .nil 0 (news++old)))) w (.ret (.sl b (g+1) 0 (n+1) (2*(n+1)) 2)) (.returned v) w':=by
 subst hn;obtain⟨ob,hob,hor⟩:=k.obj _ _ _ hl;rw[hro]at hob;injection hob with hob;subst hob;have hZo:∀g loc,ρ b g=some loc->Z<=loc.r:=fun g loc hl=>(k.dom b g loc hl).2.1.resolve_right fun⟨cs,h1⟩=>by rw[hro]at h1;cases h1
 have hnone:ρ b (g+1)=none:=by
  cases hh:ρ b (g+1)with
  | none=>rfl
  | some l2=>have:=hor.2.1 _ _ hh;omega
 rcases hO with⟨hlen,⟨e1,_⟩|⟨g2,cap,cur,e1,hb2,hg2,hn2,hm2,hs2,ht2⟩⟩
 ·rw[hvv]at e1;cases e1
 ·have e2:=hvv.symm.trans e1;injection e2 with e2 e3 e4;injection e2 with e2;injection e2 with e2;subst e2;subst e4;have hm:=Rho.add_more (loc:=⟨g',(l.length+1)*2,c'*2⟩) hnone;have hdm:=k.dom _ _ _ hl;have hcc:l.length+1<=c':=by simpa using hn2
  have hsz:g'<w'.heap.size:=(zBP9.1 hg2).1;have hall:(LT.all (x::l)).length=(l.length+1)*2:=by rw[LT.all_len];simp[LT]
  have hcs:cur.size=c'*2:=hs2;have k2:=k.change (b:=b) (ρ':=ρ.add b (g+1) ⟨g',(l.length+1)*2,c'*2⟩) (x':=.row 83 (g+1) (g+1) ((l.length+1)*2) (Tr.putL .nil 0 (news++old))) hm (fun c hc g0=>Rho.add_ne hc g0) hl (w':=w') hb.size (fun c g0 l0 hc hl0=>hfr _ (fun e=>hc (k.sep _ _ _ _ _ _ hl0 hl e (by rw[e];exact hZo _ _ hl))) (k.dom _ _ _ hl0).2.2)
   ⟨zAK9 _,fun g0 l0 h0=>by
    rcases Rho.add_inv h0 with⟨_,e,_⟩|h0
    ·omega
    ·have:=hor.2.1 _ _ h0;omega,fun g0 ha hb0=>by
    have:g0=g+1:=by omega
    subst this;refine⟨_,cur,Rho.add_same _ _ _ _,hg2,fun _=>hcs,zAK9 _,by rw[hcs];dsimp only;omega,fun _=>rfl,fun i hi=>?_⟩;dsimp only at hi;have hi2:i<(news++old).length:=by rw[hv.1,hall];exact hi
    have hx0:(news++old)[i]?=some (news++old)[i]:=zAB9 hi2;obtain⟨y,y1,y2⟩:=hv.at hx0;refine⟨_,y,?_,?_,h1 _ (zBU9 hi2),y2.mono hm⟩
    ·rw[Tr.get_putL,if_pos (by omega)];simp
    ·have e5:cur.toList.take ((l.length+1)*2)=LT.all (x::l):=by simpa[LT]using ht2
     rw[<- e5,zBF9,if_pos hi]at y1;simpa using y1⟩
   (fun g0 l0 h0=>by
    rcases Rho.add_inv h0 with⟨_,_,e⟩|h0
    ·subst e;exact⟨hb2,hsz⟩
    ·have:=k.dom _ _ _ h0;exact⟨hZo _ _ h0,zBC9 this.2.2 hb.size⟩)
   (fun g0 l0 h0 c g1 l1 hc h1' e=>by
    rcases Rho.add_inv h0 with⟨_,_,e6⟩|h0
    ·subst e6;rcases hg with hg|hg
     ·exact hc (k.sep _ _ _ _ _ _ h1' hl (by dsimp only at e;omega) (by have:=hZo _ _ hl;dsimp only at e;omega))
     ·have:=(k.dom _ _ _ h1').2.2;dsimp only at e;omega
    ·exact hc (k.sep _ _ _ _ _ _ h1' h0 e.symm (by have:=hZo _ _ h0;omega)))
  refine⟨_,⟨hm,fun c hc hn g0=>?_⟩,k2,hb,zAK9 _,_,rfl,?_⟩
  ·have hcb:c≠b:=fun e=>by rw[e,]at hn;rw[hn g]at hl;cases hl
   rw[Rho.add_ne hcb];exact hn g0
  ·rw[hvv];exact .sl (Rho.add_same _ _ _ _) (by omega) (by omega) (by dsimp only;omega) (.inl rfl) (fun _=>by dsimp only;omega) hm2
theorem zpG (k:WR Tryz.prog Z ρ h w)(hZ:Z<=w.heap.size){args:List TV}{args':List Value}(hv:VL ρ args args'){r:TE}(hr:zm0 83 args h=some (r,h')) :
  CallsIn (Fr none) 0 Tryz.prog 127 args'.toArray w (ziJ Tryz.prog Z ρ h h' w r):=by
 unfold zm0 at hr
 split at hr
 ·rename_i b g n q z bx gx qx zx;unfold zuJ at hr
  split at hr
  ·rename_i rx ro news hrx hro hnews;obtain⟨c1,hr1⟩:=zN hr;obtain⟨c2,hr2⟩:=zN hr1;obtain⟨c3,hr3⟩:=zN hr2;obtain⟨c4,hr4⟩:=zN hr3;obtain⟨c5,hr5⟩:=zN hr4;obtain⟨c6,hr6⟩:=zN hr5;have c2:=zAJ9 c2;have c3:=zAJ9 c3;have c4:=zAJ9 c4;have c5:=zAZ9 c5;have c6:=zAZ9 c6;subst c2;subst c3
   cases hbb:Nat.beq b bx with
   | true=>rw[hbb]at hr6;cases hr6
   | false =>
    have hbne:b≠bx:=fun e=>by rw[e,Nat.beq_refl]at hbb;cases hbb
    rw[hbb]at hr6;simp only[cond_false]at hr6
    cases ro with
    | map=>cases hr6
    | dfr=>cases hr6
    | loop=>cases hr6
    | ro=>cases hr6
    | row e G M len cells =>
     simp only[zuD]at hr6;obtain⟨d1,hr7⟩:=zN hr6;obtain⟨d2,hr8⟩:=zN hr7;obtain⟨d3,hr9⟩:=zN hr8;have d1:=zAJ9 d1;have d2:=zAJ9 d2;have d3:=zAJ9 d3;subst d1;subst d2;subst d3
     cases hold:cells.getL 0 (n*2)with
     | none=>rw[hold]at hr9;cases hr9
     | some old =>
      rw[hold]at hr9;simp only[zuB]at hr9
      split at hr9
      ·rename_i pn po hpn hpo;injection hr9 with hr9;injection hr9 with hr9 hr10;subst hr9;subst hr10;obtain⟨s',t1,rfl,v1,hv⟩:=hv.of_cons;obtain⟨i',t2,rfl,v2,hv⟩:=hv.of_cons;obtain⟨x',t3,rfl,v3,hv⟩:=hv.of_cons;obtain rfl:=hv.of_nil
       cases v2
       obtain⟨loc,o',c,rfl,hl,hn,hq,hc,ho,hs,hm⟩:=v1.sl_inv;have ho:o'=0:=by omega
       subst ho;obtain⟨A,mx,cx0,csx,ex,_,vnews,lnews,onews,cnews⟩:=zh5 (n:=1) (esz:=2) k v3 (l:=news) (by simp only[zei,Nat.beq_refl,cond_true];exact hnews) (zAK9 _);obtain⟨locx,ox',cx,rfl,hlx,hnx,hqx,hcx,hox,hsx,hmx⟩:=v3.sl_inv;have hox:ox'=0:=by omega
       subst hox;injection ex with ex1 ex2 ex3;subst ex1;obtain⟨ob,hob,hor⟩:=k.obj _ _ _ hl;rw[hro]at hob;injection hob with hob;subst hob;obtain⟨loc1,cur,q1,q2,q3,q4,q5,q6,q7⟩:=hor.2.2 g hor.1 (zAK9 _);rw[hl]at q1;injection q1 with q1;subst q1;have hS:=hs c4;have hL:=q6 rfl;have hcurS:=q3 rfl;obtain⟨lo1,lo2⟩:=Tr.getL_some hold;have htl:(cur.toList.take (n*2)).length=n*2:=by rw[zBA9,zFR9,hcurS];omega
       have vold:VL ρ old (cur.toList.take (n*2)):=⟨by rw[lo1,htl],fun i x y hx hy=>by
        have hi:i<n*2:=by have:=(zAD9.1 hx).1;omega
        obtain⟨x0,v0,z1,z2,_,z4⟩:=q7 i (by omega);rw[lo2 i hi,zAM9,z1]at hx;rw[zBF9,if_pos hi,zCB9,z2]at hy;injection hx with hx;injection hy with hy;subst hx;subst hy;exact z4⟩
       obtain⟨po1,po2⟩:=zjC _ _ _ _ (zAK9 _) hpo vold;obtain⟨pn1,pn2⟩:=zjC _ _ _ _ (zAK9 _) hpn vnews;have hpol:po.length=n:=by omega
       have hln:news.length=2:=by rw[vnews.1,lnews]
       have hpnl:pn.length=1:=by omega
       obtain⟨p,rfl⟩:∃p,pn=[p]:=zEM9.1 hpnl;obtain⟨a,ea,hcell⟩:=cnews (by omega);injection ea with ea;subst ea;have hdm:=k.dom _ _ _ hl;have hdZ:Z<=loc.r:=hdm.2.1.resolve_right fun⟨cs,h1⟩=>by rw[hro]at h1;cases h1
       have hO:OL LT w Z (.slice (some ⟨loc.r,0,none⟩) po.length c) po:=⟨by rw[LT.all_len],.inr ⟨loc.r,c,cur,rfl,hdZ,q2,by omega,hm,by rw[hcurS,<- hS];simp[LT],by rw[hpol,<- po1];rfl⟩⟩
       have hRL:RL LT (locx.r+1) w (some ⟨locx.r,0,none⟩) [p]:=fun _=>⟨locx.r,0,rfl,.inl (zBR9 _),fun j u hu=>by
        have:=hcell j u (by rw[pn1];exact hu);simpa[zxx]using this⟩
       have hpne:po ≠ []:=fun e=>by subst e;simp at hpol;omega
       have hvall:VL ρ (news++old) (LT.all (p::po)):=by
        have:=vnews.app vold;rw[pn1,po1]at this;rw[LT.all_cons,<- LT.all_one];exact this
       have hone:∀y∈news++old,y.one=true:=fun y hy=>by
        rcases zBK9.1 hy with hy|hy
        ·exact onews y hy
        ·exact zlO _ _ _ (zAK9 _) hpo y hy
       have hargs:([.slice (some ⟨loc.r,0,none⟩) n c,.int .i64 (.ofNat 0),.slice (some ⟨locx.r,0,none⟩) 1 cx]:List Value).toArray=#[.slice (some ⟨loc.r,0,none⟩) po.length c,.int .i64 0,.slice (some ⟨locx.r,0,none⟩) 1 cx]:=by rw[hpol];rfl
       rw[hargs];refine callsIn_wide.2 ?_;have hne:locx.r≠loc.r:=fun e=>hbne (k.sep _ _ _ _ _ _ hlx hl e (by rw[e];exact hdZ)).symm
       by_cases hroom:po.length+1<=c
       ·obtain⟨obx,hobx,horx⟩:=k.obj _ _ _ hlx;rw[hrx]at hobx;injection hobx with hobx;subst hobx
        cases rx with
        | map=>cases c1
        | dfr=>cases c1
        | loop=>cases c1
        | ro=>cases c1
        | row e2 G2 M2 len2 cells2 =>
         have hnews2:=hnews;simp only[zbw,hrx,zfP]at hnews2;obtain⟨m1,hnews3⟩:=zN hnews2;obtain⟨m2,_⟩:=zN hnews3;obtain⟨locy,cury,y1,y2,_⟩:=horx.2.2 gx (zAZ9 m1) (zAZ9 m2);rw[hlx]at y1;injection y1 with y1;subst y1;refine(zrL po p Z loc.r c locx.r cx w hpne (by omega) hroom hO hRL hne e2 cury.size (by simp[World.shape?,y2]) (frozen_of_row w _ _ _ _ y2) (frozen_of_row w _ _ _ _ y2) hZ).mono ?_;rintro e w' ⟨v,rfl,o1,o2,⟨g',c',o3,o4⟩,o5⟩;exact zqz k hl hro hpol hvall hone o1 o2 o3 o4 o5
       ·refine(ztd po p Z loc.r c locx.r cx w hpne (by omega) hroom hO hRL hZ).mono ?_;rintro e w' ⟨v,rfl,o1,o2,⟨g',c',o3,o4⟩,o5⟩;exact zqz k hl hro hpol hvall hone o1 o2 o3 o4 o5
      ·cases hr9
  ·cases hr
 ·cases hr
end Tw
end Go.Proofs.YtfomlmhnmheenaaGreat
namespace Go.Proofs.YtfomlmhnmheenaaGreat
open Go.RowKit
namespace Tw
set_option maxRecDepth 100000
theorem zkK (v:Value)(t:TypeId)(w:World):(Instr.typeAssert (.iface 31 v) t 31 true).run Tryz.prog w=.ok (.tuple #[v,.bool true]) w:=by
 simp[Instr.typeAssert,run_underlying Tryz.underlying31,Result.andThen]
set_option maxHeartbeats 1000000 in
theorem zvV (n:Int)(eb g:Nat)(cap:Array Value)(w:World)(R:World->Prop)(hent:∀w,(callFunc g cap).run Tryz.prog w=.ok (.enter g cap) w)(hg:Calls Tryz.prog g cap w fun e w'=>e=.returned (.tuple #[])/\R w')(hR:∀w',R w'->(∃v,w'.cell? ⟨eb,0,none⟩=some v)/\w'.frozen? ⟨eb,0,none⟩=false) :
  CallsDIn Fence.wide 0 Tryz.prog 35 #[.pointer (some ⟨eb,0,none⟩),.func (.func g) #[] cap] (.panicking [{ v:=.iface 31 (.int .i64 n),recovered:=false }]) w fun e u' w'=>(∃v,e=.returned v)/\u'=.panicking [{ v:=.iface 31 (.int .i64 n),recovered:=true }]/\∃w1,R w1/\w'=w1.setCell ⟨eb,0,none⟩ (.int .i64 n):=by
 refine callsDIn_of_wpSIn Tryz.func35 rfl trivial fun c₀ cs hu=>?_
 apply wpSIn_seq
 apply wpSIn_region
 generalize hQ:Exit.thenS _ _=QQ;simp[wpOpsSIn,go_sem,recoverD,hu,Tryz.ntmps35,Fence.wide];subst hQ;simp only[Exit.thenS];refine wpSIn_of_wpIn rfl (wpIn_wide.2 ?_);have HN:=Lib.hid hg;have HU:=Lib.hid hu;have HRR:=Lib.hid hR;clear hu hg hR;generalize hR:(fun e a' w'=>bodyPostS Tryz.prog Tryz.f35 c₀ cs _ e a' _ w')=RR;have HR:=Lib.hid hR;clear hR;have hta:=zkK;have hen:=hent;simp only[Array.replicate,List.replicate]
 go_wp2_with (first|((with_reducible refine HN.out.mono ?_);rintro e w1 ⟨rfl,hr1⟩;obtain⟨⟨v1,e1⟩,ef⟩:=HRR.out _ hr1))
 rw[<- HR.out];exact⟨rfl,_,rfl,.tuple #[],by simp[results,Tryz.results35,go_sem],⟨_,rfl⟩,rfl,_,hr1,rfl⟩
set_option maxHeartbeats 1000000 in
theorem zvm (p' c':Value)(w:World) :
  CallsDIn Fence.wide 0 Tryz.prog 35 #[p',c'] .returning w fun e u' w'=>(∃v,e=.returned v)/\u'=.returning/\w'=w:=by
 refine callsDIn_of_wpSIn Tryz.func35 rfl trivial fun c₀ cs hu=>?_
 apply wpSIn_seq
 apply wpSIn_region
 generalize hQ:Exit.thenS _ _=QQ;simp[wpOpsSIn,go_sem,recoverD,hu,Tryz.ntmps35,Fence.wide];subst hQ;simp only[Exit.thenS];refine wpSIn_of_wpIn rfl (wpIn_wide.2 ?_);generalize hR:(fun e a' w'=>bodyPostS Tryz.prog Tryz.f35 c₀ cs _ e a' _ w')=RR;have HR:=Lib.hid hR;have HU:=Lib.hid hu;clear hR hu;simp only[Array.replicate,List.replicate]
 go_wp2
 rw[<- HR.out]
 cases c₀
 exact⟨rfl,_,by have:=HU.out;subst this;rfl,.tuple #[],by simp[results,Tryz.results35,go_sem],⟨_,rfl⟩,rfl,rfl⟩
theorem znf:ziW Tryz.prog 31 35:=⟨enters_of Tryz.func35 (by kernel_rfl) rfl,fun p' c' w=>zvm p' c' w,fun n eb gid cap w R hent hg hR=>zvV n eb gid cap w R hent (callsIn_wide.1 hg) hR⟩
set_option maxHeartbeats 1000000 in
theorem zvr (n:Int)(eb g:Nat)(cap:Array Value)(w:World)(R:World->Prop)(hent:∀w,(callFunc g cap).run Tryz.prog w=.ok (.enter g cap) w)(hg:Calls Tryz.prog g cap w fun e w'=>e=.returned (.tuple #[])/\R w')(hR:∀w',R w'->(∃v,w'.cell? ⟨eb,0,none⟩=some v)/\w'.frozen? ⟨eb,0,none⟩=false) :
  CallsDIn Fence.wide 0 Tryz.prog 128 #[.pointer (some ⟨eb,0,none⟩),.func (.func g) #[] cap] (.panicking [{ v:=.iface 31 (.int .i64 n),recovered:=false }]) w fun e u' w'=>(∃v,e=.returned v)/\u'=.panicking [{ v:=.iface 31 (.int .i64 n),recovered:=true }]/\∃w1,R w1/\w'=w1.setCell ⟨eb,0,none⟩ (.int .i64 n):=by
 refine callsDIn_of_wpSIn Tryz.func128 rfl trivial fun c₀ cs hu=>?_
 apply wpSIn_seq
 apply wpSIn_region
 generalize hQ:Exit.thenS _ _=QQ;simp[wpOpsSIn,go_sem,recoverD,hu,Tryz.ntmps128,Fence.wide];subst hQ;simp only[Exit.thenS];refine wpSIn_of_wpIn rfl (wpIn_wide.2 ?_);have HN:=Lib.hid hg;have HU:=Lib.hid hu;have HRR:=Lib.hid hR;clear hu hg hR;generalize hR:(fun e a' w'=>bodyPostS Tryz.prog Tryz.f128 c₀ cs _ e a' _ w')=RR;have HR:=Lib.hid hR;clear hR;have hta:=zkK;have hen:=hent;simp only[Array.replicate,List.replicate]
 go_wp2_with (first|((with_reducible refine HN.out.mono ?_);rintro e w1 ⟨rfl,hr1⟩;obtain⟨⟨v1,e1⟩,ef⟩:=HRR.out _ hr1))
 rw[<- HR.out];exact⟨rfl,_,rfl,.tuple #[],by simp[results,Tryz.results128,go_sem],⟨_,rfl⟩,rfl,_,hr1,rfl⟩
set_option maxHeartbeats 1000000 in
theorem ztZ (p' c':Value)(w:World) :
  CallsDIn Fence.wide 0 Tryz.prog 128 #[p',c'] .returning w fun e u' w'=>(∃v,e=.returned v)/\u'=.returning/\w'=w:=by
 refine callsDIn_of_wpSIn Tryz.func128 rfl trivial fun c₀ cs hu=>?_
 apply wpSIn_seq
 apply wpSIn_region
 generalize hQ:Exit.thenS _ _=QQ;simp[wpOpsSIn,go_sem,recoverD,hu,Tryz.ntmps128,Fence.wide];subst hQ;simp only[Exit.thenS];refine wpSIn_of_wpIn rfl (wpIn_wide.2 ?_);generalize hR:(fun e a' w'=>bodyPostS Tryz.prog Tryz.f128 c₀ cs _ e a' _ w')=RR;have HR:=Lib.hid hR;have HU:=Lib.hid hu;clear hR hu;simp only[Array.replicate,List.replicate]
 go_wp2
 rw[<- HR.out]
 cases c₀
 exact⟨rfl,_,by have:=HU.out;subst this;rfl,.tuple #[],by simp[results,Tryz.results128,go_sem],⟨_,rfl⟩,rfl,rfl⟩
theorem zmg:ziW Tryz.prog 31 128:=⟨enters_of Tryz.func128 (by kernel_rfl) rfl,fun p' c' w=>ztZ p' c' w,fun n eb gid cap w R hent hg hR=>zvr n eb gid cap w R hent (callsIn_wide.1 hg) hR⟩
theorem zjr:zf2=((Tr.nil:Tr Unit).set 35 (some ())).set 128 (some ()):=by kernel_rfl
theorem zvR:zfd Tryz.prog E12:=by
 refine⟨by kernel_rfl,fun f F h=>zkO f F h,fun f g hg Z ρ w args args' h r h' hr k hZ hv=>?_,fun f hf=>?_⟩
 ·have hg:(bif Nat.beq f 127 then some (zm0 83)else none)=some g:=hg;obtain⟨h1,hg2⟩:=zN hg;have h1:=zAJ9 h1;subst h1;injection hg2 with hg2;subst hg2;exact⟨fun w=>enters_of Tryz.func127 (by kernel_rfl) rfl _ w,zpG k hZ hv hr⟩
 ·have hf:zf2.get f=some ():=hf;rw[zjr,Tr.get_set,Tr.get_set]at hf
  split at hf
  ·rename_i e;subst e;exact zmg
  ·split at hf
   ·rename_i e;subst e;exact znf
   ·cases hf
theorem zsd {x:Option (TE×TH)}(h:zoR x=true):∃h',x=some (.ret (.bool true),h'):=by
 unfold zoR at h
 split at h
 ·exact⟨_,rfl⟩
 ·cases h
end Tw
theorem zsQ (w:World):Calls Tryz.prog 9 #[] w fun e w'=>e=.returned (.bool true)/\Below w.heap.size w w':=by
 obtain⟨h',hr⟩:=Tw.zsd Tw.w12;obtain⟨_,h2⟩:=Tw.zs9 Tw.zvR hr w;refine(callsIn_wide.1 h2).mono ?_;rintro e w' ⟨hb,ρ,v',rfl,hv⟩
 cases hv
 exact⟨rfl,hb⟩
end Go.Proofs.YtfomlmhnmheenaaGreat
namespace Go.Proofs.YtfomlmhnmheenaaGreat
open Go.RowKit Go.WideShapes Go.ChangeShapes
namespace Fv
open Tw
set_option maxRecDepth 100000
theorem zwf:zfd Tryz.prog ET:=by
 refine⟨by kernel_rfl,fun f F h=>?_,fun f g hg Z ρ w args args' h r h' hr k hZ hv=>?_,fun f hf=>?_⟩
 ·have h:(zeS.set 9 none).get f=some F:=h;rw[Tr.get_set]at h
  split at h
  ·cases h
  ·exact zkO f F h
 ·have hg:(bif Nat.beq f 127 then some (zm0 83)else bif Nat.beq f 9 then some zlZ else none)=some g:=hg
  cases h1:Nat.beq f 127 with
  | true =>
   rw[h1]at hg;have h1:=zAJ9 h1;subst h1;injection hg with hg2;subst hg2;exact⟨fun w=>enters_of Tryz.func127 (by kernel_rfl) rfl _ w,zpG k hZ hv hr⟩
  | false =>
   rw[h1]at hg;obtain⟨h2,hg2⟩:=zN hg;have h2:=zAJ9 h2;subst h2;injection hg2 with hg2;subst hg2;exact zvx (fun w=>enters_of Tryz.func9 (by kernel_rfl) rfl _ w) (fun w=>callsIn_wide.2 (zsQ w)) Z ρ w args args' h r h' hr k hZ hv
 ·have hf:zf2.get f=some ():=hf;rw[zjr,Tr.get_set,Tr.get_set]at hf
  split at hf
  ·rename_i e;subst e;exact zmg
  ·split at hf
   ·rename_i e;subst e;exact znf
   ·cases hf
theorem znr {P:Program}{w:World}{r:Reach}{base:Nat}{t e:TypeId}{a:Addr}{len cap:Nat}(ht:P.underlying t=some (.slice e))(h:Value.okWide P w r base t (.slice (some a) len cap)):a.block<w.heap.size/\a.spot=none:=by
 simp only[Value.okWide,ht,Cell.okWide,Cell.ok,World.has]at h;obtain⟨_,_,_,h2,row,cells,h3,_⟩:=h;refine⟨?_,h2⟩;unfold World.shape? at h3;rcases zCM9 a.block w.heap.size with hl|hl
 ·exact hl
 ·rw[Array.getElem?_eq_none hl]at h3;cases h3
end Fv
end Go.Proofs.YtfomlmhnmheenaaGreat
namespace Go.Proofs.YtfomlmhnmheenaaGreat
open Go.ChangeShapes Go.WideShapes Go.ChangeAt Go.RowKit
set_option maxRecDepth 100000
theorem zmS (b o j:Nat):(⟨b,o,none⟩:Addr).add j=⟨b,o+j,none⟩:=by unfold Addr.add;split<;>simp_all
theorem zw0:ownKnob Tryz.prog.godebug=none:=by kernel_rfl
theorem zqK:laidOutB Tryz.prog=true:=by kernel_rfl
namespace Fv
theorem zhP:∀l:List Nat,(zcT l).flatMap PV.cells=zcT l
 | []=>rfl
 | x::l=>by have:=zhP l;unfold zcT at this⊢;rw[zCI9,zCJ9,this];rfl
theorem ztw {w:World}{p:Nat}{l:List Nat}{b o c:Nat}(hb:b<w.heap.size)(hlc:l.length<=c)(hcm:c<=maxLen)(hcell:∀(i:Nat) (x:Nat),l[i]?=some x->w.cell? ⟨b,o+i,none⟩=some (.int .u8 x)):CI w (.list p 1 (zcT l)) (.slice (some ⟨b,o,none⟩) l.length c):=by
 have e:l.length=(zcT l).length:=(zAA9 ..).symm;rw[e];refine CI.list (cs:=l.map fun n:Nat=>Value.int .u8 (n:Int)) hb (by rw[zAA9];exact hlc) hcm (fun v hv=>by obtain⟨x,_,rfl⟩:=zAS9.1 hv;rfl) (by rw[zhP];simp) (fun i x y hx hy=>?_) (fun j v hv=>?_) (fun x hx=>?_)
 ·rw[zhP,zAL9]at hx;rw[zAL9]at hy
  cases hn:l[i]? with
  | none=>rw[hn]at hx;cases hx
  | some n=>rw[hn]at hx hy;injection hx with hx;injection hy with hy;subst hx hy;exact .int _ _
 ·rw[zAL9]at hv
  cases hx:l[j]? with
  | none=>rw[hx]at hv;cases hv
  | some x=>rw[hx]at hv;injection hv with hv;subst hv;exact hcell j x hx
 ·rw[zhP]at hx;obtain⟨n,_,rfl⟩:=zAS9.1 hx;rfl
def zfZ (l:List (Int×Nat)):List PV:=l.flatMap fun x=>[iv x.1,uv x.2]
def zdV (l:List (Int×Nat)):List Value:=l.flatMap fun x=>[.int .i64 x.1,.int .u64 (x.2:Int)]
theorem ziH:∀l:List (Int×Nat),(wdV l).flatMap PV.cells=zfZ l
 | []=>rfl
 | x::l=>by have:=ziH l;unfold wdV zfZ at this⊢;rw[zCI9,zCJ9,this];rfl
theorem znP:∀(l:List (Int×Nat)) (i:Nat) (x:PV) (y:Value),(zfZ l)[i]?=some x->(zdV l)[i]?=some y->(∃k n,x=.int k n/\y=.int k n)
 | [],i,x,y,hx,_=>by simp[zfZ]at hx
 | a::l,0,x,y,hx,hy=>by simp[zfZ]at hx;simp[zdV]at hy;subst hx hy;exact⟨_,_,rfl,rfl⟩
 | a::l,1,x,y,hx,hy=>by simp[zfZ]at hx;simp[zdV]at hy;subst hx hy;exact⟨_,_,rfl,rfl⟩
 | a::l,i+2,x,y,hx,hy=>znP l i x y (by simpa[zfZ]using hx) (by simpa[zdV]using hy)
theorem zkD {w:World}{b:Nat}:∀(l:List (Int×Nat)) (o:Nat),(∀(i:Nat) (x:Int×Nat),l[i]?=some x->w.cell? ⟨b,o+i*2,none⟩=some (.int .i64 x.1)/\w.cell? ⟨b,o+(i*2+1),none⟩=some (.int .u64 x.2))->∀(j:Nat) (v:Value),(zdV l)[j]?=some v->w.cell? ⟨b,o+j,none⟩=some v
 | [],_,_,j,v,hv=>by simp[zdV]at hv
 | a::l,o,h,0,v,hv=>by simp[zdV]at hv;subst hv;exact(h 0 a rfl).1
 | a::l,o,h,1,v,hv=>by simp[zdV]at hv;subst hv;exact(h 0 a rfl).2
 | a::l,o,h,j+2,v,hv=>by
  have:=zkD l (o+2) (fun i x hx=>by
   have:=h (i+1) x (by simpa using hx);rw[show o+2+i*2=o+(i+1)*2 by omega,show o+2+(i*2+1)=o+((i+1)*2+1) by omega];exact this) j v (by simpa[zdV]using hv)
  rw[show o+(j+2)=o+2+j by omega];exact this
theorem zth {w:World}{p:Nat}{l:List (Int×Nat)}{b o c:Nat}(hb:b<w.heap.size)(hlc:l.length<=c)(hcm:c<=maxLen)(hcell:∀(i:Nat) (x:Int×Nat),l[i]?=some x->w.cell? ⟨b,o+i*2,none⟩=some (.int .i64 x.1)/\w.cell? ⟨b,o+(i*2+1),none⟩=some (.int .u64 x.2)):CI w (.list p 2 (wdV l)) (.slice (some ⟨b,o,none⟩) l.length c):=by
 have e:l.length=(wdV l).length:=(zAA9 ..).symm;rw[e];have hlen:∀l:List (Int×Nat),(zfZ l).length=(zdV l).length:=fun l=>by
  induction l with
  | nil=>rfl
  | cons a l ih=>simp[zfZ,zdV]at ih⊢
 refine CI.list (cs:=zdV l) hb (by rw[zAA9];exact hlc) hcm (fun v hv=>by obtain⟨x,_,rfl⟩:=zAS9.1 hv;rfl) (by rw[ziH];exact hlen l) (fun i x y hx hy=>?_) (zkD l o hcell) (fun x hx=>?_)
 ·rw[ziH]at hx;obtain⟨k,n,rfl,rfl⟩:=znP l i x y hx hy;exact .int _ _
 ·rw[ziH]at hx;unfold zfZ at hx;obtain⟨y,_,hx⟩:=zBI9.1 hx;simp at hx;rcases hx with rfl|rfl<;>rfl
end Fv
section
variable {H:Type}{enc:TypeId×Value->H}{w:World}{base:Nat}{spare:Nat->Bool}{held:Bool}{r:Reach}{b0:Nat}
theorem zr3 {fuel:Nat}{v:Value}{x:DataW H×List MemPlace}(hv:Value.okWide Tryz.prog w r b0 22 v)(h:DataW.trod enc Tryz.prog w base spare held fuel 22 [v]=some x):∃(l:List Nat),Fv.CI w (.list 0 1 (Fv.zcT l)) v:=by
 rcases open_ints Tryz.underlying22 Tryz.underlying5 (by kernel_rfl) h with⟨hcs,_⟩|⟨a,len,cap,zs,hcs,_,hl,hm,hz,_,hcell,hwf⟩
 ·injection hcs with hcs;subst hcs;exact⟨[],.nilsl _ _⟩
 ·injection hcs with hcs;subst hcs;have hzl:len<=zs.length:=by
   rw[hz];split
   ·exact hl
   ·exact zAK9 _
  obtain⟨hblk,hspot⟩:=Fv.znr Tryz.underlying22 hv;obtain⟨b,off,spot⟩:=a;dsimp only at hblk hspot;subst hspot;have hlen:((zs.take len).map Int.toNat).length=len:=by rw[zAA9,zBA9,zDE9 hzl]
  refine⟨(zs.take len).map Int.toNat,?_⟩;have:=Fv.ztw (w:=w) (p:=0) (l:=(zs.take len).map Int.toNat) (b:=b) (o:=off) (c:=cap) hblk (by rw[hlen];exact hl) hm (fun i x hi=>by
   have hil:i<len:=by have:=(zAD9.1 hi).1;rwa [hlen]at this
   rw[zAL9,zBF9,if_pos hil]at hi
   cases hz2:zs[i]? with
   | none=>rw[hz2]at hi;cases hi
   | some z =>
    rw[hz2]at hi;injection hi with hi;subst hi;have:=hcell i (by omega);rw[zAQ9,hz2,zmS]at this;have q:=bounds_u8 (hwf z (zAO9 hz2));rw[zFT9 q.1];exact this)
  rwa [hlen]at this
theorem zrq {fuel:Nat}{v:Value}{x:DataW H×List MemPlace}(hv:Value.okWide Tryz.prog w r b0 23 v)(h:DataW.trod enc Tryz.prog w base spare held fuel 23 [v]=some x):∃(l:List (Int×Nat)),Fv.CI w (.list 0 2 (Fv.wdV l)) v:=by
 rcases Go.Deep.open_slice_pairs Tryz.underlying23 Tryz.underlying81 (by kernel_rfl) rfl rfl (by kernel_rfl) (by kernel_rfl) h with⟨hcs,_⟩|⟨a,len,cap,m,n,V0,V1,D0,D1,P0,P1,hcs,_,hl,hm,hmm,_,hx⟩
 ·injection hcs with hcs;subst hcs;exact⟨[],.nilsl _ _⟩
 ·injection hcs with hcs;subst hcs;have hml:len<=m:=by
   rw[hmm];split
   ·exact hl
   ·exact zAK9 _
  obtain⟨hblk,hspot⟩:=Fv.znr Tryz.underlying23 hv;obtain⟨b,off,spot⟩:=a;dsimp only at hblk hspot;subst hspot;have hall:∀i,i<len->∃y:Int×Nat,w.cell? ⟨b,off+i*2,none⟩=some (.int .i64 y.1)/\w.cell? ⟨b,off+(i*2+1),none⟩=some (.int .u64 y.2):=fun i hi=>by
   obtain⟨c0,c1,t0,t1⟩:=hx i (by omega);obtain⟨n0,e0,_,w0⟩:=DataW.trod_int Tryz.underlying3 t0;obtain⟨n1,e1,_,w1⟩:=DataW.trod_int Tryz.underlying24 t1;injection e0 with e0;injection e1 with e1;have q1:=bounds_u64 w1;refine⟨(n0,n1.toNat),?_,?_⟩
   ·rw[e0]at c0;rwa [zmS]at c0
   ·rw[e1]at c1;show _=some (Value.int .u64 ((n1.toNat:Nat):Int));rw[zFT9 q1.1];rwa [zmS]at c1
  haveI:Inhabited (Int×Nat):=⟨(0,0)⟩
  obtain⟨f,hf⟩:=Go.Deep.choose_lt (p:=fun i (y:Int×Nat)=>w.cell? ⟨b,off+i*2,none⟩=some (.int .i64 y.1)/\w.cell? ⟨b,off+(i*2+1),none⟩=some (.int .u64 y.2)) hall;refine⟨(List.range len).map f,?_⟩;have hlen:((List.range len).map f).length=len:=by simp
  have:=Fv.zth (w:=w) (p:=0) (l:=(List.range len).map f) (b:=b) (o:=off) (c:=cap) hblk (by rw[hlen];exact hl) hm (fun i x hi=>by
   have hil:i<len:=by have:=(zAD9.1 hi).1;rwa [hlen]at this
   rw[zAL9,zEG9 hil]at hi;injection hi with hi;subst hi;exact hf i hil)
  rwa [hlen]at this
end
set_option maxHeartbeats 1000000 in
theorem zqb (os:Os)(started:os.Started)(H:Type)(enc:TypeId×Value->H) :
  ReturnsInHanded {} Tryz.checked os 6 .any (Rows.treeFromSpec.pre6 enc Tryz.prog Tryz.f6 Rows.treeFromRow.domain false) (Rows.treeFromSpec.post enc Tryz.prog Tryz.f6 false true false false):=by
 refine returnsInHanded_of_change (C:=Tryz.checked) zw0 started (by kernel_rfl) Tryz.func6
  (ChangeSpec.witness6 (enc:=enc) (C:=Tryz.checked) false ⟨#[],#[.int .i64 0,.slice none 0 0,.slice none 0 0,.int .u64 0,.int .i64 0],[]⟩ 8 (by kernel_rfl) (by kernel_rfl) (by kernel_rfl) (by kernel_rfl)) ?_
 intro W base args ds gs before hval0 hW hcnd _;have hval:∀(j:Nat) t v,Tryz.f6.params[j]?=some t->args[j]?=some v->Value.okWide Tryz.prog W .any base t v:=hval0;have hW':=hW;obtain⟨p,q,hA0,hV,rfl,hfz,hnd⟩:=hW;have hA:DataW.TrodAll enc Tryz.prog W 0 (fun _=>true) true Tryz.f6.params.toList args.toList ds p:=hA0;rw[Tryz.params6]at hA hval;obtain⟨v0,vs0,d0,ds0,p0,q0,hargs,rfl,rfl,h0,r0⟩:=trodAll_cons hA;obtain⟨v1,vs1,d1,ds1,p1,q1,rfl,rfl,rfl,h1,r1⟩:=trodAll_cons r0;obtain⟨v2,vs2,d2,ds2,p2,q2,rfl,rfl,rfl,h2,r2⟩:=trodAll_cons r1;obtain⟨v3,vs3,d3,ds3,p3,q3,rfl,rfl,rfl,h3,r3⟩:=trodAll_cons r2;obtain⟨v4,vs4,d4,ds4,p4,q4,rfl,rfl,rfl,h4,r4⟩:=trodAll_cons r3;obtain⟨rfl,rfl,rfl⟩:=trodAll_nil r4;obtain rfl:args=#[v0,v1,v2,v3,v4]:=by cases args;simp_all
 obtain⟨rfl,rfl⟩:=trodVars_none hV;have w1:=hval 1 22 v1 rfl rfl;have w2:=hval 2 23 v2 rfl rfl;obtain⟨a1,len1,cap1,rfl⟩:=okWide_slice Tryz.underlying22 w1;obtain⟨a2,len2,cap2,rfl⟩:=okWide_slice Tryz.underlying23 w2;have k1:=h1;have k2:=h2;have lt1:∀x∈p1,x.block<W.heap.size:=by obtain⟨m,hm⟩:=k1;exact DataW.trod_lt m _ _ _ hm
 have lt2:∀x∈p2,x.block<W.heap.size:=by obtain⟨m,hm⟩:=k2;exact DataW.trod_lt m _ _ _ hm
 obtain⟨n0,rfl,rfl,rfl,g0⟩:=open_int Tryz.underlying3 (hval 0 3 v0 rfl rfl) h0;obtain⟨n3,rfl,rfl,rfl,g3⟩:=open_int Tryz.underlying24 (hval 3 24 v3 rfl rfl) h3;obtain⟨n4,rfl,rfl,rfl,g4⟩:=open_int Tryz.underlying3 (hval 4 3 v4 rfl rfl) h4;obtain⟨zbA,hc1⟩:∃l:List Nat,Fv.CI W (.list 0 1 (Fv.zcT l)) (.slice a1 len1 cap1):=by
  obtain⟨fuel,hf⟩:=h1;exact zr3 w1 (by simpa[Value.cells]using hf)
 obtain⟨bent,hc2⟩:∃l:List (Int×Nat),Fv.CI W (.list 0 2 (Fv.wdV l)) (.slice a2 len2 cap2):=by
  obtain⟨fuel,hf⟩:=h2;exact zrq w2 (by simpa[Value.cells]using hf)
 have b3:=bounds_u64 g3;obtain⟨key,rfl⟩:∃k:Nat,n3=k:=⟨n3.toNat,by omega⟩
 clear hA0 hval0;refine(Fv.FP.calls (w:=W) Fv.zwf (Fv.FN.FP (Fv.zuR 0 0 n0 zbA bent key n4)) (args':=[.int .i64 n0,.slice a1 len1 cap1,.slice a2 len2 cap2,.int .u64 key,.int .i64 n4]) rfl (fun i x y hx hy=>?_)).mono fun e W' ⟨he,hx⟩=>?_
 ·match i with
  | 0=>injection hx with hx;injection hy with hy;subst hx hy;exact .int _ _
  | 1=>injection hx with hx;injection hy with hy;subst hx hy;exact hc1
  | 2=>injection hx with hx;injection hy with hy;subst hx hy;exact hc2
  | 3=>injection hx with hx;injection hy with hy;subst hx hy;exact .int _ _
  | 4=>injection hx with hx;injection hy with hy;subst hx hy;exact .int _ _
  | i+5=>simp at hx
 have bel:Below W.heap.size W W':=hx;subst he;exact⟨_,rfl,_,_,_,[],_,[],hW',trodAll_mk1 (shut_bool Tryz.underlying4 _),(trodAll_cons_mk (shut_int Tryz.underlying3 g0) (trodAll_cons_mk (Below.trod zqK (by kernel_rfl) (of_decide_eq_true (by kernel_rfl)) k1 bel lt1) (trodAll_cons_mk (Below.trod zqK (by kernel_rfl) (of_decide_eq_true (by kernel_rfl)) k2 bel lt2) (trodAll_cons_mk (shut_int Tryz.underlying24 g3) (trodAll_cons_mk (shut_int Tryz.underlying3 g4) trodAll_mk0))))),rfl,bel.frame _,fun h=>by cases h⟩
theorem zsv:Rows.treeFromRow.holds Tryz.pinned (OpenSpec.ofChange Rows.treeFromSpec) :=
 OpenClaim.holds_of_wide 6 Tryz.f6 rfl rfl rfl rfl rfl rfl rfl ⟨rfl,rfl,rfl,rfl,rfl⟩ rfl rfl rfl rfl rfl (by kernel_rfl) Tryz.func6 (by kernel_rfl)
  (of_decide_eq_true (by kernel_rfl)) (by unfold Func.isWrapper;first|(rw[if_pos (by decide +kernel)];kernel_rfl)|(rw[if_neg (by decide +kernel)];exact⟨rfl,rfl⟩))
  (fun os started H enc _=>zqb os started H enc)
theorem tree_from:Rows.TreeFromSaid:=zsv
#print axioms tree_from
end Go.Proofs.YtfomlmhnmheenaaGreat
