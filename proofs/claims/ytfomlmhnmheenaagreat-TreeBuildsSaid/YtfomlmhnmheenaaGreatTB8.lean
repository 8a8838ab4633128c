/- part 8 of the proof of tree_builds. -/
import Derived.Test.YtfomlmhnmheenaaGreatTB7
set_option linter.unusedSimpArgs false
set_option linter.unusedVariables false
namespace Go.Proofs.YtfomlmhnmheenaaGreat
namespace Fv
open Tw
attribute [local go_sem] zaU zaE z7 zac evs ev okv zby zO.cls zaV zbg zbo zV zW upd zB za4 zaZ za9 zaH zaX za5 za7 za2 zaW za0 zaz zba zaY za8 za6 za3 za1 zax zbf zbh zan zaq zbx PV.cells ofC zbd zS zae okF zak spl zaF zaK bnd zao zas zat zaO zbl zT zal zaL zap zbi zbr z9 lenP ze zF zam zbj PV.toT zaC zL Nat.mul_mod_right Int.reduceOfNat Int.reduceToNat Int.cast_ofNat_Int Int.reduceLE Int.reduceLT Int.reduceAdd Int.reduceSub Int.reduceMul Int.reduceNegSucc Nat.reduceEqDiff if_true if_false ite_true ite_false decide_true decide_false Bool.not_true Bool.not_false and_true true_and and_self false_and and_false or_false false_or or_true true_or or_self List.length_cons List.length_nil List.length_map List.getElem?_cons_zero List.getElem?_cons_succ List.getElem?_map List.getElem?_nil Option.map_some Option.map_none Option.getD_some List.append_nil List.nil_append List.cons_append List.take_succ_cons List.take_zero List.drop_zero List.drop_succ_cons List.set_cons_zero List.set_cons_succ Int.toNat_natCast Int.natCast_nonneg Nat.le_refl Nat.zero_le Nat.reduceAdd Nat.reduceSub Nat.reduceMul Nat.reduceLeDiff Nat.reduceLT Bool.false_eq_true Bool.true_eq_false Nat.add_zero Nat.zero_add List.all_cons List.all_nil Bool.and_true Bool.and_self Bool.true_and Nat.reduceMod Nat.reduceDiv eq_self zau zaJ zaa zbb evN zaT dpF zaQ zbu zay zbc zbt zaP Option.some.injEq Option.isSome_some wrap_i64 zQ zaM
attribute [local go_sem ↓] reduceIte
set_option maxRecDepth 100000
theorem f27:ET.funcs.get 27=some T27:=zJ (by kernel_rfl) (by decide)
theorem zjt {H:List zk} (n:Nat):Frz H 0 (.tuple [iv 0,.nilsl,iv 0,iv n]) (.tuple [iv 0,.list 0 2 (([]:List Pr).map zbL),iv 0,iv n]):=Frz.tupL ⟨.int _ _,.nil _ _,.int _ _,.int _ _,trivial⟩
set_option maxHeartbeats 4000000 in
theorem zqB (p q:Nat) (l:List Pr) (fr:List Int) (hl:l.length≤500) (hfr:fr.length≤2000):FN ET 27 [psv p l,.list q 1 (fr.map iv)] (zcl l fr):=by
 refine zU f27 (Nat.le_of_ble_eq_true rfl) (znh l fr) ?_
 (repeat (first | refine zc ?_ | (refine za ?_;refine zb (by simp (disch:=omega) only [go_sem] <;> rfl) ?_;refine zd ?_)))
 (repeat refine zc ?_)
 refine za ?_
 have hris:=zoj p l (by omega)
 have hblk:=zoa q fr (by omega)
 by_cases hokP:okP l=true
 rotate_left
 ·have hokP:okP l=false:=by simpa using hokP
  have he:zcl l fr=ziE 2:=by unfold zcl;rw [hokP];rfl
  rw [hokP] at hris
  refine zb (by simp (disch:=omega) only [go_sem] <;> rfl) ?_
  refine zH (by first | rfl | (simp only [go_sem] <;> rfl)) (by simp only [go_sem] <;> rfl) hris ?_ ?_;(repeat (first | exact trivial | refine And.intro ?_ ?_ | exact .int _ _ | exact .bool _ | exact .list _ _ _ | exact .elem _ | exact .nilsl | exact .nil _ _ | exact .str _ | refine Frz.aggL ?_ | refine Frz.fnL ?_ | refine Frz.tupL ?_ | refine .iface ?_ | exact zn rfl rfl (by assumption)))
  refine zb (by simp (disch:=omega) only [go_sem] <;> rfl) ?_
  refine zd ?_
  refine zD (by simp only [go_sem] <;> rfl) ?_ ?_
  rotate_left
  ·intro h;cases h
  intro _
  (repeat (first | refine zc ?_ | (refine za ?_;refine zb (by simp (disch:=omega) only [go_sem] <;> rfl) ?_;refine zd ?_)))
  refine zE ?_;(try simp only [zf,zi,zh,zg,zj]);refine zy (by simp only [T27,zI,go_sem] <;> rfl) ?_;simp only [zK]
  rw [he];exact zjt 2
 rw [hokP] at hris
 by_cases hokI:okI [] fr=true
 rotate_left
 ·have hokI:okI [] fr=false:=by simpa using hokI
  have he:zcl l fr=ziE 2:=by unfold zcl;rw [hokI,Bool.and_false];rfl
  rw [hokI] at hblk
  refine zb (by simp (disch:=omega) only [go_sem] <;> rfl) ?_
  refine zH (by first | rfl | (simp only [go_sem] <;> rfl)) (by simp only [go_sem] <;> rfl) hris ?_ ?_;(repeat (first | exact trivial | refine And.intro ?_ ?_ | exact .int _ _ | exact .bool _ | exact .list _ _ _ | exact .elem _ | exact .nilsl | exact .nil _ _ | exact .str _ | refine Frz.aggL ?_ | refine Frz.fnL ?_ | refine Frz.tupL ?_ | refine .iface ?_ | exact zn rfl rfl (by assumption)))
  refine zb (by simp (disch:=omega) only [go_sem] <;> rfl) ?_
  refine zH (by first | rfl | (simp only [go_sem] <;> rfl)) (by simp only [go_sem] <;> rfl) hblk ?_ ?_;(repeat (first | exact trivial | refine And.intro ?_ ?_ | exact .int _ _ | exact .bool _ | exact .list _ _ _ | exact .elem _ | exact .nilsl | exact .nil _ _ | exact .str _ | refine Frz.aggL ?_ | refine Frz.fnL ?_ | refine Frz.tupL ?_ | refine .iface ?_ | exact zn rfl rfl (by assumption)))
  refine zb (by simp (disch:=omega) only [go_sem] <;> rfl) ?_
  refine zd ?_
  refine zD (by simp only [go_sem] <;> rfl) ?_ ?_
  rotate_left
  ·intro h;cases h
  intro _
  (repeat (first | refine zc ?_ | (refine za ?_;refine zb (by simp (disch:=omega) only [go_sem] <;> rfl) ?_;refine zd ?_)))
  refine zE ?_;(try simp only [zf,zi,zh,zg,zj]);refine zy (by simp only [T27,zI,go_sem] <;> rfl) ?_;simp only [zK]
  rw [he];exact zjt 2
 rw [hokI] at hblk
 refine zb (by simp (disch:=omega) only [go_sem] <;> rfl) ?_
 refine zH (by first | rfl | (simp only [go_sem] <;> rfl)) (by simp only [go_sem] <;> rfl) hris ?_ ?_;(repeat (first | exact trivial | refine And.intro ?_ ?_ | exact .int _ _ | exact .bool _ | exact .list _ _ _ | exact .elem _ | exact .nilsl | exact .nil _ _ | exact .str _ | refine Frz.aggL ?_ | refine Frz.fnL ?_ | refine Frz.tupL ?_ | refine .iface ?_ | exact zn rfl rfl (by assumption)))
 refine zb (by simp (disch:=omega) only [go_sem] <;> rfl) ?_
 refine zH (by first | rfl | (simp only [go_sem] <;> rfl)) (by simp only [go_sem] <;> rfl) hblk ?_ ?_;(repeat (first | exact trivial | refine And.intro ?_ ?_ | exact .int _ _ | exact .bool _ | exact .list _ _ _ | exact .elem _ | exact .nilsl | exact .nil _ _ | exact .str _ | refine Frz.aggL ?_ | refine Frz.fnL ?_ | refine Frz.tupL ?_ | refine .iface ?_ | exact zn rfl rfl (by assumption)))
 refine zb (by simp (disch:=omega) only [go_sem] <;> rfl) ?_
 refine zd ?_
 refine zD (by simp only [go_sem] <;> rfl) ?_ ?_
 ·intro h;cases h
 intro _
 refine zR ?_;show W _ _ _ _ _ _
 obtain ⟨free,rfl,hokF⟩:=zjp hokI
 have hff:=(zeH free).1 hokF
 have hfree:(free.map fun (b:Nat)=>(b:Int)).map Int.toNat=free:=by rw [List.map_map];exact List.map_id free
 have hbE:zcl l (free.map fun (b:Nat)=>(b:Int))=match zdF l free with
   | none=>ziE 221
   | some T=>bOk T:=by unfold zcl;rw [hokP,hokI,hfree];rfl
 have hfv:(free.map fun (b:Nat)=>(b:Int)).map iv=bfl free:=by rw [List.map_map];rfl
 have hfl:free.length≤2000:=by simpa using hfr
 rw [hbE,hfv]
 have hfbl:(bfl free).length=free.length:=by rw [List.length_map]
 (repeat refine zc ?_)
 refine za ?_
 refine zb (by simp (disch:=omega) only [go_sem,List.length_map] <;> rfl) ?_
 refine zH (by first | rfl | (simp only [go_sem] <;> rfl)) (by simp only [go_sem] <;> rfl) (zrQ l.length hl) ?_ ?_;(repeat (first | exact trivial | refine And.intro ?_ ?_ | exact .int _ _ | exact .bool _ | exact .list _ _ _ | exact .elem _ | exact .nilsl | exact .nil _ _ | exact .str _ | refine Frz.aggL ?_ | refine Frz.fnL ?_ | refine Frz.tupL ?_ | refine .iface ?_ | exact zn rfl rfl (by assumption)))
 by_cases hsp:free.length < zff l.length
 ·have g:((free.length:Nat):Int) < (zff l.length:Nat):=by omega
  have hn:=(zjg (free:=free) hl).2 hsp
  refine zb (by simp (disch:=omega) only [go_sem,g,List.length_map] <;> rfl) ?_
  refine zd ?_
  refine zD (by simp only [go_sem] <;> rfl) ?_ ?_
  rotate_left
  ·intro h;cases h
  intro _
  (repeat (first | refine zc ?_ | (refine za ?_;refine zb (by simp (disch:=omega) only [go_sem] <;> rfl) ?_;refine zd ?_)))
  refine zE ?_;(try simp only [zf,zi,zh,zg,zj]);refine zy (by simp only [T27,zI,go_sem] <;> rfl) ?_;simp only [zK]
  rw [hn];exact zjt 221
 have g:¬ ((free.length:Nat):Int) < (zff l.length:Nat):=by omega
 refine zb (by simp (disch:=omega) only [go_sem,g,List.length_map] <;> rfl) ?_
 refine zd ?_
 refine zD (by simp only [go_sem] <;> rfl) ?_ ?_
 ·intro h;cases h
 intro _
 refine zR ?_;show W _ _ _ _ _ _
 obtain ⟨TT,hTT⟩:∃ TT,zdF l free=some TT:=by
  cases h:zdF l free with
  | none=>exact absurd ((zjg (free:=free) hl).1 h) hsp
  | some TT=>exact ⟨TT,rfl⟩
 rw [hTT]
 (repeat (first | refine zc ?_ | (refine za ?_;refine zb (by simp (disch:=omega) only [go_sem] <;> rfl) ?_;refine zd ?_)))
 refine zq1 p l hl _ _ 0 0 0 [zbR ⟨0,0,0,9223372036854775808,0,[]⟩ .nilsl] [.nilsl] (Nat.le_refl _) rfl ((Lvl.nil _).snoc ⟨0,0,0,9223372036854775808,0,[]⟩ rfl) (by simp [upd,zB]) (by simp [upd]) (by simp [upd]) (fun tm1 H1 g1 M1 vs1 ps1 hM1 hL1 hlv1 hf1 h81=>?_)
 simp only [zf,zi,zh,zg,zu,zj,if_true,reduceIte]
 have k1:tm1 1=.list q 1 (bfl free):=(hf1 1 (by decide) (by decide) (by decide) (by decide)).trans (by simp [upd,zB])
 clear hf1
 (repeat (first | refine zc ?_ | (refine za ?_;refine zb (by simp (disch:=omega) only [go_sem] <;> rfl) ?_;refine zd ?_)))
 refine zev 83 2 (i:=11) (by simp [upd]) ?_
 simp only [lzy]
 have hO1:(H1++[zk.row 83 2 0 0 []])[H1.length]?=some (.row 83 2 0 0 []):=by simp
 have hL1':(H1++[zk.row 83 2 0 0 []])[0]?=some (.row 124 6 g1 M1 vs1):=zbk hL1
 have hlv1':Lvl (H1++[zk.row 83 2 0 0 []]) vs1 ps1 (zbq l):=hlv1.keep fun id o _ h=>zbk h
 refine zG (zav (fun m s=>∃ (k:Nat) (nl:List zo) (used:Nat) (T:List Lev) (Hc:List zk) (idL g M idO:Nat) (vs ps V:List PV),m=k∧1≤k∧3≤k + T.length∧zhT l free nl used T∧zgY free k nl used T=some TT∧used=(T.reverse.flatMap Prod.fst).length∧V=(zbP T.reverse).map zbL∧V.length=64 * used∧M≤g∧Hc[idL]?=some (.row 124 6 g M vs)∧Lvl Hc vs ps nl∧Hc[idO]?=some (.row 83 2 V.length 0 V)∧s.tm 1=.list q 1 (bfl free)∧s.tm 8=.sl idL g 0 vs.length (2 * vs.length) 6∧s.tm 11=.sl idO V.length 0 V.length (2 * V.length) 2∧s.tm 12=iv used∧s.df=[]∧s.H=Hc) (n:=4) ?_ ?_)
 ·exact ⟨4,zbq l,0,[],_,0,g1,M1,H1.length,vs1,ps1,[],rfl,by decide,by decide,zhM free hokP hl,hTT,rfl,rfl,rfl,hM1,hL1',hlv1',hO1,by simp [upd,k1],by simp [upd,h81],by simp [upd],by simp [upd],rfl,rfl⟩
 ·clear hM1 hL1 hlv1 hL1' hlv1' hO1 k1 h81
  rintro m ⟨tm,df,Hc⟩ ⟨k,nl,used,T,Hc',idL,g,M,idO,vs,ps,V,rfl,hk1,hk3,hI,hbd,hus,hV,hVl,hM,hL,hlvl,hO,h1,h8,h11,h12,rfl,rfl⟩
  dsimp only at h1 h8 h11 h12
  obtain ⟨k,rfl⟩:∃ k,m=k + 1:=⟨m - 1,by omega⟩
  have hnl0:0 < nl.length:=List.length_pos_iff.2 hI.ok.ne
  have hnlb:nl.length≤28:=by
   have:=hI.bndL
   have hb:∀ t,bndL t≤28:=fun t=>by match t with | 0=>decide | 1=>decide | t + 2=>exact (show 1≤28 by decide)
   exact Nat.le_trans this (hb _)
  rw [zgY] at hbd
  have hul:=hI.used
  by_cases hsp2:free.length < used + nl.length
  ·rw [if_pos hsp2] at hbd;cases hbd
  rw [if_neg hsp2] at hbd
  have hvn:=hlvl.lenV
  rw [hvn] at h8
  (repeat refine zc ?_)
  refine zG ?_
  (repeat (first | refine zc ?_ | (refine za ?_;refine zb (by simp (disch:=omega) only [go_sem] <;> rfl) ?_;refine zd ?_)))
  refine zev 3 1 (i:=13) (by simp [upd]) ?_
  simp only [lzy]
  have hlc:idL < Hc.length:=(List.getElem?_eq_some_iff.1 hL).1
  have hoc:idO < Hc.length:=(List.getElem?_eq_some_iff.1 hO).1
  refine zrr q free used nl.length (by omega) (by omega) _ _ idL g _ Hc.length (by simp) (by simp [upd,h1]) (by simp [upd,h8];rfl) (by simp [upd,h12]) (by simp [upd]) (by simp [upd]) (fun tm2 H2 hst2 hA2 hf2 h13=>?_)
  simp only [zf,zi,zh,zg,zu,zj,if_true,reduceIte]
  obtain ⟨v1,v2,v3,v4,v5,v6,v7,v8⟩:=hI.level hokF hsp2
  have hnx:=hI.next hokF hsp2
  have hlvl3:=hI.lvl
  have hL2:H2[idL]?=some (.row 124 6 g M vs):=hst2 idL _ (by omega) (zbk hL)
  have hO2:H2[idO]?=some (.row 83 2 V.length 0 V):=hst2 idO _ (by omega) (zbk hO)
  have hlv2:Lvl H2 vs ps nl:=hlvl.keep fun id o _ h=>hst2 id o (by have h1:id < Hc.length:=(List.getElem?_eq_some_iff.1 h).1;omega) (zbk h)
  have x1:tm2 1=.list q 1 (bfl free):=(hf2 1 (by decide) (by decide) (by decide)).trans (by simp [upd,h1])
  have x8:tm2 8=.sl idL g 0 nl.length (2 * nl.length) 6:=(hf2 8 (by decide) (by decide) (by decide)).trans (by simp [upd,h8])
  have x11:tm2 11=.sl idO V.length 0 V.length (2 * V.length) 2:=(hf2 11 (by decide) (by decide) (by decide)).trans (by simp [upd,h11])
  have x12:tm2 12=iv used:=(hf2 12 (by decide) (by decide) (by decide)).trans (by simp [upd,h12])
  clear hf2 hst2 h1 h8 h11 h12
  generalize hbs:(free.drop used).take nl.length=bs at *
  (repeat (first | refine zc ?_ | (refine za ?_;refine zb (by simp (disch:=omega) only [go_sem] <;> rfl) ?_;refine zd ?_)))
  refine zrH bs nl v1 (by omega) (fun b hb=>(v4 b hb).2) (fun n hn=>⟨(hI.ok.each n hn).1,(hI.ok.each n hn).2.2⟩) _ H2 idL Hc.length idO g M nl.length vs ps V (by omega) hM hL2 hlv2 hA2 hO2 (by simp [upd,x8]) (by simp [upd,x11]) (by simp [upd,h13,v1]) (by simp [upd]) (fun tm3 H3 M3 vs3 V3 hM3 hL3 hlv3 hA3 hO3 hV3 hf3 h11=>?_)
  simp only [zf,zi,zh,zg,zu,zj,if_true,reduceIte]
  have y1:tm3 1=.list q 1 (bfl free):=(hf3 1 (by decide)).trans (by simp [upd,x1])
  have y8:tm3 8=.sl idL g 0 nl.length (2 * nl.length) 6:=(hf3 8 (by decide)).trans (by simp [upd,x8])
  have y12:tm3 12=iv used:=(hf3 12 (by decide)).trans (by simp [upd,x12])
  have y13:tm3 13=.sl Hc.length nl.length 0 nl.length (2 * nl.length) 1:=(hf3 13 (by decide)).trans (by simp [upd,h13])
  clear hf3 x1 x8 x11 x12
  have hpl:(zcx bs (zai bs nl)).length=64 * nl.length:=by
   unfold zcx;rw [zgv];simp [v1,zca bs nl v1]
  have hV4:V3=(zbP ((bs,zai bs nl)::T).reverse).map zbL:=by
   rw [hV3,hV,List.reverse_cons,zbP,zbP,List.flatMap_append];simp
  have hV3l:V3.length=64 * (used + nl.length):=by rw [hV3,List.length_append,List.length_map,hpl];omega
  have hus2:used + nl.length=(((bs,zai bs nl)::T).reverse.flatMap Prod.fst).length:=by
   rw [List.reverse_cons,List.flatMap_append,List.length_append,← hus];simp [v1]
  have hw:IntKind.i64.wrap ((used:Int) + (nl.length:Int))=((used + nl.length:Nat):Int):=by rw [wrap_i64 (by omega) (by omega)];omega
  by_cases ho:nl.length=1
  ·rw [if_pos ho] at hbd
   injection hbd with hbd
   subst hbd
   have g1:((nl.length:Nat):Int)=1:=by omega
   obtain ⟨b0,hb0⟩:=List.length_eq_one_iff.1 (v1.trans ho)
   have hA0:(bfl bs)[0]?=some (iv b0):=by rw [hb0];rfl
   have hgA:0≤nl.length:=Nat.zero_le _
   (repeat refine zc ?_)
   (repeat refine zc ?_);refine za ?_;refine zb (by simp (disch:=omega) only [go_sem,y8,y12,hw] <;> rfl) ?_
   refine zd ?_
   (repeat refine zc ?_)
   (repeat refine zc ?_);refine za ?_;refine zb (by simp (disch:=omega) only [go_sem,y8,g1] <;> rfl) ?_
   refine zd ?_
   refine zD (by simp only [go_sem] <;> rfl) ?_ ?_
   rotate_left
   ·intro h;cases h
   intro _
   (repeat refine zc ?_)
   (repeat refine zc ?_);refine za ?_;refine zb (by simp (disch:=omega) only [go_sem,y13,h11,hA3,hA0,hnl0,hgA] <;> rfl) ?_
   refine zd ?_
   refine zE ?_;(try simp only [zf,zi,zh,zg,zj]);refine zy (by simp only [T27,zI,go_sem] <;> rfl) ?_;simp only [zK]
   have hroot:zhm ((bs,zai bs nl)::T)=b0:=by rw [hb0];rfl
   refine Frz.tupL ⟨?_,?_,?_,.int _ _,trivial⟩
   ·rw [hroot];exact .int _ _
   ·rw [← hV4]
    refine Frz.whole hO3 rfl rfl (Nat.le_refl _) (fun v hv=>?_) (fun v hv=>?_)
    ·rw [hV4] at hv;obtain ⟨x,_,rfl⟩:=List.mem_map.1 hv;rfl
    ·rw [hV4] at hv
     obtain ⟨x,hx,hv⟩:=List.mem_flatMap.1 hv
     obtain ⟨y,_,rfl⟩:=List.mem_map.1 hx
     simp [PV.cells] at hv;rcases hv with rfl | rfl <;> exact .int _ _
   ·rw [← hus2];exact .int _ _
  ·rw [if_neg ho] at hbd
   have g1:¬ ((nl.length:Nat):Int)=1:=by omega
   have hnx:=hnx ho
   have hT1:T.length≤1:=by
    have:=hnx.lvl
    simp at this;omega
   obtain ⟨w1,w2,w3⟩:=zdD bs nl v1
   have hll:=zca bs nl v1
   have hlevs:∀ n∈zai bs nl,n.level=T.length:=by
    intro n hn
    obtain ⟨j,hj⟩:=List.mem_iff_getElem?.1 hn
    have hjl:j < nl.length:=by rw [← hll];exact (List.getElem?_eq_some_iff.1 hj).1
    have e:=zdp bs nl j _ v1 (List.getElem?_eq_getElem hjl)
    rw [hj] at e;injection e with e;subst e
    exact (hI.ok.each _ (List.getElem_mem _)).2.1
   have hab:=zpl H3 idL g M3 Hc.length nl.length vs3 ps (zai bs nl) bs T.length hL3 hM3 hlv3 hA3 (by rw [hll];exact v1) (by omega) hlevs (by omega) (fun b hb=>(v4 b hb).2)
   rw [hll,w2] at hab
   (repeat refine zc ?_)
   (repeat refine zc ?_);refine za ?_;refine zb (by simp (disch:=omega) only [go_sem,y8,y12,hw] <;> rfl) ?_
   refine zd ?_
   (repeat refine zc ?_)
   (repeat refine zc ?_);refine za ?_;refine zb (by simp (disch:=omega) only [go_sem,y8,g1] <;> rfl) ?_
   refine zd ?_
   refine zD (by simp only [go_sem] <;> rfl) ?_ ?_
   ·intro h;cases h
   intro _
   refine zR ?_;show W _ _ _ _ _ _
   (repeat refine zc ?_)
   refine za ?_
   refine zb (by simp (disch:=omega) only [go_sem,y8,y13] <;> rfl) ?_
   refine zit (caps:=?caps) (vs:=?vs) ?a1 ?a2 hab ?a3 ?a4 ?a5
   case a1=>first | rfl | (simp only [z7,zac,go_sem] <;> rfl)
   case a2=>simp only [go_sem] <;> rfl
   case a3=>rfl
   case a4=>rfl
   rintro e H4 ⟨hst4,idL4,g4,M4,vs4,ps4,rfl,hM4,_,hL4,hlv4,_⟩
   refine zb (by simp (disch:=omega) only [go_sem] <;> rfl) ?_
   refine zC ?_;simp only [zf,zi,zh,zg,zu,zj,if_true,↓reduceIte]
   refine ⟨k,Nat.lt_succ_self _,k,_,used + nl.length,(bs,zai bs nl)::T,H4,idL4,g4,M4,idO,vs4,ps4,V3,rfl,by omega,?_,hnx,hbd,hus2,hV4,hV3l,hM4,hL4,hlv4,hst4 idO _ hO3,by simp [upd,y1],by simp [upd],by simp [upd,h11],by simp [upd],trivial,rfl⟩
   simp;omega
theorem f9:FN ET 9 [] (.ret (.bool true)):=zsT (by kernel_rfl) (by rfl)
theorem znT (q:Nat) (H:List zk) (iw gw qw:Nat) (w:List Nat) (l:List Pr) (hl:l.length < 10000000) (hw:0 < w.length∧w.length≤1000000) (hr:H[iw]?=some (.row 24 1 gw 0 (w.map uv))):FO ET 28 [.sl iw gw 0 w.length qw 1,.list q 2 (l.map zbL)] H false fun e H'=>zd1 H H'∧∃ id g M,e=.ret (.sl id g 0 w.length (2 * w.length) 1)∧M≤g∧H'[id]?=some (.row 24 1 g M ((zaN w l).map uv)):=by
 refine zcS f28 (Nat.le_of_ble_eq_true rfl) ?_
 have hb:w.length * 9≤140737488355328:=by omega
 have hne:¬ w.length=0:=by omega
 have hX:∀ X,(H++X)[iw]?=some (.row 24 1 gw 0 (w.map uv)):=fun X=>zbk hr
 have hlw:(w.map uv).length=w.length:=List.length_map ..
 have hle:w.length≤w.length:=Nat.le_refl _
 have htk:(w.map uv).take w.length=w.map uv:=by rw [← hlw,List.take_length]
 (repeat (first | refine zc ?_ | (refine za ?_;refine zb (by simp (disch:=omega) only [go_sem,hb,hne,hX,hlw,hle,htk,ze,zF,List.nil_append,Nat.zero_add] <;> rfl) ?_;refine zd ?_)))
 refine zG (zav (fun m s=>∃ (i M:Nat),m=l.length - i∧i≤l.length∧M≤1∧s.tm 1=.list q 2 (l.map zbL)∧s.tm 5=.sl H.length 1 0 w.length (2 * w.length) 1∧s.tm 6=iv i∧s.df=[]∧s.H=H++[.row 24 1 1 M ((zaN w (l.take i)).map uv)]) (n:=l.length) ?_ ?_)
 ·exact ⟨0,0,rfl,Nat.zero_le _,by decide,by simp [upd,zB],by simp [upd],by simp [upd],rfl,rfl⟩
 ·rintro m ⟨tm,df,Hx⟩ ⟨i,M,rfl,hi,hM,h1,h5,h6,rfl,rfl⟩
  dsimp only at h1 h5 h6
  have hal:=zdo (l.take i) w
  (try refine zY ?_);refine zc (za ?_);refine zb (by simp (disch:=omega) only [go_sem,h1,h6,List.length_map] <;> rfl) ?_;refine zd ?_;refine zad (by simp only [go_sem] <;> rfl) ?_ ?_
  rotate_left
  ·intro hlt
   have hlt:¬ i < l.length:=by have:=of_decide_eq_false hlt;omega
   obtain rfl:i=l.length:=by omega
   simp only [zf,zi,zh,zg,zu,zj,if_true,reduceIte]
   (repeat (first | refine zc ?_ | (refine za ?_;refine zb (by simp (disch:=omega) only [go_sem,h5] <;> rfl) ?_;refine zd ?_)))
   refine zE ?_;(try simp only [zf,zi,zh,zg,zj]);refine zy (by simp only [T28,zI,go_sem] <;> rfl) ?_;simp only [zK]
   rw [List.take_length] at hal ⊢
   exact ⟨(zd1.refl H).app _,H.length,1,M,rfl,hM,by simp⟩
  intro hlt
  have hlt:i < l.length:=by have:=of_decide_eq_true hlt;omega
  obtain ⟨x,hx⟩:∃ x,l[i]?=some x:=⟨_,List.getElem?_eq_getElem hlt⟩
  have hxv:(l.map zbL)[i]?=some (zbL x):=by rw [List.getElem?_map,hx];rfl
  have htk:zaN w (l.take (i + 1))=(zaN w (l.take i)).set x.1 x.2:=by
   rw [List.take_add_one,hx,zd5];rfl
  have g0:(0:Int)≤(x.1:Nat):=Int.natCast_nonneg _
  (repeat refine zc ?_)
  refine zG ?_
  by_cases hlx:x.1 < w.length
  ·have g1:((x.1:Nat):Int) < (w.length:Nat):=by omega
   obtain ⟨o,ho⟩:∃ old,(zaN w (l.take i))[x.1]?=some old:=⟨_,List.getElem?_eq_getElem (by omega)⟩
   have z1:((zaN w (l.take i)).map uv)[x.1]?=some (uv o):=by rw [List.getElem?_map,ho];rfl
   have y1:((zaN w (l.take i)).map uv).set x.1 (.int .u64 (x.2:Int))=(zaN w (l.take (i + 1))).map uv:=by rw [htk];exact List.map_set.symm
   generalize (zaN w (l.take i)).map uv=K0 at *
   (repeat refine zc ?_)
   (repeat refine zc ?_);refine za ?_;refine zb (by simp (disch:=omega) only [go_sem,h1,h5,h6,hxv,hlt,g0,g1,List.length_map] <;> rfl) ?_
   refine zd ?_
   refine zD (by simp only [go_sem] <;> rfl) ?_ ?_
   rotate_left
   ·intro h;cases h
   intro _
   refine zaS ?_
   refine zbv (by first | exact trivial | simp only [go_sem,List.filter_cons,List.filter_nil,List.contains_cons,List.contains_nil,Bool.or_false,Nat.reduceBEq,zb4,zb3,zbJ,h1,h5,h6,hxv,hlt,hlx,hM,z1,y1,ze,zF,List.length_map]) (by simp (disch:=omega) only [go_sem,h1,h5,h6,hxv,hlt,hlx,hM,z1,y1,ze,zF,List.length_map] <;> rfl) rfl (by first | rfl | (simp only [go_sem] <;> rfl)) (by simp only [go_sem,h1,h5,h6,hxv,hlt,hlx,hM,z1,y1,ze,zF,List.length_map] <;> rfl) (by simp (disch:=omega) only [go_sem,h1,h5,h6,hxv,hlt,hlx,hM,z1,y1,ze,zF,List.length_map] <;> rfl) (by simp only [go_sem] <;> rfl) ?_
   refine zX (by first | exact trivial | simp only [go_sem,h5]) (by simp (disch:=omega) only [go_sem,h5] <;> rfl) rfl ?_
   refine zaf ?_;simp only [zu,zab,zf,go_sem]
   (repeat refine zc ?_);refine za ?_;refine zb (by simp (disch:=omega) only [go_sem,h6] <;> rfl) ?_
   refine zC ?_;simp only [zf,zi,zh,zg,zu,zj,if_true,↓reduceIte]
   refine ⟨_,?m,i + 1,1,rfl,hlt,Nat.le_refl _,by simp [upd,h1],by simp [upd,h5],by simp [upd,h6],trivial,rfl⟩
   case m=>omega
  ·have g1:¬ ((x.1:Nat):Int) < (w.length:Nat):=by omega
   have y1:(zaN w (l.take (i + 1)))=zaN w (l.take i):=by rw [htk,List.set_eq_of_length_le (by omega)]
   (repeat refine zc ?_)
   (repeat refine zc ?_);refine za ?_;refine zb (by simp (disch:=omega) only [go_sem,h1,h5,h6,hxv,hlt,g0,g1,List.length_map] <;> rfl) ?_
   refine zd ?_
   refine zD (by simp only [go_sem] <;> rfl) ?_ ?_
   ·intro h;cases h
   intro _
   refine zR ?_
   simp only [zf,zi,zh,zg,zu,zj,if_true,reduceIte]
   (repeat refine zc ?_);refine za ?_;refine zb (by simp (disch:=omega) only [go_sem,h6] <;> rfl) ?_
   refine zC ?_;simp only [zf,zi,zh,zg,zu,zj,if_true,↓reduceIte]
   refine ⟨_,?m,i + 1,M,rfl,hlt,hM,by simp [upd,h1],by simp [upd,h5],by simp [upd,h6],trivial,by rw [y1]⟩
   case m=>omega
theorem zh2:∀ X:List Lev,(∀ M∈X,M.1.length=M.2.length)→(zbP X).length=64 * (X.flatMap Prod.fst).length
 | [],_=>rfl
 | M::X,h=>by
  have h1:=zh2 X fun K hK=>h K (List.mem_cons_of_mem _ hK)
  have h2:=h M (List.mem_cons_self ..)
  unfold zbP at h1 ⊢
  rw [List.flatMap_cons,List.length_append,h1,List.flatMap_cons,List.length_append]
  unfold zcx
  rw [zgv,List.length_zip]
  omega
def zaw (l:List Nat):Nat:=l.foldl max 0
theorem zlv:∀ (l:List Nat) (a:Nat),a≤l.foldl max a∧∀ b∈l,b≤l.foldl max a
 | [],a=>⟨Nat.le_refl _,fun b h=>by simp at h⟩
 | c::l,a=>by
  have h:=zlv l (max a c)
  refine ⟨?_,fun b hb=>?_⟩
  ·exact Nat.le_trans (Nat.le_max_left _ _) h.1
  ·rcases List.mem_cons.1 hb with rfl | hb
   ·exact Nat.le_trans (Nat.le_max_right _ _) h.1
   ·exact h.2 b hb
theorem ziw:∀ (l:List Nat) (a N:Nat),a < N→(∀ b∈l,b < N)→l.foldl max a < N
 | [],_,_,h,_=>h
 | c::l,a,N,h,hl=>ziw l (max a c) N (by have:=hl c (List.mem_cons_self ..);omega) fun b hb=>hl b (List.mem_cons_of_mem _ hb)
theorem zqY {l:List Nat} {b:Nat} (h:b∈l):b≤zaw l:=(zlv l 0).2 b h
theorem zrc {l:List Nat} {N:Nat} (hN:0 < N) (h:∀ b∈l,b < N):zaw l < N:=ziw l 0 N hN h
theorem zpt {l:List Nat} {i b:Nat} (h:l[i]?=some b):zaw (l.take (i + 1))=max (zaw (l.take i)) b:=by
 unfold zaw
 rw [List.take_add_one,h,List.foldl_append];rfl
theorem f5:ET.funcs.get 5=some T5:=zJ (by kernel_rfl) (by decide)
theorem zp3 {H:List zk} {id e:Nat} {l:List Pr} (hl:l.length=0) (hH:H[id]?=some (.row e 2 0 0 [])):Frz H 1 (.sl id 0 0 0 0 2) (psv 1 l):=by
 obtain rfl:=List.eq_nil_of_length_eq_zero hl
 exact Frz.whole hH rfl rfl (Nat.le_refl _) (fun v hv=>by simp at hv) (fun v hv=>by simp at hv)
theorem zqu {H:List zk} {id e:Nat} {l:List Int} (hl:l.length=0) (hH:H[id]?=some (.row e 1 0 0 [])):Frz H 1 (.sl id 0 0 0 0 1) (.list 1 1 (l.map iv)):=by
 obtain rfl:=List.eq_nil_of_length_eq_zero hl
 exact Frz.whole hH rfl rfl (Nat.le_refl _) (fun v hv=>by simp at hv) (fun v hv=>by simp at hv)
theorem zp8 (l:List Pr) (fr:List Int) (hl:l.length≤500) (hfr:fr.length≤60):∃ (root used no:Nat) (puts:List Pr),zcl l fr=.ret (.tuple [iv root,.list 0 2 (puts.map zbL),iv used,iv no])∧zaI puts.length∧(no ≠ 0∨(no=0∧∃ (free:List Nat) (T:List Lev),fr=free.map (fun (b:Nat)=>(b:Int))∧okP l=true∧zic free=true∧zmg l free T∧root=zhm T∧puts=zbP T.reverse∧puts.length≤1000000)):=by
 unfold zcl
 by_cases hP:okP l=true
 rotate_left
 ·have hP:okP l=false:=by simpa using hP
  rw [hP]
  exact ⟨0,0,2,[],rfl,by decide,.inl (by decide)⟩
 by_cases hI:okI [] fr=true
 rotate_left
 ·have hI:okI [] fr=false:=by simpa using hI
  rw [hI,Bool.and_false]
  exact ⟨0,0,2,[],rfl,by decide,.inl (by decide)⟩
 rw [hP,hI]
 obtain ⟨free,rfl,hF⟩:=zjp hI
 have hfree:(free.map fun (b:Nat)=>(b:Int)).map Int.toNat=free:=by rw [List.map_map];exact List.map_id free
 rw [hfree]
 simp only [Bool.and_self,if_true]
 cases hb:zdF l free with
 | none=>exact ⟨0,0,221,[],rfl,by decide,.inl (by decide)⟩
 | some T =>
  have hT:=zqV hP hF hl hb
  have hlen:(zbP T.reverse).length≤64 * 60:=by
   rw [zh2 _ fun M hM=>hT.len M (List.mem_reverse.1 hM)]
   obtain ⟨used,hu,e⟩:=hT.blocks
   have hfl:free.length≤60:=by simpa using hfr
   rw [e,List.length_take];omega
  exact ⟨zhm T,_,0,_,rfl,by unfold zaI at *;omega,.inr ⟨rfl,free,T,rfl,trivial,hF,hT,rfl,rfl,by omega⟩⟩
set_option maxHeartbeats 4000000 in
theorem zsU (p q:Nat) (l:List Pr) (fr:List Int) (hl:l.length≤500) (hfr:fr.length≤60):FN ET 5 [psv p l,.list q 1 (fr.map iv)] (.ret (.bool true)):=by
 refine zU f5 (Nat.le_of_ble_eq_true rfl) (.bool _) ?_
 have hB:=zrq 1 1 l fr hl (by omega)
 have hR:=zqB p q l fr hl (by omega)
 obtain ⟨root,used,no,puts,hE,hsm,hcase⟩:=zp8 l fr hl hfr
 rw [hE] at hB hR
 have hsame:=zn3 0 0 puts puts hsm hsm
 rw [decide_eq_true rfl] at hsame
 have g1:¬ (500:Int) < (l.length:Nat):=by omega
 have g2:¬ (60:Int) < (fr.length:Nat):=by omega
 (repeat (first | refine zc ?_ | (refine za ?_;refine zb (by simp (disch:=omega) only [go_sem] <;> rfl) ?_;refine zd ?_)))
 (repeat refine zc ?_)
 (repeat refine zc ?_);refine za ?_;refine zb (by simp (disch:=omega) only [go_sem,g1,g2,List.length_map] <;> rfl) ?_
 refine zd ?_
 refine zD (by simp only [go_sem] <;> rfl) ?_ ?_
 ·intro h;cases h
 intro _
 refine zR ?_;show W _ _ _ _ _ _
 have h0:(psv p l)=psv p l:=rfl
 have h1:True:=trivial
 refine zc (zdH (Q:=fun y s'=>y=.norm∧s'.tm 0=psv p l∧s'.tm 1=.list q 1 (fr.map iv)∧s'.tm 5=iv root∧s'.tm 6=.list 0 2 (puts.map zbL)∧s'.tm 7=iv used∧s'.tm 8=iv no∧s'.df=[]) (za ?_) ?_)
 ·have hbl:l.length * 17≤140737488355328:=by omega
  have hbf:fr.length * 9≤140737488355328:=by omega
  by_cases hl0:l.length=0 <;> by_cases hf0:fr.length=0
  ·-- pairs True,blocks True
   refine zb (by simp (disch:=omega) only [go_sem,h0,h1,hl0,hf0,List.length_map,List.nil_append,Nat.zero_add,ze,zF] <;> rfl) ?_
   refine zH (caps:=?_) (vs:=?_) ?_ ?_ hB ?_ ?_;rotate_left 2;(first | rfl | (simp only [z7,zac,go_sem] <;> rfl));(simp only [go_sem] <;> rfl)
   ·refine ⟨?_,?_,trivial⟩
    ·exact zp3 hl0 rfl
    ·exact zqu hf0 rfl
   refine zb (by simp (disch:=omega) only [go_sem] <;> rfl) ?_
   refine zC ?_
   exact ⟨rfl,by simp [upd,zB],by simp [upd,zB],by simp [upd],by simp [upd],by simp [upd],by simp [upd],rfl⟩
  ·-- pairs True,blocks False
   refine zb (by simp (disch:=omega) only [go_sem,h0,h1,hl0,hf0,hbf,List.length_map,List.nil_append,Nat.zero_add,ze,zF] <;> rfl) ?_
   refine zH (caps:=?_) (vs:=?_) ?_ ?_ hB ?_ ?_;rotate_left 2;(first | rfl | (simp only [z7,zac,go_sem] <;> rfl));(simp only [go_sem] <;> rfl)
   ·refine ⟨?_,?_,trivial⟩
    ·exact zp3 hl0 rfl
    ·exact Frz.whole rfl rfl (by simp) (by simp) (fun v hv=>by obtain ⟨x,_,rfl⟩:=List.mem_map.1 hv;rfl) zoM
   refine zb (by simp (disch:=omega) only [go_sem] <;> rfl) ?_
   refine zC ?_
   exact ⟨rfl,by simp [upd,zB],by simp [upd,zB],by simp [upd],by simp [upd],by simp [upd],by simp [upd],rfl⟩
  ·-- pairs False,blocks True
   refine zb (by simp (disch:=omega) only [go_sem,h0,h1,hl0,hbl,hf0,List.length_map,List.nil_append,Nat.zero_add,ze,zF] <;> rfl) ?_
   refine zH (caps:=?_) (vs:=?_) ?_ ?_ hB ?_ ?_;rotate_left 2;(first | rfl | (simp only [z7,zac,go_sem] <;> rfl));(simp only [go_sem] <;> rfl)
   ·refine ⟨?_,?_,trivial⟩
    ·exact Frz.whole rfl rfl (by simp) (by simp) (fun v hv=>by obtain ⟨x,_,rfl⟩:=List.mem_map.1 hv;rfl) zeN
    ·exact zqu hf0 rfl
   refine zb (by simp (disch:=omega) only [go_sem] <;> rfl) ?_
   refine zC ?_
   exact ⟨rfl,by simp [upd,zB],by simp [upd,zB],by simp [upd],by simp [upd],by simp [upd],by simp [upd],rfl⟩
  ·-- pairs False,blocks False
   refine zb (by simp (disch:=omega) only [go_sem,h0,h1,hl0,hbl,hf0,hbf,List.length_map,List.nil_append,Nat.zero_add,ze,zF] <;> rfl) ?_
   refine zH (caps:=?_) (vs:=?_) ?_ ?_ hB ?_ ?_;rotate_left 2;(first | rfl | (simp only [z7,zac,go_sem] <;> rfl));(simp only [go_sem] <;> rfl)
   ·refine ⟨?_,?_,trivial⟩
    ·exact Frz.whole rfl rfl (by simp) (by simp) (fun v hv=>by obtain ⟨x,_,rfl⟩:=List.mem_map.1 hv;rfl) zeN
    ·exact Frz.whole rfl rfl (by simp) (by simp) (fun v hv=>by obtain ⟨x,_,rfl⟩:=List.mem_map.1 hv;rfl) zoM
   refine zb (by simp (disch:=omega) only [go_sem] <;> rfl) ?_
   refine zC ?_
   exact ⟨rfl,by simp [upd,zB],by simp [upd,zB],by simp [upd],by simp [upd],by simp [upd],by simp [upd],rfl⟩
 clear h0 h1
 rintro y ⟨tm,df,H⟩ ⟨rfl,h0,h1,h5,h6,h7,h8,rfl⟩
 dsimp only at h0 h1 h5 h6 h7 h8
 simp only [zf,zi,zh,zg,zu,zj,if_true,reduceIte]
 (repeat refine zc ?_)
 refine za ?_
 refine zb (by simp (disch:=omega) only [go_sem,h0,h1] <;> rfl) ?_
 refine zH (by first | rfl | (simp only [go_sem] <;> rfl)) (by simp only [go_sem] <;> rfl) hR ?_ ?_;(repeat (first | exact trivial | refine And.intro ?_ ?_ | exact .int _ _ | exact .bool _ | exact .list _ _ _ | exact .elem _ | exact .nilsl | exact .nil _ _ | exact .str _ | refine Frz.aggL ?_ | refine Frz.fnL ?_ | refine Frz.tupL ?_ | refine .iface ?_ | exact zn rfl rfl (by assumption)))
 refine zb (by simp (disch:=omega) only [go_sem] <;> rfl) ?_
 refine zd ?_
 (repeat refine zc ?_)
 refine za ?_
 refine zb (by simp (disch:=omega) only [go_sem,h5,h6,h7,h8] <;> rfl) ?_
 refine zH (by first | rfl | (simp only [go_sem] <;> rfl)) (by simp only [go_sem] <;> rfl) hsame ?_ ?_;(repeat (first | exact trivial | refine And.intro ?_ ?_ | exact .int _ _ | exact .bool _ | exact .list _ _ _ | exact .elem _ | exact .nilsl | exact .nil _ _ | exact .str _ | refine Frz.aggL ?_ | refine Frz.fnL ?_ | refine Frz.tupL ?_ | refine .iface ?_ | exact zn rfl rfl (by assumption)))
 refine zb (by simp (disch:=omega) only [go_sem,h5,h6,h7,h8] <;> rfl) ?_
 refine zH (by first | rfl | (simp only [go_sem] <;> rfl)) (by simp only [go_sem] <;> rfl) (znD (no:Nat)) ?_ ?_;(repeat (first | exact trivial | refine And.intro ?_ ?_ | exact .int _ _ | exact .bool _ | exact .list _ _ _ | exact .elem _ | exact .nilsl | exact .nil _ _ | exact .str _ | refine Frz.aggL ?_ | refine Frz.fnL ?_ | refine Frz.tupL ?_ | refine .iface ?_ | exact zn rfl rfl (by assumption)))
 refine zb (by simp (disch:=omega) only [go_sem] <;> rfl) ?_
 refine zd ?_
 refine zD (by simp only [go_sem] <;> rfl) ?_ ?_
 ·intro h;cases h
 intro _
 refine zR ?_;show W _ _ _ _ _ _
 by_cases hno:no=0
 rotate_left
 ·have g3:¬ ((no:Nat):Int)=0:=by omega
  (repeat refine zc ?_)
  (repeat refine zc ?_);refine za ?_;refine zb (by simp (disch:=omega) only [go_sem,g3] <;> rfl) ?_
  refine zd ?_
  refine zD (by simp only [go_sem] <;> rfl) ?_ ?_
  rotate_left
  ·intro h;cases h
  intro _
  (repeat refine zc ?_)
  refine za ?_
  refine zb (by simp (disch:=omega) only [go_sem] <;> rfl) ?_
  refine zH (by first | rfl | (simp only [go_sem] <;> rfl)) (by simp only [go_sem] <;> rfl) f9 ?_ ?_;(repeat (first | exact trivial | refine And.intro ?_ ?_ | exact .int _ _ | exact .bool _ | exact .list _ _ _ | exact .elem _ | exact .nilsl | exact .nil _ _ | exact .str _ | refine Frz.aggL ?_ | refine Frz.fnL ?_ | refine Frz.tupL ?_ | refine .iface ?_ | exact zn rfl rfl (by assumption)))
  refine zb (by simp (disch:=omega) only [go_sem] <;> rfl) ?_
  refine zd ?_
  refine zE ?_;(try simp only [zf,zi,zh,zg,zj]);refine zy (by simp only [T5,zI,go_sem] <;> rfl) ?_;simp only [zK]
  exact Frz.bool _
 rcases hcase with hcase | ⟨_,free,T,rfl,hokP,hokF,hT,hroot,hputs,hpl⟩
 ·exact absurd hno hcase
 subst hno
 have hfv:(free.map fun (b:Nat)=>(b:Int)).map iv=bfl free:=by rw [List.map_map];rfl
 rw [hfv] at h1
 have hfl:free.length≤60:=by simpa using hfr
 have hff:=(zeH free).1 hokF
 (repeat refine zc ?_)
 (repeat refine zc ?_);refine za ?_;refine zb (by simp (disch:=omega) only [go_sem] <;> rfl) ?_
 refine zd ?_
 refine zD (by simp only [go_sem] <;> rfl) ?_ ?_
 ·intro h;cases h
 intro _
 refine zR ?_;show W _ _ _ _ _ _
 (repeat (first | refine zc ?_ | (refine za ?_;refine zb (by simp (disch:=omega) only [go_sem] <;> rfl) ?_;refine zd ?_)))
 refine zG (zav (fun m s=>∃ (i:Nat),m=free.length - i∧i≤free.length∧s.tm 0=psv p l∧s.tm 1=.list q 1 (bfl free)∧s.tm 5=iv root∧s.tm 6=.list 0 2 (puts.map zbL)∧s.tm 13=iv (zaw (free.take i):Nat)∧s.tm 14=iv i∧s.df=[]∧s.H=H) (n:=free.length) ?_ ?_)
 ·exact ⟨0,rfl,Nat.zero_le _,by simp [upd,h0],by simp [upd,h1],by simp [upd,h5],by simp [upd,h6],by simp [upd];rfl,by simp [upd],rfl,rfl⟩
 clear h0 h1 h5 h6 h7 h8
 rintro m ⟨tm,df,Hx⟩ ⟨i,rfl,hi,h0,h1,h5,h6,h13,h14,rfl,rfl⟩
 dsimp only at h0 h1 h5 h6 h13 h14
 (try refine zY ?_);refine zc (za ?_);refine zb (by simp (disch:=omega) only [go_sem,h1,h14,List.length_map] <;> rfl) ?_;refine zd ?_;refine zad (by simp only [go_sem] <;> rfl) ?_ ?_
 ·intro hlt
  have hlt:i < free.length:=by have:=of_decide_eq_true hlt;omega
  obtain ⟨b,hb⟩:∃ b,free[i]?=some b:=⟨_,List.getElem?_eq_getElem hlt⟩
  have hbv:(bfl free)[i]?=some (iv b):=by rw [List.getElem?_map,hb];rfl
  have hst:=zpt hb
  have hmx:max ((zaw (free.take i):Nat):Int) (b:Int)=((zaw (free.take (i + 1)):Nat):Int):=by rw [hst];omega
  (repeat refine zc ?_)
  refine zG ?_
  (repeat refine zc ?_)
  (repeat refine zc ?_);refine za ?_;refine zb (by simp (disch:=omega) only [go_sem,h1,h13,h14,hbv,hlt,hmx,List.length_map] <;> rfl) ?_
  refine zC ?_;simp only [zf,zi,zh,zg,zu,zj,if_true,↓reduceIte]
  (repeat refine zc ?_);refine za ?_;refine zb (by simp (disch:=omega) only [go_sem,h14] <;> rfl) ?_
  refine zC ?_;simp only [zf,zi,zh,zg,zu,zj,if_true,↓reduceIte]
  refine ⟨_,?m,i + 1,rfl,hlt,by simp [upd,h0],by simp [upd,h1],by simp [upd,h5],by simp [upd,h6],by simp [upd],by simp [upd,h14],trivial,trivial⟩
  case m=>omega
 intro hlt
 have hlt:¬ i < free.length:=by have:=of_decide_eq_false hlt;omega
 obtain rfl:i=free.length:=by omega
 simp only [zf,zi,zh,zg,zu,zj,if_true,reduceIte]
 rw [List.take_length] at h13
 have hmlt:zaw free < 2048:=zrc (by decide) fun b hb=>(hff.1 b hb).2
 obtain ⟨hr1,hr2,hr3⟩:=zoi (most:=zaw free) hokP hokF hT fun b hb=>zqY hb
 have e1:IntKind.i64.wrap (64 * ((zaw free + 1:Nat):Int))=((64 * (zaw free + 1):Nat):Int):=by rw [wrap_i64 (by omega) (by omega)];omega
 have e0:((zaw free:Int) + 1)=((zaw free + 1:Nat):Int):=by omega
 (repeat refine zc ?_)
 refine za ?_
 have hz0:(((64 * (zaw free + 1):Nat):Int)≤((64 * (zaw free + 1):Nat):Int)):=Int.le_refl _
 have hz1:(((64 * (zaw free + 1):Nat):Int)≤1000000):=by omega
 have hz2:(((64 * (zaw free + 1):Nat):Int) * 8≤140737488355328):=by omega
 refine zb (by simp (disch:=omega) only [go_sem,h6,h13,e0,e1,hz0,hz1,hz2] <;> rfl) ?_
 have hrep:List.replicate (64 * (zaw free + 1)) (PV.int .u64 0)=(List.replicate (64 * (zaw free + 1)) 0).map uv:=by rw [List.map_replicate];rfl
 rw [hrep]
 have hwl:(List.replicate (64 * (zaw free + 1)) 0).length=64 * (zaw free + 1):=List.length_replicate
 have happ:=znT 0 (Hx++[zk.row 24 1 0 0 ((List.replicate (64 * (zaw free + 1)) 0).map uv)]) Hx.length 0 (2 * (64 * (zaw free + 1))) (List.replicate (64 * (zaw free + 1)) 0) puts (by omega) (by rw [hwl];omega) (by simp)
 rw [hwl] at happ
 refine zit (caps:=?caps) (vs:=?vs) ?a1 ?a2 happ ?a3 ?a4 ?a5
 case a1=>first | rfl | (simp only [z7,zac,go_sem] <;> rfl)
 case a2=>simp only [go_sem] <;> rfl
 case a3=>rfl
 case a4=>rfl
 rintro e H2 ⟨_,id,g,M,rfl,hM,hr⟩
 refine zb (by simp (disch:=omega) only [go_sem] <;> rfl) ?_
 refine zd ?_
 have hbw:zbA (zaw free) T=(zaN (List.replicate (64 * (zaw free + 1)) 0) puts).set 0 root:=by rw [hroot,hputs];rfl
 have hrl:root < 2048:=by
  rw [hroot]
  obtain ⟨b,n,T',rfl,_⟩:=hT.one
  obtain ⟨u,hu,e⟩:=hT.blocks
  have hm:b∈(([b],[n])::T':List Lev).reverse.flatMap Prod.fst:=List.mem_flatMap.2 ⟨([b],[n]),by simp,by simp⟩
  rw [e] at hm
  exact (hff.1 b (List.mem_of_mem_take hm)).2
 obtain ⟨old,hold⟩:∃ old,((zaN (List.replicate (64 * (zaw free + 1)) 0) puts).map uv)[0]?=some old:=⟨_,List.getElem?_eq_getElem (by rw [List.length_map,zdo,hwl];omega)⟩
 have hset:((zaN (List.replicate (64 * (zaw free + 1)) 0) puts).map uv).set 0 (.int .u64 (root:Int))=(zbA (zaw free) T).map uv:=by rw [hbw];exact List.map_set.symm
 have hp0:0 < 64 * (zaw free + 1):=by omega
 generalize (zaN (List.replicate (64 * (zaw free + 1)) 0) puts).map uv=K0 at *
 (repeat refine zc ?_)
 (repeat refine zc ?_);refine za ?_;refine zb (by simp (disch:=omega) only [go_sem,h5,hr,hold,hset,hp0,hM] <;> rfl) ?_
 refine zd ?_
 have hbl:(zbA (zaw free) T).length=64 * (zaw free + 1):=zkn _ _
 have hrb:zcb (zbA (zaw free) T).length 0=true:=(zfZ _ _).2 (by rw [hbl];omega)
 have hsm2:zaI (zbA (zaw free) T).length:=by rw [hbl];unfold zaI;omega
 obtain ⟨ML,hML,hMl⟩:=hr3
 have hlast:zcf T=ML:=by
  have:=(zg4 (T:=T) (by intro e;rw [e] at hML;cases hML)).2
  rw [hML] at this;injection this with this;exact this.symm
 have hAll:=zts 1 (zbA (zaw free) T) 0 hsm2
 have hallE:zgC (zbA (zaw free) T) 0=.ret (.tuple [psv 0 l,iv 0]):=by
  unfold zgC
  rw [if_pos hrb]
  show (if (zaj (zbA (zaw free) T) 0).2=true then FE.ret (.tuple [psv 0 (zbK (zcf (zaj (zbA (zaw free) T) 0).1).2),iv 0]) else _)=_
  rw [hr1]
  show FE.ret (.tuple [psv 0 (zbK (zcf T).2),iv 0])=_
  rw [hlast,hMl]
 rw [hallE] at hAll
 have hCk:=zqU 1 (zbA (zaw free) T) 0 hsm2
 have hck:zds (zbA (zaw free) T) 0=0:=by
  unfold zds
  rw [if_pos hrb]
  show (if (zaj (zbA (zaw free) T) 0).2=true then if zeR (zbA (zaw free) T) (zaj (zbA (zaw free) T) 0).1=true then 0 else 220 else 220)=_
  rw [hr1]
  show (if zeR (zbA (zaw free) T) T=true then 0 else 220)=0
  rw [hr2];rfl
 rw [hck] at hCk
 have hSm:=zmY 0 p l l (by unfold zaI;omega) (by unfold zaI;omega)
 rw [decide_eq_true rfl] at hSm
 have hrow:(H2.set id (.row 24 1 g g ((zbA (zaw free) T).map uv)))[id]?=some (.row 24 1 g g ((zbA (zaw free) T).map uv)):=List.getElem?_set_self (List.getElem?_eq_some_iff.1 hr).1
 have hfz:Frz (H2.set id (.row 24 1 g g ((zbA (zaw free) T).map uv))) 1 (.sl id g 0 (64 * (zaw free + 1)) (2 * (64 * (zaw free + 1))) 1) (wv 1 (zbA (zaw free) T)) :=
  Frz.wholeM hrow (Nat.le_refl _) rfl (by rw [List.length_map,hbl]) (by rw [List.length_map,hbl];exact Nat.le_refl _) (fun v hv=>by obtain ⟨x,_,rfl⟩:=List.mem_map.1 hv;rfl) zli
 generalize H2.set id (.row 24 1 g g ((zbA (zaw free) T).map uv))=H3 at *
 (repeat refine zc ?_)
 refine za ?_
 refine zb (by simp (disch:=omega) only [go_sem] <;> rfl) ?_
 refine zH (caps:=?_) (vs:=?_) ?_ ?_ hAll ?_ ?_;rotate_left 2;(first | rfl | (simp only [z7,zac,go_sem] <;> rfl));(simp only [go_sem] <;> rfl)
 ·exact ⟨hfz,.int _ _,trivial⟩
 refine zb (by simp (disch:=omega) only [go_sem] <;> rfl) ?_
 refine zd ?_
 (repeat refine zc ?_)
 refine za ?_
 refine zb (by simp (disch:=omega) only [go_sem] <;> rfl) ?_
 refine zH (by first | rfl | (simp only [go_sem] <;> rfl)) (by simp only [go_sem] <;> rfl) (znD 0) ?_ ?_;(repeat (first | exact trivial | refine And.intro ?_ ?_ | exact .int _ _ | exact .bool _ | exact .list _ _ _ | exact .elem _ | exact .nilsl | exact .nil _ _ | exact .str _ | refine Frz.aggL ?_ | refine Frz.fnL ?_ | refine Frz.tupL ?_ | refine .iface ?_ | exact zn rfl rfl (by assumption)))
 refine zb (by simp (disch:=omega) only [go_sem,h0] <;> rfl) ?_
 refine zH (by first | rfl | (simp only [go_sem] <;> rfl)) (by simp only [go_sem] <;> rfl) hSm ?_ ?_;(repeat (first | exact trivial | refine And.intro ?_ ?_ | exact .int _ _ | exact .bool _ | exact .list _ _ _ | exact .elem _ | exact .nilsl | exact .nil _ _ | exact .str _ | refine Frz.aggL ?_ | refine Frz.fnL ?_ | refine Frz.tupL ?_ | refine .iface ?_ | exact zn rfl rfl (by assumption)))
 refine zb (by simp (disch:=omega) only [go_sem,h0] <;> rfl) ?_
 refine zH (caps:=?_) (vs:=?_) ?_ ?_ hCk ?_ ?_;rotate_left 2;(first | rfl | (simp only [z7,zac,go_sem] <;> rfl));(simp only [go_sem] <;> rfl)
 ·exact ⟨hfz,.int _ _,trivial⟩
 refine zb (by simp (disch:=omega) only [go_sem] <;> rfl) ?_
 refine zH (by first | rfl | (simp only [go_sem] <;> rfl)) (by simp only [go_sem] <;> rfl) (znD 0) ?_ ?_;(repeat (first | exact trivial | refine And.intro ?_ ?_ | exact .int _ _ | exact .bool _ | exact .list _ _ _ | exact .elem _ | exact .nilsl | exact .nil _ _ | exact .str _ | refine Frz.aggL ?_ | refine Frz.fnL ?_ | refine Frz.tupL ?_ | refine .iface ?_ | exact zn rfl rfl (by assumption)))
 refine zb (by simp (disch:=omega) only [go_sem] <;> rfl) ?_
 refine zH (by first | rfl | (simp only [go_sem] <;> rfl)) (by simp only [go_sem] <;> rfl) f9 ?_ ?_;(repeat (first | exact trivial | refine And.intro ?_ ?_ | exact .int _ _ | exact .bool _ | exact .list _ _ _ | exact .elem _ | exact .nilsl | exact .nil _ _ | exact .str _ | refine Frz.aggL ?_ | refine Frz.fnL ?_ | refine Frz.tupL ?_ | refine .iface ?_ | exact zn rfl rfl (by assumption)))
 refine zb (by simp (disch:=omega) only [go_sem] <;> rfl) ?_
 refine zd ?_
 refine zE ?_;(try simp only [zf,zi,zh,zg,zj]);refine zy (by simp only [T5,zI,go_sem] <;> rfl) ?_;simp only [zK]
 exact Frz.bool _
theorem zsn (p q:Nat) (l:List Pr) (fr:List Int):FN ET 5 [psv p l,.list q 1 (fr.map iv)] (.ret (.bool true)):=by
 by_cases h1:l.length≤500
 ·by_cases h2:fr.length≤60
  ·exact zsU p q l fr h1 h2
  have g1:¬ (500:Int) < (l.length:Nat):=by omega
  have g2:(60:Int) < (fr.length:Nat):=by omega
  refine zU f5 (Nat.le_of_ble_eq_true rfl) (.bool _) ?_
  (repeat (first | refine zc ?_ | (refine za ?_;refine zb (by simp (disch:=omega) only [go_sem] <;> rfl) ?_;refine zd ?_)))
  (repeat refine zc ?_)
  (repeat refine zc ?_);refine za ?_;refine zb (by simp (disch:=omega) only [go_sem,g1,g2,List.length_map] <;> rfl) ?_
  refine zd ?_
  refine zD (by simp only [go_sem] <;> rfl) ?_ ?_
  rotate_left
  ·intro h;cases h
  intro _
  (repeat refine zc ?_)
  refine za ?_
  refine zb (by simp (disch:=omega) only [go_sem] <;> rfl) ?_
  refine zH (by first | rfl | (simp only [go_sem] <;> rfl)) (by simp only [go_sem] <;> rfl) f9 ?_ ?_;(repeat (first | exact trivial | refine And.intro ?_ ?_ | exact .int _ _ | exact .bool _ | exact .list _ _ _ | exact .elem _ | exact .nilsl | exact .nil _ _ | exact .str _ | refine Frz.aggL ?_ | refine Frz.fnL ?_ | refine Frz.tupL ?_ | refine .iface ?_ | exact zn rfl rfl (by assumption)))
  refine zb (by simp (disch:=omega) only [go_sem] <;> rfl) ?_
  refine zd ?_
  refine zE ?_;(try simp only [zf,zi,zh,zg,zj]);refine zy (by simp only [T5,zI,go_sem] <;> rfl) ?_;simp only [zK]
  exact Frz.bool _
 ·have g1:(500:Int) < (l.length:Nat):=by omega
  refine zU f5 (Nat.le_of_ble_eq_true rfl) (.bool _) ?_
  (repeat (first | refine zc ?_ | (refine za ?_;refine zb (by simp (disch:=omega) only [go_sem] <;> rfl) ?_;refine zd ?_)))
  (repeat refine zc ?_)
  (repeat refine zc ?_);refine za ?_;refine zb (by simp (disch:=omega) only [go_sem,g1,List.length_map] <;> rfl) ?_
  refine zd ?_
  refine zD (by simp only [go_sem] <;> rfl) ?_ ?_
  rotate_left
  ·intro h;cases h
  intro _
  (repeat refine zc ?_)
  refine za ?_
  refine zb (by simp (disch:=omega) only [go_sem] <;> rfl) ?_
  refine zH (by first | rfl | (simp only [go_sem] <;> rfl)) (by simp only [go_sem] <;> rfl) f9 ?_ ?_;(repeat (first | exact trivial | refine And.intro ?_ ?_ | exact .int _ _ | exact .bool _ | exact .list _ _ _ | exact .elem _ | exact .nilsl | exact .nil _ _ | exact .str _ | refine Frz.aggL ?_ | refine Frz.fnL ?_ | refine Frz.tupL ?_ | refine .iface ?_ | exact zn rfl rfl (by assumption)))
  refine zb (by simp (disch:=omega) only [go_sem] <;> rfl) ?_
  refine zd ?_
  refine zE ?_;(try simp only [zf,zi,zh,zg,zj]);refine zy (by simp only [T5,zI,go_sem] <;> rfl) ?_;simp only [zK]
  exact Frz.bool _
end Fv
end Go.Proofs.YtfomlmhnmheenaaGreat
