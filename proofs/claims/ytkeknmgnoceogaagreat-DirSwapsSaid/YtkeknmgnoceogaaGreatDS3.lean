/- part 3 of the proof of dir_swaps. -/
import Derived.Test.YtkeknmgnoceogaaGreatDS2
set_option linter.unusedSimpArgs false
set_option linter.unusedVariables false
set_option linter.defProp false
set_option maxRecDepth 100000
namespace Go.Proofs.YtkeknmgnoceogaaGreat
namespace Fv
open Tw
attribute [go_sem] zbf zaE zau zaA evs ev okv zbz zab.cls zbl zbp zbu zi zn upd zD zaU zaX za7 za5 zba zaS za8 zaV zaZ za6 zar zbc za4 zbb zaP za9 za1 zax zbh zbi zaf zai zby PV.cells ofC zbn zF zav okF zad spl zaG zaL bnd zag zak zal zbj zbw zL zaz zaJ zaj zbt zbs zV lenP za zb zah zbm PV.toT zaF ze Nat.mul_mod_right Int.reduceOfNat Int.reduceToNat Int.cast_ofNat_Int Int.reduceLE Int.reduceLT Int.reduceAdd Int.reduceSub Int.reduceMul Int.reduceNegSucc Nat.reduceEqDiff if_true if_false ite_true ite_false decide_true decide_false Bool.not_true Bool.not_false and_true true_and and_self false_and and_false or_false false_or or_true true_or or_self List.length_cons List.length_nil List.length_map List.getElem?_cons_zero List.getElem?_cons_succ List.getElem?_map List.getElem?_nil Option.map_some Option.map_none Option.getD_some List.append_nil List.nil_append List.cons_append List.take_succ_cons List.take_zero List.drop_zero List.drop_succ_cons List.set_cons_zero List.set_cons_succ Int.toNat_natCast Int.natCast_nonneg Nat.le_refl Nat.zero_le Nat.reduceAdd Nat.reduceSub Nat.reduceMul Nat.reduceLeDiff Nat.reduceLT Bool.false_eq_true Bool.true_eq_false Nat.add_zero Nat.zero_add List.all_cons List.all_nil Bool.and_true Bool.and_self Bool.true_and Nat.reduceMod Nat.reduceDiv eq_self zaw zaI zaa zbk evN zbg zaM zbv zaB zbe zbx zaC List.filter_cons List.filter_nil List.contains_cons List.contains_nil Nat.reduceBEq zbC zbB za2 Option.some.injEq Option.isSome_some wrap_i64 wrap_u64 zaY Bool.or_self Bool.or_false Bool.false_or List.isEmpty_nil List.isEmpty_cons zae zbq zR zaH zaK zaO zbA zaN za0 za3 zap zX zam zat zY zaW zaq zas zC zj zh zg zA zf zq zaR zao zr zW cond_true cond_false zaQ zaT zan
attribute [go_sem ↓] reduceIte
theorem zLf{p:Prop}(h:p:=by(repeat(first|exact trivial|refine And.intro ?_ ?_|exact .int _ _|exact .bool _|exact .list _ _ _|exact .elem _|exact .nilsl|exact .nil _ _|exact .str _|refine Frz.aggL ?_|refine Frz.fnL ?_|refine Frz.tL ?_|refine .iface ?_|exact zek rfl rfl (by assumption)))):p:=h
section
variable {E:Env}{caught:LD}{rnd:LA}{ops:LO}{rest:zbN}{s s':FSt}{r:LO}{Q:FX->FSt->Prop}
variable {args:LX}{caps:LQ}{d:LA}{f:Nat}{g:Option (TOp×Bool)}{v:PV}{vs:LQ}
theorem zgo(k:W E caught rnd rest s' Q)(h:zbf ops s=(s',[]):=by simp(disch:=omega)only[go_sem]<;>rfl):W E caught rnd (.region ops) s (ze3 (fun s'=>W E caught rnd rest s' Q) Q):=zbF (zoE h (zb8 k))
theorem zrg(k:WO E caught r s' (zgr ops Q))(h:zbf ops s=(s',r):=by simp(disch:=omega)only[go_sem]<;>rfl):W E caught rnd (.region ops) s Q:=zbF (zoE h k)
theorem zfx(k:WO E caught r s' Q)(h:zbf ops s=(s',r):=by simp(disch:=omega)only[go_sem]<;>rfl):WO E caught ops s Q:=zoE h k
theorem zfc{x:TOp}{b:Bool}{p q:zbN}(h1:b=true->W E caught rnd p s Q)(h2:b=false->W E caught rnd q s Q)(hx:ev s.tm x=some (.bool b):=by simp only[go_sem]<;>rfl):W E caught rnd (.cond x p q) s Q:=zpz hx h1 h2
theorem zca{aS:LQ}(k:FN E f aS (.ret v))(hQ:WO E caught ops (s.put d v) Q)(hg:zau s.tm g=some true:=by first|rfl|(simp only[go_sem]<;>rfl))(ha:evs s.tm args=some (.fn f caps::vs):=by simp only[go_sem]<;>rfl)(hl:LF s.H 1 (vs++caps) aS:=by exact zLf):WO E caught (⟨d,.call,args,g⟩::ops) s Q:=zdq hg ha k hl hQ
theorem zcl{aS:LQ}(k:FN E f aS (.ret v))(hl:LF s.H 1 (vs++caps) aS)(hQ:WO E caught ops (s.put d v) Q)(hg:zau s.tm g=some true:=by first|rfl|(simp only[go_sem]<;>rfl))(ha:evs s.tm args=some (.fn f caps::vs):=by simp only[go_sem]<;>rfl):WO E caught (⟨d,.call,args,g⟩::ops) s Q:=zdq hg ha k hl hQ
theorem zcm{aS:LQ}{R:Prop}(k:FN E f aS (.ret v))(hk:R)(hQ:WO E caught ops (s.put d v) Q)(hg:zau s.tm g=some true:=by first|rfl|(simp only[go_sem]<;>rfl))(ha:evs s.tm args=some (.fn f caps::vs):=by simp only[go_sem]<;>rfl)(hl:R->LF s.H 1 (vs++caps) aS:=by intro hk;(repeat(first|exact trivial|refine And.intro ?_ ?_|exact .int _ _|exact .bool _|exact .list _ _ _|exact .elem _|exact .nilsl|exact .nil _ _|exact .str _|refine Frz.aggL ?_|refine Frz.fnL ?_|refine Frz.tL ?_|refine .iface ?_|exact zek rfl rfl (by assumption)));exact hk;(repeat(first|exact trivial|refine And.intro ?_ ?_|exact .int _ _|exact .bool _|exact .list _ _ _|exact .elem _|exact .nilsl|exact .nil _ _|exact .str _|refine Frz.aggL ?_|refine Frz.fnL ?_|refine Frz.tL ?_|refine .iface ?_|exact zek rfl rfl (by assumption)))):WO E caught (⟨d,.call,args,g⟩::ops) s Q:=zdq hg ha k (hl hk) hQ
theorem zcx{aS:LQ}(k:FN E f aS (.panic v))(hQ:Q (.panic v) s)(hg:zau s.tm g=some true:=by first|rfl|(simp only[go_sem]<;>rfl))(ha:evs s.tm args=some (.fn f caps::vs):=by simp only[go_sem]<;>rfl)(hl:LF s.H 1 (vs++caps) aS:=by exact zLf):WO E caught (⟨d,.call,args,g⟩::ops) s Q:=zue hg ha k hl hQ
theorem zcp{aS:LQ}(k:FP E f aS (.ret v))(hQ:WO E caught ops (s.put d v) Q)(hg:zau s.tm g=some true:=by first|rfl|(simp only[go_sem]<;>rfl))(ha:evs s.tm args=some (.fn f caps::vs):=by simp only[go_sem]<;>rfl)(he:vs++caps=aS:=by rfl)(hl:zmq aS:=by(repeat(first|exact trivial|refine And.intro ?_ ?_|exact Id0.int _ _|exact Id0.bool _|exact Id0.list _ _ _|exact Id0.elem _|exact Id0.nilsl|exact Id0.str _|exact zwf _ _ _))):WO E caught (⟨d,.call,args,g⟩::ops) s Q:=zrt hg ha k he hl hQ
end
section
variable {E:Env}{caught:LD}{tm:Nat->PV}{s:DF}{Q:FX->DF->Prop}{g:zc0}{l:AQ}{s1:DF}{o:zbH}
theorem zdl(k:WD E caught tm l s1 Q)(hx:zaw tm g.exe s=some s1:=by simp(disch:=omega)only[go_sem]<;>rfl)(hc:zbe s.K g.chk:=by first|exact trivial|simp only[go_sem])(ha:g.act=none:=by rfl):WD E caught tm (g::l) s Q:=zv0 hc hx ha k
def daF(tm:Nat->PV)(g:zc0)(s:DF):Option (DF×AR):=match zaw tm g.exe s with
 | none=>none
 | some s1=>match g.act with
  | none=>none
  | some o=>match zbk tm s1.nm o.args with
   | none=>none
   | some vs=>match zbu s1.H o.kind vs with
    | none=>none
    | some a=>some (s1,a)
def dnF(tm:Nat->PV)(g:zc0)(s:DF):Option (DF×LQ):=match zaw tm g.exe s with
 | none=>none
 | some s1=>match g.act with
  | none=>none
  | some o=>match zbk tm s1.nm o.args with
   | none=>none
   | some vs=>some (s1,vs)
variable {caps:LQ}{f:Nat}{nm':Nat->PV}{v:PV}{vs:LQ}
theorem zda{a:AR}(k:WD E caught tm l ⟨nm',s1.df,a.H,zaC a.W s1.K⟩ Q)(h:daF tm g s=some (s1,a))(hc:zbe s.K g.chk:=by first|exact trivial|simp only[go_sem])(ha:g.act=some o:=by rfl)(hw:zaa tm s1.nm o.guard=some true:=by first|rfl|(simp only[go_sem]<;>rfl))(hn:zbg s1.nm o.dst a.v=some nm':=by simp only[go_sem]<;>rfl):WD E caught tm (g::l) s Q:=by
 unfold daF at h
 split at h
 .cases h
 rename_i s2 hx;rw[ha]at h;dsimp only at h
 split at h
 .cases h
 rename_i vs hv
 split at h
 .cases h
 rename_i a2 hf;injection h with h;injection h with h1 h2;subst h1 h2;exact zEL hc hx ha hw hv hf hn k
theorem zgA(h:dnF tm g s=some (s1,vs))(ha:g.act=some o):zaw tm g.exe s=some s1/\zbk tm s1.nm o.args=some vs:=by
 unfold dnF at h
 grind
theorem zdn{aS:LQ}(k:FN E f aS (.ret v))(hQ:WD E caught tm l ⟨nm',s1.df,s1.H,s1.K⟩ Q)(h:dnF tm g s=some (s1,.fn f caps::vs))(hc:zbe s.K g.chk:=by first|exact trivial|simp only[go_sem])(ha:g.act=some o:=by rfl)(hk:o.kind=.call:=by rfl)(hw:zaa tm s1.nm o.guard=some true:=by first|rfl|(simp only[go_sem]<;>rfl))(hl:LF s1.H 1 (vs++caps) aS:=by exact zLf)(hn:zbg s1.nm o.dst v=some nm':=by simp only[go_sem]<;>rfl):WD E caught tm (g::l) s Q :=
 zlj hc (zgA h ha).1 ha hk hw (zgA h ha).2 k hl hn hQ
theorem zdx{aS:LQ}(k:FN E f aS (.panic v))(hQ:Q (.panic v) s1)(h:dnF tm g s=some (s1,.fn f caps::vs))(hc:zbe s.K g.chk:=by first|exact trivial|simp only[go_sem])(ha:g.act=some o:=by rfl)(hk:o.kind=.call:=by rfl)(hw:zaa tm s1.nm o.guard=some true:=by first|rfl|(simp only[go_sem]<;>rfl))(hl:LF s1.H 1 (vs++caps) aS:=by exact zLf):WD E caught tm (g::l) s Q :=
 zzO hc (zgA h ha).1 ha hk hw (zgA h ha).2 k hl hQ
theorem zdi{aS:LQ}(k:FN E f aS (.ret v))(hl:LF s1.H 1 (vs++caps) aS)(hQ:WD E caught tm l ⟨nm',s1.df,s1.H,s1.K⟩ Q)(h:dnF tm g s=some (s1,.fn f caps::vs))(hc:zbe s.K g.chk:=by first|exact trivial|simp only[go_sem])(ha:g.act=some o:=by rfl)(hk:o.kind=.call:=by rfl)(hw:zaa tm s1.nm o.guard=some true:=by first|rfl|(simp only[go_sem]<;>rfl))(hn:zbg s1.nm o.dst v=some nm':=by simp only[go_sem]<;>rfl):WD E caught tm (g::l) s Q :=
 zlj hc (zgA h ha).1 ha hk hw (zgA h ha).2 k hl hn hQ
theorem zdf{aS:LQ}(k:FP E f aS (.ret v))(hl:zmq aS)(hQ:WD E caught tm l ⟨nm',s1.df,s1.H,s1.K⟩ Q)(h:dnF tm g s=some (s1,.fn f caps::vs))(hc:zbe s.K g.chk:=by first|exact trivial|simp only[go_sem])(ha:g.act=some o:=by rfl)(hk:o.kind=.call:=by rfl)(hw:zaa tm s1.nm o.guard=some true:=by first|rfl|(simp only[go_sem]<;>rfl))(he:vs++caps=aS:=by rfl)(hn:zbg s1.nm o.dst v=some nm':=by simp only[go_sem]<;>rfl):WD E caught tm (g::l) s Q :=
 zBE hc (zgA h ha).1 ha hk hw (zgA h ha).2 k he hl hn hQ
end
section
variable {E:Env}{f:Nat}{F:zd}{args:LQ}{c:zbN}
variable {e:FE}
theorem zfn(hF:E.funcs.get f=some F)(hl:LbE e)(hW:W E E.caught none c ⟨zD args,[],[]⟩ (zej E F fun e' H=>zbo H 0 e' e))(hc:F.body=c:=by simp only[go_sem]<;>rfl)(hn:args.length<=F.N:=by exact zAL9 rfl):FN E f args e:=zCM hF hn hl (by rw[hc];exact hW)
theorem zfp(hF:E.funcs.get f=some F)(hW:W E E.caught none c ⟨zD args,[],[]⟩ (zej E F fun e' H=>zbo H 0 e' e))(hc:F.body=c:=by simp only[go_sem]<;>rfl)(hn:args.length<=F.N:=by exact zAL9 rfl):FP E f args e:=zCx hF hn (by rw[hc];exact hW)
theorem zro(hF:E.funcs.get f=some F){H:LP}{R:FE->LP->Prop}(hW:W E E.caught none c ⟨zD args,[],H⟩ (zej E F R))(hc:F.body=c:=by simp only[go_sem]<;>rfl)(hn:args.length<=F.N:=by exact zAL9 rfl):FO E f args H false R:=zs3 hF hn (by rw[hc];exact hW)
end
variable {p:Prop}{x y:Int}
theorem zt(h:p:=by first|exact trivial|rfl|simp[upd,zD]):p:=h
theorem zu{q:Prop}(h:q)(k:q->p:=by intro h;first|exact h|simp[upd,h]):p:=k h
theorem zwi(h:x=y/\-9223372036854775808<=x/\x<9223372036854775808:=by omega):IntKind.i64.wrap x=y:=by rw[wrap_i64 h.2.1 h.2.2];exact h.1
theorem zwu(h:x=y/\0<=x/\x<18446744073709551616:=by omega):IntKind.u64.wrap x=y:=by rw[wrap_u64 h.2.1 h.2.2];exact h.1
theorem zwh{E:Env}{caught:LD}{rnd:LA}{x:TOp}{id:Nat}{rest:zbN}{s:FSt}{Q:FX->FSt->Prop}{b:Bool}(h1:b=true->W E caught rnd rest s Q)(h2:b=false->Q (.exit id) s)(hx:ev s.tm x=some (.bool b):=by simp only[go_sem]<;>rfl):W E caught rnd (.seq (.cond x .skip (.exit id)) rest) s Q:=zC2 hx h1 h2
section
variable {p1 p10 p11 p2 p3 p4 p5 p6 p7 p8 p9:Prop}
theorem zr2(a1:p1)(a2:p2):p1/\p2:=⟨a1,a2⟩
theorem zr3(a1:p1)(a2:p2)(a3:p3):p1/\p2/\p3:=⟨a1,a2,a3⟩
theorem zr4(a1:p1)(a2:p2)(a3:p3)(a4:p4):p1/\p2/\p3/\p4:=⟨a1,a2,a3,a4⟩
theorem zr5(a1:p1)(a2:p2)(a3:p3)(a4:p4)(a5:p5):p1/\p2/\p3/\p4/\p5:=⟨a1,a2,a3,a4,a5⟩
theorem zr6(a1:p1)(a2:p2)(a3:p3)(a4:p4)(a5:p5)(a6:p6):p1/\p2/\p3/\p4/\p5/\p6:=⟨a1,a2,a3,a4,a5,a6⟩
theorem zr7(a1:p1)(a2:p2)(a3:p3)(a4:p4)(a5:p5)(a6:p6)(a7:p7):p1/\p2/\p3/\p4/\p5/\p6/\p7:=⟨a1,a2,a3,a4,a5,a6,a7⟩
theorem zr8(a1:p1)(a2:p2)(a3:p3)(a4:p4)(a5:p5)(a6:p6)(a7:p7)(a8:p8):p1/\p2/\p3/\p4/\p5/\p6/\p7/\p8:=⟨a1,a2,a3,a4,a5,a6,a7,a8⟩
theorem zr9(a1:p1)(a2:p2)(a3:p3)(a4:p4)(a5:p5)(a6:p6)(a7:p7)(a8:p8)(a9:p9):p1/\p2/\p3/\p4/\p5/\p6/\p7/\p8/\p9:=⟨a1,a2,a3,a4,a5,a6,a7,a8,a9⟩
theorem zfM(a1:p1)(a2:p2)(a3:p3)(a4:p4)(a5:p5)(a6:p6)(a7:p7)(a8:p8)(a9:p9)(a10:p10):p1/\p2/\p3/\p4/\p5/\p6/\p7/\p8/\p9/\p10:=⟨a1,a2,a3,a4,a5,a6,a7,a8,a9,a10⟩
theorem zel(a1:p1)(a2:p2)(a3:p3)(a4:p4)(a5:p5)(a6:p6)(a7:p7)(a8:p8)(a9:p9)(a10:p10)(a11:p11):p1/\p2/\p3/\p4/\p5/\p6/\p7/\p8/\p9/\p10/\p11:=⟨a1,a2,a3,a4,a5,a6,a7,a8,a9,a10,a11⟩
theorem zb0{p12:Prop}(a1:p1)(a2:p2)(a3:p3)(a4:p4)(a5:p5)(a6:p6)(a7:p7)(a8:p8)(a9:p9)(a10:p10)(a11:p11)(a12:p12):p1/\p2/\p3/\p4/\p5/\p6/\p7/\p8/\p9/\p10/\p11/\p12:=⟨a1,a2,a3,a4,a5,a6,a7,a8,a9,a10,a11,a12⟩
end
section
variable {E:Env}{caught:LD}{rnd:LA}{ops:LO}{rest:zbN}{s s':FSt}{r:LO}{Q:FX->FSt->Prop}{p:Prop}
variable {R:FE->LP->Prop}{q:zbN}{vs:LQ}{x:TOp}
theorem zbO(hF:p)(k:W E caught rnd rest s' Q)(h:p->zbf ops s=(s',[]):=by intro hF;simp(disch:=omega)only[go_sem,hF]<;>rfl):W E caught rnd (.region ops) s (ze3 (fun s'=>W E caught rnd rest s' Q) Q):=zgo k (h hF)
theorem zd6(hF:p)(k:WO E caught r s' (zgr ops Q))(h:p->zbf ops s=(s',r):=by intro hF;simp(disch:=omega)only[go_sem,hF]<;>rfl):W E caught rnd (.region ops) s Q:=zrg k (h hF)
theorem zbV(hF:p)(k:WO E caught r s' Q)(h:p->zbf ops s=(s',r):=by intro hF;simp(disch:=omega)only[go_sem,hF]<;>rfl):WO E caught ops s Q:=zfx k (h hF)
theorem zfr{F:zd}{tm:Nat->PV}{H:LP}(k:R (.ret (zlH vs)) H)(h:zbd tm H F.res=some vs:=by simp only[go_sem]<;>rfl):zej E F R .ret ⟨tm,[],H⟩:=zc8 h k
theorem zco{d:LA}{args:LX}{g:Option (TOp×Bool)}{f:Nat}{caps aS:LQ}{b:Bool}{H0:LP}(k:FO E f aS H0 b R)(hQ:∀e H',R e H'->zBO E caught ops s d Q e H')(hg:zau s.tm g=some true:=by first|rfl|(simp only[go_sem]<;>rfl))(ha:evs s.tm args=some (.fn f caps::vs):=by simp only[go_sem]<;>rfl)(he:vs++caps=aS:=by rfl)(hH:s.H=H0:=by rfl):WO E caught (⟨d,.call,args,g⟩::ops) s Q:=zmc hg ha k he hH hQ
theorem zct{p:zbN}(h1:W E caught rnd p s Q)(hx:ev s.tm x=some (.bool true):=by simp only[go_sem]<;>rfl):W E caught rnd (.cond x p q) s Q:=zpz hx (fun _=>h1) (fun h=>by cases h)
theorem zcf{p:zbN}(h1:W E caught rnd q s Q)(hx:ev s.tm x=some (.bool false):=by simp only[go_sem]<;>rfl):W E caught rnd (.cond x p q) s Q:=zpz hx (fun h=>by cases h) (fun _=>h1)
end
section
variable {E:Env}{caught:LD}{tm:Nat->PV}{s:DF}{Q:FX->DF->Prop}{g:zc0}{l:AQ}{s1:DF}{o:zbH}{p:Prop}
variable {H0:LP}{R:FE->LP->Prop}{a:AR}{caps:LQ}{f:Nat}{nm':Nat->PV}{vs:LQ}
theorem zeW(hF:p)(k:WD E caught tm l s1 Q)(hx:p->zaw tm g.exe s=some s1:=by intro hF;simp(disch:=omega)only[go_sem,hF]<;>rfl)(hc:zbe s.K g.chk:=by first|exact trivial|simp only[go_sem])(ha:g.act=none:=by rfl):WD E caught tm (g::l) s Q:=zdl k (hx hF) hc ha
theorem zhM(hF:p)(k:WD E caught tm l s1 Q)(hx:p->zaw tm g.exe s=some s1:=by intro hF;simp(disch:=omega)only[go_sem,hF]<;>rfl)(hc:p->zbe s.K g.chk:=by intro hF;first|exact trivial|simp only[go_sem,hF])(ha:g.act=none:=by rfl):WD E caught tm (g::l) s Q:=zdl k (hx hF) (hc hF) ha
theorem zb3(hF:p)(k:WD E caught tm l ⟨nm',s1.df,a.H,zaC a.W s1.K⟩ Q)(h:p->daF tm g s=some (s1,a):=by intro hF;simp(disch:=omega)only[go_sem,hF]<;>rfl)(hc:zbe s.K g.chk:=by first|exact trivial|simp only[go_sem])(ha:g.act=some o:=by rfl)(hw:zaa tm s1.nm o.guard=some true:=by first|rfl|(simp only[go_sem]<;>rfl))(hn:zbg s1.nm o.dst a.v=some nm':=by simp only[go_sem]<;>rfl):WD E caught tm (g::l) s Q:=zda k (h hF) hc ha hw hn
theorem zdb(hF:p)(k:WD E caught tm l ⟨nm',s1.df,a.H,zaC a.W s1.K⟩ Q)(h:p->daF tm g s=some (s1,a):=by intro hF;simp(disch:=omega)only[go_sem,hF]<;>rfl)(hc:p->zbe s.K g.chk:=by intro hF;first|exact trivial|simp only[go_sem,hF])(ha:g.act=some o:=by rfl)(hw:zaa tm s1.nm o.guard=some true:=by first|rfl|(simp only[go_sem]<;>rfl))(hn:zbg s1.nm o.dst a.v=some nm':=by simp only[go_sem]<;>rfl):WD E caught tm (g::l) s Q:=zda k (h hF) (hc hF) ha hw hn
theorem zdo{aS:LQ}{same:Bool}(k:FO E f aS H0 same R)(hQ:∀e H',R e H'->zwa E caught tm l s1 o.dst same Q e H')(h:dnF tm g s=some (s1,.fn f caps::vs))(hc:zbe s.K g.chk:=by first|exact trivial|simp only[go_sem])(ha:g.act=some o:=by rfl)(hk:o.kind=.call:=by rfl)(hw:zaa tm s1.nm o.guard=some true:=by first|rfl|(simp only[go_sem]<;>rfl))(he:vs++caps=aS:=by rfl)(hH:s1.H=H0:=by rfl):WD E caught tm (g::l) s Q:=zrc hc (zgA h ha).1 ha hk hw (zgA h ha).2 k he hH hQ
theorem zxB{aS:LQ}{same:Bool}(hF:p)(k:FO E f aS H0 same R)(hQ:∀e H',R e H'->zwa E caught tm l s1 o.dst same Q e H')(h:p->dnF tm g s=some (s1,.fn f caps::vs):=by intro hF;simp(disch:=omega)only[go_sem,hF]<;>rfl)(hc:zbe s.K g.chk:=by first|exact trivial|simp only[go_sem])(ha:g.act=some o:=by rfl)(hk:o.kind=.call:=by rfl)(hw:zaa tm s1.nm o.guard=some true:=by first|rfl|(simp only[go_sem]<;>rfl))(he:vs++caps=aS:=by rfl)(hH:s1.H=H0:=by rfl):WD E caught tm (g::l) s Q:=zdo k hQ (h hF) hc ha hk hw he hH
theorem zcw{aS:LQ}{v:PV}(hF:p)(k:FN E f aS (.ret v))(hQ:WD E caught tm l ⟨nm',s1.df,s1.H,s1.K⟩ Q)(h:p->dnF tm g s=some (s1,.fn f caps::vs):=by intro hF;simp(disch:=omega)only[go_sem,hF]<;>rfl)(hc:zbe s.K g.chk:=by first|exact trivial|simp only[go_sem])(ha:g.act=some o:=by rfl)(hk:o.kind=.call:=by rfl)(hw:zaa tm s1.nm o.guard=some true:=by first|rfl|(simp only[go_sem]<;>rfl))(hl:LF s1.H 1 (vs++caps) aS:=by exact zLf)(hn:zbg s1.nm o.dst v=some nm':=by simp only[go_sem]<;>rfl):WD E caught tm (g::l) s Q:=zdn k hQ (h hF) hc ha hk hw hl hn
end
section
variable {p P R:Prop}
variable {q r:Prop}
theorem zG(k:R)(h:R->P:=by intro hk;(repeat(first|refine zbG ?_|refine zgo ?_));exact hk):P:=h k
theorem zGF(hF:p)(k:R)(h:p->R->P:=by intro hF hk;(repeat(first|refine zbG ?_|refine zbO hF ?_));exact hk):P:=h hF k
theorem zI(k:R)(h:R->P:=by intro hk;(repeat refine zbG ?_);refine zrg ?_;exact hk):P:=h k
theorem zIF(hF:p)(k:R)(h:p->R->P:=by intro hF hk;(repeat refine zbG ?_);refine zd6 hF ?_;exact hk):P:=h hF k
theorem zJ(k:R)(h:R->P:=by intro hk;(repeat refine zbG ?_);refine zrg ?_;refine zdg ?_;exact hk):P:=h k
theorem zJF(hF:p)(k:R)(h:p->R->P:=by intro hF hk;(repeat refine zbG ?_);refine zd6 hF ?_;refine zdg ?_;exact hk):P:=h hF k
theorem zK(k:R)(h:R->P:=by intro hk;refine zfx ?_;refine zdg ?_;exact hk):P:=h k
theorem zKF(hF:p)(k:R)(h:p->R->P:=by intro hF hk;refine zbV hF ?_;refine zdg ?_;exact hk):P:=h hF k
theorem zN(k:R)(h:R->P:=by intro hk;refine zfx ?_;refine zb8 ?_;exact hk):P:=h k
theorem zNF(hF:p)(k:R)(h:p->R->P:=by intro hF hk;refine zbV hF ?_;refine zb8 ?_;exact hk):P:=h hF k
theorem zO(k:R)(h:R->P:=by intro hk;(repeat(first|refine zbG ?_|refine zgo ?_));refine zbK (zfr ?_);exact hk):P:=h k
theorem zOF(hF:p)(k:R)(h:p->R->P:=by intro hF hk;(repeat(first|refine zbG ?_|refine zbO hF ?_));refine zbK (zfr ?_);exact hk):P:=h hF k
theorem zP(k:R)(h:R->P:=by intro hk;refine zfx ?_;refine zb8 ?_;refine zbK (zfr ?_);exact hk):P:=h k
theorem zPF(hF:p)(k:R)(h:p->R->P:=by intro hF hk;refine zbV hF ?_;refine zb8 ?_;refine zbK (zfr ?_);exact hk):P:=h hF k
theorem zQ(k:R)(h:R->P:=by intro hk;refine zdl ?_;refine zb9 ?_;simp only[go_sem];exact hk):P:=h k
theorem zQF(hF:p)(k:R)(h:p->R->P:=by intro hF hk;refine zeW hF ?_;refine zb9 ?_;simp only[go_sem];exact hk):P:=h hF k
theorem zS(k:R)(h:R->P:=by intro hk;(repeat(first|refine zbG ?_|refine zgo ?_));refine zct ?_;exact hk):P:=h k
theorem zSF(hF:p)(k:R)(h:p->R->P:=by intro hF hk;(repeat(first|refine zbG ?_|refine zbO hF ?_));refine zct ?_;exact hk):P:=h hF k
theorem zT(k:R)(h:R->P:=by intro hk;(repeat(first|refine zbG ?_|refine zgo ?_));refine zcf ?_;exact hk):P:=h k
theorem zTF(hF:p)(k:R)(h:p->R->P:=by intro hF hk;(repeat(first|refine zbG ?_|refine zbO hF ?_));refine zcf ?_;exact hk):P:=h hF k
theorem zU(k:R)(h:R->P:=by intro hk;refine zct ?_;(repeat(first|refine zbG ?_|refine zgo ?_));refine zbK (zfr ?_);exact hk):P:=h k
theorem zUF(hF:p)(k:R)(h:p->R->P:=by intro hF hk;refine zct ?_;(repeat(first|refine zbG ?_|refine zbO hF ?_));refine zbK (zfr ?_);exact hk):P:=h hF k
theorem zB(k:R)(h:R->P:=by intro hk;(repeat refine zbG ?_);exact hk):P:=h k
theorem zM(c:q)(k:R)(h:q->R->P:=by intro hc hk;(repeat refine zbG ?_);refine zrg ?_;refine zca hc ?_;refine zfx ?_;refine zb8 ?_;exact hk):P:=h c k
theorem zMG(c:q)(k:R)(h:q->R->P:=by intro hc hk;(repeat(first|refine zbG ?_|refine zgo ?_));refine zrg ?_;refine zca hc ?_;refine zfx ?_;refine zb8 ?_;exact hk):P:=h c k
theorem zCN(c:q)(k:R)(h:q->R->P:=by intro hc hk;refine zca hc ?_;refine zfx ?_;refine zb8 ?_;exact hk):P:=h c k
theorem zBb(k:R)(h:R->P:=by intro hk;(repeat refine zbG ?_);refine zay ?_;exact hk):P:=h k
theorem zBd(k:R)(h:R->P:=by intro hk;(repeat refine zbG ?_);refine zbU ?_;exact hk):P:=h k
theorem zBr(k:R)(h:R->P:=by intro hk;(repeat refine zbG ?_);refine zbF ?_;exact hk):P:=h k
theorem zH(k:R)(h:R->P:=by intro hk;refine zcf ?_;refine zbX ?_;exact hk):P:=h k
theorem zTH(k:R)(h:R->P:=by intro hk;(repeat(first|refine zbG ?_|refine zgo ?_));refine zcf ?_;refine zbX ?_;exact hk):P:=h k
theorem zh3(hF:p)(k:R)(h:p->R->P:=by intro hF hk;(repeat(first|refine zbG ?_|refine zbO hF ?_));refine zcf ?_;refine zbX ?_;exact hk):P:=h hF k
theorem ztd[Decidable q](h:decide q=true)(k:q->r:=by intro h;omega):r:=k (of_decide_eq_true h)
theorem zfd[Decidable q](h:decide q=false)(k:¬q->r:=by intro h;omega):r:=k (of_decide_eq_false h)
end
theorem zLF(h:p:=by(repeat(first|exact trivial|refine And.intro ?_ ?_|refine Frz.tL ?_|refine Frz.aggL ?_|exact Frz.int _ _|exact Frz.bool _|exact Frz.list _ _ _|exact Frz.elem _|exact Frz.nilsl|exact Frz.nil _ _|exact Frz.str _))):p:=h
def zyB:=And.intro (@zAR9 zc) (And.intro (@zAR9 PV) (And.intro (@zAF9 zc) (@zAF9 PV)))
def zyC:=And.intro (@zDA9 Nat PV) (And.intro (@zDA9 Int PV) (@zDA9 (Nat×Nat) PV))
theorem zLh{a b P:Prop}(hF:p)(ha:a)(hb:b)(h:p->a->b->P:=by intro hF ha hb;(try refine zjA ?_);refine zbG (zbO hF ?_);refine zwh ?_ ?_;exact ha;exact hb):P:=h hF ha hb
section
variable {E:Env}{caught:LD}{rnd:LA}{c:zbN}{s:FSt}{Q:FX->FSt->Prop}{p P:Prop}
theorem zSk(k:W E caught rnd c s Q)(h:W E caught rnd c s Q->P:=by intro hk;refine zbX ?_;exact hk):P:=h k
end
section
variable {E:Env}{caught:LD}{rnd:LA}{s:FSt}{Q:FX->FSt->Prop}{x:TOp}{u v:zbN}{p:Prop}
theorem zj8(hF:p)(h1:W E caught rnd u s Q)(hx:p->ev s.tm x=some (.bool true):=by intro hF;simp only[go_sem,hF]<;>rfl):W E caught rnd (.cond x u v) s Q:=zct h1 (hx hF)
theorem zp4(hF:p)(h1:W E caught rnd v s Q)(hx:p->ev s.tm x=some (.bool false):=by intro hF;simp only[go_sem,hF]<;>rfl):W E caught rnd (.cond x u v) s Q:=zcf h1 (hx hF)
theorem zgP(hF:p){b:Bool}(h1:b=true->W E caught rnd u s Q)(h2:b=false->W E caught rnd v s Q)(hx:p->ev s.tm x=some (.bool b):=by intro hF;simp only[go_sem,hF]<;>rfl):W E caught rnd (.cond x u v) s Q:=zfc h1 h2 (hx hF)
end
variable {P:Prop}{i:Nat}{α:Type}{l:List α}{x:α}
theorem zHF{E:Env}{caught:LD}{rnd:LA}{c:zbN}{s:FSt}{Q:FX->FSt->Prop}(hF:p)(k:W E caught rnd c s Q)(h:p->W E caught rnd c s Q->P:=by intro hF hk;refine zcf ?_ (by simp only[go_sem,hF]<;>rfl);refine zbX ?_;exact hk):P:=h hF k
theorem zGI{R:Prop}(k:R)(h:R->P:=by intro hk;(repeat(first|refine zbG ?_|refine zgo ?_));refine zrg ?_;exact hk):P:=h k
theorem zex(h:i<l.length):∃x,l[i]?=some x:=⟨_,zAA9 h⟩
theorem zmg{β:Type}{f:α->β}(h:l[i]?=some x):(l.map f)[i]?=some (f x):=by rw[zAT9,h];rfl
theorem zId(h:p:=by(repeat(first|exact trivial|refine And.intro ?_ ?_|exact Id0.int _ _|exact Id0.bool _|exact Id0.list _ _ _|exact Id0.elem _|exact Id0.nilsl|exact Id0.str _|exact zwf _ _ _))):p:=h
theorem zmm{f:α->PV}{z:Nat}(h:∀x,(f x).cells.length=z:=by intro _;rfl):∀v∈l.map f,v.cells.length=z:=fun v hv=>by
 obtain⟨x,_,rfl⟩:=zAJ9.1 hv;exact h x
theorem zdc(h:l[i]?=some x):l.drop i=x::l.drop (i+1):=by
 obtain⟨h1,e⟩:=zAB9.1 h;rw[zAK9 h1,e]
variable {E:Env}
theorem HR.adopt{B:Ba}{c:Cx}{H:LP}{h h':TH}(hr:HR B c H h)(hn:h.next<=h'.next)(hk:∀b,b<h.next->h'.get b=h.get b){b d z:Nat}(hb:h.next<=b)(hb2:b<h'.next){o:zc}(ho:OR (c.add H.length b d z) h' H.length o) :
  Mo c (c.add H.length b d z) h h'/\HR B (c.add H.length b d z) (H++[o]) h':=by
 have hnone:c.ρ H.length=none:=by
  cases hc:c.ρ H.length with
  | none=>rfl
  | some y=>have:=(hr.own _ _ hc).2.2;omega
 have m:Mo c (c.add H.length b d z) h h':=⟨fun _ _ h=>h,fun id y hy=>by
  show (if id=H.length then _ else _)=_;rw[if_neg (fun e=>by subst e;rw[hnone]at hy;cases hy)];exact hy,fun _ h=>h,fun p b hb g o n cs hc=>zqq hk hc⟩
 have hρ:∀id y,(c.add H.length b d z).ρ id=some y->(id=H.length/\y=(b,d,z))\/c.ρ id=some y:=fun id y hy=>by
  have hy:(if id=H.length then some (b,d,z)else c.ρ id)=some y:=hy
  grind
 have hle:=hr.le;refine⟨m,⟨zBO9 hr.le hn,fun x hx=>?_,hr.old,fun p x hx=>?_,fun id y hy=>?_,fun id hL=>?_,fun id id' y y' hy hy' e=>?_,fun id o' ho'=>?_⟩⟩
 .rw[hk x (zBF9 hx hr.le)];exact hr.keep x hx
 .obtain⟨h1,h2⟩:=hr.S p x hx
  grind
 .rw[zAF9];rcases hρ id y hy with⟨rfl,rfl⟩|hy
  .grind
  .obtain⟨h1,h2,h3⟩:=hr.own id y hy;omega
 .obtain⟨h1,h2⟩:=hr.lz id hL
  grind
 .rcases hρ id y hy with⟨rfl,rfl⟩|hy
  .rcases hρ id' y' hy' with⟨rfl,rfl⟩|hy'
   .rfl
   .have:=(hr.own _ _ hy').2.1;dsimp only at e;omega
  .rcases hρ id' y' hy' with⟨rfl,rfl⟩|hy'
   .have:=(hr.own _ _ hy).2.1;dsimp only at e;omega
   .exact hr.inj _ _ _ _ hy hy' e
 .by_cases hi:id<H.length
  .rw[zBD9 hi]at ho';refine(hr.obj id o' ho').move m ?_ (fun h=>h) fun y hy=>hk _ (hr.own _ _ hy).2.1;show (if id=H.length then _ else _)=_
   grind
  grind
def zwF(l:LQ):Prop:=∀v∈l,∃k n,v=.int k n
theorem FO.own1{f:Nat}{args aS:LQ}{H:LP}{l:LQ}{e0 z n:Nat}(k:FO E f aS [] false (fun e' H'=>∃id g M,e'=.ret (.sl id g 0 n (2*n) z)/\M<=g/\H'[id]?=some (.row e0 z g M l)))(hl:LF H 1 args aS)(hi:zwF (l.flatMap PV.cells))(hne:l ≠ []) :
  FO E f args H true (fun e' H'=>∃g M,e'=.ret (.sl H.length g 0 n (2*n) z)/\M<=g/\H'=H++[.row e0 z g M l]):=fun B c h us hr ha=>by
 have h1:=LF.ok hr (S:=zos c) (fun p b hb=>.inl hb) (fun id x hx=>.inr ⟨rfl,id,x,hx,rfl⟩) hl ha;have hS:∀p b,zos c p b->b<h.next:=fun p b hb=>by
  rcases hb with hb|⟨_,id,x,hx,rfl⟩
  .exact(hr.S p b hb).1
  .exact(hr.own _ _ hx).2.1
 have hr1:HR ⟨h.next,h,zos c⟩ ⟨zos c,fun _=>none,fun _=>False⟩ [] h:=⟨zAC9 _,fun _ _=>rfl,fun p b hb=>.inl hb,fun p b hb=>⟨hS p b hb,fun id x hx=>(by cases hx)⟩,fun id x hx=>(by cases hx),fun id hx=>hx.elim,fun id id' x x' hx=>(by cases hx),fun id o ho=>(by simp at ho)⟩
 obtain⟨r,h',e',H',c',e1,⟨id,g,M,rfl,hM,hrow⟩,m1,k1,re,_⟩:=k _ _ h us hr1 (LR.pure (c:=⟨zos c,fun _=>none,fun _=>False⟩) h1);have hn:=k1.le;have hk:∀b,b<h.next->h'.get b=h.get b:=fun b hb=>k1.keep b hb
 cases r with
 | panic u=>exact re.elim
 | ret u =>
  have re:VR c' h' (.sl id g 0 n (2*n) z) u:=re;rcases k1.obj id _ hrow with⟨h0,_⟩|⟨b,d,G',M',cells,cs,r1,r2,r3,r4,r5,r6⟩
  .exact absurd h0 hne
  obtain⟨o1,o2,_⟩:=k1.own id _ r1;have o1:h.next<=b:=o1;rcases sl_inv re with⟨_,_,_,_,_,hL⟩|⟨b',d',g',hρ,hgd,rfl⟩
  .have hl1:=(k1.lz id hL).2 _ r1;dsimp only at hl1;omega
  rw[r1]at hρ;injection hρ with hρ;injection hρ with hρ1 hρ2;injection hρ2 with hρ2 hρ3;subst hρ1 hρ2;have r6':ER (VR (c.add H.length b d z) h') z l cs:=by
   refine⟨r6.one,r6.all.1,fun i x y hx hy=>?_⟩;obtain⟨kk,nn,rfl⟩:=hi x (zAE9 hx);have:=r6.all.2 i _ y hx hy;obtain rfl:=this.int_inv;exact .pure (.int _ _)
  obtain⟨m,hr2⟩:=hr.adopt hn hk (z:=z) o1 o2 (o:=.row e0 z g M l) (.inr ⟨b,d,G',M',cells,cs,add_same ..,r2,r3,r4,r5,r6'⟩);refine⟨_,h',_,_,_,e1,⟨g,M,rfl,hM,rfl⟩,m,hr2,?_,fun _ id x hx=>hk _ (hr.own _ _ hx).2.1⟩;show VR _ h' (.sl H.length g 0 n (2*n) z) _;rw[hgd];exact .sl (add_same ..)
def zr0:LO->Bool
 | []=>true
 | o::l=>Nat.beq o.kind.cls 0&&zr0 l
def znh:zbN->Bool
 | .region ops=>zr0 ops
 | .seq a b=>znh a&&znh b
 | .skip=>true
 | .ret=>true
 | _=>false
variable {C:zb1}
theorem St.put_hd(s:St)(d:LA)(v:TV):(s.put d v).h=s.h/\(s.put d v).df=s.df:=by
 unfold St.put;split<;>exact⟨rfl,rfl⟩
theorem zpZ{caught:LD}:∀(l:LO) (s:St) (r:TS),zr0 l=true->zet C caught l s=some r->∃s',r=.go s'/\s'.h=s.h/\s'.df=s.df
 | [],s,r,_,h=>by injection h with h;exact⟨s,h.symm,rfl,rfl⟩
 | o::l,s,r,hp,h=>by
  unfold zr0 at hp;rw[zAI9]at hp;have hc:=zAD9 hp.1;have h1:∀t,zfu C caught o s=some t->∃s',t=.go s'/\s'.h=s.h/\s'.df=s.df:=fun t ht=>by
   unfold zfu at ht
   split at ht
   .cases ht
   .injection ht with ht;exact⟨_,ht.symm,St.put_hd _ _ _⟩
   .split at ht
    .cases ht
    .unfold zjy at ht;rw[hc]at ht;change zw7 _ _ _=_ at ht;unfold zw7 at ht
     split at ht
     .injection ht with ht;exact⟨_,ht.symm,St.put_hd _ _ _⟩
     .cases ht
  unfold zet at h
  cases hs:zfu C caught o s with
  | none=>rw[hs]at h;cases h
  | some t =>
   obtain⟨s1,rfl,e1,e2⟩:=h1 t hs;rw[hs]at h;obtain⟨s2,e3,e4,e5⟩:=zpZ l s1 r hp.2 h;exact⟨s2,e3,e4.trans e1,e5.trans e2⟩
theorem zmL{caught:LD}{N:Nat}{rnd:LA}:∀(c:zbN) (s s':St) (x:TX),znh c=true->zbR C caught N rnd c s=some (x,s')->s'.h=s.h/\s'.df=s.df
 | .skip,s,s',x,_,h=>by unfold zbR at h;injection h with h;injection h with _ h;subst h;exact⟨rfl,rfl⟩
 | .ret,s,s',x,_,h=>by unfold zbR at h;injection h with h;injection h with _ h;subst h;exact⟨rfl,rfl⟩
 | .region ops,s,s',x,hp,h=>by
  unfold zbR at h
  cases hs:zet C caught ops s with
  | none=>rw[hs]at h;cases h
  | some r =>
   obtain⟨s1,rfl,e1,e2⟩:=zpZ ops s r hp hs;rw[hs]at h;injection h with h;injection h with _ h;subst h;exact⟨e1,e2⟩
 | .seq a b,s,s',x,hp,h=>by
  unfold znh at hp;rw[zAI9]at hp;unfold zbR at h
  cases ha:zbR C caught N rnd a s with
  | none=>rw[ha]at h;cases h
  | some r =>
   obtain⟨y,s1⟩:=r;obtain⟨e1,e2⟩:=zmL a s s1 y hp.1 ha;rw[ha]at h
   cases y with
   | norm =>
    obtain⟨e3,e4⟩:=zmL b s1 s' x hp.2 h;exact⟨e3.trans e1,e4.trans e2⟩
   | _=>injection h with h;injection h with _ h;subst h;exact⟨e1,e2⟩
theorem FO.pure{f:Nat}{F:zd}{args:LQ}{H:LP}{R:FE->LP->Prop}{b:Bool}(hF:E.funcs.get f=some F)(hp:znh F.body=true)(k:FO E f args H b R):FO E f args H true R:=fun B c h us hr ha=>by
 obtain⟨r,h',e,H',c',e1,q,m,hr',re,_⟩:=k B c h us hr ha;refine⟨r,h',e,H',c',e1,q,m,hr',re,fun _ id x hx=>?_⟩;obtain⟨K,hK⟩:=e1;have h1:=hK (K+1) zo (K+1) zo;change Tw.zbf (EN E (K+1)) (zc7 (EN E (K+1)) K) f us h=_ at h1;unfold Tw.zbf at h1;rw[show (EN E (K+1)).funcs.get f=some F from hF]at h1;dsimp only at h1;have key:h'=h:=by
  cases hb:Nat.ble us.length F.N with
  | false=>rw[hb]at h1;cases h1
  | true =>
   rw[hb,cond_true]at h1
   cases ht:zbR (zc7 (EN E (K+1)) K) (EN E (K+1)).caught (EN E (K+1)).N none F.body ⟨Tr.putL .nil 0 us,[],h⟩with
   | none=>rw[ht]at h1;cases h1
   | some t =>
    obtain⟨y,s'⟩:=t;obtain⟨e2,e3⟩:=zmL _ _ _ _ hp ht;dsimp only at e2 e3;rw[ht]at h1
    cases y with
    | norm =>
     change zfQ (EN E (K+1)) F s'.tm (zc3 (EN E (K+1)) (zc7 (EN E (K+1)) K) s'.df .returning s'.h)=_ at h1;rw[e3,e2]at h1;unfold zc3 zfQ at h1;grind
    | ret =>
     change zfQ (EN E (K+1)) F s'.tm (zc3 (EN E (K+1)) (zc7 (EN E (K+1)) K) s'.df .returning s'.h)=_ at h1;rw[e3,e2]at h1;unfold zc3 zfQ at h1;grind
    | panic v =>
     change zfQ (EN E (K+1)) F s'.tm (zc3 (EN E (K+1)) (zc7 (EN E (K+1)) K) s'.df (.panicking v) s'.h)=_ at h1;rw[e3,e2]at h1;unfold zc3 zfQ at h1;grind
    | _=>cases h1
 rw[key]
end Fv
end Go.Proofs.YtkeknmgnoceogaaGreat
