/- part 3 of the proof of dir_takes. -/
import Derived.Test.YtkeknmgnoceogaaGreatDT2
set_option linter.unusedSimpArgs false
set_option linter.unusedVariables false
set_option linter.defProp false
namespace Go.Proofs.YtkeknmgnoceogaaGreat
namespace Fv
open Tw
attribute [go_sem] zbm zaI zaA zaF evs ev okv zbJ zaf.cls zbu zbz zbD zD zHV upd zn za0 zaU zaV zaY zbd zbh za1 zbg za2 zbi zax za7 zbe zbc za9 zaZ za8 zaz zbl zbo zai zal zbI PV.cells ofC zbw zR zay okF zag spl zaJ zaP bnd zak zao zan zbs zbG zV zaE zaQ zam zbE zbC zY lenP za zb zaj zbv PV.toT zaH zg Nat.mul_mod_right Int.reduceOfNat Int.reduceToNat Int.cast_ofNat_Int Int.reduceLE Int.reduceLT Int.reduceAdd Int.reduceSub Int.reduceMul Int.reduceNegSucc Nat.reduceEqDiff if_true if_false ite_true ite_false decide_true decide_false Bool.not_true Bool.not_false and_true true_and and_self false_and and_false or_false false_or or_true true_or or_self List.length_cons List.length_nil List.length_map List.getElem?_cons_zero List.getElem?_cons_succ List.getElem?_map List.getElem?_nil Option.map_some Option.map_none Option.getD_some List.append_nil List.nil_append List.cons_append List.take_succ_cons List.take_zero List.drop_zero List.drop_succ_cons List.set_cons_zero List.set_cons_succ Int.toNat_natCast Int.natCast_nonneg Nat.le_refl Nat.zero_le Nat.reduceAdd Nat.reduceSub Nat.reduceMul Nat.reduceLeDiff Nat.reduceLT Bool.false_eq_true Bool.true_eq_false Nat.add_zero Nat.zero_add List.all_cons List.all_nil Bool.and_true Bool.and_self Bool.true_and Nat.reduceMod Nat.reduceDiv eq_self zaC zaO zab zbt evN zbq zaR zbF zaG zbn zbH zaK List.filter_cons List.filter_nil List.contains_cons List.contains_nil Nat.reduceBEq zbL zbM zbb Option.some.injEq Option.isSome_some wrap_i64 wrap_u64 zba Bool.or_self Bool.or_false Bool.false_or List.isEmpty_nil List.isEmpty_cons zah zbB zW zaN zaM za3 zbK zaT za6 zbf zav zZ zar zaq zaa zaX zas zaw zIi zC zj zi zL zf zF za4 zat zA zX cond_true cond_false zaW za5 zau
attribute [go_sem ↓] reduceIte
theorem zLf{p:Prop}(h:p:=by(repeat(first|exact trivial|refine And.intro ?_ ?_|exact .int _ _|exact .bool _|exact .list _ _ _|exact .elem _|exact .nilsl|exact .nil _ _|exact .str _|refine Frz.aggL ?_|refine Frz.fnL ?_|refine Frz.tL ?_|refine .iface ?_|exact zdq rfl rfl (by assumption)))):p:=h
section
variable {E:Env}{caught:LH}{rnd:LC}{ops:LS}{rest:zbS}{s s':FSt}{r:LS}{Q:FX->FSt->Prop}
variable {args:LY}{caps:LQ}{d:LC}{f:Nat}{g:Option (TOp×Bool)}{v:PV}{vs:LQ}
theorem zgo(k:W E caught rnd rest s' Q)(h:zbm ops s=(s',[]):=by simp(disch:=omega)only[go_sem]<;>rfl):W E caught rnd (.region ops) s (zfj (fun s'=>W E caught rnd rest s' Q) Q):=zae (zp1 h (zcd k))
theorem zrg(k:WO E caught r s' (zfu ops Q))(h:zbm ops s=(s',r):=by simp(disch:=omega)only[go_sem]<;>rfl):W E caught rnd (.region ops) s Q:=zae (zp1 h k)
theorem zfx(k:WO E caught r s' Q)(h:zbm ops s=(s',r):=by simp(disch:=omega)only[go_sem]<;>rfl):WO E caught ops s Q:=zp1 h k
theorem zfc{x:TOp}{b:Bool}{p q:zbS}(h1:b=true->W E caught rnd p s Q)(h2:b=false->W E caught rnd q s Q)(hx:ev s.tm x=some (.bool b):=by simp only[go_sem]<;>rfl):W E caught rnd (.cond x p q) s Q:=zpD hx h1 h2
theorem zca{aS:LQ}(k:FN E f aS (.ret v))(hQ:WO E caught ops (s.put d v) Q)(hg:zaA s.tm g=some true:=by first|rfl|(simp only[go_sem]<;>rfl))(ha:evs s.tm args=some (.fn f caps::vs):=by simp only[go_sem]<;>rfl)(hl:LF s.H 1 (vs++caps) aS:=by exact zLf):WO E caught (⟨d,.call,args,g⟩::ops) s Q:=zeA hg ha k hl hQ
theorem zcl{aS:LQ}(k:FN E f aS (.ret v))(hl:LF s.H 1 (vs++caps) aS)(hQ:WO E caught ops (s.put d v) Q)(hg:zaA s.tm g=some true:=by first|rfl|(simp only[go_sem]<;>rfl))(ha:evs s.tm args=some (.fn f caps::vs):=by simp only[go_sem]<;>rfl):WO E caught (⟨d,.call,args,g⟩::ops) s Q:=zeA hg ha k hl hQ
theorem zcm{aS:LQ}{R:Prop}(k:FN E f aS (.ret v))(hk:R)(hQ:WO E caught ops (s.put d v) Q)(hg:zaA s.tm g=some true:=by first|rfl|(simp only[go_sem]<;>rfl))(ha:evs s.tm args=some (.fn f caps::vs):=by simp only[go_sem]<;>rfl)(hl:R->LF s.H 1 (vs++caps) aS:=by intro hk;(repeat(first|exact trivial|refine And.intro ?_ ?_|exact .int _ _|exact .bool _|exact .list _ _ _|exact .elem _|exact .nilsl|exact .nil _ _|exact .str _|refine Frz.aggL ?_|refine Frz.fnL ?_|refine Frz.tL ?_|refine .iface ?_|exact zdq rfl rfl (by assumption)));exact hk;(repeat(first|exact trivial|refine And.intro ?_ ?_|exact .int _ _|exact .bool _|exact .list _ _ _|exact .elem _|exact .nilsl|exact .nil _ _|exact .str _|refine Frz.aggL ?_|refine Frz.fnL ?_|refine Frz.tL ?_|refine .iface ?_|exact zdq rfl rfl (by assumption)))):WO E caught (⟨d,.call,args,g⟩::ops) s Q:=zeA hg ha k (hl hk) hQ
theorem zcx{aS:LQ}(k:FN E f aS (.panic v))(hQ:Q (.panic v) s)(hg:zaA s.tm g=some true:=by first|rfl|(simp only[go_sem]<;>rfl))(ha:evs s.tm args=some (.fn f caps::vs):=by simp only[go_sem]<;>rfl)(hl:LF s.H 1 (vs++caps) aS:=by exact zLf):WO E caught (⟨d,.call,args,g⟩::ops) s Q:=zDt hg ha k hl hQ
theorem zcp{aS:LQ}(k:FP E f aS (.ret v))(hQ:WO E caught ops (s.put d v) Q)(hg:zaA s.tm g=some true:=by first|rfl|(simp only[go_sem]<;>rfl))(ha:evs s.tm args=some (.fn f caps::vs):=by simp only[go_sem]<;>rfl)(he:vs++caps=aS:=by rfl)(hl:znO aS:=by(repeat(first|exact trivial|refine And.intro ?_ ?_|exact Id0.int _ _|exact Id0.bool _|exact Id0.list _ _ _|exact Id0.elem _|exact Id0.nilsl|exact Id0.str _|exact zgD _ _ _))):WO E caught (⟨d,.call,args,g⟩::ops) s Q:=zi0 hg ha k he hl hQ
end
section
variable {E:Env}{caught:LH}{tm:Nat->PV}{s:DF}{Q:FX->DF->Prop}{g:zdp}{l:AI}{s1:DF}{o:zbP}
theorem zdl(k:WD E caught tm l s1 Q)(hx:zaC tm g.exe s=some s1:=by simp(disch:=omega)only[go_sem]<;>rfl)(hc:zbn s.K g.chk:=by first|exact trivial|simp only[go_sem])(ha:g.act=none:=by rfl):WD E caught tm (g::l) s Q:=zxj hc hx ha k
def daF(tm:Nat->PV)(g:zdp)(s:DF):Option (DF×AR):=match zaC tm g.exe s with
 | none=>none
 | some s1=>match g.act with
  | none=>none
  | some o=>match zbt tm s1.nm o.args with
   | none=>none
   | some vs=>match zbD s1.H o.kind vs with
    | none=>none
    | some a=>some (s1,a)
def dnF(tm:Nat->PV)(g:zdp)(s:DF):Option (DF×LQ):=match zaC tm g.exe s with
 | none=>none
 | some s1=>match g.act with
  | none=>none
  | some o=>match zbt tm s1.nm o.args with
   | none=>none
   | some vs=>some (s1,vs)
variable {caps:LQ}{f:Nat}{nm':Nat->PV}{v:PV}{vs:LQ}
theorem zda{a:AR}(k:WD E caught tm l ⟨nm',s1.df,a.H,zaK a.W s1.K⟩ Q)(h:daF tm g s=some (s1,a))(hc:zbn s.K g.chk:=by first|exact trivial|simp only[go_sem])(ha:g.act=some o:=by rfl)(hw:zab tm s1.nm o.guard=some true:=by first|rfl|(simp only[go_sem]<;>rfl))(hn:zbq s1.nm o.dst a.v=some nm':=by simp only[go_sem]<;>rfl):WD E caught tm (g::l) s Q:=by
 unfold daF at h
 split at h
 .cases h
 rename_i s2 hx;rw[ha]at h;dsimp only at h
 split at h
 .cases h
 rename_i vs hv
 split at h
 .cases h
 rename_i a2 hf;injection h with h;injection h with h1 h2;subst h1 h2;exact zGP hc hx ha hw hv hf hn k
theorem zg0(h:dnF tm g s=some (s1,vs))(ha:g.act=some o):zaC tm g.exe s=some s1/\zbt tm s1.nm o.args=some vs:=by
 unfold dnF at h
 grind
theorem zdn{aS:LQ}(k:FN E f aS (.ret v))(hQ:WD E caught tm l ⟨nm',s1.df,s1.H,s1.K⟩ Q)(h:dnF tm g s=some (s1,.fn f caps::vs))(hc:zbn s.K g.chk:=by first|exact trivial|simp only[go_sem])(ha:g.act=some o:=by rfl)(hk:o.kind=.call:=by rfl)(hw:zab tm s1.nm o.guard=some true:=by first|rfl|(simp only[go_sem]<;>rfl))(hl:LF s1.H 1 (vs++caps) aS:=by exact zLf)(hn:zbq s1.nm o.dst v=some nm':=by simp only[go_sem]<;>rfl):WD E caught tm (g::l) s Q :=
 zo3 hc (zg0 h ha).1 ha hk hw (zg0 h ha).2 k hl hn hQ
theorem zdx{aS:LQ}(k:FN E f aS (.panic v))(hQ:Q (.panic v) s1)(h:dnF tm g s=some (s1,.fn f caps::vs))(hc:zbn s.K g.chk:=by first|exact trivial|simp only[go_sem])(ha:g.act=some o:=by rfl)(hk:o.kind=.call:=by rfl)(hw:zab tm s1.nm o.guard=some true:=by first|rfl|(simp only[go_sem]<;>rfl))(hl:LF s1.H 1 (vs++caps) aS:=by exact zLf):WD E caught tm (g::l) s Q :=
 zAT hc (zg0 h ha).1 ha hk hw (zg0 h ha).2 k hl hQ
theorem zdi{aS:LQ}(k:FN E f aS (.ret v))(hl:LF s1.H 1 (vs++caps) aS)(hQ:WD E caught tm l ⟨nm',s1.df,s1.H,s1.K⟩ Q)(h:dnF tm g s=some (s1,.fn f caps::vs))(hc:zbn s.K g.chk:=by first|exact trivial|simp only[go_sem])(ha:g.act=some o:=by rfl)(hk:o.kind=.call:=by rfl)(hw:zab tm s1.nm o.guard=some true:=by first|rfl|(simp only[go_sem]<;>rfl))(hn:zbq s1.nm o.dst v=some nm':=by simp only[go_sem]<;>rfl):WD E caught tm (g::l) s Q :=
 zo3 hc (zg0 h ha).1 ha hk hw (zg0 h ha).2 k hl hn hQ
theorem zdf{aS:LQ}(k:FP E f aS (.ret v))(hl:znO aS)(hQ:WD E caught tm l ⟨nm',s1.df,s1.H,s1.K⟩ Q)(h:dnF tm g s=some (s1,.fn f caps::vs))(hc:zbn s.K g.chk:=by first|exact trivial|simp only[go_sem])(ha:g.act=some o:=by rfl)(hk:o.kind=.call:=by rfl)(hw:zab tm s1.nm o.guard=some true:=by first|rfl|(simp only[go_sem]<;>rfl))(he:vs++caps=aS:=by rfl)(hn:zbq s1.nm o.dst v=some nm':=by simp only[go_sem]<;>rfl):WD E caught tm (g::l) s Q :=
 zDA hc (zg0 h ha).1 ha hk hw (zg0 h ha).2 k he hl hn hQ
end
section
variable {E:Env}{f:Nat}{F:zd}{args:LQ}{c:zbS}
variable {e:FE}
theorem zfn(hF:E.funcs.get f=some F)(hl:LbE e)(hW:W E E.caught none c ⟨zn args,[],[]⟩ (zev E F fun e' H=>zbp H 0 e' e))(hc:F.body=c:=by simp only[go_sem]<;>rfl)(hn:args.length<=F.N:=by exact zAW9 rfl):FN E f args e:=zEH hF hn hl (by rw[hc];exact hW)
theorem zfp(hF:E.funcs.get f=some F)(hW:W E E.caught none c ⟨zn args,[],[]⟩ (zev E F fun e' H=>zbp H 0 e' e))(hc:F.body=c:=by simp only[go_sem]<;>rfl)(hn:args.length<=F.N:=by exact zAW9 rfl):FP E f args e:=zEy hF hn (by rw[hc];exact hW)
theorem zro(hF:E.funcs.get f=some F){H:LP}{R:FE->LP->Prop}(hW:W E E.caught none c ⟨zn args,[],H⟩ (zev E F R))(hc:F.body=c:=by simp only[go_sem]<;>rfl)(hn:args.length<=F.N:=by exact zAW9 rfl):FO E f args H false R:=zwk hF hn (by rw[hc];exact hW)
end
variable {p:Prop}{x y:Int}
theorem zt(h:p:=by first|exact trivial|rfl|simp[upd,zn]):p:=h
theorem zu{q:Prop}(h:q)(k:q->p:=by intro h;first|exact h|simp[upd,h]):p:=k h
theorem zwi(h:x=y/\-9223372036854775808<=x/\x<9223372036854775808:=by omega):IntKind.i64.wrap x=y:=by rw[wrap_i64 h.2.1 h.2.2];exact h.1
theorem zwu(h:x=y/\0<=x/\x<18446744073709551616:=by omega):IntKind.u64.wrap x=y:=by rw[wrap_u64 h.2.1 h.2.2];exact h.1
theorem zwh{E:Env}{caught:LH}{rnd:LC}{x:TOp}{id:Nat}{rest:zbS}{s:FSt}{Q:FX->FSt->Prop}{b:Bool}(h1:b=true->W E caught rnd rest s Q)(h2:b=false->Q (.exit id) s)(hx:ev s.tm x=some (.bool b):=by simp only[go_sem]<;>rfl):W E caught rnd (.seq (.cond x .skip (.exit id)) rest) s Q:=zE9 hx h1 h2
section
variable {p1 p10 p11 p2 p3 p4 p5 p6 p7 p8 p9:Prop}
theorem zr2(a1:p1)(a2:p2):p1/\p2:=⟨a1,a2⟩
theorem zr3(a1:p1)(a2:p2)(a3:p3):p1/\p2/\p3:=⟨a1,a2,a3⟩
theorem zr4(a1:p1)(a2:p2)(a3:p3)(a4:p4):p1/\p2/\p3/\p4:=⟨a1,a2,a3,a4⟩
theorem zr5(a1:p1)(a2:p2)(a3:p3)(a4:p4)(a5:p5):p1/\p2/\p3/\p4/\p5:=⟨a1,a2,a3,a4,a5⟩
theorem zr6(a1:p1)(a2:p2)(a3:p3)(a4:p4)(a5:p5)(a6:p6):p1/\p2/\p3/\p4/\p5/\p6:=⟨a1,a2,a3,a4,a5,a6⟩
theorem zr7(a1:p1)(a2:p2)(a3:p3)(a4:p4)(a5:p5)(a6:p6)(a7:p7):p1/\p2/\p3/\p4/\p5/\p6/\p7:=⟨a1,a2,a3,a4,a5,a6,a7⟩
theorem zr8(a1:p1)(a2:p2)(a3:p3)(a4:p4)(a5:p5)(a6:p6)(a7:p7)(a8:p8):p1/\p2/\p3/\p4/\p5/\p6/\p7/\p8:=⟨a1,a2,a3,a4,a5,a6,a7,a8⟩
theorem zr9(a1:p1)(a2:p2)(a3:p3)(a4:p4)(a5:p5)(a6:p6)(a7:p7)(a8:p8)(a9:p9):p1/\p2/\p3/\p4/\p5/\p6/\p7/\p8/\p9:=⟨a1,a2,a3,a4,a5,a6,a7,a8,a9⟩
theorem zh5(a1:p1)(a2:p2)(a3:p3)(a4:p4)(a5:p5)(a6:p6)(a7:p7)(a8:p8)(a9:p9)(a10:p10):p1/\p2/\p3/\p4/\p5/\p6/\p7/\p8/\p9/\p10:=⟨a1,a2,a3,a4,a5,a6,a7,a8,a9,a10⟩
theorem zhg(a1:p1)(a2:p2)(a3:p3)(a4:p4)(a5:p5)(a6:p6)(a7:p7)(a8:p8)(a9:p9)(a10:p10)(a11:p11):p1/\p2/\p3/\p4/\p5/\p6/\p7/\p8/\p9/\p10/\p11:=⟨a1,a2,a3,a4,a5,a6,a7,a8,a9,a10,a11⟩
theorem zef{p12:Prop}(a1:p1)(a2:p2)(a3:p3)(a4:p4)(a5:p5)(a6:p6)(a7:p7)(a8:p8)(a9:p9)(a10:p10)(a11:p11)(a12:p12):p1/\p2/\p3/\p4/\p5/\p6/\p7/\p8/\p9/\p10/\p11/\p12:=⟨a1,a2,a3,a4,a5,a6,a7,a8,a9,a10,a11,a12⟩
end
section
variable {E:Env}{caught:LH}{rnd:LC}{ops:LS}{rest:zbS}{s s':FSt}{r:LS}{Q:FX->FSt->Prop}{p:Prop}
variable {R:FE->LP->Prop}{q:zbS}{vs:LQ}{x:TOp}
theorem zbj(hF:p)(k:W E caught rnd rest s' Q)(h:p->zbm ops s=(s',[]):=by intro hF;simp(disch:=omega)only[go_sem,hF]<;>rfl):W E caught rnd (.region ops) s (zfj (fun s'=>W E caught rnd rest s' Q) Q):=zgo k (h hF)
theorem zGM(hF:p)(k:WO E caught r s' (zfu ops Q))(h:p->zbm ops s=(s',r):=by intro hF;simp(disch:=omega)only[go_sem,hF]<;>rfl):W E caught rnd (.region ops) s Q:=zrg k (h hF)
theorem zb2(hF:p)(k:WO E caught r s' Q)(h:p->zbm ops s=(s',r):=by intro hF;simp(disch:=omega)only[go_sem,hF]<;>rfl):WO E caught ops s Q:=zfx k (h hF)
theorem zfr{F:zd}{tm:Nat->PV}{H:LP}(k:R (.ret (zlZ vs)) H)(h:zaS tm H F.res=some vs:=by simp only[go_sem]<;>rfl):zev E F R .ret ⟨tm,[],H⟩:=zdw h k
theorem zco{d:LC}{args:LY}{g:Option (TOp×Bool)}{f:Nat}{caps aS:LQ}{b:Bool}{H0:LP}(k:FO E f aS H0 b R)(hQ:∀e H',R e H'->zEk E caught ops s d Q e H')(hg:zaA s.tm g=some true:=by first|rfl|(simp only[go_sem]<;>rfl))(ha:evs s.tm args=some (.fn f caps::vs):=by simp only[go_sem]<;>rfl)(he:vs++caps=aS:=by rfl)(hH:s.H=H0:=by rfl):WO E caught (⟨d,.call,args,g⟩::ops) s Q:=zns hg ha k he hH hQ
theorem zct{p:zbS}(h1:W E caught rnd p s Q)(hx:ev s.tm x=some (.bool true):=by simp only[go_sem]<;>rfl):W E caught rnd (.cond x p q) s Q:=zpD hx (fun _=>h1) (fun h=>by cases h)
theorem zcf{p:zbS}(h1:W E caught rnd q s Q)(hx:ev s.tm x=some (.bool false):=by simp only[go_sem]<;>rfl):W E caught rnd (.cond x p q) s Q:=zpD hx (fun h=>by cases h) (fun _=>h1)
end
section
variable {E:Env}{caught:LH}{tm:Nat->PV}{s:DF}{Q:FX->DF->Prop}{g:zdp}{l:AI}{s1:DF}{o:zbP}{p:Prop}
variable {H0:LP}{R:FE->LP->Prop}{a:AR}{caps:LQ}{f:Nat}{nm':Nat->PV}{v:PV}{vs:LQ}
theorem zrX(hF:p)(k:WD E caught tm l s1 Q)(hx:p->zaC tm g.exe s=some s1:=by intro hF;simp(disch:=omega)only[go_sem,hF]<;>rfl)(hc:zbn s.K g.chk:=by first|exact trivial|simp only[go_sem])(ha:g.act=none:=by rfl):WD E caught tm (g::l) s Q:=zdl k (hx hF) hc ha
theorem zH6(hF:p)(k:WD E caught tm l s1 Q)(hx:p->zaC tm g.exe s=some s1:=by intro hF;simp(disch:=omega)only[go_sem,hF]<;>rfl)(hc:p->zbn s.K g.chk:=by intro hF;first|exact trivial|simp only[go_sem,hF])(ha:g.act=none:=by rfl):WD E caught tm (g::l) s Q:=zdl k (hx hF) (hc hF) ha
theorem zcs(hF:p)(k:WD E caught tm l ⟨nm',s1.df,a.H,zaK a.W s1.K⟩ Q)(h:p->daF tm g s=some (s1,a):=by intro hF;simp(disch:=omega)only[go_sem,hF]<;>rfl)(hc:zbn s.K g.chk:=by first|exact trivial|simp only[go_sem])(ha:g.act=some o:=by rfl)(hw:zab tm s1.nm o.guard=some true:=by first|rfl|(simp only[go_sem]<;>rfl))(hn:zbq s1.nm o.dst a.v=some nm':=by simp only[go_sem]<;>rfl):WD E caught tm (g::l) s Q:=zda k (h hF) hc ha hw hn
theorem zH5(hF:p)(k:WD E caught tm l ⟨nm',s1.df,a.H,zaK a.W s1.K⟩ Q)(h:p->daF tm g s=some (s1,a):=by intro hF;simp(disch:=omega)only[go_sem,hF]<;>rfl)(hc:p->zbn s.K g.chk:=by intro hF;first|exact trivial|simp only[go_sem,hF])(ha:g.act=some o:=by rfl)(hw:zab tm s1.nm o.guard=some true:=by first|rfl|(simp only[go_sem]<;>rfl))(hn:zbq s1.nm o.dst a.v=some nm':=by simp only[go_sem]<;>rfl):WD E caught tm (g::l) s Q:=zda k (h hF) (hc hF) ha hw hn
theorem zdo{aS:LQ}{same:Bool}(k:FO E f aS H0 same R)(hQ:∀e H',R e H'->zyS E caught tm l s1 o.dst same Q e H')(h:dnF tm g s=some (s1,.fn f caps::vs))(hc:zbn s.K g.chk:=by first|exact trivial|simp only[go_sem])(ha:g.act=some o:=by rfl)(hk:o.kind=.call:=by rfl)(hw:zab tm s1.nm o.guard=some true:=by first|rfl|(simp only[go_sem]<;>rfl))(he:vs++caps=aS:=by rfl)(hH:s1.H=H0:=by rfl):WD E caught tm (g::l) s Q:=zs2 hc (zg0 h ha).1 ha hk hw (zg0 h ha).2 k he hH hQ
theorem zDk{aS:LQ}{same:Bool}(hF:p)(k:FO E f aS H0 same R)(hQ:∀e H',R e H'->zyS E caught tm l s1 o.dst same Q e H')(h:p->dnF tm g s=some (s1,.fn f caps::vs):=by intro hF;simp(disch:=omega)only[go_sem,hF]<;>rfl)(hc:zbn s.K g.chk:=by first|exact trivial|simp only[go_sem])(ha:g.act=some o:=by rfl)(hk:o.kind=.call:=by rfl)(hw:zab tm s1.nm o.guard=some true:=by first|rfl|(simp only[go_sem]<;>rfl))(he:vs++caps=aS:=by rfl)(hH:s1.H=H0:=by rfl):WD E caught tm (g::l) s Q:=zdo k hQ (h hF) hc ha hk hw he hH
theorem zcu{aS:LQ}(hF:p)(k:FN E f aS (.ret v))(hQ:WD E caught tm l ⟨nm',s1.df,s1.H,s1.K⟩ Q)(h:p->dnF tm g s=some (s1,.fn f caps::vs):=by intro hF;simp(disch:=omega)only[go_sem,hF]<;>rfl)(hc:zbn s.K g.chk:=by first|exact trivial|simp only[go_sem])(ha:g.act=some o:=by rfl)(hk:o.kind=.call:=by rfl)(hw:zab tm s1.nm o.guard=some true:=by first|rfl|(simp only[go_sem]<;>rfl))(hl:LF s1.H 1 (vs++caps) aS:=by exact zLf)(hn:zbq s1.nm o.dst v=some nm':=by simp only[go_sem]<;>rfl):WD E caught tm (g::l) s Q:=zdn k hQ (h hF) hc ha hk hw hl hn
theorem zzY{aS:LQ}(hF:p)(k:FN E f aS (.panic v))(hQ:Q (.panic v) s1)(h:p->dnF tm g s=some (s1,.fn f caps::vs):=by intro hF;simp(disch:=omega)only[go_sem,hF]<;>rfl)(hc:p->zbn s.K g.chk:=by first|exact fun _=>trivial|(intro hF;simp only[go_sem,hF]))(ha:g.act=some o:=by rfl)(hk:o.kind=.call:=by rfl)(hw:zab tm s1.nm o.guard=some true:=by first|rfl|(simp only[go_sem]<;>rfl))(hl:LF s1.H 1 (vs++caps) aS:=by exact zLf):WD E caught tm (g::l) s Q:=zdx k hQ (h hF) (hc hF) ha hk hw hl
end
section
variable {p P R:Prop}
variable {q r:Prop}
theorem zG(k:R)(h:R->P:=by intro hk;(repeat(first|refine zHW ?_|refine zgo ?_));exact hk):P:=h k
theorem zGF(hF:p)(k:R)(h:p->R->P:=by intro hF hk;(repeat(first|refine zHW ?_|refine zbj hF ?_));exact hk):P:=h hF k
theorem zI(k:R)(h:R->P:=by intro hk;(repeat refine zHW ?_);refine zrg ?_;exact hk):P:=h k
theorem zIF(hF:p)(k:R)(h:p->R->P:=by intro hF hk;(repeat refine zHW ?_);refine zGM hF ?_;exact hk):P:=h hF k
theorem zJ(k:R)(h:R->P:=by intro hk;(repeat refine zHW ?_);refine zrg ?_;refine zcr ?_;exact hk):P:=h k
theorem zJF(hF:p)(k:R)(h:p->R->P:=by intro hF hk;(repeat refine zHW ?_);refine zGM hF ?_;refine zcr ?_;exact hk):P:=h hF k
theorem zK(k:R)(h:R->P:=by intro hk;refine zfx ?_;refine zcr ?_;exact hk):P:=h k
theorem zKF(hF:p)(k:R)(h:p->R->P:=by intro hF hk;refine zb2 hF ?_;refine zcr ?_;exact hk):P:=h hF k
theorem zN(k:R)(h:R->P:=by intro hk;refine zfx ?_;refine zcd ?_;exact hk):P:=h k
theorem zNF(hF:p)(k:R)(h:p->R->P:=by intro hF hk;refine zb2 hF ?_;refine zcd ?_;exact hk):P:=h hF k
theorem zO(k:R)(h:R->P:=by intro hk;(repeat(first|refine zHW ?_|refine zgo ?_));refine zbN (zfr ?_);exact hk):P:=h k
theorem zOF(hF:p)(k:R)(h:p->R->P:=by intro hF hk;(repeat(first|refine zHW ?_|refine zbj hF ?_));refine zbN (zfr ?_);exact hk):P:=h hF k
theorem zP(k:R)(h:R->P:=by intro hk;refine zfx ?_;refine zcd ?_;refine zbN (zfr ?_);exact hk):P:=h k
theorem zPF(hF:p)(k:R)(h:p->R->P:=by intro hF hk;refine zb2 hF ?_;refine zcd ?_;refine zbN (zfr ?_);exact hk):P:=h hF k
theorem zQ(k:R)(h:R->P:=by intro hk;refine zdl ?_;refine zb4 ?_;simp only[go_sem];exact hk):P:=h k
theorem zQF(hF:p)(k:R)(h:p->R->P:=by intro hF hk;refine zrX hF ?_;refine zb4 ?_;simp only[go_sem];exact hk):P:=h hF k
theorem zS(k:R)(h:R->P:=by intro hk;(repeat(first|refine zHW ?_|refine zgo ?_));refine zct ?_;exact hk):P:=h k
theorem zSF(hF:p)(k:R)(h:p->R->P:=by intro hF hk;(repeat(first|refine zHW ?_|refine zbj hF ?_));refine zct ?_;exact hk):P:=h hF k
theorem zT(k:R)(h:R->P:=by intro hk;(repeat(first|refine zHW ?_|refine zgo ?_));refine zcf ?_;exact hk):P:=h k
theorem zTF(hF:p)(k:R)(h:p->R->P:=by intro hF hk;(repeat(first|refine zHW ?_|refine zbj hF ?_));refine zcf ?_;exact hk):P:=h hF k
theorem zU(k:R)(h:R->P:=by intro hk;refine zct ?_;(repeat(first|refine zHW ?_|refine zgo ?_));refine zbN (zfr ?_);exact hk):P:=h k
theorem zUF(hF:p)(k:R)(h:p->R->P:=by intro hF hk;refine zct ?_;(repeat(first|refine zHW ?_|refine zbj hF ?_));refine zbN (zfr ?_);exact hk):P:=h hF k
theorem zB(k:R)(h:R->P:=by intro hk;(repeat refine zHW ?_);exact hk):P:=h k
theorem zM(c:q)(k:R)(h:q->R->P:=by intro hc hk;(repeat refine zHW ?_);refine zrg ?_;refine zca hc ?_;refine zfx ?_;refine zcd ?_;exact hk):P:=h c k
theorem zMG(c:q)(k:R)(h:q->R->P:=by intro hc hk;(repeat(first|refine zHW ?_|refine zgo ?_));refine zrg ?_;refine zca hc ?_;refine zfx ?_;refine zcd ?_;exact hk):P:=h c k
theorem zCN(c:q)(k:R)(h:q->R->P:=by intro hc hk;refine zca hc ?_;refine zfx ?_;refine zcd ?_;exact hk):P:=h c k
theorem zBb(k:R)(h:R->P:=by intro hk;(repeat refine zHW ?_);refine ze ?_;exact hk):P:=h k
theorem zBd(k:R)(h:R->P:=by intro hk;(repeat refine zHW ?_);refine zaB ?_;exact hk):P:=h k
theorem zBr(k:R)(h:R->P:=by intro hk;(repeat refine zHW ?_);refine zae ?_;exact hk):P:=h k
theorem zH(k:R)(h:R->P:=by intro hk;refine zcf ?_;refine zr ?_;exact hk):P:=h k
theorem zTH(k:R)(h:R->P:=by intro hk;(repeat(first|refine zHW ?_|refine zgo ?_));refine zcf ?_;refine zr ?_;exact hk):P:=h k
theorem zHY(hF:p)(k:R)(h:p->R->P:=by intro hF hk;(repeat(first|refine zHW ?_|refine zbj hF ?_));refine zcf ?_;refine zr ?_;exact hk):P:=h hF k
theorem ztd[Decidable q](h:decide q=true)(k:q->r:=by intro h;omega):r:=k (of_decide_eq_true h)
theorem zfd[Decidable q](h:decide q=false)(k:¬q->r:=by intro h;omega):r:=k (of_decide_eq_false h)
end
theorem zLF(h:p:=by(repeat(first|exact trivial|refine And.intro ?_ ?_|refine Frz.tL ?_|refine Frz.aggL ?_|exact Frz.int _ _|exact Frz.bool _|exact Frz.list _ _ _|exact Frz.elem _|exact Frz.nilsl|exact Frz.nil _ _|exact Frz.str _))):p:=h
def zyB:=And.intro (@zAD9 zc) (And.intro (@zAD9 PV) (And.intro (@zAB9 zc) (@zAB9 PV)))
def zyC:=And.intro (@zBD9 Nat PV) (And.intro (@zBD9 Int PV) (@zBD9 (Nat×Nat) PV))
theorem zLh{a b P:Prop}(hF:p)(ha:a)(hb:b)(h:p->a->b->P:=by intro hF ha hb;(try refine zad ?_);refine zHW (zbj hF ?_);refine zwh ?_ ?_;exact ha;exact hb):P:=h hF ha hb
section
variable {E:Env}{caught:LH}{rnd:LC}{c:zbS}{s:FSt}{Q:FX->FSt->Prop}{p P:Prop}
theorem zSk(k:W E caught rnd c s Q)(h:W E caught rnd c s Q->P:=by intro hk;refine zr ?_;exact hk):P:=h k
end
section
variable {E:Env}{caught:LH}{rnd:LC}{s:FSt}{Q:FX->FSt->Prop}{x:TOp}{u v:zbS}{p:Prop}
theorem zIf(hF:p)(h1:W E caught rnd u s Q)(hx:p->ev s.tm x=some (.bool true):=by intro hF;simp only[go_sem,hF]<;>rfl):W E caught rnd (.cond x u v) s Q:=zct h1 (hx hF)
theorem zIg(hF:p)(h1:W E caught rnd v s Q)(hx:p->ev s.tm x=some (.bool false):=by intro hF;simp only[go_sem,hF]<;>rfl):W E caught rnd (.cond x u v) s Q:=zcf h1 (hx hF)
theorem zIe(hF:p){b:Bool}(h1:b=true->W E caught rnd u s Q)(h2:b=false->W E caught rnd v s Q)(hx:p->ev s.tm x=some (.bool b):=by intro hF;simp only[go_sem,hF]<;>rfl):W E caught rnd (.cond x u v) s Q:=zfc h1 h2 (hx hF)
end
variable {P:Prop}{i:Nat}{α:Type}{l:List α}{x:α}
theorem zHF{E:Env}{caught:LH}{rnd:LC}{c:zbS}{s:FSt}{Q:FX->FSt->Prop}(hF:p)(k:W E caught rnd c s Q)(h:p->W E caught rnd c s Q->P:=by intro hF hk;refine zcf ?_ (by simp only[go_sem,hF]<;>rfl);refine zr ?_;exact hk):P:=h hF k
theorem zGI{R:Prop}(k:R)(h:R->P:=by intro hk;(repeat(first|refine zHW ?_|refine zgo ?_));refine zrg ?_;exact hk):P:=h k
theorem zex(h:i<l.length):∃x,l[i]?=some x:=⟨_,zAA9 h⟩
theorem zmg{β:Type}{f:α->β}(h:l[i]?=some x):(l.map f)[i]?=some (f x):=by rw[zAF9,h];rfl
theorem zId(h:p:=by(repeat(first|exact trivial|refine And.intro ?_ ?_|exact Id0.int _ _|exact Id0.bool _|exact Id0.list _ _ _|exact Id0.elem _|exact Id0.nilsl|exact Id0.str _|exact zgD _ _ _))):p:=h
theorem zmm{f:α->PV}{z:Nat}(h:∀x,(f x).cells.length=z:=by intro _;rfl):∀v∈l.map f,v.cells.length=z:=fun v hv=>by
 obtain⟨x,_,rfl⟩:=zAH9.1 hv;exact h x
theorem zdc(h:l[i]?=some x):l.drop i=x::l.drop (i+1):=by
 obtain⟨h1,e⟩:=zAC9.1 h;rw[zAM9 h1,e]
variable {E:Env}
theorem HR.adopt{B:Ba}{c:Cx}{H:LP}{h h':TH}(hr:HR B c H h)(hn:h.next<=h'.next)(hk:∀b,b<h.next->h'.get b=h.get b){b d z:Nat}(hb:h.next<=b)(hb2:b<h'.next){o:zc}(ho:OR (c.add H.length b d z) h' H.length o) :
  Mo c (c.add H.length b d z) h h'/\HR B (c.add H.length b d z) (H++[o]) h':=by
 have hnone:c.ρ H.length=none:=by
  cases hc:c.ρ H.length with
  | none=>rfl
  | some y=>have:=(hr.own _ _ hc).2.2;omega
 have m:Mo c (c.add H.length b d z) h h':=⟨fun _ _ h=>h,fun id y hy=>by
  show (if id=H.length then _ else _)=_;rw[if_neg (fun e=>by subst e;rw[hnone]at hy;cases hy)];exact hy,fun _ h=>h,fun p b hb g o n cs hc=>zsv hk hc⟩
 have hρ:∀id y,(c.add H.length b d z).ρ id=some y->(id=H.length/\y=(b,d,z))\/c.ρ id=some y:=fun id y hy=>by
  have hy:(if id=H.length then some (b,d,z)else c.ρ id)=some y:=hy
  grind
 have hle:=hr.le;refine⟨m,⟨zBW9 hr.le hn,fun x hx=>?_,hr.old,fun p x hx=>?_,fun id y hy=>?_,fun id hL=>?_,fun id id' y y' hy hy' e=>?_,fun id o' ho'=>?_⟩⟩
 .rw[hk x (zBM9 hx hr.le)];exact hr.keep x hx
 .obtain⟨h1,h2⟩:=hr.S p x hx
  grind
 .rw[zAB9];rcases hρ id y hy with⟨rfl,rfl⟩|hy
  .grind
  .obtain⟨h1,h2,h3⟩:=hr.own id y hy;omega
 .obtain⟨h1,h2⟩:=hr.lz id hL
  grind
 .rcases hρ id y hy with⟨rfl,rfl⟩|hy
  .rcases hρ id' y' hy' with⟨rfl,rfl⟩|hy'
   .rfl
   .have:=(hr.own _ _ hy').2.1;dsimp only at e;omega
  .rcases hρ id' y' hy' with⟨rfl,rfl⟩|hy'
   .have:=(hr.own _ _ hy).2.1;dsimp only at e;omega
   .exact hr.inj _ _ _ _ hy hy' e
 .by_cases hi:id<H.length
  .rw[zAX9 hi]at ho';refine(hr.obj id o' ho').move m ?_ (fun h=>h) fun y hy=>hk _ (hr.own _ _ hy).2.1;show (if id=H.length then _ else _)=_
   grind
  grind
def zyl(l:LQ):Prop:=∀v∈l,∃k n,v=.int k n
theorem FO.own1{f:Nat}{args aS:LQ}{H:LP}{l:LQ}{e0 z n:Nat}(k:FO E f aS [] false (fun e' H'=>∃id g M,e'=.ret (.sl id g 0 n (2*n) z)/\M<=g/\H'[id]?=some (.row e0 z g M l)))(hl:LF H 1 args aS)(hi:zyl (l.flatMap PV.cells))(hne:l ≠ []) :
  FO E f args H true (fun e' H'=>∃g M,e'=.ret (.sl H.length g 0 n (2*n) z)/\M<=g/\H'=H++[.row e0 z g M l]):=fun B c h us hr ha=>by
 have h1:=LF.ok hr (S:=zo4 c) (fun p b hb=>.inl hb) (fun id x hx=>.inr ⟨rfl,id,x,hx,rfl⟩) hl ha;have hS:∀p b,zo4 c p b->b<h.next:=fun p b hb=>by
  rcases hb with hb|⟨_,id,x,hx,rfl⟩
  .exact(hr.S p b hb).1
  .exact(hr.own _ _ hx).2.1
 have hr1:HR ⟨h.next,h,zo4 c⟩ ⟨zo4 c,fun _=>none,fun _=>False⟩ [] h:=⟨zAE9 _,fun _ _=>rfl,fun p b hb=>.inl hb,fun p b hb=>⟨hS p b hb,fun id x hx=>(by cases hx)⟩,fun id x hx=>(by cases hx),fun id hx=>hx.elim,fun id id' x x' hx=>(by cases hx),fun id o ho=>(by simp at ho)⟩
 obtain⟨r,h',e',H',c',e1,⟨id,g,M,rfl,hM,hrow⟩,m1,k1,re,_⟩:=k _ _ h us hr1 (LR.pure (c:=⟨zo4 c,fun _=>none,fun _=>False⟩) h1);have hn:=k1.le;have hk:∀b,b<h.next->h'.get b=h.get b:=fun b hb=>k1.keep b hb
 cases r with
 | panic u=>exact re.elim
 | ret u =>
  have re:VR c' h' (.sl id g 0 n (2*n) z) u:=re;rcases k1.obj id _ hrow with⟨h0,_⟩|⟨b,d,G',M',cells,cs,r1,r2,r3,r4,r5,r6⟩
  .exact absurd h0 hne
  obtain⟨o1,o2,_⟩:=k1.own id _ r1;have o1:h.next<=b:=o1;rcases sl_inv re with⟨_,_,_,_,_,hL⟩|⟨b',d',g',hρ,hgd,rfl⟩
  .have hl1:=(k1.lz id hL).2 _ r1;dsimp only at hl1;omega
  rw[r1]at hρ;injection hρ with hρ;injection hρ with hρ1 hρ2;injection hρ2 with hρ2 hρ3;subst hρ1 hρ2;have r6':ER (VR (c.add H.length b d z) h') z l cs:=by
   refine⟨r6.one,r6.all.1,fun i x y hx hy=>?_⟩;obtain⟨kk,nn,rfl⟩:=hi x (zAI9 hx);have:=r6.all.2 i _ y hx hy;obtain rfl:=this.int_inv;exact .pure (.int _ _)
  obtain⟨m,hr2⟩:=hr.adopt hn hk (z:=z) o1 o2 (o:=.row e0 z g M l) (.inr ⟨b,d,G',M',cells,cs,add_same ..,r2,r3,r4,r5,r6'⟩);refine⟨_,h',_,_,_,e1,⟨g,M,rfl,hM,rfl⟩,m,hr2,?_,fun _ id x hx=>hk _ (hr.own _ _ hx).2.1⟩;show VR _ h' (.sl H.length g 0 n (2*n) z) _;rw[hgd];exact .sl (add_same ..)
end Fv
end Go.Proofs.YtkeknmgnoceogaaGreat
