/- part 3 of the proof of dir_puts. -/
import Derived.Test.YtkeknmgnoceogaaGreatDP2
set_option linter.unusedSimpArgs false
set_option linter.unusedVariables false
set_option linter.defProp false
set_option maxRecDepth 100000
namespace Go.Proofs.YtkeknmgnoceogaaGreat
namespace Fv
open Tw
attribute [go_sem] zV qI qb qo zY ev zC qY zA.cls qi qm qt va jZ zb zq jx jU jK jR jC jO jH jG jE jD jz jP jN jA jL jI jJ zR zF zW qQ qS qT PV.cells zX qk qn qd qg qB qr qG qU zD qX ja jb qf qz qq qh qW qM qu qv qK lenP zf zg qO qj PV.toT qH jV Nat.mul_mod_right Int.reduceOfNat Int.reduceToNat Int.cast_ofNat_Int Int.reduceLE Int.reduceLT Int.reduceAdd Int.reduceSub Int.reduceMul Int.reduceNegSucc Nat.reduceEqDiff if_true if_false ite_true ite_false decide_true decide_false Bool.not_true Bool.not_false and_true true_and and_self false_and and_false or_false false_or or_true true_or or_self List.length_cons List.length_nil List.length_map List.getElem?_cons_zero List.getElem?_cons_succ List.getElem?_map List.getElem?_nil Option.map_some Option.map_none Option.getD_some List.append_nil List.nil_append List.cons_append List.take_succ_cons List.take_zero List.drop_zero List.drop_succ_cons List.set_cons_zero List.set_cons_succ Int.toNat_natCast Int.natCast_nonneg Nat.le_refl Nat.zero_le Nat.reduceAdd Nat.reduceSub Nat.reduceMul Nat.reduceLeDiff Nat.reduceLT Bool.false_eq_true Bool.true_eq_false Nat.add_zero Nat.zero_add List.all_cons List.all_nil Bool.and_true Bool.and_self Bool.true_and Nat.reduceMod Nat.reduceDiv eq_self qc qP zZ qe qE qa qZ qy ql zL qF qA List.filter_cons List.filter_nil List.contains_cons List.contains_nil Nat.reduceBEq jY jW jX Option.some.injEq Option.isSome_some wrap_i64 wrap_u64 jQ Bool.or_self Bool.or_false Bool.false_or List.isEmpty_nil List.isEmpty_cons qJ qs qD qL qV jy jd je jS jT jk jg ju jl jh jt js jm jw jr jq jp jn jo jj ji jf jv qR cond_true cond_false jB jM jF
attribute [go_sem ↓] reduceIte
theorem cz{p:Prop}(h:p:=by(repeat(first|exact trivial|refine And.intro ?_ ?_|exact .int _ _|exact .bool _|exact .list _ _ _|exact .elem _|exact .nilsl|exact .nil _ _|exact .str _|refine ze.aggL ?_|refine ze.fnL ?_|refine ze.tL ?_|refine .iface ?_|exact gE rfl rfl (by assumption)))):p:=h
section
variable {E:vZ}{caught:LD}{rnd:LA}{ops:List vB}{rest:vP}{s s':vn}{r:List vB}{Q:FX->vn->Prop}
variable {args:List vQ}{caps:LQ}{d:LA}{f:Nat}{g:Option (vQ×Bool)}{v:PV}{vs:LQ}
theorem um(k:W E caught rnd rest s' Q)(h:zV ops s=(s',[]):=by simp(disch:=omega)only[go_sem]<;>rfl):W E caught rnd (.region ops) s (xU (fun s'=>W E caught rnd rest s' Q) Q):=wa (sO h (uH k))
theorem aB(k:WO E caught r s' (bk ops Q))(h:zV ops s=(s',r):=by simp(disch:=omega)only[go_sem]<;>rfl):W E caught rnd (.region ops) s Q:=wa (sO h k)
theorem wq(k:WO E caught r s' Q)(h:zV ops s=(s',r):=by simp(disch:=omega)only[go_sem]<;>rfl):WO E caught ops s Q:=sO h k
theorem wn{x:vQ}{b:Bool}{p q:vP}(h1:b=true->W E caught rnd p s Q)(h2:b=false->W E caught rnd q s Q)(hx:ev s.tm x=some (.bool b):=by simp only[go_sem]<;>rfl):W E caught rnd (.cond x p q) s Q:=sP hx h1 h2
theorem vo{aS:LQ}(k:FN E f aS (.ret v))(hQ:WO E caught ops (s.put d v) Q)(hg:qb s.tm g=some true:=by first|rfl|(simp only[go_sem]<;>rfl))(ha:zY s.tm args=some (.fn f caps::vs):=by simp only[go_sem]<;>rfl)(hl:LF s.H 1 (vs++caps) aS:=by exact cz):WO E caught (⟨d,.call,args,g⟩::ops) s Q:=pt hg ha k hl hQ
theorem mM{aS:LQ}(k:FN E f aS (.ret v))(hl:LF s.H 1 (vs++caps) aS)(hQ:WO E caught ops (s.put d v) Q)(hg:qb s.tm g=some true:=by first|rfl|(simp only[go_sem]<;>rfl))(ha:zY s.tm args=some (.fn f caps::vs):=by simp only[go_sem]<;>rfl):WO E caught (⟨d,.call,args,g⟩::ops) s Q:=pt hg ha k hl hQ
theorem sv{aS:LQ}{R:Prop}(k:FN E f aS (.ret v))(hk:R)(hQ:WO E caught ops (s.put d v) Q)(hg:qb s.tm g=some true:=by first|rfl|(simp only[go_sem]<;>rfl))(ha:zY s.tm args=some (.fn f caps::vs):=by simp only[go_sem]<;>rfl)(hl:R->LF s.H 1 (vs++caps) aS:=by intro hk;(repeat(first|exact trivial|refine And.intro ?_ ?_|exact .int _ _|exact .bool _|exact .list _ _ _|exact .elem _|exact .nilsl|exact .nil _ _|exact .str _|refine ze.aggL ?_|refine ze.fnL ?_|refine ze.tL ?_|refine .iface ?_|exact gE rfl rfl (by assumption)));exact hk;(repeat(first|exact trivial|refine And.intro ?_ ?_|exact .int _ _|exact .bool _|exact .list _ _ _|exact .elem _|exact .nilsl|exact .nil _ _|exact .str _|refine ze.aggL ?_|refine ze.fnL ?_|refine ze.tL ?_|refine .iface ?_|exact gE rfl rfl (by assumption)))):WO E caught (⟨d,.call,args,g⟩::ops) s Q:=pt hg ha k (hl hk) hQ
theorem wE{aS:LQ}(k:FN E f aS (.panic v))(hQ:Q (.panic v) s)(hg:qb s.tm g=some true:=by first|rfl|(simp only[go_sem]<;>rfl))(ha:zY s.tm args=some (.fn f caps::vs):=by simp only[go_sem]<;>rfl)(hl:LF s.H 1 (vs++caps) aS:=by exact cz):WO E caught (⟨d,.call,args,g⟩::ops) s Q:=N6 hg ha k hl hQ
theorem fD{aS:LQ}(k:FP E f aS (.ret v))(hQ:WO E caught ops (s.put d v) Q)(hg:qb s.tm g=some true:=by first|rfl|(simp only[go_sem]<;>rfl))(ha:zY s.tm args=some (.fn f caps::vs):=by simp only[go_sem]<;>rfl)(he:vs++caps=aS:=by rfl)(hl:cF aS:=by(repeat(first|exact trivial|refine And.intro ?_ ?_|exact vg.int _ _|exact vg.bool _|exact vg.list _ _ _|exact vg.elem _|exact vg.nilsl|exact vg.str _|exact m7 _ _ _))):WO E caught (⟨d,.call,args,g⟩::ops) s Q:=nP hg ha k he hl hQ
end
section
variable {E:vZ}{caught:LD}{tm:Nat->PV}{s:DF}{Q:FX->DF->Prop}{g:yc}{l:List yc}{s1:DF}{o:vB}
theorem bH(k:WD E caught tm l s1 Q)(hx:qc tm g.exe s=some s1:=by simp(disch:=omega)only[go_sem]<;>rfl)(hc:zL s.K g.chk:=by first|exact trivial|simp only[go_sem])(ha:g.act=none:=by rfl):WD E caught tm (g::l) s Q:=FV hc hx ha k
def qN(tm:Nat->PV)(g:yc)(s:DF):Option (DF×AR):=match qc tm g.exe s with
 | none=>none
 | some s1=>match g.act with
  | none=>none
  | some o=>match qe tm s1.nm o.args with
   | none=>none
   | some vs=>match qt s1.H o.kind vs with
    | none=>none
    | some a=>some (s1,a)
def qp(tm:Nat->PV)(g:yc)(s:DF):Option (DF×LQ):=match qc tm g.exe s with
 | none=>none
 | some s1=>match g.act with
  | none=>none
  | some o=>match qe tm s1.nm o.args with
   | none=>none
   | some vs=>some (s1,vs)
variable {caps:LQ}{f:Nat}{nm':Nat->PV}{v:PV}{vs:LQ}
theorem aA{a:AR}(k:WD E caught tm l ⟨nm',s1.df,a.H,qA a.W s1.K⟩ Q)(h:qN tm g s=some (s1,a))(hc:zL s.K g.chk:=by first|exact trivial|simp only[go_sem])(ha:g.act=some o:=by rfl)(hw:zZ tm s1.nm o.guard=some true:=by first|rfl|(simp only[go_sem]<;>rfl))(hn:qa s1.nm o.dst a.v=some nm':=by simp only[go_sem]<;>rfl):WD E caught tm (g::l) s Q:=by
 unfold qN at h
 split at h
 .cases h
 rename_i e b;rw[ha]at h;dsimp only at h
 split at h
 .cases h
 rename_i vs c
 split at h
 .cases h
 rename_i f d;injection h with h;injection h with h1 h2;subst h1 h2;exact N3 hc b ha hw c d hn k
theorem aO(h:qp tm g s=some (s1,vs))(ha:g.act=some o):qc tm g.exe s=some s1/\qe tm s1.nm o.args=some vs:=by
 unfold qp at h
 grind
theorem sw{aS:LQ}(k:FN E f aS (.ret v))(hQ:WD E caught tm l ⟨nm',s1.df,s1.H,s1.K⟩ Q)(h:qp tm g s=some (s1,.fn f caps::vs))(hc:zL s.K g.chk:=by first|exact trivial|simp only[go_sem])(ha:g.act=some o:=by rfl)(hk:o.kind=.call:=by rfl)(hw:zZ tm s1.nm o.guard=some true:=by first|rfl|(simp only[go_sem]<;>rfl))(hl:LF s1.H 1 (vs++caps) aS:=by exact cz)(hn:qa s1.nm o.dst v=some nm':=by simp only[go_sem]<;>rfl):WD E caught tm (g::l) s Q :=
 fJ hc (aO h ha).1 ha hk hw (aO h ha).2 k hl hn hQ
theorem Nq{aS:LQ}(k:FN E f aS (.panic v))(hQ:Q (.panic v) s1)(h:qp tm g s=some (s1,.fn f caps::vs))(hc:zL s.K g.chk:=by first|exact trivial|simp only[go_sem])(ha:g.act=some o:=by rfl)(hk:o.kind=.call:=by rfl)(hw:zZ tm s1.nm o.guard=some true:=by first|rfl|(simp only[go_sem]<;>rfl))(hl:LF s1.H 1 (vs++caps) aS:=by exact cz):WD E caught tm (g::l) s Q :=
 N5 hc (aO h ha).1 ha hk hw (aO h ha).2 k hl hQ
theorem No{aS:LQ}(k:FN E f aS (.ret v))(hl:LF s1.H 1 (vs++caps) aS)(hQ:WD E caught tm l ⟨nm',s1.df,s1.H,s1.K⟩ Q)(h:qp tm g s=some (s1,.fn f caps::vs))(hc:zL s.K g.chk:=by first|exact trivial|simp only[go_sem])(ha:g.act=some o:=by rfl)(hk:o.kind=.call:=by rfl)(hw:zZ tm s1.nm o.guard=some true:=by first|rfl|(simp only[go_sem]<;>rfl))(hn:qa s1.nm o.dst v=some nm':=by simp only[go_sem]<;>rfl):WD E caught tm (g::l) s Q :=
 fJ hc (aO h ha).1 ha hk hw (aO h ha).2 k hl hn hQ
theorem dL{aS:LQ}(k:FP E f aS (.ret v))(hl:cF aS)(hQ:WD E caught tm l ⟨nm',s1.df,s1.H,s1.K⟩ Q)(h:qp tm g s=some (s1,.fn f caps::vs))(hc:zL s.K g.chk:=by first|exact trivial|simp only[go_sem])(ha:g.act=some o:=by rfl)(hk:o.kind=.call:=by rfl)(hw:zZ tm s1.nm o.guard=some true:=by first|rfl|(simp only[go_sem]<;>rfl))(he:vs++caps=aS:=by rfl)(hn:qa s1.nm o.dst v=some nm':=by simp only[go_sem]<;>rfl):WD E caught tm (g::l) s Q :=
 N4 hc (aO h ha).1 ha hk hw (aO h ha).2 k he hl hn hQ
end
section
variable {E:vZ}{f:Nat}{F:zd}{args:LQ}{c:vP}
variable {e:FE}
theorem zn(hF:E.funcs.get f=some F)(hl:gh e)(hW:W E E.caught none c ⟨zq args,[],[]⟩ (yG E F fun e' H=>ve H 0 e' e))(hc:F.body=c:=by simp only[go_sem]<;>rfl)(hn:args.length<=F.N:=by exact Zy rfl):FN E f args e:=FF hF hn hl (by rw[hc];exact hW)
theorem mO(hF:E.funcs.get f=some F)(hW:W E E.caught none c ⟨zq args,[],[]⟩ (yG E F fun e' H=>ve H 0 e' e))(hc:F.body=c:=by simp only[go_sem]<;>rfl)(hn:args.length<=F.N:=by exact Zy rfl):FP E f args e:=FG hF hn (by rw[hc];exact hW)
theorem wS(hF:E.funcs.get f=some F){H:LP}{R:FE->LP->Prop}(hW:W E E.caught none c ⟨zq args,[],H⟩ (yG E F R))(hc:F.body=c:=by simp only[go_sem]<;>rfl)(hn:args.length<=F.N:=by exact Zy rfl):FO E f args H false R:=EW hF hn (by rw[hc];exact hW)
end
variable {p:Prop}{x y:Int}
theorem zt(h:p:=by first|exact trivial|rfl|simp[zb,zq]):p:=h
theorem zu{q:Prop}(h:q)(k:q->p:=by intro h;first|exact h|simp[zb,h]):p:=k h
theorem wx(h:x=y/\-9223372036854775808<=x/\x<9223372036854775808:=by omega):IntKind.i64.wrap x=y:=by rw[wrap_i64 h.2.1 h.2.2];exact h.1
theorem ku(h:x=y/\0<=x/\x<18446744073709551616:=by omega):IntKind.u64.wrap x=y:=by rw[wrap_u64 h.2.1 h.2.2];exact h.1
theorem fE{E:vZ}{caught:LD}{rnd:LA}{x:vQ}{id:Nat}{rest:vP}{s:vn}{Q:FX->vn->Prop}{b:Bool}(h1:b=true->W E caught rnd rest s Q)(h2:b=false->Q (.exit id) s)(hx:ev s.tm x=some (.bool b):=by simp only[go_sem]<;>rfl):W E caught rnd (.seq (.cond x .skip (.exit id)) rest) s Q:=Ob hx h1 h2
section
variable {p1 p10 p11 p2 p3 p4 p5 p6 p7 p8 p9:Prop}
theorem zj(a1:p1)(a2:p2):p1/\p2:=⟨a1,a2⟩
theorem vh(a1:p1)(a2:p2)(a3:p3):p1/\p2/\p3:=⟨a1,a2,a3⟩
theorem vz(a1:p1)(a2:p2)(a3:p3)(a4:p4):p1/\p2/\p3/\p4:=⟨a1,a2,a3,a4⟩
theorem vX(a1:p1)(a2:p2)(a3:p3)(a4:p4)(a5:p5):p1/\p2/\p3/\p4/\p5:=⟨a1,a2,a3,a4,a5⟩
theorem wQ(a1:p1)(a2:p2)(a3:p3)(a4:p4)(a5:p5)(a6:p6):p1/\p2/\p3/\p4/\p5/\p6:=⟨a1,a2,a3,a4,a5,a6⟩
theorem ww(a1:p1)(a2:p2)(a3:p3)(a4:p4)(a5:p5)(a6:p6)(a7:p7):p1/\p2/\p3/\p4/\p5/\p6/\p7:=⟨a1,a2,a3,a4,a5,a6,a7⟩
theorem kQ(a1:p1)(a2:p2)(a3:p3)(a4:p4)(a5:p5)(a6:p6)(a7:p7)(a8:p8):p1/\p2/\p3/\p4/\p5/\p6/\p7/\p8:=⟨a1,a2,a3,a4,a5,a6,a7,a8⟩
theorem pZ(a1:p1)(a2:p2)(a3:p3)(a4:p4)(a5:p5)(a6:p6)(a7:p7)(a8:p8)(a9:p9):p1/\p2/\p3/\p4/\p5/\p6/\p7/\p8/\p9:=⟨a1,a2,a3,a4,a5,a6,a7,a8,a9⟩
theorem kO(a1:p1)(a2:p2)(a3:p3)(a4:p4)(a5:p5)(a6:p6)(a7:p7)(a8:p8)(a9:p9)(a10:p10):p1/\p2/\p3/\p4/\p5/\p6/\p7/\p8/\p9/\p10:=⟨a1,a2,a3,a4,a5,a6,a7,a8,a9,a10⟩
theorem xI(a1:p1)(a2:p2)(a3:p3)(a4:p4)(a5:p5)(a6:p6)(a7:p7)(a8:p8)(a9:p9)(a10:p10)(a11:p11):p1/\p2/\p3/\p4/\p5/\p6/\p7/\p8/\p9/\p10/\p11:=⟨a1,a2,a3,a4,a5,a6,a7,a8,a9,a10,a11⟩
theorem wP{p12:Prop}(a1:p1)(a2:p2)(a3:p3)(a4:p4)(a5:p5)(a6:p6)(a7:p7)(a8:p8)(a9:p9)(a10:p10)(a11:p11)(a12:p12):p1/\p2/\p3/\p4/\p5/\p6/\p7/\p8/\p9/\p10/\p11/\p12:=⟨a1,a2,a3,a4,a5,a6,a7,a8,a9,a10,a11,a12⟩
end
section
variable {E:vZ}{caught:LD}{rnd:LA}{ops:List vB}{rest:vP}{s s':vn}{r:List vB}{Q:FX->vn->Prop}{p:Prop}
variable {R:FE->LP->Prop}{q:vP}{vs:LQ}{x:vQ}
theorem vC(hF:p)(k:W E caught rnd rest s' Q)(h:p->zV ops s=(s',[]):=by intro hF;simp(disch:=omega)only[go_sem,hF]<;>rfl):W E caught rnd (.region ops) s (xU (fun s'=>W E caught rnd rest s' Q) Q):=um k (h hF)
theorem xr(hF:p)(k:WO E caught r s' (bk ops Q))(h:p->zV ops s=(s',r):=by intro hF;simp(disch:=omega)only[go_sem,hF]<;>rfl):W E caught rnd (.region ops) s Q:=aB k (h hF)
theorem vS(hF:p)(k:WO E caught r s' Q)(h:p->zV ops s=(s',r):=by intro hF;simp(disch:=omega)only[go_sem,hF]<;>rfl):WO E caught ops s Q:=wq k (h hF)
theorem wo{F:zd}{tm:Nat->PV}{H:LP}(k:R (.ret (ct vs)) H)(h:zr tm H F.res=some vs:=by simp only[go_sem]<;>rfl):yG E F R .ret ⟨tm,[],H⟩:=yd h k
theorem wW{d:LA}{args:List vQ}{g:Option (vQ×Bool)}{f:Nat}{caps aS:LQ}{b:Bool}{H0:LP}(k:FO E f aS H0 b R)(hQ:∀e H',R e H'->Ch E caught ops s d Q e H')(hg:qb s.tm g=some true:=by first|rfl|(simp only[go_sem]<;>rfl))(ha:zY s.tm args=some (.fn f caps::vs):=by simp only[go_sem]<;>rfl)(he:vs++caps=aS:=by rfl)(hH:s.H=H0:=by rfl):WO E caught (⟨d,.call,args,g⟩::ops) s Q:=Cc hg ha k he hH hQ
theorem uQ{p:vP}(h1:W E caught rnd p s Q)(hx:ev s.tm x=some (.bool true):=by simp only[go_sem]<;>rfl):W E caught rnd (.cond x p q) s Q:=sP hx (fun _=>h1) (fun h=>by cases h)
theorem uq{p:vP}(h1:W E caught rnd q s Q)(hx:ev s.tm x=some (.bool false):=by simp only[go_sem]<;>rfl):W E caught rnd (.cond x p q) s Q:=sP hx (fun h=>by cases h) (fun _=>h1)
end
section
variable {E:vZ}{caught:LD}{tm:Nat->PV}{s:DF}{Q:FX->DF->Prop}{g:yc}{l:List yc}{s1:DF}{o:vB}{p:Prop}
variable {H0:LP}{R:FE->LP->Prop}{a:AR}{caps:LQ}{f:Nat}{nm':Nat->PV}{v:PV}{vs:LQ}
theorem kK(hF:p)(k:WD E caught tm l s1 Q)(hx:p->qc tm g.exe s=some s1:=by intro hF;simp(disch:=omega)only[go_sem,hF]<;>rfl)(hc:zL s.K g.chk:=by first|exact trivial|simp only[go_sem])(ha:g.act=none:=by rfl):WD E caught tm (g::l) s Q:=bH k (hx hF) hc ha
theorem kM(hF:p)(k:WD E caught tm l s1 Q)(hx:p->qc tm g.exe s=some s1:=by intro hF;simp(disch:=omega)only[go_sem,hF]<;>rfl)(hc:p->zL s.K g.chk:=by intro hF;first|exact trivial|simp only[go_sem,hF])(ha:g.act=none:=by rfl):WD E caught tm (g::l) s Q:=bH k (hx hF) (hc hF) ha
theorem vW(hF:p)(k:WD E caught tm l ⟨nm',s1.df,a.H,qA a.W s1.K⟩ Q)(h:p->qN tm g s=some (s1,a):=by intro hF;simp(disch:=omega)only[go_sem,hF]<;>rfl)(hc:zL s.K g.chk:=by first|exact trivial|simp only[go_sem])(ha:g.act=some o:=by rfl)(hw:zZ tm s1.nm o.guard=some true:=by first|rfl|(simp only[go_sem]<;>rfl))(hn:qa s1.nm o.dst a.v=some nm':=by simp only[go_sem]<;>rfl):WD E caught tm (g::l) s Q:=aA k (h hF) hc ha hw hn
theorem uY(hF:p)(k:WD E caught tm l ⟨nm',s1.df,a.H,qA a.W s1.K⟩ Q)(h:p->qN tm g s=some (s1,a):=by intro hF;simp(disch:=omega)only[go_sem,hF]<;>rfl)(hc:p->zL s.K g.chk:=by intro hF;first|exact trivial|simp only[go_sem,hF])(ha:g.act=some o:=by rfl)(hw:zZ tm s1.nm o.guard=some true:=by first|rfl|(simp only[go_sem]<;>rfl))(hn:qa s1.nm o.dst a.v=some nm':=by simp only[go_sem]<;>rfl):WD E caught tm (g::l) s Q:=aA k (h hF) (hc hF) ha hw hn
theorem Np{aS:LQ}{same:Bool}(k:FO E f aS H0 same R)(hQ:∀e H',R e H'->sZ E caught tm l s1 o.dst same Q e H')(h:qp tm g s=some (s1,.fn f caps::vs))(hc:zL s.K g.chk:=by first|exact trivial|simp only[go_sem])(ha:g.act=some o:=by rfl)(hk:o.kind=.call:=by rfl)(hw:zZ tm s1.nm o.guard=some true:=by first|rfl|(simp only[go_sem]<;>rfl))(he:vs++caps=aS:=by rfl)(hH:s1.H=H0:=by rfl):WD E caught tm (g::l) s Q:=FU hc (aO h ha).1 ha hk hw (aO h ha).2 k he hH hQ
theorem cB{aS:LQ}{same:Bool}(hF:p)(k:FO E f aS H0 same R)(hQ:∀e H',R e H'->sZ E caught tm l s1 o.dst same Q e H')(h:p->qp tm g s=some (s1,.fn f caps::vs):=by intro hF;simp(disch:=omega)only[go_sem,hF]<;>rfl)(hc:zL s.K g.chk:=by first|exact trivial|simp only[go_sem])(ha:g.act=some o:=by rfl)(hk:o.kind=.call:=by rfl)(hw:zZ tm s1.nm o.guard=some true:=by first|rfl|(simp only[go_sem]<;>rfl))(he:vs++caps=aS:=by rfl)(hH:s1.H=H0:=by rfl):WD E caught tm (g::l) s Q:=Np k hQ (h hF) hc ha hk hw he hH
theorem wF{aS:LQ}(hF:p)(k:FN E f aS (.ret v))(hQ:WD E caught tm l ⟨nm',s1.df,s1.H,s1.K⟩ Q)(h:p->qp tm g s=some (s1,.fn f caps::vs):=by intro hF;simp(disch:=omega)only[go_sem,hF]<;>rfl)(hc:zL s.K g.chk:=by first|exact trivial|simp only[go_sem])(ha:g.act=some o:=by rfl)(hk:o.kind=.call:=by rfl)(hw:zZ tm s1.nm o.guard=some true:=by first|rfl|(simp only[go_sem]<;>rfl))(hl:LF s1.H 1 (vs++caps) aS:=by exact cz)(hn:qa s1.nm o.dst v=some nm':=by simp only[go_sem]<;>rfl):WD E caught tm (g::l) s Q:=sw k hQ (h hF) hc ha hk hw hl hn
theorem Ze{aS:LQ}(hF:p)(k:FN E f aS (.panic v))(hQ:Q (.panic v) s1)(h:p->qp tm g s=some (s1,.fn f caps::vs):=by intro hF;simp(disch:=omega)only[go_sem,hF]<;>rfl)(hc:p->zL s.K g.chk:=by first|exact fun _=>trivial|(intro hF;simp only[go_sem,hF]))(ha:g.act=some o:=by rfl)(hk:o.kind=.call:=by rfl)(hw:zZ tm s1.nm o.guard=some true:=by first|rfl|(simp only[go_sem]<;>rfl))(hl:LF s1.H 1 (vs++caps) aS:=by exact cz):WD E caught tm (g::l) s Q:=Nq k hQ (h hF) (hc hF) ha hk hw hl
end
section
variable {p P R:Prop}
variable {q r:Prop}
theorem zG(k:R)(h:R->P:=by intro hk;(repeat(first|refine vq ?_|refine um ?_));exact hk):P:=h k
theorem vA(hF:p)(k:R)(h:p->R->P:=by intro hF hk;(repeat(first|refine vq ?_|refine vC hF ?_));exact hk):P:=h hF k
theorem zI(k:R)(h:R->P:=by intro hk;(repeat refine vq ?_);refine aB ?_;exact hk):P:=h k
theorem vK(hF:p)(k:R)(h:p->R->P:=by intro hF hk;(repeat refine vq ?_);refine xr hF ?_;exact hk):P:=h hF k
theorem zJ(k:R)(h:R->P:=by intro hk;(repeat refine vq ?_);refine aB ?_;refine yR ?_;exact hk):P:=h k
theorem vp(hF:p)(k:R)(h:p->R->P:=by intro hF hk;(repeat refine vq ?_);refine xr hF ?_;refine yR ?_;exact hk):P:=h hF k
theorem zK(k:R)(h:R->P:=by intro hk;refine wq ?_;refine yR ?_;exact hk):P:=h k
theorem wA(hF:p)(k:R)(h:p->R->P:=by intro hF hk;refine vS hF ?_;refine yR ?_;exact hk):P:=h hF k
theorem zN(k:R)(h:R->P:=by intro hk;refine wq ?_;refine uH ?_;exact hk):P:=h k
theorem wN(hF:p)(k:R)(h:p->R->P:=by intro hF hk;refine vS hF ?_;refine uH ?_;exact hk):P:=h hF k
theorem zO(k:R)(h:R->P:=by intro hk;(repeat(first|refine vq ?_|refine um ?_));refine vw (wo ?_);exact hk):P:=h k
theorem wm(hF:p)(k:R)(h:p->R->P:=by intro hF hk;(repeat(first|refine vq ?_|refine vC hF ?_));refine vw (wo ?_);exact hk):P:=h hF k
theorem zP(k:R)(h:R->P:=by intro hk;refine wq ?_;refine uH ?_;refine vw (wo ?_);exact hk):P:=h k
theorem xf(hF:p)(k:R)(h:p->R->P:=by intro hF hk;refine vS hF ?_;refine uH ?_;refine vw (wo ?_);exact hk):P:=h hF k
theorem zQ(k:R)(h:R->P:=by intro hk;refine bH ?_;refine wY ?_;simp only[go_sem];exact hk):P:=h k
theorem vj(hF:p)(k:R)(h:p->R->P:=by intro hF hk;refine kK hF ?_;refine wY ?_;simp only[go_sem];exact hk):P:=h hF k
theorem zS(k:R)(h:R->P:=by intro hk;(repeat(first|refine vq ?_|refine um ?_));refine uQ ?_;exact hk):P:=h k
theorem wB(hF:p)(k:R)(h:p->R->P:=by intro hF hk;(repeat(first|refine vq ?_|refine vC hF ?_));refine uQ ?_;exact hk):P:=h hF k
theorem zT(k:R)(h:R->P:=by intro hk;(repeat(first|refine vq ?_|refine um ?_));refine uq ?_;exact hk):P:=h k
theorem xH(hF:p)(k:R)(h:p->R->P:=by intro hF hk;(repeat(first|refine vq ?_|refine vC hF ?_));refine uq ?_;exact hk):P:=h hF k
theorem zU(k:R)(h:R->P:=by intro hk;refine uQ ?_;(repeat(first|refine vq ?_|refine um ?_));refine vw (wo ?_);exact hk):P:=h k
theorem Zd(hF:p)(k:R)(h:p->R->P:=by intro hF hk;refine uQ ?_;(repeat(first|refine vq ?_|refine vC hF ?_));refine vw (wo ?_);exact hk):P:=h hF k
theorem zB(k:R)(h:R->P:=by intro hk;(repeat refine vq ?_);exact hk):P:=h k
theorem zM(c:q)(k:R)(h:q->R->P:=by intro hc hk;(repeat refine vq ?_);refine aB ?_;refine vo hc ?_;refine wq ?_;refine uH ?_;exact hk):P:=h c k
theorem wl(c:q)(k:R)(h:q->R->P:=by intro hc hk;(repeat(first|refine vq ?_|refine um ?_));refine aB ?_;refine vo hc ?_;refine wq ?_;refine uH ?_;exact hk):P:=h c k
theorem wD(c:q)(k:R)(h:q->R->P:=by intro hc hk;refine vo hc ?_;refine wq ?_;refine uH ?_;exact hk):P:=h c k
theorem vD(k:R)(h:R->P:=by intro hk;(repeat refine vq ?_);refine vm ?_;exact hk):P:=h k
theorem vR(k:R)(h:R->P:=by intro hk;(repeat refine vq ?_);refine wV ?_;exact hk):P:=h k
theorem yv(k:R)(h:R->P:=by intro hk;(repeat refine vq ?_);refine wa ?_;exact hk):P:=h k
theorem zH(k:R)(h:R->P:=by intro hk;refine uq ?_;refine wK ?_;exact hk):P:=h k
theorem mL(k:R)(h:R->P:=by intro hk;(repeat(first|refine vq ?_|refine um ?_));refine uq ?_;refine wK ?_;exact hk):P:=h k
theorem kp(hF:p)(k:R)(h:p->R->P:=by intro hF hk;(repeat(first|refine vq ?_|refine vC hF ?_));refine uq ?_;refine wK ?_;exact hk):P:=h hF k
theorem vM[Decidable q](h:decide q=true)(k:q->r:=by intro h;omega):r:=k (of_decide_eq_true h)
theorem vL[Decidable q](h:decide q=false)(k:¬q->r:=by intro h;omega):r:=k (of_decide_eq_false h)
end
theorem vN(h:p:=by(repeat(first|exact trivial|refine And.intro ?_ ?_|refine ze.tL ?_|refine ze.aggL ?_|exact ze.int _ _|exact ze.bool _|exact ze.list _ _ _|exact ze.elem _|exact ze.nilsl|exact ze.nil _ _|exact ze.str _))):p:=h
def zyB:=And.intro (@ZK za) (And.intro (@ZK PV) (And.intro (@Zl za) (@Zl PV)))
def zyC:=And.intro (@zAW9 Nat PV) (And.intro (@zAW9 Int PV) (@zAW9 (Nat×Nat) PV))
theorem vu{a b P:Prop}(hF:p)(ha:a)(hb:b)(h:p->a->b->P:=by intro hF ha hb;(try refine fM ?_);refine vq (vC hF ?_);refine fE ?_ ?_;exact ha;exact hb):P:=h hF ha hb
section
variable {E:vZ}{caught:LD}{rnd:LA}{c:vP}{s:vn}{Q:FX->vn->Prop}{p P:Prop}
theorem vY(k:W E caught rnd c s Q)(h:W E caught rnd c s Q->P:=by intro hk;refine wK ?_;exact hk):P:=h k
end
section
variable {E:vZ}{caught:LD}{rnd:LA}{s:vn}{Q:FX->vn->Prop}{x:vQ}{u v:vP}{p:Prop}
theorem mN(hF:p)(h1:W E caught rnd u s Q)(hx:p->ev s.tm x=some (.bool true):=by intro hF;simp only[go_sem,hF]<;>rfl):W E caught rnd (.cond x u v) s Q:=uQ h1 (hx hF)
theorem cA(hF:p)(h1:W E caught rnd v s Q)(hx:p->ev s.tm x=some (.bool false):=by intro hF;simp only[go_sem,hF]<;>rfl):W E caught rnd (.cond x u v) s Q:=uq h1 (hx hF)
theorem pY(hF:p){b:Bool}(h1:b=true->W E caught rnd u s Q)(h2:b=false->W E caught rnd v s Q)(hx:p->ev s.tm x=some (.bool b):=by intro hF;simp only[go_sem,hF]<;>rfl):W E caught rnd (.cond x u v) s Q:=wn h1 h2 (hx hF)
end
variable {P:Prop}{i:Nat}{α:Type}{l:List α}{x:α}
theorem su{E:vZ}{caught:LD}{rnd:LA}{c:vP}{s:vn}{Q:FX->vn->Prop}(hF:p)(k:W E caught rnd c s Q)(h:p->W E caught rnd c s Q->P:=by intro hF hk;refine uq ?_ (by simp only[go_sem,hF]<;>rfl);refine wK ?_;exact hk):P:=h hF k
theorem wI{R:Prop}(k:R)(h:R->P:=by intro hk;(repeat(first|refine vq ?_|refine um ?_));refine aB ?_;exact hk):P:=h k
theorem wX(h:i<l.length):∃x,l[i]?=some x:=⟨_,Zg h⟩
theorem vU{β:Type}{f:α->β}(h:l[i]?=some x):(l.map f)[i]?=some (f x):=by rw[Zt,h];rfl
theorem bG(h:p:=by(repeat(first|exact trivial|refine And.intro ?_ ?_|exact vg.int _ _|exact vg.bool _|exact vg.list _ _ _|exact vg.elem _|exact vg.nilsl|exact vg.str _|exact m7 _ _ _))):p:=h
theorem uG{f:α->PV}{z:Nat}(h:∀x,(f x).cells.length=z:=by intro _;rfl):∀v∈l.map f,v.cells.length=z:=fun v a=>by
 obtain⟨x,_,rfl⟩:=Zu.1 a;exact h x
theorem pX(h:l[i]?=some x):l.drop i=x::l.drop (i+1):=by
 obtain⟨h1,e⟩:=Zh.1 h;rw[Zs h1,e]
variable {E:vZ}
theorem HR.adopt{B:Ba}{c:Cx}{H:LP}{h h':TH}(hr:HR B c H h)(hn:h.next<=h'.next)(hk:∀b,b<h.next->h'.get b=h.get b){b d z:Nat}(hb:h.next<=b)(hb2:b<h'.next){o:za}(ho:OR (c.add H.length b d z) h' H.length o) :
  Mo c (c.add H.length b d z) h h'/\HR B (c.add H.length b d z) (H++[o]) h':=by
 have s:c.ρ H.length=none:=by
  cases k:c.ρ H.length with
  | none=>rfl
  | some y=>have:=(hr.own _ _ k).2.2;omega
 have m:Mo c (c.add H.length b d z) h h':=⟨fun _ _ h=>h,fun id y a=>by
  show (if id=H.length then _ else _)=_;rw[if_neg (fun e=>by subst e;rw[s]at a;cases a)];exact a,fun _ h=>h,fun p b hb g o n A k=>EF hk k⟩
 have i:∀id y,(c.add H.length b d z).ρ id=some y->(id=H.length/\y=(b,d,z))\/c.ρ id=some y:=fun id y a=>by
  have a:(if id=H.length then some (b,d,z)else c.ρ id)=some y:=a
  grind
 have w:=hr.le;refine⟨m,⟨Z0 hr.le hn,fun x j=>?_,hr.old,fun p x j=>?_,fun id y a=>?_,fun id t=>?_,fun id l y r a f e=>?_,fun id u q=>?_⟩⟩
 .rw[hk x (ZR j hr.le)];exact hr.keep x j
 .obtain⟨h1,h2⟩:=hr.S p x j
  grind
 .rw[Zl];rcases i id y a with⟨rfl,rfl⟩|a
  .grind
  .obtain⟨h1,h2,h3⟩:=hr.own id y a;omega
 .obtain⟨h1,h2⟩:=hr.lz id t
  grind
 .rcases i id y a with⟨rfl,rfl⟩|a
  .rcases i l r f with⟨rfl,rfl⟩|f
   .rfl
   .have:=(hr.own _ _ f).2.1;dsimp only at e;omega
  .rcases i l r f with⟨rfl,rfl⟩|f
   .have:=(hr.own _ _ a).2.1;dsimp only at e;omega
   .exact hr.inj _ _ _ _ a f e
 .by_cases v:id<H.length
  .rw[ZM v]at q;refine(hr.obj id u q).move m ?_ (fun h=>h) fun y a=>hk _ (hr.own _ _ a).2.1;show (if id=H.length then _ else _)=_
   grind
  grind
def sA(l:LQ):Prop:=∀v∈l,∃k n,v=.int k n
theorem FO.own1{f:Nat}{args aS:LQ}{H:LP}{l:LQ}{e0 z n:Nat}(k:FO E f aS [] false (fun e' H'=>∃id g M,e'=.ret (.sl id g 0 n (2*n) z)/\M<=g/\H'[id]?=some (.row e0 z g M l)))(hl:LF H 1 args aS)(hi:sA (l.flatMap PV.cells))(hne:l ≠ []) :
  FO E f args H true (fun e' H'=>∃g M,e'=.ret (.sl H.length g 0 n (2*n) z)/\M<=g/\H'=H++[.row e0 z g M l]):=fun B c h R j T=>by
 have h1:=LF.ok j (S:=dQ c) (fun p b e=>.inl e) (fun id x a=>.inr ⟨rfl,id,x,a,rfl⟩) hl T;have U:∀p b,dQ c p b->b<h.next:=fun p b e=>by
  rcases e with e|⟨_,id,x,a,rfl⟩
  .exact(j.S p b e).1
  .exact(j.own _ _ a).2.1
 have K:HR ⟨h.next,h,dQ c⟩ ⟨dQ c,fun _=>none,fun _=>False⟩ [] h:=⟨Zi _,fun _ _=>rfl,fun p b e=>.inl e,fun p b e=>⟨U p b e,fun id x a=>(by cases a)⟩,fun id x a=>(by cases a),fun id a=>a.elim,fun id ab x x' a=>(by cases a),fun id o V=>(by simp at V)⟩
 obtain⟨r,q,e',H',X,Y,⟨id,g,M,rfl,Z,J⟩,m1,s,t,_⟩:=k _ _ h R K (LR.pure (c:=⟨dQ c,fun _=>none,fun _=>False⟩) h1);have hn:=s.le;have G:∀b,b<h.next->q.get b=h.get b:=fun b e=>s.keep b e
 cases r with
 | panic u=>exact t.elim
 | ret u =>
  have t:VR X q (.sl id g 0 n (2*n) z) u:=t;rcases s.obj id _ J with⟨h0,_⟩|⟨b,d,G',M',cells,I,A,r2,r3,r4,r5,C⟩
  .exact absurd h0 hne
  obtain⟨D,o2,_⟩:=s.own id _ A;have D:h.next<=b:=D;rcases sl_inv t with⟨_,_,_,_,_,hL⟩|⟨b',d',g',v,L,rfl⟩
  .have N:=(s.lz id hL).2 _ A;dsimp only at N;omega
  rw[A]at v;injection v with v;injection v with O w;injection w with w ad;subst O w;have P:ER (VR (c.add H.length b d z) q) z l I:=by
   refine⟨C.one,C.all.1,fun i x y a hy=>?_⟩;obtain⟨kk,nn,rfl⟩:=hi x (Zj a);have:=C.all.2 i _ y a hy;obtain rfl:=this.int_inv;exact .pure (.int _ _)
  obtain⟨m,Q⟩:=j.adopt hn G (z:=z) D o2 (o:=.row e0 z g M l) (.inr ⟨b,d,G',M',cells,I,add_same ..,r2,r3,r4,r5,P⟩);refine⟨_,q,_,_,_,Y,⟨g,M,rfl,Z,rfl⟩,m,Q,?_,fun _ id x a=>G _ (j.own _ _ a).2.1⟩;show VR _ q (.sl H.length g 0 n (2*n) z) _;rw[L];exact .sl (add_same ..)
def Bo:List vB->Bool
 | []=>true
 | o::l=>Nat.beq o.kind.cls 0&&Bo l
def lT:vP->Bool
 | .region ops=>Bo ops
 | .seq a b=>lT a&&lT b
 | .skip=>true
 | .ret=>true
 | _=>false
variable {C:ua}
theorem St.put_hd(s:St)(d:LA)(v:TV):(s.put d v).h=s.h/\(s.put d v).df=s.df:=by
 unfold St.put;split<;>exact⟨rfl,rfl⟩
theorem KH{caught:LD}:∀(l:List vB) (s:St) (r:TS),Bo l=true->kJ C caught l s=some r->∃s',r=.go s'/\s'.h=s.h/\s'.df=s.df
 | [],s,r,_,h=>by injection h with h;exact⟨s,h.symm,rfl,rfl⟩
 | o::l,s,r,b,h=>by
  unfold Bo at b;rw[Zm]at b;have d:=Zk b.1;have h1:∀t,pT C caught o s=some t->∃s',t=.go s'/\s'.h=s.h/\s'.df=s.df:=fun t a=>by
   unfold pT at a
   split at a
   .cases a
   .injection a with a;exact⟨_,a.symm,St.put_hd _ _ _⟩
   .split at a
    .cases a
    .unfold nW at a;rw[d]at a;change Bl _ _ _=_ at a;unfold Bl at a
     split at a
     .injection a with a;exact⟨_,a.symm,St.put_hd _ _ _⟩
     .cases a
  unfold kJ at h
  cases c:pT C caught o s with
  | none=>rw[c]at h;cases h
  | some t =>
   obtain⟨s1,rfl,e,f⟩:=h1 t c;rw[c]at h;obtain⟨g,i,j,k⟩:=KH l s1 r b.2 h;exact⟨g,i,j.trans e,k.trans f⟩
theorem Ep{caught:LD}{N:Nat}{rnd:LA}:∀(c:vP) (s s':St) (x:TX),lT c=true->we C caught N rnd c s=some (x,s')->s'.h=s.h/\s'.df=s.df
 | .skip,s,s',x,_,h=>by unfold we at h;injection h with h;injection h with _ h;subst h;exact⟨rfl,rfl⟩
 | .ret,s,s',x,_,h=>by unfold we at h;injection h with h;injection h with _ h;subst h;exact⟨rfl,rfl⟩
 | .region ops,s,s',x,d,h=>by
  unfold we at h
  cases g:kJ C caught ops s with
  | none=>rw[g]at h;cases h
  | some r =>
   obtain⟨s1,rfl,e,f⟩:=KH ops s r d g;rw[g]at h;injection h with h;injection h with _ h;subst h;exact⟨e,f⟩
 | .seq a b,s,s',x,d,h=>by
  unfold lT at d;rw[Zm]at d;unfold we at h
  cases i:we C caught N rnd a s with
  | none=>rw[i]at h;cases h
  | some r =>
   obtain⟨y,s1⟩:=r;obtain⟨e,f⟩:=Ep a s s1 y d.1 i;rw[i]at h
   cases y with
   | norm =>
    obtain⟨j,k⟩:=Ep b s1 s' x d.2 h;exact⟨j.trans e,k.trans f⟩
   | _=>injection h with h;injection h with _ h;subst h;exact⟨e,f⟩
theorem FO.pure{f:Nat}{F:zd}{args:LQ}{H:LP}{R:FE->LP->Prop}{b:Bool}(hF:E.funcs.get f=some F)(hp:lT F.body=true)(k:FO E f args H b R):FO E f args H true R:=fun B c h a s u=>by
 obtain⟨r,j,e,w,z,l,q,m,o,A,_⟩:=k B c h a s u;refine⟨r,j,e,w,z,l,q,m,o,A,fun _ id x D=>?_⟩;obtain⟨K,C⟩:=l;have h1:=C (K+1) zo (K+1) zo;change Tw.zV (EN E (K+1)) (xy (EN E (K+1)) K) f a h=_ at h1;unfold Tw.zV at h1;rw[show (EN E (K+1)).funcs.get f=some F from hF]at h1;dsimp only at h1;have p:j=h:=by
  cases n:Nat.ble a.length F.N with
  | false=>rw[n]at h1;cases h1
  | true =>
   rw[n,cond_true]at h1
   cases i:we (xy (EN E (K+1)) K) (EN E (K+1)).caught (EN E (K+1)).N none F.body ⟨Tr.putL .nil 0 a,[],h⟩with
   | none=>rw[i]at h1;cases h1
   | some t =>
    obtain⟨y,s'⟩:=t;obtain⟨d,g⟩:=Ep _ _ _ _ hp i;dsimp only at d g;rw[i]at h1
    cases y with
    | norm =>
     change gJ (EN E (K+1)) F s'.tm (yk (EN E (K+1)) (xy (EN E (K+1)) K) s'.df .returning s'.h)=_ at h1;rw[g,d]at h1;unfold yk gJ at h1;grind
    | ret =>
     change gJ (EN E (K+1)) F s'.tm (yk (EN E (K+1)) (xy (EN E (K+1)) K) s'.df .returning s'.h)=_ at h1;rw[g,d]at h1;unfold yk gJ at h1;grind
    | panic v =>
     change gJ (EN E (K+1)) F s'.tm (yk (EN E (K+1)) (xy (EN E (K+1)) K) s'.df (.panicking v) s'.h)=_ at h1;rw[g,d]at h1;unfold yk gJ at h1;grind
    | _=>cases h1
 rw[p]
end Fv
end Go.Proofs.YtkeknmgnoceogaaGreat
