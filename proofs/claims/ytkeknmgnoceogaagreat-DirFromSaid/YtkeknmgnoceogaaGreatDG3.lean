/- part 3 of the proof of dir_from. -/
import Derived.Test.YtkeknmgnoceogaaGreatDG2
import Derived.IntWalk
set_option linter.unusedSimpArgs false
set_option linter.unusedVariables false
namespace Go.Proofs.YtkeknmgnoceogaaGreat
namespace Fv
open Tw
variable {E:Env}{caught:Tr Unit}
def WO (E:Env)(caught:Tr Unit)(ops:List zbo)(s:FSt)(Q:FX->FSt->Prop):Prop :=
 ∀B c t,SR B c s t->∃r x s' c' t',Ev E (fun C _=>zeD C caught ops t=some r)/\Q x s'/\Mo c c' t.h t'.h/\SR B c' s' t'/\((x=.norm/\r=.go t')\/∃v u,x=.panic v/\r=.panic u t'/\VR c' t'.h v u)
theorem zhg {s:FSt}{Q:FX->FSt->Prop}(h:Q .norm s):WO E caught [] s Q:=fun B c t hs=>⟨.go t,.norm,s,c,t,Ev.all fun _ _=>rfl,h,Mo.refl _ _,hs,.inl ⟨rfl,rfl⟩⟩
theorem zyu {o:zbo}{ops:List zbo}{s s':FSt}{Q:FX->FSt->Prop}(h:zaE o s=some s')(k:WO E caught ops s' Q):WO E caught (o::ops) s Q:=fun B c t hs=>by
 obtain⟨c1,t1,h1,m1,k1⟩:=zoE hs h ⟨fun _ _ _=>none,fun _ _ _=>none⟩ caught;obtain⟨r,x,s2,c2,t2,e2,q2,m2,k2,h2⟩:=k B c1 t1 k1;exact⟨r,x,s2,c2,t2,e2.mono fun C N e=>by unfold zeD;rw[h1];exact e,q2,m1.trans m2,k2,h2⟩
def zw2 (E:Env)(caught:Tr Unit)(ops:List zbo)(s:FSt)(d:Option Nat)(Q:FX->FSt->Prop):FE->List zd->Prop
 | .ret v,H'=>WO E caught ops (FSt.put ⟨s.tm,s.df,H'⟩ d v) Q
 | .panic v,H'=>Q (.panic v) ⟨s.tm,s.df,H'⟩
theorem zjo {d:Option Nat}{args:List TOp}{g:Option (TOp×Bool)}{ops:List zbo}{s:FSt}{Q:FX->FSt->Prop}{f:Nat}{caps vs:List PV}{b:Bool}
  (hg:zat s.tm g=some true) (ha:evs s.tm args=some (.fn f caps::vs)) (k:FO E f (vs++caps) s.H b (zw2 E caught ops s d Q)):WO E caught (⟨d,.call,args,g⟩::ops) s Q:=fun B c t hs=>by
 have hw:=zeR hs.tm hg;obtain⟨us,u1,u2⟩:=zi6 hs.tm ha;obtain⟨u,us',rfl,u3,u4⟩:=u2.of_cons;obtain⟨cs,rfl,u5⟩:=u3.fn_inv;obtain⟨r,h',e,H',c',e1,q1,m1,k1,re,_⟩:=k B c t.h _ hs.hr (u4.app u5);have hstep:∀C,C.fn f (us'++cs) t.h=some (r,h')->zfH C caught ⟨d,.call,args,g⟩ t=znR d t (zk9 (some (r,h'))):=fun C hC=>by
  unfold zfH;rw[hw,u1];simp only[ziO,zZ.cls,act,zk2];rw[hC]
 cases e with
 | ret v =>
  cases r with
  | panic u=>exact re.elim
  | ret u =>
   have re:VR c' h' v u:=re;obtain⟨r2,x,s2,c2,t2,e2,q2,m2,k2,h2⟩:=q1 B c' ((⟨t.tm,t.df,h'⟩:St).put d u) (hs.put m1 k1 re d);rw[put_h]at m2;exact⟨r2,x,s2,c2,t2,Ev.and2 (fun C N a b=>by unfold zeD;rw[hstep C a];exact b) e1 e2,q2,m1.trans m2,k2,h2⟩
 | panic v =>
  cases r with
  | ret u=>exact re.elim
  | panic u =>
   have re:VR c' h' v u:=re;exact⟨.panic u ⟨t.tm,t.df,h'⟩,.panic v,_,c',⟨t.tm,t.df,h'⟩,e1.mono fun C N a=>by unfold zeD;rw[hstep C a];rfl,q1,m1,⟨k1,hs.tm.mono m1,hs.df.mono m1⟩,.inr ⟨v,u,rfl,rfl,re⟩⟩
theorem RE.mono {R R':PV->TV->Prop}(hR:∀v u,R v u->R' v u){e:FE}{r:TE}(h:RE R e r):RE R' e r:=by
 cases e<;>cases r<;>first|exact hR _ _ h|exact h.elim
def Cx.lay (c:Cx)(a b:Nat):Cx:=⟨S1 c.S a b,c.ρ,c.L⟩
theorem HR.grown {B:Ba}{c:Cx}{H:List zd}{h h':TH}(k:HR B c H h)(hn:h.next<=h'.next)(hk:∀b,b<h.next->h'.get b=h.get b):Mo c (c.lay h.next h'.next) h h'/\HR B (c.lay h.next h'.next) H h':=by
 have m:Mo c (c.lay h.next h'.next) h h':=⟨fun p b hb=>.inl hb,fun _ _ h=>h,fun _ h=>h,fun _ _ _ _ _ _ _ hr=>zoT hk hr⟩
 refine⟨m,⟨zBJ9 k.le hn,fun b hb=>by rw[hk b (zBC9 hb k.le)];exact k.keep b hb,fun p b hb=>?_,fun p b hb=>?_,fun id x hx=>?_,k.lz,k.inj,fun id o ho=>(k.obj id o ho).move m rfl (fun h=>h) fun y hy=>hk _ (k.own _ _ hy).2.1⟩⟩
 ·rcases hb with hb|⟨h1,h2,_⟩
  ·exact k.old p b hb
  ·exact .inr ⟨h1,zBJ9 k.le h2⟩
 ·rcases hb with hb|⟨h1,h2,h3⟩
  ·obtain⟨a1,a2⟩:=k.S p b hb;exact⟨zBC9 a1 hn,a2⟩
  ·exact⟨h3,fun id x hx e=>by have:=(k.own _ _ hx).2.1;omega⟩
 ·obtain⟨a1,a2,a3⟩:=k.own id x hx;omega
def zmk (c:Cx):zeF:=fun p b=>c.S p b\/(p=1/\∃id x,c.ρ id=some x/\x.1=b)
theorem FN.FO {f:Nat}{args aS:List PV}{e:FE}{H:List zd}(k:FN E f aS e)(hl:LF H 1 args aS):FO E f args H true (fun e' H'=>e'=e/\H'=H):=fun B c h us hr ha=>by
 have h1:=LF.ok hr (S:=zmk c) (fun p b hb=>.inl hb) (fun id x hx=>.inr ⟨rfl,id,x,hx,rfl⟩) hl ha;obtain⟨r,h',e1,hn,hk,re⟩:=k (zmk c) h us (fun p b hb=>by
  rcases hb with hb|⟨_,id,x,hx,rfl⟩
  ·exact(hr.S p b hb).1
  ·exact(hr.own _ _ hx).2.1) h1
 obtain⟨m,hr'⟩:=hr.grown hn hk;refine⟨r,h',e,H,c.lay h.next h'.next,e1,⟨rfl,rfl⟩,m,hr',re.mono fun v u hv=>.pure (hv.mono (fun p b hb=>?_) fun _ _ _ _ _ _ _ hr=>hr),fun _ id x hx=>hk _ (hr.own _ _ hx).2.1⟩;obtain⟨rfl,hb|hb⟩:=hb
 ·rcases hb with hb|⟨h0,_⟩
  ·exact .inl hb
  ·cases h0
 ·exact .inr ⟨rfl,hb⟩
inductive Id0:PV->Prop
 | bool (b:Bool):Id0 (.bool b)
 | int (k:IntKind) (n:Int):Id0 (.int k n)
 | str (s:List Nat):Id0 (.str s)
 | nilptr:Id0 .nilptr
 | nilsl:Id0 .nilsl
 | nilmap:Id0 .nilmap
 | nilfn:Id0 .nilfn
 | niliface:Id0 .niliface
 | list (p z:Nat) (l:List PV):Id0 (.list p z l)
 | elem (l:List PV):Id0 (.elem l)
 | iface {t:Nat} {v:PV}:Id0 v->Id0 (.iface t v)
 | fn {f:Nat} {l:List PV}:(∀x∈l,Id0 x)->Id0 (.fn f l)
 | agg {l:List PV}:(∀x∈l,Id0 x)->Id0 (.agg l)
 | tuple {l:List PV}:(∀x∈l,Id0 x)->Id0 (.tuple l)
theorem Id0.ok {c:Cx}{h:TH}{v:PV}(k:Id0 v):∀{u:TV},VR c h v u->PR c.S h v u:=by
 induction k with
 | bool b=>intro u hv;obtain rfl:=hv.bool_inv;exact .bool b
 | int kk n=>intro u hv;obtain rfl:=hv.int_inv;exact .int kk n
 | str s=>intro u hv;obtain rfl:=hv.str_inv;exact .str s
 | nilptr=>intro u hv;cases hv with|pure hv=>exact hv
 | nilsl=>intro u hv;cases hv with|pure hv=>exact hv
 | nilmap=>intro u hv;cases hv with|pure hv=>exact hv
 | nilfn=>intro u hv;cases hv with|pure hv=>exact hv
 | niliface=>intro u hv;cases hv with|pure hv=>exact hv
 | list p z l=>intro u hv;cases hv with|pure hv=>exact hv
 | elem vs=>intro u hv;cases hv with|pure hv=>exact hv
 | iface _ ih=>intro u hv;obtain⟨u',rfl,h1⟩:=hv.iface_inv;exact .iface (ih h1)
 | fn _ ih=>intro u hv;obtain⟨cs,rfl,h1⟩:=hv.fn_inv;exact .fn h1.1 fun i x y hx hy=>ih x (zAJ9 hx) (h1.2 i x y hx hy)
 | agg _ ih=>intro u hv;obtain⟨cs,rfl,h1⟩:=hv.agg_inv;exact .agg h1.1 fun i x y hx hy=>ih x (zAJ9 hx) (h1.2 i x y hx hy)
 | tuple _ ih=>intro u hv;obtain⟨cs,rfl,h1⟩:=hv.tuple_inv;exact .tuple h1.1 fun i x y hx hy=>ih x (zAJ9 hx) (h1.2 i x y hx hy)
theorem FP.FO {f:Nat}{args:List PV}{e:FE}{H:List zd}(k:FP E f args e)(hl:∀x∈args,Id0 x):FO E f args H true (fun e' H'=>e'=e/\H'=H):=fun B c h us hr ha=>by
 obtain⟨r,h',e1,hn,hk,re⟩:=k c.S h us (fun p b hb=>(hr.S p b hb).1) ⟨ha.1,fun i x y hx hy=>(hl x (zAJ9 hx)).ok (ha.2 i x y hx hy)⟩;obtain⟨m,hr'⟩:=hr.grown hn hk;exact⟨r,h',e,H,c.lay h.next h'.next,e1,⟨rfl,rfl⟩,m,hr',re.mono fun v u hv=>.pure hv,fun _ id x hx=>hk _ (hr.own _ _ hx).2.1⟩
theorem FO.mono {f:Nat}{args:List PV}{H:List zd}{b:Bool}{Q Q':FE->List zd->Prop}(hQ:∀e H,Q e H->Q' e H)(k:FO E f args H b Q):FO E f args H b Q':=fun B c h us hr ha=>by
 obtain⟨r,h',e,H',c',e1,q1,h2⟩:=k B c h us hr ha
 grind
theorem zhK {d:Option Nat}{args:List TOp}{g:Option (TOp×Bool)}{ops:List zbo}{s:FSt}{Q:FX->FSt->Prop}{f:Nat}{caps vs aS:List PV}{v:PV}
  (hg:zat s.tm g=some true) (ha:evs s.tm args=some (.fn f caps::vs)) (k:FN E f aS (.ret v)) (hl:LF s.H 1 (vs++caps) aS) (hQ:WO E caught ops (s.put d v) Q):WO E caught (⟨d,.call,args,g⟩::ops) s Q :=
 zjo hg ha ((FN.FO k hl).mono fun e H' he=>by obtain⟨rfl,rfl⟩:=he;exact hQ)
theorem zxm {d:Option Nat}{args:List TOp}{g:Option (TOp×Bool)}{ops:List zbo}{s:FSt}{Q:FX->FSt->Prop}{f:Nat}{caps vs aS:List PV}{v:PV}
  (hg:zat s.tm g=some true) (ha:evs s.tm args=some (.fn f caps::vs)) (k:FN E f aS (.panic v)) (hl:LF s.H 1 (vs++caps) aS) (hQ:Q (.panic v) s):WO E caught (⟨d,.call,args,g⟩::ops) s Q :=
 zjo hg ha ((FN.FO k hl).mono fun e H' he=>by obtain⟨rfl,rfl⟩:=he;exact hQ)
theorem zqO {d:Option Nat}{args:List TOp}{g:Option (TOp×Bool)}{ops:List zbo}{s:FSt}{Q:FX->FSt->Prop}{ty:Nat}{v:PV}
  (hg:zat s.tm g=some true) (ha:evs s.tm args=some [.iface ty v]) (hQ:Q (.panic (.iface ty v)) s):WO E caught (⟨d,.panic,args,g⟩::ops) s Q:=fun B c t hs=>by
 have hw:=zeR hs.tm hg;obtain⟨us,u1,u2⟩:=zi6 hs.tm ha;obtain⟨u,us',rfl,u3,u4⟩:=u2.of_cons;obtain rfl:=u4.of_nil;obtain⟨u',rfl,u5⟩:=u3.iface_inv;refine⟨.panic (.iface ty u') t,.panic (.iface ty v),s,c,t,Ev.all fun C N=>?_,hQ,Mo.refl _ _,hs,.inr ⟨_,_,rfl,rfl,u3⟩⟩;unfold zeD zfH;rw[hw,u1];rfl
theorem zrl {d:Option Nat}{args:List TOp}{g:Option (TOp×Bool)}{ops:List zbo}{s:FSt}{Q:FX->FSt->Prop}{f:Nat}{p cl:PV}
  (hg:zat s.tm g=some true) (ha:evs s.tm args=some [.fn f [],p,cl]) (hc:caught.get f=some ()) (k:WO E caught ops (FSt.put ⟨s.tm,.caught p cl::s.df,s.H⟩ d (.tuple [])) Q):WO E caught (⟨d,.defer,args,g⟩::ops) s Q:=fun B c t hs=>by
 have hw:=zeR hs.tm hg;obtain⟨us,u1,u2⟩:=zi6 hs.tm ha;obtain⟨u,us',rfl,u3,u4⟩:=u2.of_cons;obtain⟨up,us',rfl,u5,u6⟩:=u4.of_cons;obtain⟨ul,us',rfl,u7,u8⟩:=u6.of_cons;obtain rfl:=u8.of_nil;obtain⟨cs,rfl,u9⟩:=u3.fn_inv;obtain rfl:=u9.of_nil;have hs1:SR B c ⟨s.tm,.caught p cl::s.df,s.H⟩ ⟨t.tm,.caught up ul::t.df,t.h⟩:=⟨hs.hr,hs.tm,⟨u5,u7⟩,hs.df⟩
 obtain⟨r2,x,s2,c2,t2,e2,q2,m2,k2,h2⟩:=k B c ((⟨t.tm,.caught up ul::t.df,t.h⟩:St).put d (.tuple [])) (hs1.put (Mo.refl _ _) hs.hr (VR.tupL LR.nil) d);rw[put_h]at m2;refine⟨r2,x,s2,c2,t2,e2.mono fun C N e=>?_,q2,m2,k2,h2⟩;unfold zeD zfH;rw[hw,u1];simp only[ziO,zZ.cls,act,zqr];rw[hc];exact e
def RN (c:Cx):Option Nat->Option Nat->Prop
 | none,none=>True
 | some id,some b=>∃d z,c.ρ id=some (b,d,z)
 | _,_=>False
theorem RN.mono {c c':Cx}{h h':TH}(m:Mo c c' h h'){a b:Option Nat}(k:RN c a b):RN c' a b:=by
 cases a<;>cases b<;>first|exact k|(obtain⟨d,z,k⟩:=k;exact⟨d,z,m.ρ _ _ k⟩)
def W (E:Env)(caught:Tr Unit)(rnd:Option Nat)(code:zbI)(s:FSt)(Q:FX->FSt->Prop):Prop :=
 ∀B c t rnd',SR B c s t->RN c rnd rnd'->∃x' t' x s' c',Ev E (fun C N=>zbK C caught N rnd' code t=some (x',t'))/\Q x s'/\XR c' t'.h x x'/\Mo c c' t.h t'.h/\SR B c' s' t'
variable {rnd:Option Nat}{s:FSt}{Q Q':FX->FSt->Prop}
theorem zcV {code:zbI}(k:W E caught rnd code s Q)(hQ:∀x s,Q x s->Q' x s):W E caught rnd code s Q':=fun B c t rnd' hs hn=>by
 obtain⟨x',t',x,s',c',h1,h2,h3⟩:=k B c t rnd' hs hn
 grind
theorem zas (h:Q .norm s):W E caught rnd .skip s Q:=fun B c t rnd' hs hn=>⟨.norm,t,.norm,s,c,Ev.all fun _ _=>rfl,h,.norm,Mo.refl _ _,hs⟩
theorem zjb {id:Nat}(h:Q (.exit id) s):W E caught rnd (.exit id) s Q:=fun B c t rnd' hs hn=>⟨.exit id,t,.exit id,s,c,Ev.all fun _ _=>rfl,h,.exit id,Mo.refl _ _,hs⟩
theorem zje {l:Nat}(h:Q (.goto l) s):W E caught rnd (.goto l) s Q:=fun B c t rnd' hs hn=>⟨.goto l,t,.goto l,s,c,Ev.all fun _ _=>rfl,h,.goto l,Mo.refl _ _,hs⟩
theorem zbG (h:Q .ret s):W E caught rnd .ret s Q:=fun B c t rnd' hs hn=>⟨.ret,t,.ret,s,c,Ev.all fun _ _=>rfl,h,.ret,Mo.refl _ _,hs⟩
def zlk:List zbo->(Nat->PV)->(Nat->PV)
 | [],tm=>tm
 | o::l,tm=>zlk l (match o.dst with|some d=>upd tm d .bad|none=>tm)
theorem zpw {c:Cx}{h:TH}:∀{ops:List zbo} {tm:Nat->PV} {t:Tr TV},tmR c h tm t->tmR c h (zlk ops tm) (zd2 ops t)
 | [],_,_,k=>k
 | o::l,tm,t,k=>by
  unfold zlk zd2;refine zpw ?_
  cases o.dst with
  | none=>exact k
  | some d =>
   intro i
   ·dsimp only;unfold upd;rw[Tr.get_set]
    by_cases e:i=d
    ·rw[if_pos e];exact .inl rfl
    ·rw[if_neg e,if_neg e];exact k i
@[reducible] def zeq (ops:List zbo) (Q:FX->FSt->Prop):FX->FSt->Prop
 | .norm,s=>Q .norm s
 | x,s=>Q x ⟨zlk ops s.tm,s.df,s.H⟩
theorem zau {ops:List zbo}(k:WO E caught ops s (zeq ops Q)):W E caught rnd (.region ops) s Q:=fun B c t rnd' hs hn=>by
 obtain⟨r,x,s',c',t',e1,q1,m1,k1,h2⟩:=k B c t hs;rcases h2 with⟨rfl,rfl⟩|⟨v,u,rfl,rfl,hv⟩
 ·exact⟨.norm,t',.norm,s',c',e1.mono fun C N e=>by unfold zbK;rw[e];rfl,q1,.norm,m1,k1⟩
 ·exact⟨.panic u,{ t' with tm:=zd2 ops t'.tm },.panic v,_,c',e1.mono fun C N e=>by unfold zbK;rw[e];rfl,q1,.panic hv,m1,⟨k1.hr,zpw k1.tm,k1.df⟩⟩
@[reducible] def zef (K:FSt->Prop) (Q:FX->FSt->Prop):FX->FSt->Prop
 | .norm,s=>K s
 | x,s=>Q x s
theorem zar {a b:zbI}(k:W E caught rnd a s (zef (fun s'=>W E caught rnd b s' Q) Q)):W E caught rnd (.seq a b) s Q:=fun B c t rnd' hs hn=>by
 obtain⟨x',t',x,s',c',e1,q1,hx,m1,k1⟩:=k B c t rnd' hs hn
 cases hx with
 | norm =>
  obtain⟨x2',t2,x2,s2,c2,e2,q2,hx2,m2,k2⟩:=q1 B c' t' rnd' k1 (hn.mono m1);exact⟨x2',t2,x2,s2,c2,Ev.and2 (fun C N a b=>by unfold zbK;rw[a];exact b) e1 e2,q2,hx2,m1.trans m2,k2⟩
 | exit id=>exact⟨_,t',_,s',c',e1.mono fun C N e=>by unfold zbK;rw[e],q1,.exit id,m1,k1⟩
 | goto l=>exact⟨_,t',_,s',c',e1.mono fun C N e=>by unfold zbK;rw[e],q1,.goto l,m1,k1⟩
 | ret=>exact⟨_,t',_,s',c',e1.mono fun C N e=>by unfold zbK;rw[e],q1,.ret,m1,k1⟩
 | panic hv=>exact⟨_,t',_,s',c',e1.mono fun C N e=>by unfold zbK;rw[e],q1,.panic hv,m1,k1⟩
theorem zng {x:TOp}{b:Bool}{p q:zbI}(hx:ev s.tm x=some (.bool b))(h1:b=true->W E caught rnd p s Q)(h2:b=false->W E caught rnd q s Q):W E caught rnd (.cond x p q) s Q:=fun B c t rnd' hs hn=>by
 obtain⟨u,u1,u2⟩:=zjx hs.tm hx;obtain rfl:=u2.bool_inv
 cases b with
 | true =>
  obtain⟨x',t',x,s',c',e1,h⟩:=h1 rfl B c t rnd' hs hn;exact⟨x',t',x,s',c',e1.mono fun C N e=>by unfold zbK;rw[u1];exact e,h⟩
 | false =>
  obtain⟨x',t',x,s',c',e1,h⟩:=h2 rfl B c t rnd' hs hn;exact⟨x',t',x,s',c',e1.mono fun C N e=>by unfold zbK;rw[u1];exact e,h⟩
@[reducible] def zeY (id:Nat) (Q:FX->FSt->Prop):FX->FSt->Prop
 | .exit j,s=>if j=id then Q .norm s else Q (.exit j) s
 | x,s=>Q x s
theorem zF {id:Nat}{b:zbI}(k:W E caught rnd b s (zeY id Q)):W E caught rnd (.block id b) s Q:=fun B c t rnd' hs hn=>by
 obtain⟨x',t',x,s',c',e1,q1,hx,m1,k1⟩:=k B c t rnd' hs hn
 cases hx with
 | exit j =>
  have q1:if j=id then Q .norm s' else Q (.exit j) s':=q1
  by_cases hj:j=id
  ·rw[if_pos hj]at q1;exact⟨.norm,t',.norm,s',c',e1.mono fun C N e=>by unfold zbK;rw[e];dsimp only;rw[zbV hj];rfl,q1,.norm,m1,k1⟩
  ·rw[if_neg hj]at q1;exact⟨.exit j,t',.exit j,s',c',e1.mono fun C N e=>by unfold zbK;rw[e];dsimp only;rw[zm5 hj];rfl,q1,.exit j,m1,k1⟩
 | norm=>exact⟨_,t',_,s',c',e1.mono fun C N e=>by unfold zbK;rw[e],q1,.norm,m1,k1⟩
 | goto l=>exact⟨_,t',_,s',c',e1.mono fun C N e=>by unfold zbK;rw[e],q1,.goto l,m1,k1⟩
 | ret=>exact⟨_,t',_,s',c',e1.mono fun C N e=>by unfold zbK;rw[e],q1,.ret,m1,k1⟩
 | panic hv=>exact⟨_,t',_,s',c',e1.mono fun C N e=>by unfold zbK;rw[e],q1,.panic hv,m1,k1⟩
@[reducible] def ze4 (Inv:Nat->FSt->Prop) (n:Nat) (Q:FX->FSt->Prop):FX->FSt->Prop
 | .norm,s=>∃m,m<n/\Inv m s
 | x,s=>Q x s
theorem zbJ {body:zbI}(Inv:Nat->FSt->Prop){n:Nat}(h0:Inv n s)(step:∀n s,Inv n s->W E caught rnd body s (ze4 Inv n Q)):W E caught rnd (.loop body) s Q:=fun B c t rnd' hs hn=>by
 have main:∀n s c t,Inv n s->SR B c s t->RN c rnd rnd'->∃x' t' x s' c',(∃K,∀N,K<=N->∀d,K<=d->∀j,K<=j->zij (zbK (zdq (EN E N) d) caught N rnd' body) j t=some (x',t'))/\Q x s'/\XR c' t'.h x x'/\Mo c c' t.h t'.h/\SR B c' s' t':=by
  intro n
  induction n using Nat.strongRecOn with
  | _ n ih =>
   intro s c t hi hs hn;obtain⟨x',t',x,s',c',⟨K,e1⟩,q1,hx,m1,k1⟩:=step n s hi B c t rnd' hs hn;have one:x' ≠ .norm->∃K,∀N,K<=N->∀d,K<=d->∀j,K<=j->zij (zbK (zdq (EN E N) d) caught N rnd' body) j t=some (x',t'):=fun hne=>⟨K+1,fun N hN d hd j hj=>by
    obtain⟨j,rfl⟩:∃i,j=i+1:=⟨j-1,by omega⟩
    unfold zij;rw[e1 N zo d zo]
    cases x'<;>first|exact absurd rfl hne|rfl⟩
   cases hx with
   | norm =>
    obtain⟨m,hm,hi2⟩:=q1;obtain⟨x2',t2,x2,s2,c2,⟨L,e2⟩,q2,hx2,m2,k2⟩:=ih m hm s' c' t' hi2 k1 (hn.mono m1);refine⟨x2',t2,x2,s2,c2,⟨max K L+1,fun N hN d hd j hj=>?_⟩,q2,hx2,m1.trans m2,k2⟩;obtain⟨j,rfl⟩:∃i,j=i+1:=⟨j-1,by omega⟩
    unfold zij;rw[e1 N zo d zo];exact e2 N zo d zo j zo
   | exit id=>exact⟨_,t',_,s',c',one (fun e=>by cases e),q1,.exit id,m1,k1⟩
   | goto l=>exact⟨_,t',_,s',c',one (fun e=>by cases e),q1,.goto l,m1,k1⟩
   | ret=>exact⟨_,t',_,s',c',one (fun e=>by cases e),q1,.ret,m1,k1⟩
   | panic hv=>exact⟨_,t',_,s',c',one (fun e=>by cases e),q1,.panic hv,m1,k1⟩
 obtain⟨x',t',x,s',c',⟨K,e1⟩,h⟩:=main n s c t h0 hs hn;exact⟨x',t',x,s',c',⟨K,fun N hN d hd=>by unfold zbK;exact e1 N hN d hd N hN⟩,h⟩
@[reducible] def zfB (E:Env) (caught:Tr Unit) (rnd:Option Nat) (l:Nat) (rest:zbI) (Q:FX->FSt->Prop):FX->FSt->Prop
 | .goto j,s=>j=l/\W E caught rnd rest s fun x s'=>(∀l,x ≠ .goto l)/\Q x s'
 | x,s=>Q x s
theorem zk8 {l:Nat}{b rest:zbI}(k:W E caught rnd b s (zfB E caught rnd l rest Q)):W E caught rnd (.scope b l rest) s Q:=fun B c t rnd' hs hn=>by
 obtain⟨x',t',x,s',c',e1,q1,hx,m1,k1⟩:=k B c t rnd' hs hn
 cases hx with
 | goto j =>
  obtain⟨rfl,q1⟩:=q1;obtain⟨x2',t2,x2,s2,c2,e2,⟨hne,q2⟩,hx2,m2,k2⟩:=q1 B c' t' rnd' k1 (hn.mono m1);refine⟨x2',t2,x2,s2,c2,Ev.and2 (fun C N a b=>?_) e1 e2,q2,hx2,m1.trans m2,k2⟩;unfold zbK;rw[a];dsimp only;rw[zbV rfl];dsimp only[cond_true];rw[b]
  cases hx2<;>first|rfl|exact absurd rfl (hne _)
 | exit j=>exact⟨_,t',_,s',c',e1.mono fun C N e=>by unfold zbK;rw[e],q1,.exit j,m1,k1⟩
 | norm=>exact⟨_,t',_,s',c',e1.mono fun C N e=>by unfold zbK;rw[e],q1,.norm,m1,k1⟩
 | ret=>exact⟨_,t',_,s',c',e1.mono fun C N e=>by unfold zbK;rw[e],q1,.ret,m1,k1⟩
 | panic hv=>exact⟨_,t',_,s',c',e1.mono fun C N e=>by unfold zbK;rw[e],q1,.panic hv,m1,k1⟩
end Fv
end Go.Proofs.YtkeknmgnoceogaaGreat
namespace Go.Proofs.YtkeknmgnoceogaaGreat
namespace Fv
open Tw
variable {E:Env}
inductive FM where
 | returning
 | panicking (v:PV)
def zun (c:Cx)(h:TH):FM->TM->Prop
 | .returning,.returning=>True
 | .panicking v,.panicking u=>VR c h v u
 | _,_=>False
def LV (E:Env):List FD->FM->List zd->(FM->List zd->Prop)->Prop
 | [],m,H,Q=>Q m H
 | .mark id::l,m,H,Q=>H[id]?=some (.dfr false)/\LV E l m (H.set id (.dfr true)) Q
 | .caught p cl::l,m,H,Q=>match m with
  | .returning=>LV E l .returning H Q
  | .panicking v=>∃n g caps b id gg mm,v=.iface E.errno (.int .i64 n)/\cl=.fn g caps/\p=.ptr id gg 0 0 mm/\FO E g caps H b fun e H1=>e=.ret (.tuple [])/\∃a,zab H1 1 [p,.int .i64 n]=some a/\LV E l .returning a.H Q
theorem zlU (N:Nat)(C:zbS):∀(l:List TD) (m:TM) (h:TH),zc5 (EN E N) C l m h=zc5 E C l m h
 | [],m,h=>rfl
 | .mark b::l,m,h=>by
  unfold zc5;simp only[zlU N C l]
 | .caught p c::l,m,h=>by
  unfold zc5;simp only[zlU N C l];rfl
theorem zkc {h h2:TH}{b g o e:Nat}{k:IntKind}{n:Int}{u:TV}(hs:zhi 1 h [.ptr b g o e,.int k n]=some (.ok u h2)):zet h b g o [.int k n]=some h2:=by
 unfold zhi at hs;dsimp only[TV.cells,zAG9,zAH9]at hs
 grind
theorem zqa:∀{l:List FD} {l':List TD} {m:FM} {m':TM} {H:List zd} {h:TH} {B:Ba} {c:Cx} {Q:FM->List zd->Prop},LV E l m H Q->HR B c H h->dfR c h l l'->zun c h m m' ->
  ∃m2' h' m2 H2 c',Ev E (fun C _=>zc5 E C l' m' h=some (m2',h'))/\Q m2 H2/\zun c' h' m2 m2'/\Mo c c' h h'/\HR B c' H2 h'
 | [],[],m,m',H,h,B,c,Q,k,hr,_,hm=>⟨m',h,m,H,c,Ev.all fun _ _=>rfl,k,hm,Mo.refl _ _,hr⟩
 | .mark id::l,.mark b::l',m,m',H,h,B,c,Q,k,hr,hd,hm=>by
  obtain⟨⟨d,z,hρ⟩,hd⟩:=hd;obtain⟨k1,k2⟩:=k;obtain⟨b',d',z',e1,e2⟩:=hr.obj _ _ k1;rw[hρ]at e1;injection e1 with e1;injection e1 with e1 e3;subst e1;obtain⟨m1,hr1⟩:=hr.set (o:=.dfr true) (x:=.dfr true) hρ (fun e=>by rw[k1]at e;cases e) fun _=>⟨b,d,z,hρ,by rw[TH.get_set _ _ _ _ (hr.own _ _ hρ).2.1,if_pos rfl]⟩
  have hm1:zun c (h.set b (.dfr true)) m m':=by
   cases m<;>cases m'<;>first|exact hm|exact VR.mono m1 hm
  obtain⟨m2',h',m2,H2,c',f1,f2,f3,f4,f5⟩:=zqa k2 hr1 (hd.mono m1) hm1;refine⟨m2',h',m2,H2,c',f1.mono fun C N e=>?_,f2,f3,m1.trans f4,f5⟩;unfold zc5
  grind
 | .caught p cl::l,.caught p' cl'::l',m,m',H,h,B,c,Q,k,hr,hd,hm=>by
  obtain⟨⟨hp,hcl⟩,hd⟩:=hd
  cases m with
  | returning =>
   cases m' with
   | panicking u=>exact hm.elim
   | returning =>
    have k:LV E l .returning H Q:=k;obtain⟨m2',h',m2,H2,c',f1,f2⟩:=zqa k hr hd (m':=.returning) trivial;exact⟨m2',h',m2,H2,c',f1.mono fun C N e=>by unfold zc5;exact e,f2⟩
  | panicking v =>
   cases m' with
   | returning=>exact hm.elim
   | panicking u =>
    obtain⟨n,g,caps,bb,id,gg,mm,rfl,rfl,rfl,k⟩:=k;have hm:VR c h (.iface E.errno (.int .i64 n)) u:=hm;obtain⟨u',rfl,hu⟩:=hm.iface_inv;obtain rfl:=hu.int_inv;obtain⟨cs,rfl,hcs⟩:=hcl.fn_inv;obtain⟨r,h1,e,H1,c1,e1,⟨rfl,a,ha,k2⟩,m1,hr1,re,_⟩:=k B c h cs hr hcs
    cases r with
    | panic u=>exact re.elim
    | ret u =>
     have re:VR c1 h1 (.tuple []) u:=re;obtain⟨ts,rfl,hts⟩:=re.tuple_inv;obtain rfl:=hts.of_nil;obtain⟨bp,dp,zp,gp,q1,rfl,rfl⟩:=zeO (hp.mono m1);have h00:0*zp+0=0:=by simp
     rw[h00]at hp⊢;obtain⟨u2,h2,c2,s1,s2⟩:=zrf hr1 (LR.cons (hp.mono m1) (LR.cons (.pure (.int .i64 n)) LR.nil)) ha;obtain⟨m2',h',m2,H2,c',f1,f2,f3,f4,f5⟩:=zqa k2 s2.hr (hd.mono (m1.trans s2.mo)) (m':=.returning) trivial;refine⟨m2',h',m2,H2,c',Ev.and2 (fun C N a1 a2=>?_) e1 f1,f2,f3,(m1.trans s2.mo).trans f4,f5⟩;unfold zc5;dsimp only;rw[zbV rfl];dsimp only[cond_true];rw[a1];show (match zet h1 bp gp 0 [.int .i64 n]with
      | some h=>zc5 E C l' .returning h
      | none=>none)=_
     rw[zkc s1];exact a2
 | [],_::_,_,_,_,_,_,_,_,_,_,hd,_=>hd.elim
 | _::_,[],_,_,_,_,_,_,_,_,_,hd,_=>hd.elim
 | .mark _::_,.caught _ _::_,_,_,_,_,_,_,_,_,_,hd,_=>hd.1.elim
 | .caught _ _::_,.mark _::_,_,_,_,_,_,_,_,_,_,hd,_=>hd.1.elim
def zbf (tm:Nat->PV)(H:List zd):List zl9->Option (List PV)
 | []=>some []
 | r::l=>match(match r with
   | .tmp t=>okv (tm t)
   | .cell t agg n=>match okv (tm t)with
    | some p=>zaz H agg n [p]
    | none=>none)with
  | none=>none
  | some v=>match zbf tm H l with
   | none=>none
   | some vs=>some (v::vs)
theorem zva {B:Ba}{c:Cx}{H:List zd}{h:TH}(k:HR B c H h){tm:Nat->PV}{t:Tr TV}(kt:tmR c h tm t):∀{l:List zl9} {vs:List PV},zbf tm H l=some vs->∃us,zhX t h l=some us/\LR (VR c h) vs us
 | [],vs,hv=>by injection hv with hv;subst hv;exact⟨[],rfl,LR.nil⟩
 | r::l,vs,hv=>by
  unfold zbf at hv
  split at hv
  ·cases hv
  ·rename_i v hx
   split at hv
   ·cases hv
   ·rename_i ws hw;injection hv with hv;subst hv;obtain⟨us,w1,w2⟩:=zva k kt hw;have key:∃u,zhX t h (r::l)=some (u::us)/\VR c h v u:=by
     cases r with
     | tmp i =>
      obtain⟨u,u1,u2⟩:=zjx kt (x:=.tmp i) hx;have u1:t.get i=some u:=u1;refine⟨u,?_,u2⟩;show (match t.get i with
       | none=>none
       | some v=>match zhX t h l with
        | none=>none
        | some vs=>some (v::vs))=_
      rw[u1];dsimp only;rw[w1]
     | cell i agg n =>
      dsimp only at hx
      split at hx
      ·rename_i p hp;obtain⟨u,u1,u2⟩:=zjx kt (x:=.tmp i) hp;obtain⟨w,w3,w4⟩:=zs2 k (LR.cons u2 LR.nil) hx;have u1:t.get i=some u:=u1;have w3:pas (.load agg n) [u] h=some w:=w3;refine⟨w,?_,w4⟩;show (match(match t.get i with
        | some p=>pas (.load agg n) [p] h
        | none=>none)with
        | none=>none
        | some v=>match zhX t h l with
         | none=>none
         | some vs=>some (v::vs))=_
       rw[u1];dsimp only;rw[w3];dsimp only;rw[w1]
      ·cases hx
    obtain⟨u,u1,u2⟩:=key;exact⟨u::us,u1,LR.cons u2 w2⟩
@[reducible] def zjY:List PV->PV
 | [v]=>v
 | l=>.tuple l
theorem zzK {c:Cx}{h:TH}{vs:List PV}{us:List TV}(k:LR (VR c h) vs us):VR c h (zjY vs) (tup us):=by
 match vs,us,k with
 | [],us,k=>obtain rfl:=k.of_nil;exact VR.tupL LR.nil
 | [v],us,k=>obtain⟨u,us',rfl,h1,h2⟩:=k.of_cons;obtain rfl:=h2.of_nil;exact h1
 | v::w::l,us,k =>
  obtain⟨u,us',rfl,h1,h2⟩:=k.of_cons;obtain⟨u',us'',rfl,h3,h4⟩:=h2.of_cons;exact VR.tupL k
def zup (F:zc)(tm:Nat->PV)(R:FE->List zd->Prop):FM->List zd->Prop
 | .returning,H=>∃vs,zbf tm H F.res=some vs/\R (.ret (zjY vs)) H
 | .panicking v,H=>R (.panic v) H
def zdT (E:Env)(F:zc)(R:FE->List zd->Prop):FX->FSt->Prop
 | .norm,s=>LV E s.df .returning s.H (zup F s.tm R)
 | .ret,s=>LV E s.df .returning s.H (zup F s.tm R)
 | .panic v,s=>LV E s.df (.panicking v) s.H (zup F s.tm R)
 | _,_=>False
def zj (l:List PV):Nat->PV:=fun i=>(l[i]?).getD .bad
theorem zyP {c:Cx}{h:TH}{vs:List PV}{us:List TV}(k:LR (VR c h) vs us):tmR c h (zj vs) (Tr.putL .nil 0 us):=fun i=>by
 unfold zj;rw[Tr.get_putL]
 by_cases hi:i<vs.length
 ·obtain⟨u,u1,u2⟩:=k.at (zAA9 hi)
  grind
 grind
theorem zu5 {f:Nat}{F:zc}(hF:E.funcs.get f=some F){args:List PV}(hn:args.length<=F.N){H:List zd}{R:FE->List zd->Prop}(hW:W E E.caught none F.body ⟨zj args,[],H⟩ (zdT E F R)):FO E f args H false R:=fun B c h us hr ha=>by
 obtain⟨x',t',x,s',c',e1,q1,hx,m1,k1⟩:=hW B c ⟨Tr.putL .nil 0 us,[],h⟩ none ⟨hr,zyP ha,trivial⟩ trivial;have main:∀(m:FM) (m':TM),LV E s'.df m s'.H (zup F s'.tm R)->zun c' t'.h m m'->(∀N C,zxP (EN E N) C F (some (x',t'))=zim (EN E N) F t'.tm (zc5 (EN E N) C t'.df m' t'.h)) ->
   ∃r h' e H' c'',Ev E (fun C _=>C.fn f us h=some (r,h'))/\R e H'/\Mo c c'' h h'/\HR B c'' H' h'/\RE (VR c'' h') e r/\(false=true->∀id x,c.ρ id=some x->h'.get x.1=h.get x.1):=fun m m' hl hm hend=>by
  obtain⟨m2',h2,m2,H2,c2,f1,f2,f3,f4,f5⟩:=zqa hl k1.hr k1.df hm;have fin:∀r,(∀N,zim (EN E N) F t'.tm (some (m2',h2))=some (r,h2))->Ev E (fun C _=>C.fn f us h=some (r,h2)):=fun r hr2=>by
   obtain⟨K,hK⟩:=e1;obtain⟨L,hL⟩:=f1;refine⟨max K L+1,fun N hN d hd=>?_⟩;obtain⟨d,rfl⟩:∃i,d=i+1:=⟨d-1,by omega⟩
   show zbe (EN E N) (zdq (EN E N) d) f us h=_;unfold zbe;rw[show (EN E N).funcs.get f=some F from hF];dsimp only;rw[zcj (by rw[<- ha.1];exact hn)];dsimp only[cond_true];rw[show zbK (zdq (EN E N) d) (EN E N).caught (EN E N).N none F.body ⟨Tr.putL .nil 0 us,[],h⟩=some (x',t')from hK N zo d zo,hend,zlU,hL N zo d zo,hr2]
  cases m2 with
  | returning =>
   cases m2' with
   | panicking u=>exact f3.elim
   | returning =>
    obtain⟨vs,v1,v2⟩:=f2;obtain⟨us2,w1,w2⟩:=zva f5 (k1.tm.mono f4) v1;refine⟨.ret (tup us2),h2,.ret (zjY vs),H2,c2,fin _ fun N=>?_,v2,m1.trans f4,f5,zzK w2,fun h=>by cases h⟩;show (match zhX t'.tm h2 F.res with
     | some vs=>some (TE.ret (tup vs),h2)
     | none=>none)=_
    rw[w1]
  | panicking v =>
   cases m2' with
   | returning=>exact f3.elim
   | panicking u=>exact⟨.panic u,h2,.panic v,H2,c2,fin _ fun N=>rfl,f2,m1.trans f4,f5,f3,fun h=>by cases h⟩
 cases hx with
 | norm=>exact main .returning .returning q1 trivial fun N C=>rfl
 | ret=>exact main .returning .returning q1 trivial fun N C=>rfl
 | panic hv=>exact main (.panicking _) (.panicking _) q1 hv fun N C=>rfl
 | exit id=>exact q1.elim
 | goto l=>exact q1.elim
def zbq (H:List zd)(lab:Nat):FE->FE->Prop
 | .ret v,.ret w=>Frz H lab v w
 | .panic v,.panic w=>Frz H lab v w
 | _,_=>False
def LbE:FE->Prop
 | .ret v=>Lb v
 | .panic v=>Lb v
theorem zys {f:Nat}{args:List PV}{e:FE}{b:Bool}(k:FO E f args [] b fun e' H=>zbq H 0 e' e):FP E f args e:=fun S h us hS ha=>by
 have hr:HR ⟨h.next,h,S⟩ ⟨S,fun _=>none,fun _=>False⟩ [] h:=⟨zAE9 _,fun _ _=>rfl,fun p b hb=>.inl hb,fun p b hb=>⟨hS p b hb,fun id x hx=>(by cases hx)⟩,fun id x hx=>(by cases hx),fun id hx=>hx.elim,fun id id' x x' hx=>(by cases hx),fun id o ho=>(by simp at ho)⟩
 obtain⟨r,h',e',H',c',e1,q1,m1,hr1,re,_⟩:=k _ _ h us hr (LR.pure (c:=⟨S,fun _=>none,fun _=>False⟩) ha);have hkeep:∀b,b<h.next->h'.get b=h.get b:=fun b hb=>hr1.keep b hb;refine⟨r,h',e1,hr1.le,hkeep,?_⟩;have hS1:∀p b,c'.S p b->S1 S h.next h'.next p b:=fun p b hb=>by
  rcases hr1.old p b hb with h1|⟨h1,h2⟩
  ·exact .inl h1
  ·exact .inr ⟨h1,h2,(hr1.S p b hb).1⟩
 have hown:∀id x,c'.ρ id=some x->S1 S h.next h'.next 0 x.1:=fun id x hx=>by
  obtain⟨h1,h2,_⟩:=hr1.own id x hx;exact .inr ⟨rfl,h1,h2⟩
 cases e'<;>cases r<;>first|exact re.elim|skip
 ·cases e with
  | panic v=>exact q1.elim
  | ret w=>exact Frz.ok hr1 hS1 hown q1 re
 ·cases e with
  | ret v=>exact q1.elim
  | panic w=>exact Frz.ok hr1 hS1 hown q1 re
theorem FP.stays {f:Nat}{args:List PV}{e:FE}(k:FP E f args e)(hl:LbE e):FN E f args e:=fun S h us hS ha=>by
 obtain⟨r,h',e1,h1,h2,re⟩:=k S h us hS ha;refine⟨r,h',e1,h1,h2,?_⟩;have hS0:∀b,S1 S h.next h'.next 0 b->S0 S h.next h'.next 0 b:=fun b hb=>by
  rcases hb with hb|⟨_,hb⟩
  ·exact⟨rfl,.inl hb⟩
  ·exact⟨rfl,.inr hb⟩
 cases e<;>cases r<;>first|exact re.elim|exact Lb.ok hS0 re hl
theorem FN.FP {f:Nat}{args:List PV}{e:FE}(k:FN E f args e):FP E f args e:=fun S h us hS ha=>by
 obtain⟨r,h',e1,h1,h2,re⟩:=k S h us hS ha;refine⟨r,h',e1,h1,h2,re.mono fun v u hv=>hv.mono (fun p b hb=>?_) fun _ _ _ _ _ _ _ hr=>hr⟩;obtain⟨rfl,hb|hb⟩:=hb
 ·exact .inl hb
 ·exact .inr ⟨rfl,hb⟩
theorem zx4 {f:Nat}{F:zc}(hF:E.funcs.get f=some F){args:List PV}(hn:args.length<=F.N){e:FE}(hW:W E E.caught none F.body ⟨zj args,[],[]⟩ (zdT E F fun e' H=>zbq H 0 e' e)):FP E f args e:=zys (zu5 hF hn hW)
theorem zx7 {f:Nat}{F:zc}(hF:E.funcs.get f=some F){args:List PV}(hn:args.length<=F.N){e:FE}(hl:LbE e)(hW:W E E.caught none F.body ⟨zj args,[],[]⟩ (zdT E F fun e' H=>zbq H 0 e' e)):FN E f args e:=(zx4 hF hn hW).stays hl
end Fv
end Go.Proofs.YtkeknmgnoceogaaGreat
namespace Go.Proofs.YtkeknmgnoceogaaGreat
namespace Fv
open Tw
variable {E:Env}{caught:Tr Unit}
def dpF:Nat->PV->Bool
 | 0,_=>false
 | n+1,v=>match v with
  | .bad=>false
  | .iface _ v=>dpF n v
  | .fn _ l=>l.all (dpF n)
  | .agg l=>l.all (dpF n)
  | .tuple l=>l.all (dpF n)
  | _=>true
theorem zni:∀l:List Nat,zdH l l=true
 | []=>rfl
 | a::l=>by unfold zdH;rw[zbV rfl];exact zni l
theorem zvK (n:Int):zhp n n=true:=by rw[zcX];simp
theorem zio {f:TV->TV->Bool}:∀{l:List TV},(∀x∈l,f x x=true)->zkS f l l=true
 | [],_=>rfl
 | a::l,h=>by unfold zkS;rw[h a (by simp)];exact zio fun x hx=>h x (zAO9 _ hx)
theorem zls {R:PV->TV->Prop}{f:TV->TV->Bool}{p:PV->Bool}(hR:∀v u,R v u->p v=true->f u u=true){l:List PV}{cs:List TV}(k:LR R l cs)(hp:l.all p=true):∀x∈cs,f x x=true:=fun x hx=>by
 obtain⟨i,hi,rfl⟩:=zBH9.1 hx;have hi2:i<l.length:=by rw[k.1];exact hi
 exact hR _ _ (k.2 i _ _ (zAA9 hi2) (zAA9 hi)) (zCB9.1 hp _ (zBK9 hi2))
theorem zjM {c:Cx}{h:TH}:∀{n:Nat} {v:PV} {u:TV},VR c h v u->dpF n v=true->TV.beq n u u=true
 | 0,v,u,k,hd=>by cases hd
 | n+1,v,u,k,hd=>by
  cases v with
  | bad=>exact k.bad_inv.elim
  | bool b=>obtain rfl:=k.bool_inv;cases b<;>rfl
  | int kk m=>obtain rfl:=k.int_inv;simp only[TV.beq,zrw];rw[zbV rfl];exact zvK m
  | str s=>obtain rfl:=k.str_inv;exact zni s
  | nilptr=>cases k with|pure k=>cases k;rfl
  | nilsl=>cases k with|pure k=>cases k;rfl
  | nilmap=>cases k with|pure k=>cases k;rfl
  | nilfn=>cases k with|pure k=>cases k;rfl
  | niliface=>cases k with|pure k=>cases k;rfl
  | list p z l =>
   rcases zeg k with⟨_,rfl⟩|⟨b,g,o,q,ds,rfl,_⟩
   ·rfl
   ·simp only[TV.beq,zqd];simp only[zbV rfl,cond_true]
  | elem l =>
   obtain⟨p,b,g,o,ds,_,rfl,_⟩:=zfR k;simp only[TV.beq,zm4];simp only[zbV rfl,cond_true]
  | sl id g o m q z =>
   rcases sl_inv k with⟨_,_,_,_,rfl,_⟩|⟨b,d,g',_,_,rfl⟩
   ·rfl
   ·simp only[TV.beq,zqd];simp only[zbV rfl,cond_true]
  | ptr id g i o m =>
   obtain⟨b,d,z,g',_,_,rfl⟩:=zeO k;simp only[TV.beq,zm4];simp only[zbV rfl,cond_true]
  | map id=>obtain⟨b,d,z,_,rfl⟩:=zfX k;exact zbV rfl
  | yield id=>cases k with|pure k=>cases k|yield _=>exact zbV rfl
  | iface t w =>
   obtain⟨u',rfl,h1⟩:=k.iface_inv;simp only[TV.beq,zl6];rw[zbV rfl];exact zjM h1 hd
  | fn f l =>
   obtain⟨cs,rfl,h1⟩:=k.fn_inv;simp only[TV.beq,ztV];rw[zbV rfl];exact zio (zls (R:=VR c h) (f:=TV.beq n) (p:=dpF n) (fun v u k hp=>zjM k hp) h1 hd)
  | agg l =>
   obtain⟨cs,rfl,h1⟩:=k.agg_inv;exact zio (zls (R:=VR c h) (f:=TV.beq n) (p:=dpF n) (fun v u k hp=>zjM k hp) h1 hd)
  | tuple l =>
   obtain⟨cs,rfl,h1⟩:=k.tuple_inv;exact zio (zls (R:=VR c h) (f:=TV.beq n) (p:=dpF n) (fun v u k hp=>zjM k hp) h1 hd)
def evN (tm nm:Nat->PV):TOp->Option PV
 | .tmp t=>okv (tm t)
 | .new t=>okv (nm t)
 | .const u=>ofC 4 u
 | .fn f=>some (.fn f [])
def zbj (tm nm:Nat->PV):List TOp->Option (List PV)
 | []=>some []
 | x::l=>match evN tm nm x with
  | none=>none
  | some v=>match zbj tm nm l with
   | none=>none
   | some vs=>some (v::vs)
def zY (tm nm:Nat->PV):Option (TOp×Bool)->Option Bool
 | none=>some true
 | some (x,b)=>zaA b (evN tm nm x)
def nmR (c:Cx)(h:TH)(nm:Nat->PV)(t:Tr TV):Prop:=∀i,(nm i=.bad/\t.get i=none)\/∃u,t.get i=some u/\VR c h (nm i) u
theorem nmR.mono {c c':Cx}{h h':TH}(m:Mo c c' h h'){nm:Nat->PV}{t:Tr TV}(k:nmR c h nm t):nmR c' h' nm t:=fun i=>by
 rcases k i with k|⟨u,u1,u2⟩
 ·grind
 ·exact .inr ⟨u,u1,u2.mono m⟩
def zdA (a b:Tr TV):Prop:=∀i u,a.get i=some u->b.get i=some u
section operands
variable {c:Cx}{h:TH}{tm nm:Nat->PV}{t n:Tr TV}
theorem zrJ (k:tmR c h tm t)(kn:nmR c h nm n){x:TOp}{v:PV}(hx:evN tm nm x=some v):∃u,(∀n',zdA n n'->zgk t n' x=some u)/\VR c h v u:=by
 cases x with
 | tmp i =>
  obtain⟨h1,h2⟩:=zmd hx;rcases k i with h3|⟨u,u1,u2⟩
  ·exact absurd h3 h2
  ·exact⟨u,fun _ _=>u1,by rw[<- h1];exact u2⟩
 | new i =>
  obtain⟨h1,h2⟩:=zmd hx;rcases kn i with⟨h3,_⟩|⟨u,u1,u2⟩
  ·exact absurd h3 h2
  ·exact⟨u,fun n' hn=>hn _ _ u1,by rw[<- h1];exact u2⟩
 | const u=>exact⟨u,fun _ _=>rfl,zhV hx⟩
 | fn f=>injection hx with hx;subst hx;exact⟨_,fun _ _=>rfl,VR.fnL LR.nil⟩
theorem zi0 (k:tmR c h tm t)(kn:nmR c h nm n):∀{l:List TOp} {vs:List PV},zbj tm nm l=some vs->∃us,(∀n',zdA n n'->zdF t n' l=some us)/\LR (VR c h) vs us
 | [],vs,hv=>by injection hv with hv;subst hv;exact⟨[],fun _ _=>rfl,LR.nil⟩
 | x::l,vs,hv=>by
  unfold zbj at hv
  split at hv
  ·cases hv
  ·rename_i v hx
   split at hv
   ·cases hv
   ·rename_i ws hw;injection hv with hv;subst hv;obtain⟨u,u1,u2⟩:=zrJ k kn hx;obtain⟨us,w1,w2⟩:=zi0 k kn hw;refine⟨u::us,fun n' hn=>?_,LR.cons u2 w2⟩;unfold zdF
    grind
theorem zgz (k:tmR c h tm t)(kn:nmR c h nm n){g:Option (TOp×Bool)}{b:Bool}(hg:zY tm nm g=some b):∀n',zdA n n'->zev t n' g=some b:=fun n' hn=>by
 cases g with
 | none=>exact hg
 | some x =>
  obtain⟨x,b'⟩:=x;change zaA b' (evN tm nm x)=some b at hg;unfold zaA at hg
  split at hg
  ·rename_i cc hx;obtain⟨u,u1,u2⟩:=zrJ k kn hx;obtain rfl:=u2.bool_inv;show zg8 b' (zgk t n' x)=some b;unfold zg8;rw[u1 n' hn];injection hg with hg;subst hg
   cases b'<;>rfl
  ·rename_i hx;obtain⟨u,u1,u2⟩:=zrJ k kn hx;obtain⟨cs,rfl,_⟩:=u2.tuple_inv;show zg8 b' (zgk t n' x)=some b;rw[u1 n' hn];exact hg
  ·cases hg
end operands
structure DF where
 nm:Nat->PV
 df:List FD
 H:List zd
 K:List (zbo×List Nat)
def Ent (c:Cx)(h:TH)(t n:Tr TV)(e:zbo×List Nat):Prop :=
 ∀c' h' n' df',Mo c c' h h'->(∀id∈e.2,∀x,c.ρ id=some x->h'.get x.1=h.get x.1)->zdA n n'->zg5 t ⟨n',df',h'⟩ e.1=true
structure DSR (B:Ba)(c:Cx)(tm:Nat->PV)(t:Tr TV)(s:DF)(d:DS):Prop where
 hr:HR B c s.H d.h
 tm:tmR c d.h tm t
 nm:nmR c d.h s.nm d.nm
 df:dfR c d.h s.df d.df
 K:∀e∈s.K,Ent c d.h t d.nm e
theorem zdA.refl (a:Tr TV):zdA a a:=fun _ _ h=>h
theorem Ent.move {c c':Cx}{h h':TH}{t n n':Tr TV}{e:zbo×List Nat}(k:Ent c h t n e)(m:Mo c c' h h')(hd:∀id∈e.2,∀x,c.ρ id=some x->h'.get x.1=h.get x.1)(hn:zdA n n'):Ent c' h' t n' e :=
 fun c2 h2 n2 df2 m2 hd2 hn2=>k c2 h2 n2 df2 (m.trans m2) (fun id hi x hx=>by rw[hd2 id hi x (m.ρ _ _ hx),hd id hi x hx]) fun i u hu=>hn2 _ _ (hn _ _ hu)
def zbw (k:zZ)(vs:List PV):List Nat:=match k,vs with
 | .load ..,[.ptr id _ _ _ _]=>[id]
 | .look ..,[.map id,_]=>[id]
 | .len _,[.map id]=>[id]
 | .tostr,[.sl id _ _ _ _ _]=>[id]
 | _,_=>[]
theorem zxc {B:Ba}{c:Cx}{H:List zd}{h:TH}{kind:zZ}{vs:List PV}{us:List TV}{v:PV}{u:TV}(k:HR B c H h)(hv:LR (VR c h) vs us)(hf:zbi H kind vs=some v)(hp:pas kind us h=some u)
  {c':Cx} {h':TH} (m:Mo c c' h h') (hd:∀id∈zbw kind vs,∀x,c.ρ id=some x->h'.get x.1=h.get x.1):pas kind us h'=some u:=by
 cases kind<;>first|exact hp|skip
 case tostr =>
  simp only[zbi,zaa]at hf
  split at hf
  ·rename_i x;obtain⟨y,cs',rfl,h1,h2⟩:=hv.of_cons;obtain rfl:=h2.of_nil
   cases x<;>first|(simp[zbu]at hf;done)|skip
   ·obtain rfl:y=.nilsl:=by cases h1 with|pure h1=>cases h1;rfl
    exact hp
   ·rename_i p z l;rcases zeg h1 with⟨rfl,rfl⟩|⟨b,g,o,q,ds,rfl,s1,s2,s3,s4⟩
    ·exact hp
    ·by_cases hz:z=1
     ·subst hz;rw[Nat.mul_one]at s2;simp only[pas,zce,zgr]at hp⊢;rw[s2]at hp;rw[m.rd _ _ s1 _ _ _ _ s2];exact hp
     ·simp only[pas,zce,zgr]at hp;split at hp<;>simp_all
   ·rename_i id g o n q z;rcases sl_inv h1 with⟨rfl,rfl,rfl,rfl,rfl,_⟩|⟨b,d,g',s1,rfl,rfl⟩
    ·exact hp
    ·have hb:=hd id (by simp[zbw]) _ s1;dsimp only at hb;have e:∀n,zbL h' b g' (o*z) n=zbL h b g' (o*z) n:=fun n=>by simp only[zbL,hb]
     simp only[pas,zce,zgr]at hp⊢
     split at hp
     ·rename_i e1;cases e1
     ·rename_i e1;injection e1 with e1 e2 e3 e4 e5 e6;subst e1 e2 e3 e4 e5 e6;rw[e];exact hp
     ·cases hp
  ·cases hf
 case load agg n =>
  simp only[zbi,zaz]at hf
  split at hf
  ·rename_i cs;obtain⟨y,cs',rfl,h1,h2⟩:=hv.of_cons;obtain rfl:=h2.of_nil;obtain⟨p,b,g,o,ds,s1,rfl,s2,s3⟩:=zfR h1;simp only[pas,zce,zgn]at hp⊢
   split at hf
   ·rename_i hn;have s4:=zeQ s2 (k:=0) (m:=n) zo;rw[zDD9]at s4;rw[s4]at hp;rw[m.rd _ _ s1 _ _ _ _ s4];exact hp
   ·cases hf
  ·rename_i id g i o mm;obtain⟨y,cs',rfl,h1,h2⟩:=hv.of_cons;obtain rfl:=h2.of_nil;obtain⟨b,d,z,g',s1,rfl,rfl⟩:=zeO h1;have hb:=hd id (by simp[zbw]) _ s1;dsimp only at hb;simp only[pas,zce,zgn,zbL]at hp⊢;rw[hb];exact hp
  ·cases hf
 case look kf zero ok =>
  simp only[zbi,zaC]at hf
  split at hf
  ·rename_i id kk x;obtain⟨y,cs',rfl,h1,h2⟩:=hv.of_cons;obtain⟨y',cs'',rfl,h3,h4⟩:=h2.of_cons;obtain rfl:=h4.of_nil;obtain⟨b,d,z,s1,rfl⟩:=zfX h1;have hb:=hd id (by simp[zbw]) _ s1;dsimp only at hb;simp only[pas,zcv,zhu]at hp⊢;rw[hb];exact hp
  ·rename_i id x;obtain⟨y,cs',rfl,h1,h2⟩:=hv.of_cons;obtain⟨y',cs'',rfl,h3,h4⟩:=h2.of_cons;obtain rfl:=h4.of_nil;obtain⟨b,d,z,s1,rfl⟩:=zfX h1;have hb:=hd id (by simp[zbw]) _ s1;dsimp only at hb;simp only[pas,zcv,zhu]at hp⊢;rw[hb];exact hp
  ·obtain⟨y,cs',rfl,h1,h2⟩:=hv.of_cons;obtain⟨y',cs'',rfl,h3,h4⟩:=h2.of_cons;obtain rfl:=h4.of_nil;obtain rfl:y=.nilmap:=by cases h1 with|pure h1=>cases h1;rfl
   exact hp
  ·cases hf
 case len f =>
  simp only[zbi,zbz]at hf
  split at hf
  ·exact hp
  ·exact hp
  ·cases hf
def zbg (nm:Nat->PV)(d:Option Nat)(v:PV):Option (Nat->PV):=match d with
 | none=>some nm
 | some d=>match nm d with
  | .bad=>some (upd nm d v)
  | _=>none
theorem zlb {c:Cx}{h:TH}{nm nm':Nat->PV}{n:Tr TV}(k:nmR c h nm n){d:Option Nat}{v:PV}{u:TV}(hv:VR c h v u)(hs:zbg nm d v=some nm'):∃n',zgx n d u=some n'/\zdA n n'/\nmR c h nm' n'/\(∀e,d=some e->n'.get e=some u):=by
 cases d with
 | none=>simp only[zbg]at hs;injection hs with hs;subst hs;exact⟨n,rfl,zdA.refl _,k,fun e he=>by cases he⟩
 | some d =>
  simp only[zbg]at hs
  split at hs
  ·rename_i hb;injection hs with hs;subst hs;have hn:n.get d=none:=by
    rcases k d with⟨_,h1⟩|⟨u',_,u2⟩
    ·exact h1
    ·rw[hb]at u2;exact u2.bad_inv.elim
   refine⟨n.set d (some u),by unfold zgx;dsimp only;rw[hn],fun i w hw=>?_,fun i=>?_,fun e he=>?_⟩
   ·rw[Tr.get_set,if_neg (fun e=>by subst e;rw[hn]at hw;cases hw)];exact hw
   ·unfold upd;rw[Tr.get_set]
    by_cases e:i=d
    ·rw[if_pos e,if_pos e];exact .inr ⟨u,rfl,hv⟩
    ·rw[if_neg e,if_neg e];exact k i
   ·injection he with he;subst he;rw[Tr.get_set,if_pos rfl]
  ·cases hs
def zaL:zd->Bool
 | .row _ _ _ _ l=>l.all fun v=>v.cells.all (dpF 4)
 | .map0=>true
 | _=>false
def zaK (tm:Nat->PV)(o:zbo)(s:DF):Option DF :=
 match zY tm s.nm o.guard with
 | none=>none
 | some false=>(match zbg s.nm o.dst (.tuple [])with
  | some nm=>some ⟨nm,s.df,s.H,(o,[])::s.K⟩
  | none=>none)
 | some true=>match zbj tm s.nm o.args with
  | none=>none
  | some vs=>match o.kind.cls with
   | 0=>(match zbi s.H o.kind vs with
    | some v=>if o.dst.isSome=true/\dpF 4 v=true then(match zbg s.nm o.dst v with
     | some nm=>some ⟨nm,s.df,s.H,(o,zbw o.kind vs)::s.K⟩
     | none=>none)else none
    | none=>none)
   | 1=>(match zbp s.H.length o.kind vs with
    | some (ob,v)=>if o.dst.isSome=true/\zaL ob=true/\dpF 4 v=true then(match zbg s.nm o.dst v with
     | some nm=>some ⟨nm,s.df,s.H++[ob],(o,[s.H.length])::s.K⟩
     | none=>none)else none
    | none=>none)
   | _=>none
def zav (tm:Nat->PV):List zbo->DF->Option DF
 | [],s=>some s
 | o::l,s=>match zaK tm o s with
  | some s=>zav tm l s
  | none=>none
theorem zna {t:Tr TV}:∀{n i:Nat},(∀j,i<=j->j<i+n->∃y,t.get j=some y/\TV.beq 4 y y=true)->zll i n t t=true
 | 0,_,_=>rfl
 | n+1,i,h=>by
  obtain⟨y,y1,y2⟩:=h i (zAE9 _) zo;unfold zll;rw[y1];dsimp only;rw[y2];exact zna fun j h1 h2=>h j zo zo
theorem zyV {B:Ba}{c:Cx}{H:List zd}{h:TH}(k:HR B c H h){id b d z:Nat}{ob:zd}(hH:H[id]?=some ob)(hd:zaL ob=true)(hρ:c.ρ id=some (b,d,z)){x:TO}(hx:h.get b=some x):zoW x x=true:=by
 cases ob with
 | row e z' G M l =>
  obtain⟨rfl,G',M',cells,cs,r1,r2,r3,r4,r5⟩:=zhF k hH hρ;rw[hx]at r1;injection r1 with r1;subst r1;simp only[zoW,zbV rfl,cond_true];refine zna fun j _ hj=>?_;rw[zBN9]at hj;obtain⟨t1,t2⟩:=Tr.getL_some r4;have hj2:j<cs.length:=by rw[t1];exact hj
  have t3:=t2 j hj;rw[zBN9,zAA9 hj2]at t3;refine⟨cs[j],t3.symm,?_⟩;have hall:(l.flatMap PV.cells).all (dpF 4)=true:=by
   rw[zCB9];intro y hy;obtain⟨w,w1,w2⟩:=zBE9.1 hy;exact zCB9.1 (zCB9.1 hd w w1) y w2
  exact zls (R:=VR c h) (f:=TV.beq 4) (p:=dpF 4) (fun v u k hp=>zjM k hp) r5.all hall _ (zBK9 hj2)
 | map0 =>
  obtain⟨b',d',z',clock,s1,s2⟩:=k.obj _ _ hH;rw[hρ]at s1;injection s1 with s1;injection s1 with s1 _;subst s1;rw[hx]at s2;injection s2 with s2;subst s2;exact zbV rfl
 | _=>cases hd
theorem zwd {t n:Tr TV}{h:TH}{df:List TD}{o:zbo}{d:Nat}{us:List TV}{u:TV}(hw:zev t n o.guard=some true)(hd:o.dst=some d)(ha:zdF t n o.args=some us)(hn:n.get d=some u)(hc:o.kind.cls=0)(hp:pas o.kind us h=some u)(hb:TV.beq 4 u u=true):zg5 t ⟨n,df,h⟩ o=true:=by
 unfold zg5;dsimp only;rw[hw];dsimp only;unfold zqg;rw[hd];dsimp only;rw[ha];dsimp only;rw[hn];unfold zqf;dsimp only;rw[hc]
 try dsimp only
 unfold zqe
 grind
theorem zwO {t n:Tr TV}{h:TH}{df:List TD}{o:zbo}{d b:Nat}{us:List TV}{x:zdy}(hw:zev t n o.guard=some true)(hd:o.dst=some d)(ha:zdF t n o.args=some us)(hn:n.get d=some x.v)(hc:o.kind.cls=1)(hbl:zeo x.v=some b)(hp:lay o.kind us b=some x)(hg:h.get b=some x.o)(hb:TV.beq 4 x.v x.v=true)(ho:zoW x.o x.o=true):zg5 t ⟨n,df,h⟩ o=true:=by
 unfold zg5;dsimp only;rw[hw];dsimp only;unfold zqg;rw[hd];dsimp only;rw[ha];dsimp only;rw[hn];unfold zqf;dsimp only;rw[hc]
 try dsimp only
 unfold zqj
 grind
theorem zoj {B:Ba}{c:Cx}{tm:Nat->PV}{t:Tr TV}{s s':DF}{d:DS}{o:zbo}(k:DSR B c tm t s d)(hs:zaK tm o s=some s'):∃c' d',zkd t o d=some d'/\Mo c c' d.h d'.h/\DSR B c' tm t s' d':=by
 unfold zaK at hs
 split at hs
 ·cases hs
 ·rename_i hw;have hw':=zgz k.tm k.nm hw
  split at hs
  ·rename_i nm' hn;injection hs with hs;subst hs;obtain⟨n',n1,n2,n3,n4⟩:=zlb k.nm (VR.tupL LR.nil) hn;refine⟨c,⟨n',d.df,d.h⟩,?_,Mo.refl _ _,k.hr,k.tm,n3,k.df,fun e he=>?_⟩
   ·unfold zkd;rw[hw' _ (zdA.refl _)];dsimp only;rw[n1];rfl
   ·rcases zBA9.1 he with rfl|he
    ·intro c2 h2 nn df2 m2 hd2 hn2;unfold zg5;dsimp only;rw[hw' nn fun i u hu=>hn2 _ _ (n2 _ _ hu)]
    ·exact(k.K e he).move (Mo.refl _ _) (fun _ _ _ _=>rfl) n2
  ·cases hs
 ·rename_i hw;have hw':=zgz k.tm k.nm hw
  split at hs
  ·cases hs
  ·rename_i vs hvs;obtain⟨us,u1,u2⟩:=zi0 k.tm k.nm hvs;have e0:zkd t o d=zrZ t o d:=by unfold zkd;rw[hw' _ (zdA.refl _)]
   split at hs
   ·rename_i hcls
    split at hs
    ·rename_i v hp
     split at hs
     ·rename_i hc;obtain⟨hc1,hc2⟩:=hc;obtain⟨dd,hdd⟩:=Option.isSome_iff_exists.1 hc1
      split at hs
      ·rename_i nm' hn;injection hs with hs;subst hs;obtain⟨u,p1,p2⟩:=zmy k.hr u2 hp;obtain⟨n',n1,n2,n3,n4⟩:=zlb k.nm p2 hn;refine⟨c,⟨n',d.df,d.h⟩,?_,Mo.refl _ _,k.hr,k.tm,n3,k.df,fun e he=>?_⟩
       ·rw[e0];simp only[zrZ,u1 _ (zdA.refl _),hcls,p1,zwp,n1];rfl
       ·rcases zBA9.1 he with rfl|he
        ·intro c2 h2 nn df2 m2 hd2 hn2;exact zwd (hw' nn fun i u hu=>hn2 _ _ (n2 _ _ hu)) hdd (u1 nn fun i u hu=>hn2 _ _ (n2 _ _ hu)) (hn2 _ _ (n4 _ hdd)) hcls (zxc k.hr u2 hp p1 m2 hd2) (zjM p2 hc2)
        ·exact(k.K e he).move (Mo.refl _ _) (fun _ _ _ _=>rfl) n2
      ·cases hs
     ·cases hs
    ·cases hs
   ·rename_i hcls
    split at hs
    ·rename_i ob v hp
     split at hs
     ·rename_i hc;obtain⟨hc1,hc2,hc3⟩:=hc;obtain⟨dd,hdd⟩:=Option.isSome_iff_exists.1 hc1
      split at hs
      ·rename_i nm' hn;injection hs with hs;subst hs;obtain⟨x,c',p1,p2,p3,p4,⟨z,p5⟩,p6⟩:=znj k.hr u2 hp;obtain⟨n',n1,n2,n3,n4⟩:=zlb (k.nm.mono p2) p4 hn;have hkeep:∀b,b<d.h.next->(d.h.push x.o).get b=d.h.get b:=fun b hb=>by rw[TH.get_push,if_neg zo]
       have hnew:(d.h.push x.o).get d.h.next=some x.o:=by rw[TH.get_push,if_pos rfl]
       refine⟨c',⟨n',d.df,d.h.push x.o⟩,?_,p2,p3,k.tm.mono p2,n3,k.df.mono p2,fun e he=>?_⟩
       ·rw[e0];unfold zrZ;rw[u1 _ (zdA.refl _)];dsimp only;rw[hcls];(try dsimp only);rw[p1];unfold zwy;dsimp only;rw[n1];rfl
       ·rcases zBA9.1 he with rfl|he
        ·intro c2 h2 nn df2 m2 hd2 hn2;have hg2:=hd2 s.H.length (by simp) _ p5;dsimp only at hg2;rw[hnew]at hg2;exact zwO (hw' nn fun i u hu=>hn2 _ _ (n2 _ _ hu)) hdd (u1 nn fun i u hu=>hn2 _ _ (n2 _ _ hu)) (hn2 _ _ (n4 _ hdd)) hcls p6 p1 hg2 (zjM p4 hc3) (zyV p3 (List.getElem?_concat_length ..) hc2 p5 hnew)
        ·exact(k.K e he).move p2 (fun id _ y hy=>hkeep _ (k.hr.own _ _ hy).2.1) n2
      ·cases hs
     ·cases hs
    ·cases hs
   ·cases hs
theorem zfi {B:Ba}{tm:Nat->PV}{t:Tr TV}:∀{ops:List zbo} {c:Cx} {s s':DF} {d:DS},DSR B c tm t s d->zav tm ops s=some s'->∃c' d',ziG t ops d=some d'/\Mo c c' d.h d'.h/\DSR B c' tm t s' d'
 | [],c,s,s',d,k,hs=>by injection hs with hs;subst hs;exact⟨c,d,rfl,Mo.refl _ _,k⟩
 | o::l,c,s,s',d,k,hs=>by
  unfold zav at hs
  split at hs
  ·rename_i s1 h1;obtain⟨c1,d1,e1,m1,k1⟩:=zoj k h1;obtain⟨c2,d2,e2,m2,k2⟩:=zfi k1 hs;exact⟨c2,d2,by unfold ziG;rw[e1];exact e2,m1.trans m2,k2⟩
  ·cases hs
def zby:List (zbo×List Nat)->zbo->Prop
 | [],_=>False
 | e::K,o=>if e.1.dst=o.dst then e.1=o else zby K o
def zbd (K:List (zbo×List Nat)):List zbo->Prop
 | []=>True
 | o::l=>zby K o/\zbd K l
theorem zqT:∀{K:List (zbo×List Nat)} {o:zbo},zby K o->∃e∈K,e.1=o
 | [],_,h=>h.elim
 | e::K,o,h=>by
  unfold zby at h
  split at h
  ·grind
  ·obtain⟨e',h1,h2⟩:=zqT h;exact⟨e',zAO9 _ h1,h2⟩
theorem zjc {B:Ba}{c:Cx}{tm:Nat->PV}{t:Tr TV}{s:DF}{d:DS}(k:DSR B c tm t s d):∀{l:List zbo},zbd s.K l->zgF t d l=true
 | [],_=>rfl
 | o::l,h=>by
  obtain⟨e,he,rfl⟩:=zqT h.1;unfold zgF;rw[k.K e he c d.h d.nm d.df (Mo.refl _ _) (fun _ _ _ _=>rfl) (zdA.refl _)];exact zjc k h.2
def zaB (W:List Nat)(K:List (zbo×List Nat)):List (zbo×List Nat):=K.filter fun e=>e.2.all fun id=>!W.contains id
def WD (E:Env)(caught:Tr Unit)(tm:Nat->PV)(gs:List zcF)(s:DF)(Q:FX->DF->Prop):Prop :=
 ∀B c t d,DSR B c tm t s d->∃r x s' c' d',Ev E (fun C _=>zc2 C caught t gs d=some r)/\Q x s'/\Mo c c' d.h d'.h/\DSR B c' tm t s' d'/\((x=.norm/\r=.go d')\/∃v u,x=.panic v/\r=.panic u d'.df d'.h/\VR c' d'.h v u)
variable {tm:Nat->PV}{s:DF}{Q:FX->DF->Prop}
theorem zb3 (h:Q .norm s):WD E caught tm [] s Q:=fun B c t d k=>⟨.go d,.norm,s,c,d,Ev.all fun _ _=>rfl,h,Mo.refl _ _,k,.inl ⟨rfl,rfl⟩⟩
theorem DSR.dput {B:Ba}{c c':Cx}{t:Tr TV}{d:DS}(k:DSR B c tm t s d){H':List zd}{h':TH}{K':List (zbo×List Nat)}(m:Mo c c' d.h h')(hr:HR B c' H' h'){v:PV}{u:TV}(hv:VR c' h' v u){dst:Option Nat}{nm':Nat->PV}(hn:zbg s.nm dst v=some nm')
  (hK:∀n',zdA d.nm n'->∀e∈K',Ent c' h' t n' e):∃n',zgx d.nm dst u=some n'/\DSR B c' tm t ⟨nm',s.df,H',K'⟩ ⟨n',d.df,h'⟩:=by
 obtain⟨n',n1,n2,n3,n4⟩:=zlb (k.nm.mono m) hv hn;exact⟨n',n1,hr,k.tm.mono m,n3,k.df.mono m,hK n' n2⟩
theorem zsY {g:zcF}{l:List zcF}{s1:DF}(hc:zbd s.K g.chk)(hx:zav tm g.exe s=some s1)(ha:g.act=none)(k:WD E caught tm l s1 Q):WD E caught tm (g::l) s Q:=fun B c t d hd=>by
 obtain⟨c1,d1,e1,m1,k1⟩:=zfi hd hx;obtain⟨r,x,s',c',d',e2,q2,m2,k2,h2⟩:=k B c1 t d1 k1;refine⟨r,x,s',c',d',e2.mono fun C N e=>?_,q2,m1.trans m2,k2,h2⟩;unfold zc2;rw[zjc hd hc,e1]
 grind
theorem zzR {g:zcF}{l:List zcF}{s1:DF}{o:zbo}{vs:List PV}{a:AR}{nm':Nat->PV}(hc:zbd s.K g.chk)(hx:zav tm g.exe s=some s1)(ha:g.act=some o)(hw:zY tm s1.nm o.guard=some true)(hv:zbj tm s1.nm o.args=some vs)
  (hf:zbt s1.H o.kind vs=some a) (hn:zbg s1.nm o.dst a.v=some nm') (k:WD E caught tm l ⟨nm',s1.df,a.H,zaB a.W s1.K⟩ Q):WD E caught tm (g::l) s Q:=fun B c t d hd=>by
 obtain⟨c1,d1,e1,m1,k1⟩:=zfi hd hx;obtain⟨us,u1,u2⟩:=zi0 k1.tm k1.nm hv;have hw':=zgz k1.tm k1.nm hw _ (zdA.refl _);obtain⟨u,h',c2,p1,p2⟩:=zmI (C:=⟨fun _ _ _=>none,fun _ _ _=>none⟩) (caught:=caught) k1.hr u2 hf;have hsame:∀C,act C caught o.kind us d1.h=some (.ok u h'):=fun C=>by
  rw[<- p1];unfold zbt at hf
  split at hf
  ·rename_i e;rw[e];rfl
  ·rename_i e;rw[e];rfl
  ·rename_i e;rw[e];rfl
  ·rename_i e;rw[e];rfl
  ·rename_i e;rw[e];rfl
  ·cases hf
 obtain⟨n',n1,k2⟩:=k1.dput (K':=zaB a.W s1.K) p2.mo p2.hr p2.v hn fun n' hm e he=>by
  obtain⟨he1,he2⟩:=zCL9.1 he;refine(k1.K e he1).move p2.mo (fun id hi y hy=>p2.W id (fun hW=>?_) y hy) hm
  grind
 obtain⟨r,x,s',c',d',e2,q2,m2,k3,h2⟩:=k B c2 t _ k2;refine⟨r,x,s',c',d',e2.mono fun C N e=>?_,q2,(m1.trans p2.mo).trans m2,k3,h2⟩;unfold zc2;rw[zjc hd hc,e1];dsimp only[cond_true];rw[ha];dsimp only;unfold zkH;rw[hw'];dsimp only;rw[u1 _ (zdA.refl _)];dsimp only;rw[hsame C];simp only[zka,Tw.dput,n1,dgo];exact e
theorem zgB {g:zcF}{l:List zcF}{s1:DF}{o:zbo}{nm':Nat->PV}(hc:zbd s.K g.chk)(hx:zav tm g.exe s=some s1)(ha:g.act=some o)(hw:zY tm s1.nm o.guard=some false)(hn:zbg s1.nm o.dst (.tuple [])=some nm')(k:WD E caught tm l ⟨nm',s1.df,s1.H,s1.K⟩ Q):WD E caught tm (g::l) s Q:=fun B c t d hd=>by
 obtain⟨c1,d1,e1,m1,k1⟩:=zfi hd hx;have hw':=zgz k1.tm k1.nm hw _ (zdA.refl _);obtain⟨n',n1,k2⟩:=k1.dput (K':=s1.K) (Mo.refl _ _) k1.hr (VR.tupL LR.nil) hn fun n' hm e he=>(k1.K e he).move (Mo.refl _ _) (fun _ _ _ _=>rfl) hm;obtain⟨r,x,s',c',d',e2,q2,m2,k3,h2⟩:=k B c1 t _ k2;refine⟨r,x,s',c',d',e2.mono fun C N e=>?_,q2,m1.trans m2,k3,h2⟩;unfold zc2;rw[zjc hd hc,e1];dsimp only[cond_true];rw[ha];dsimp only;unfold zkH;rw[hw'];simp only[Tw.dput,n1,dgo];exact e
def zay (same:Bool)(K:List (zbo×List Nat)):List (zbo×List Nat):=if same then K else K.filter fun e=>e.2.isEmpty
def zus (E:Env)(caught:Tr Unit)(tm:Nat->PV)(l:List zcF)(s:DF)(dst:Option Nat)(same:Bool)(Q:FX->DF->Prop):FE->List zd->Prop
 | .ret v,H'=>∃nm',zbg s.nm dst v=some nm'/\WD E caught tm l ⟨nm',s.df,H',zay same s.K⟩ Q
 | .panic v,H'=>Q (.panic v) ⟨s.nm,s.df,H',zay same s.K⟩
theorem zop {g:zcF}{l:List zcF}{s1:DF}{o:zbo}{f:Nat}{caps vs:List PV}{same:Bool}(hc:zbd s.K g.chk)(hx:zav tm g.exe s=some s1)(ha:g.act=some o)(hk:o.kind=.call)(hw:zY tm s1.nm o.guard=some true)(hv:zbj tm s1.nm o.args=some (.fn f caps::vs))
  (k:FO E f (vs++caps) s1.H same (zus E caught tm l s1 o.dst same Q)):WD E caught tm (g::l) s Q:=fun B c t d hd=>by
 obtain⟨c1,d1,e1,m1,k1⟩:=zfi hd hx;obtain⟨us,u1,u2⟩:=zi0 k1.tm k1.nm hv;obtain⟨u,us',rfl,u3,u4⟩:=u2.of_cons;obtain⟨cs,rfl,u5⟩:=u3.fn_inv;have hw':=zgz k1.tm k1.nm hw _ (zdA.refl _);obtain⟨r,h',e,H',c2,f1,q1,m2,hr2,re,hsm⟩:=k B c1 d1.h _ k1.hr (u4.app u5);have hK:∀n',zdA d1.nm n'->∀e∈zay same s1.K,Ent c2 h' t n' e:=fun n' hm e he=>by
  unfold zay at he
  split at he
  ·rename_i hs;exact(k1.K e he).move m2 (fun id _ y hy=>hsm hs id y hy) hm
  ·obtain⟨he1,he2⟩:=zCL9.1 he;refine(k1.K e he1).move m2 (fun id hi=>?_) hm
   grind
 have hst:∀C,C.fn f (us'++cs) d1.h=some (r,h')->zc2 C caught t (g::l) d=(match zka o.dst d1 (zk9 (some (r,h')))with
   | some (.go s)=>zc2 C caught t l s
   | r=>r):=fun C hC=>by
  conv=>lhs;unfold zc2
  rw[zjc hd hc,e1];dsimp only[cond_true];rw[ha];dsimp only;unfold zkH;rw[hw'];dsimp only;rw[u1 _ (zdA.refl _)];dsimp only;rw[hk];simp only[act,zk2]
  grind
 cases e with
 | ret v =>
  cases r with
  | panic u=>exact re.elim
  | ret u =>
   obtain⟨nm',hn,q1⟩:=q1;obtain⟨n',n1,k2⟩:=k1.dput (K':=zay same s1.K) m2 hr2 (v:=v) (u:=u) re hn hK;obtain⟨r2,x,s',c',d',e2,q2,m3,k3,h2⟩:=q1 B c2 t _ k2;refine⟨r2,x,s',c',d',Ev.and2 (fun C N a b=>?_) f1 e2,q2,(m1.trans m2).trans m3,k3,h2⟩;rw[hst C a];simp only[zk9,zka,Tw.dput,n1,dgo];exact b
 | panic v =>
  cases r with
  | ret u=>exact re.elim
  | panic u =>
   refine⟨.panic u d1.df h',.panic v,⟨s1.nm,s1.df,H',zay same s1.K⟩,c2,⟨d1.nm,d1.df,h'⟩,f1.mono fun C N a=>?_,q1,m1.trans m2,⟨hr2,k1.tm.mono m2,k1.nm.mono m2,k1.df.mono m2,hK _ (zdA.refl _)⟩,.inr ⟨v,u,rfl,rfl,re⟩⟩;rw[hst C a];rfl
def zaI (nm:Nat->PV):List Nat->(Nat->PV)->(Nat->PV)
 | [],tm=>tm
 | d::l,tm=>zaI nm l (upd tm d (nm d))
def zlh:List Nat->(Nat->PV)->(Nat->PV)
 | [],tm=>tm
 | d::l,tm=>zlh l (upd tm d .bad)
theorem zte {c:Cx}{h:TH}{nm:Nat->PV}{n:Tr TV}(kn:nmR c h nm n):∀{ds:List Nat} {tm:Nat->PV} {t:Tr TV},tmR c h tm t->tmR c h (zaI nm ds tm) (zjR n ds t)
 | [],_,_,k=>k
 | d::l,tm,t,k=>by
  unfold zaI zjR;refine zte kn fun i=>?_;unfold upd;rw[Tr.get_set]
  by_cases e:i=d
  ·rw[if_pos e,if_pos e];rcases kn d with⟨h1,_⟩|h1
   all_goals grind
  ·rw[if_neg e,if_neg e];exact k i
theorem znO {c:Cx}{h:TH}:∀{ds:List Nat} {tm:Nat->PV} {t:Tr TV},tmR c h tm t->tmR c h (zlh ds tm) (zgC ds t)
 | [],_,_,k=>k
 | d::l,tm,t,k=>by
  unfold zlh zgC;refine znO fun i=>?_;unfold upd;rw[Tr.get_set]
  by_cases e:i=d
  ·grind
  ·rw[if_neg e,if_neg e];exact k i
@[reducible] def zbm (ds:List Nat) (tm:Nat->PV) (Q:FX->FSt->Prop):FX->DF->Prop
 | .norm,s=>Q .norm ⟨zaI s.nm ds tm,s.df,s.H⟩
 | x,s=>Q x ⟨zlh ds tm,s.df,s.H⟩
theorem zbc {rnd:Option Nat}{gs:List zcF}{ds:List Nat}{s:FSt}{Q:FX->FSt->Prop}(k:WD E caught s.tm gs ⟨fun _=>.bad,s.df,s.H,[]⟩ (zbm ds s.tm Q)):W E caught rnd (.drawn gs ds) s Q:=fun B c t rnd' hs hn=>by
 obtain⟨r,x,s',c',d',e1,q1,m1,k1,h2⟩:=k B c t.tm ⟨.nil,t.df,t.h⟩ ⟨hs.hr,hs.tm,fun i=>.inl ⟨rfl,Tr.get_nil i⟩,hs.df,fun e he=>by cases he⟩;rcases h2 with⟨rfl,rfl⟩|⟨v,u,rfl,rfl,hv⟩
 ·exact⟨.norm,⟨zjR d'.nm ds t.tm,d'.df,d'.h⟩,.norm,_,c',e1.mono fun C N e=>by unfold zbK;rw[e];rfl,q1,.norm,m1,⟨k1.hr,zte k1.nm k1.tm,k1.df⟩⟩
 ·exact⟨.panic u,⟨zgC ds t.tm,d'.df,d'.h⟩,.panic v,_,c',e1.mono fun C N e=>by unfold zbK;rw[e];rfl,q1,.panic hv,m1,⟨k1.hr,znO k1.tm,k1.df⟩⟩
def FY (E:Env)(id:Nat)(args:List PV)(H:List zd)(Q:Bool->List zd->Prop):Prop :=
 ∀B c h us b d z,HR B c H h->c.ρ id=some (b,d,z)->LR (VR c h) args us->∃r h' H' c',Ev E (fun C _=>C.rd b us h=some (r,h'))/\Q r H'/\Mo c c' h h'/\HR B c' H' h'
theorem zpH {c:Cx}{h:TH}{id:Nat}{u:TV}(x:VR c h (.yield id) u):∃b d z,c.ρ id=some (b,d,z)/\u=.yield b:=by
 cases x with
 | pure x=>cases x
 | yield h=>exact⟨_,_,_,h,rfl⟩
theorem zrh {d:Option Nat}{args:List TOp}{g:Option (TOp×Bool)}{ops:List zbo}{s:FSt}{Q:FX->FSt->Prop}{id:Nat}{vs:List PV}
  (hg:zat s.tm g=some true) (ha:evs s.tm args=some (.yield id::vs)) (k:FY E id vs s.H fun r H'=>WO E caught ops (FSt.put ⟨s.tm,s.df,H'⟩ d (.bool r)) Q):WO E caught (⟨d,.call,args,g⟩::ops) s Q:=fun B c t hs=>by
 have hw:=zeR hs.tm hg;obtain⟨us,u1,u2⟩:=zi6 hs.tm ha;obtain⟨u,us',rfl,u3,u4⟩:=u2.of_cons;obtain⟨b,d',z,hρ,rfl⟩:=zpH u3;obtain⟨r,h',H',c',e1,q1,m1,k1⟩:=k B c t.h _ _ _ _ hs.hr hρ u4;obtain⟨r2,x,s2,c2,t2,e2,q2,m2,k2,h2⟩:=q1 B c' ((⟨t.tm,t.df,h'⟩:St).put d (.bool r)) (hs.put m1 k1 (.pure (.bool r)) d);rw[put_h]at m2;refine⟨r2,x,s2,c2,t2,Ev.and2 (fun C N a b=>?_) e1 e2,q2,m1.trans m2,k2,h2⟩;unfold zeD zfH;rw[hw,u1];simp only[ziO,zZ.cls,act,zk2];rw[a];exact b
theorem zqS {tm:Nat->PV}{s:DF}{Q:FX->DF->Prop}{g:zcF}{l:List zcF}{s1:DF}{o:zbo}{id:Nat}{vs:List PV}(hc:zbd s.K g.chk)(hx:zav tm g.exe s=some s1)(ha:g.act=some o)(hk:o.kind=.call)(hw:zY tm s1.nm o.guard=some true)(hv:zbj tm s1.nm o.args=some (.yield id::vs))
  (k:FY E id vs s1.H fun r H'=>∃nm',zbg s1.nm o.dst (.bool r)=some nm'/\WD E caught tm l ⟨nm',s1.df,H',zay false s1.K⟩ Q):WD E caught tm (g::l) s Q:=fun B c t d hd=>by
 obtain⟨c1,d1,e1,m1,k1⟩:=zfi hd hx;obtain⟨us,u1,u2⟩:=zi0 k1.tm k1.nm hv;obtain⟨u,us',rfl,u3,u4⟩:=u2.of_cons;obtain⟨b,d',z,hρ,rfl⟩:=zpH u3;have hw':=zgz k1.tm k1.nm hw _ (zdA.refl _);obtain⟨r,h',H',c2,f1,⟨nm',hn,q1⟩,m2,hr2⟩:=k B c1 d1.h _ _ _ _ k1.hr hρ u4;have hK:∀n',zdA d1.nm n'->∀e∈zay false s1.K,Ent c2 h' t n' e:=fun n' hm e he=>by
  obtain⟨he1,he2⟩:=zCL9.1 (show e∈s1.K.filter _ from he);refine(k1.K e he1).move m2 (fun id hi=>?_) hm
  grind
 obtain⟨n',n1,k2⟩:=k1.dput (K':=zay false s1.K) m2 hr2 (v:=.bool r) (u:=.bool r) (.pure (.bool r)) hn hK;obtain⟨r2,x,s',c',d',e2,q2,m3,k3,h2⟩:=q1 B c2 t _ k2;refine⟨r2,x,s',c',d',Ev.and2 (fun C N a b=>?_) f1 e2,q2,(m1.trans m2).trans m3,k3,h2⟩;unfold zc2;rw[zjc hd hc,e1];dsimp only[cond_true];rw[ha];dsimp only;unfold zkH;rw[hw'];dsimp only;rw[u1 _ (zdA.refl _)];dsimp only;rw[hk];simp only[act,zk2];rw[a];simp only[zqH,zka,Tw.dput,n1,dgo];exact b
def zaD:List Nat->List PV->(Nat->PV)->(Nat->PV)
 | p::ps,v::vs,t=>zaD ps vs (upd t p v)
 | _,_,t=>t
theorem zsK {c:Cx}{h:TH}:∀{ps:List Nat} {vs:List PV} {us:List TV} {tm:Nat->PV} {t:Tr TV},LR (VR c h) vs us->tmR c h tm t->tmR c h (zaD ps vs tm) (zhy ps us t)
 | [],vs,us,tm,t,hl,k=>by cases vs<;>cases us<;>exact k
 | p::ps,[],us,tm,t,hl,k=>by obtain rfl:=hl.of_nil;exact k
 | p::ps,v::vs,us,tm,t,hl,k=>by
  obtain⟨u,us',rfl,h1,h2⟩:=hl.of_cons;show tmR c h (zaD ps vs (upd tm p v)) (zhy ps us' (t.set p (some u)));exact zsK h2 (k.put h1)
def zAP (id:Nat)(Q:Bool->List zd->Prop):FX->FSt->Prop
 | .norm,s=>s.df=[]/\∃st pe tm ps aS bo m,s.H[id]?=some (.loop st pe tm ps aS bo m)/\Q true (s.H.set id (.loop .ready .norm tm ps aS bo m))
 | .panic _,_=>False
 | x,s=>s.df=[]/\∃st pe tm ps aS bo m,s.H[id]?=some (.loop st pe tm ps aS bo m)/\Q false (s.H.set id (.loop .done x tm ps aS bo m))
theorem zjN {B:Ba}{c:Cx}{H:List zd}{h:TH}(k:HR B c H h){id m:Nat}{st:LoopState}{pe:FX}{tm:Nat->PV}{ps:List Nat}{aS bo:zbI}(hH:H[id]?=some (.loop st pe tm ps aS bo m)){b d z:Nat}(hρ:c.ρ id=some (b,d,z)) :
  ∃bm dm zm t pe',c.ρ m=some (bm,dm,zm)/\h.get b=some (.loop st pe' t ps aS bo bm)/\tmR c h tm t/\XR c h pe pe':=by
 obtain⟨b',d',z',bm,dm,zm,t,pe',h1,h2⟩:=k.obj _ _ hH
 grind
theorem zmp {B:Ba}{c:Cx}{H:List zd}{h:TH}(k:HR B c H h){id b d z m bm dm zm:Nat}(hρ:c.ρ id=some (b,d,z))(hv:¬H[id]?=some .void)(hm:c.ρ m=some (bm,dm,zm)){st:LoopState}{pe:FX}{pe':TX}{tm:Nat->PV}{t:Tr TV}{ps:List Nat}{aS bo:zbI}(ht:tmR c h tm t)(hp:XR c h pe pe') :
  Mo c c h (h.set b (.loop st pe' t ps aS bo bm))/\HR B c (H.set id (.loop st pe tm ps aS bo m)) (h.set b (.loop st pe' t ps aS bo bm)) :=
 k.set hρ hv fun mm=>⟨b,d,z,bm,dm,zm,t,pe',hρ,hm,by rw[TH.get_set _ _ _ _ (k.own _ _ hρ).2.1,if_pos rfl],ht.mono mm,hp.mono mm⟩
theorem zz4 (E:Env)(N:Nat):(EN E N).N=N:=rfl
theorem zjC {id m:Nat}{pe:FX}{tm:Nat->PV}{ps:List Nat}{aS bo:zbI}{H:List zd}{args:List PV}{Q:Bool->List zd->Prop}{st:LoopState}(hH:H[id]?=some (.loop st pe tm ps aS bo m))(hl:ps.length=args.length)
  (kW:W E .nil (some id) aS ⟨zaD ps args tm,[],H⟩ fun x s1=>x=.norm/\∃pe1 tm1 ps1 as1 bo1 m1,s1.H[id]?=some (.loop .ready pe1 tm1 ps1 as1 bo1 m1) /\
   W E .nil (some id) bo ⟨s1.tm,s1.df,s1.H.set id (.loop .busy pe1 tm1 ps1 as1 bo1 m1)⟩ (zAP id Q)):FY E id args H Q:=fun B c h us b d z hr hρ ha=>by
 obtain⟨bm,dm,zm,t,pe',hm,hg,ht,hp⟩:=zjN hr hH hρ;obtain⟨x',t1,x,s1,c1,e1,⟨rfl,pe1,tm1,ps1,as1,bo1,m1,hH1,kW2⟩,hx,mo1,k1⟩:=kW B c ⟨zhy ps us t,[],h⟩ (some b) ⟨hr,zsK ha ht,trivial⟩ ⟨d,z,hρ⟩
 cases hx
 have hρ1:=mo1.ρ _ _ hρ;obtain⟨bm1,dm1,zm1,tt1,pe1',hm1,hg1,ht1,hp1⟩:=zjN k1.hr hH1 hρ1;obtain⟨mo2,hr2⟩:=zmp k1.hr (st:=.busy) (ps:=ps1) (aS:=as1) (bo:=bo1) hρ1 (fun e=>by rw[hH1]at e;cases e) hm1 ht1 hp1;obtain⟨x',t3,x,s3,c3,e3,q3,hx,mo3,k3⟩:=kW2 B c1 ⟨t1.tm,t1.df,t1.h.set b (.loop .busy pe1' tt1 ps1 as1 bo1 bm1)⟩ (some b) ⟨hr2,k1.tm.mono mo2,k1.df.mono mo2⟩ ⟨d,z,hρ1⟩;have hρ3:=mo3.ρ _ _ hρ1;have run:∀r h',zjj b (some (x',t3))=some (r,h')->Ev E (fun C _=>C.rd b us h=some (r,h')):=fun r h' hre=>by
  obtain⟨K,hK⟩:=e1;obtain⟨L,hL⟩:=e3;refine⟨max K L+1,fun N hN d hd=>?_⟩;obtain⟨d,rfl⟩:∃i,d=i+1:=⟨d-1,by omega⟩
  show zoA (EN E N) (zdq (EN E N) d) b us h=_;unfold zoA;rw[hg];dsimp only;unfold zq6;dsimp only;rw[zbV (by rw[<- ha.1];exact hl)];dsimp only[cond_true];rw[zz4,hK N zo d zo];unfold zxh;dsimp only;rw[hg1];dsimp only;unfold zqv;dsimp only;rw[zz4,hL N zo d zo];exact hre
 have fin:∀(r:Bool) (st:LoopState) (pen:FX) (pen':TX),XR c3 t3.h pen pen'->s3.df=[]->(∀st2 pe2 tt2 ps2 as2 bo2 bm2,ztR x' t3.h b (.loop st2 pe2 tt2 ps2 as2 bo2 bm2)=some (r,t3.h.set b (.loop st pen' tt2 ps2 as2 bo2 bm2))) ->
   (∃st2 pe2 tm2 ps2 as2 bo2 m2,s3.H[id]?=some (.loop st2 pe2 tm2 ps2 as2 bo2 m2)/\Q r (s3.H.set id (.loop st pen tm2 ps2 as2 bo2 m2))) ->
   ∃r h' H' c',Ev E (fun C _=>C.rd b us h=some (r,h'))/\Q r H'/\Mo c c' h h'/\HR B c' H' h':=fun r st pen pen' hxr hdf hj ⟨st2,pe2,tm2,ps2,as2,bo2,m2,hH3,q⟩=>by
  obtain⟨bm3,dm3,zm3,tt3,pe3',hm3,hg3,ht3,hp3⟩:=zjN k3.hr hH3 hρ3;obtain⟨mo4,hr4⟩:=zmp k3.hr (st:=st) (ps:=ps2) (aS:=as2) (bo:=bo2) hρ3 (fun e=>by rw[hH3]at e;cases e) hm3 ht3 hxr;have hd0:t3.df=[]:=by
   have:=k3.df;rw[hdf]at this
   cases h0:t3.df with
   | nil=>rfl
   | cons a l=>rw[h0]at this;exact this.elim
  refine⟨r,_,_,c3,run r _ ?_,q,((mo1.trans mo2).trans mo3).trans mo4,hr4⟩;unfold zjj
  grind
 cases hx with
 | norm=>exact fin true .ready .norm .norm .norm q3.1 (fun _ _ _ _ _ _ _=>rfl) q3.2
 | exit j=>exact fin false .done (.exit j) (.exit j) (.exit j) q3.1 (fun _ _ _ _ _ _ _=>rfl) q3.2
 | goto j=>exact fin false .done (.goto j) (.goto j) (.goto j) q3.1 (fun _ _ _ _ _ _ _=>rfl) q3.2
 | ret=>exact fin false .done .ret .ret .ret q3.1 (fun _ _ _ _ _ _ _=>rfl) q3.2
 | panic hv=>exact q3.elim
theorem zjB {f:TOp}{ps:List Nat}{aS bo:zbI}{s:FSt}{Q:FX->FSt->Prop}{g:Nat}{cap:List PV}{b:Bool}(hf:ev s.tm f=some (.fn g cap))
  (k:FO E g (.yield (s.H.length+1)::cap) (s.H++[.dfr false]++[.loop .ready .norm s.tm ps aS bo s.H.length]) b fun e H'=>(∃v,e=.ret v)/\∃st pe tm ps aS bo m,st ≠ .busy/\H'[s.H.length+1]?=some (.loop st pe tm ps aS bo m)/\Q pe ⟨s.tm,.mark s.H.length::s.df,H'.set (s.H.length+1) (.loop .exhausted pe tm ps aS bo m)⟩) :
  W E caught none (.rangef f ps aS bo) s Q:=fun B c t rnd' hs hn=>by
 obtain rfl:rnd'=none:=by cases rnd' with|none=>rfl|some x=>exact hn.elim
 obtain⟨u,u1,u2⟩:=zjx hs.tm hf;obtain⟨cs,rfl,u3⟩:=u2.fn_inv;obtain⟨m1,k1⟩:=hs.hr.push (o:=.dfr false) (x:=.dfr false) (z:=0) fun m=>⟨t.h.next,0,0,add_same ..,by rw[TH.get_push,if_pos rfl]⟩
 have hlen:(s.H++[zd.dfr false]).length=s.H.length+1:=by simp
 obtain⟨m2,k2⟩:=k1.push (o:=.loop .ready .norm s.tm ps aS bo s.H.length) (x:=.loop .ready .norm t.tm ps aS bo t.h.next) (z:=0) fun m=>by
  rw[hlen]at m⊢;refine⟨(t.h.push (.dfr false)).next,0,0,t.h.next,0,0,t.tm,.norm,add_same ..,?_,by rw[TH.get_push,if_pos rfl],(hs.tm.mono m1).mono m,.norm⟩;exact m.ρ _ _ (add_same ..)
 rw[hlen]at m2 k2;have hρ0:((c.add s.H.length t.h.next 0 0).add (s.H.length+1) (t.h.push (.dfr false)).next 0 0).ρ s.H.length=some (t.h.next,0,0):=m2.ρ _ _ (add_same ..);have hρ1:((c.add s.H.length t.h.next 0 0).add (s.H.length+1) (t.h.push (.dfr false)).next 0 0).ρ (s.H.length+1)=some (t.h.next+1,0,0):=add_same ..;obtain⟨r,h',e,H',c',e1,⟨⟨v,rfl⟩,st,pe,tm,ps',as',bo',m',hst,hH',hQ⟩,m3,k3,re,_⟩:=k B _ _ (.yield (t.h.next+1)::cs) k2 (LR.cons (.yield hρ1) ((u3.mono fun _ _=>VR.mono m1).mono fun _ _=>VR.mono m2))
 cases r with
 | panic u=>exact re.elim
 | ret u =>
  have hρ2:=m3.ρ _ _ hρ1;obtain⟨bm,dm,zm,tt,pe',hm,hg,ht,hp⟩:=zjN k3 hH' hρ2;obtain⟨m4,k4⟩:=zmp k3 (st:=.exhausted) (ps:=ps') (aS:=as') (bo:=bo') hρ2 (fun e=>by rw[hH']at e;cases e) hm ht hp;have mall:=((m1.trans m2).trans m3).trans m4;refine⟨pe',⟨t.tm,.mark t.h.next::t.df,h'.set (t.h.next+1) (.loop .exhausted pe' tt ps' as' bo' bm)⟩,pe,_,c',e1.mono fun C N a=>?_,hQ,hp.mono m4,mall,⟨k4,hs.tm.mono mall,⟨⟨0,0,m3.ρ _ _ hρ0⟩,hs.df.mono mall⟩⟩⟩;unfold zbK;rw[u1];simp only[zmQ,zkg];have a:C.fn g (.yield (t.h.next+1)::cs) ((t.h.push (.dfr false)).push (.loop .ready .norm t.tm ps aS bo t.h.next))=some (.ret u,h'):=a;rw[a];simp only[zq3];rw[hg];simp only[zyb]
  all_goals (cases st<;>first|rfl|exact absurd rfl hst)
end Fv
end Go.Proofs.YtkeknmgnoceogaaGreat
namespace Go.Proofs.YtkeknmgnoceogaaGreat
open Go.RowKit
namespace Fv
open Tw
inductive CI (w:World):PV->Value->Prop
 | bool (b:Bool):CI w (.bool b) (.bool b)
 | int (k:IntKind) (n:Int):CI w (.int k n) (.int k n)
 | str (s:ByteArray):CI w (.str (s.data.toList.map (·.toNat))) (.string s)
 | nilsl (p z:Nat):CI w (.list p z []) (.slice none 0 0)
 | list {p z:Nat} {l:List PV} {r off c:Nat} {cs:List Value}:r<w.heap.size->l.length<=c->c<=maxLen->(∀v∈l,v.cells.length=z)->(l.flatMap PV.cells).length=cs.length ->
   (∀(i:Nat) (x:PV) (y:Value),(l.flatMap PV.cells)[i]?=some x->cs[i]?=some y->CI w x y)->(∀(j:Nat) v,cs[j]?=some v->w.cell? ⟨r,off+j,none⟩=some v)->(∀x∈l.flatMap PV.cells,zaw x=true)->CI w (.list p z l) (.slice (some ⟨r,off,none⟩) l.length c)
 | agg {l:List PV} {cs:List Value}:l.length=cs.length->(∀(i:Nat) (x:PV) (y:Value),l[i]?=some x->cs[i]?=some y->CI w x y)->(∀x∈l,zaw x=true)->CI w (.agg l) (.agg cs.toArray)
def All (n:Nat):zeF:=fun _ b=>b<n
variable {P:Program}{w:World}
theorem zuZ {S:zeF}{h:TH}{v:PV}{u:TV}(k:PR S h v u)(h1:zaw v=true):u.one=true:=by
 cases k<;>first|rfl|cases h1
structure zeB (P:Program)(w:World)(ρ:Rho)(h:TH)(ρ':Rho)(h':TH):Prop where
 wr:WR P w.heap.size ρ' h' w
 more:∀b g loc,ρ b g=some loc->ρ' b g=some loc
 le:h.next<=h'.next
 keep:∀b,b<h.next->h'.get b=h.get b
theorem zeB.refl {ρ:Rho}{h:TH}(k:WR P w.heap.size ρ h w):zeB P w ρ h ρ h:=⟨k,fun _ _ _ h=>h,zAE9 _,fun _ _=>rfl⟩
theorem zeB.trans {ρ ρ' ρ'':Rho}{h h' h'':TH}(a:zeB P w ρ h ρ' h')(b:zeB P w ρ' h' ρ'' h''):zeB P w ρ h ρ'' h'' :=
 ⟨b.wr,fun x g loc hx=>b.more _ _ _ (a.more _ _ _ hx),zBJ9 a.le b.le,fun x hx=>by rw[b.keep x (zBC9 hx a.le),a.keep x hx]⟩
theorem zeB.pr {ρ ρ':Rho}{h h':TH}(a:zeB P w ρ h ρ' h'){v:PV}{u:TV}(k:PR (All h.next) h v u):PR (All h'.next) h' v u :=
 k.mono (fun _ _ hb=>zBC9 hb a.le) fun _ _ _ _ _ _ _ hr=>zoT a.keep hr
theorem zik {R:PV->Value->Prop}(hR:∀x y,R x y->∀ρ h,WR P w.heap.size ρ h w->∃ρ' h' u,zeB P w ρ h ρ' h'/\PR (All h'.next) h' x u/\Tw.VR ρ' u y) :
  ∀{l:List PV} {cs:List Value},l.length=cs.length->(∀(i:Nat) (x:PV) (y:Value),l[i]?=some x->cs[i]?=some y->R x y)->∀ρ h,WR P w.heap.size ρ h w->∃ρ' h' us,zeB P w ρ h ρ' h'/\LR (PR (All h'.next) h') l us/\VL ρ' us cs
 | [],[],_,_,ρ,h,k=>⟨ρ,h,[],zeB.refl k,LR.nil,VL.nil _⟩
 | [],_::_,hl,_,_,_,_=>by simp at hl
 | _::_,[],hl,_,_,_,_=>by simp at hl
 | x::l,y::cs,hl,hp,ρ,h,k=>by
  obtain⟨ρ1,h1,u,c1,p1,v1⟩:=hR x y (hp 0 x y rfl rfl) ρ h k;obtain⟨ρ2,h2,us,c2,p2,v2⟩:=zik hR (l:=l) (cs:=cs) (by simpa using hl) (fun i a b ha hb=>hp (i+1) a b (by simpa using ha) (by simpa using hb)) ρ1 h1 c1.wr;exact⟨ρ2,h2,u::us,c1.trans c2,LR.cons (c2.pr p1) p2,.cons (v1.mono c2.more) v2⟩
theorem zzk {ρ:Rho}{h:TH}(k:WR P w.heap.size ρ h w){r L:Nat}(hr:r<w.heap.size){cells:Tr TV}(hc:∀i x,cells.get i=some x->∃v,w.cell? ⟨r,i,none⟩=some v/\x.one=true/\Tw.VR ρ x v) :
  zeB P w ρ h (ρ.add h.next 0 ⟨r,L,0⟩) (h.push (.ro cells)):=by
 have hn:∀g,ρ h.next g=none:=fun g=>by
  cases hg:ρ h.next g with
  | none=>rfl
  | some loc=>have:=(k.dom _ _ _ hg).1;omega
 have hm:=Rho.add_more (loc:=⟨r,L,0⟩) (hn 0);have k1:=k.push (.ro cells);refine⟨⟨fun b g loc hl=>?_,fun b g loc hl=>?_,fun b b' g g' loc loc' hl hl' e hZ=>?_⟩,hm,by rw[TH.next_push];omega,fun b hb=>by rw[TH.get_push,if_neg zo]⟩
 ·rcases Rho.add_inv hl with⟨rfl,rfl,rfl⟩|hl
  ·exact⟨by rw[TH.next_push];omega,.inr ⟨cells,by rw[TH.get_push,if_pos rfl]⟩,hr⟩
  ·exact k1.dom b g loc hl
 ·by_cases hb:b=h.next
  ·subst hb;refine⟨.ro cells,by rw[TH.get_push,if_pos rfl],fun g' loc' hl'=>?_⟩;rcases Rho.add_inv hl' with⟨_,rfl,rfl⟩|hl'
   ·refine⟨rfl,fun i x hx=>?_⟩;obtain⟨v,v1,v2,v3⟩:=hc i x hx;exact⟨v,v1,v2,v3.mono hm⟩
   grind
  ·have hl':ρ b g=some loc:=by rw[<- hl,Rho.add_ne hb]
   obtain⟨o,ho,hor⟩:=k1.obj b g loc hl';exact⟨o,ho,hor.move hm (fun g=>Rho.add_ne hb g) fun _ _ _=>rfl⟩
 ·rcases Rho.add_inv hl with⟨_,_,rfl⟩|ha
  ·grind
  ·rcases Rho.add_inv hl' with⟨_,_,rfl⟩|ha'
   ·grind
   ·exact k.sep _ _ _ _ _ _ ha ha' e hZ
theorem CI.lay {v:PV}{v':Value}(a:CI w v v'):∀ρ h,WR P w.heap.size ρ h w->∃ρ' h' u,zeB P w ρ h ρ' h'/\PR (All h'.next) h' v u/\Tw.VR ρ' u v':=by
 induction a with
 | bool b=>intro ρ h k;exact⟨ρ,h,_,zeB.refl k,.bool b,.bool b⟩
 | int kk n=>intro ρ h k;exact⟨ρ,h,_,zeB.refl k,.int kk n,.int kk n⟩
 | str s=>intro ρ h k;exact⟨ρ,h,_,zeB.refl k,.str _,.str s⟩
 | nilsl p z=>intro ρ h k;exact⟨ρ,h,_,zeB.refl k,.listnil p z,.nilsl⟩
 | @list p z l r off c cs hr hlc hcm hz hlen _ hcell hone ih =>
  intro ρ h k;obtain⟨ρ1,h1,us,c1,p1,v1⟩:=zik (R:=fun x y=>∀ρ h,WR P w.heap.size ρ h w->∃ρ' h' u,zeB P w ρ h ρ' h'/\PR (All h'.next) h' x u/\Tw.VR ρ' u y) (fun _ _ h=>h) hlen ih ρ h k;have hul:us.length=l.length*z:=by rw[<- p1.1,zl3 hz]
  have hget:∀i x,(Tr.putL .nil off us).get i=some x->∃v,w.cell? ⟨r,i,none⟩=some v/\x.one=true/\Tw.VR ρ1 x v:=fun i x hx=>by
   rw[Tr.get_putL]at hx
   split at hx
   ·rename_i hi;have hi2:i-off<cs.length:=by rw[<- v1.1];omega
    have hi3:i-off<(l.flatMap PV.cells).length:=by rw[p1.1];omega
    refine⟨cs[i-off],?_,?_,v1.2 _ _ _ hx (zAA9 hi2)⟩
    ·have:=hcell (i-off) _ (zAA9 hi2)
     grind
    ·exact zuZ (p1.2 _ _ _ (zAA9 hi3) hx) (hone _ (zBK9 hi3))
   ·rw[Tr.get_nil]at hx;cases hx
  have c2:=zzk c1.wr (L:=off+l.length*z) hr hget;refine⟨_,_,.sl h1.next 0 off l.length (2*l.length+1) z,c1.trans c2,?_,?_⟩
  ·have hrd:zbL (h1.push (.ro (Tr.putL .nil off us))) h1.next 0 off (l.length*z)=some us:=by
    refine zgs (x:=.ro (Tr.putL .nil off us)) (by rw[TH.get_push,if_pos rfl]) ?_;unfold zg4;dsimp only;rw[zbV rfl,<- hul];exact zhH fun j hj=>by rw[Tr.get_putL,if_pos zo];congr 1;omega
   have p2:=p1.mono fun _ _=>c2.pr;exact .list (show h1.next<(h1.push (.ro (Tr.putL .nil off us))).next by rw[TH.next_push];omega) hrd zo hz p2.1 p2.2
  ·refine .sl (loc:=⟨r,off+l.length*z,0⟩) (Rho.add_same _ _ _ _) zo zo ?_ (.inl rfl) (fun h=>by omega) hcm;have:(2*l.length+1)/2=l.length:=zo;rw[this];exact zAE9 _
 | @agg l cs hlen _ hone ih =>
  intro ρ h k;obtain⟨ρ1,h1,us,c1,p1,v1⟩:=zik (R:=fun x y=>∀ρ h,WR P w.heap.size ρ h w->∃ρ' h' u,zeB P w ρ h ρ' h'/\PR (All h'.next) h' x u/\Tw.VR ρ' u y) (fun _ _ h=>h) hlen ih ρ h k;refine⟨ρ1,h1,.agg us,c1,.agg p1.1 p1.2,Tw.VR.aggL v1 fun x hx=>?_⟩;obtain⟨i,hi,rfl⟩:=zBH9.1 hx;have hi2:i<l.length:=by rw[p1.1];exact hi
  exact zuZ (p1.2 _ _ _ (zAA9 hi2) (zAA9 hi)) (hone _ (zBK9 hi2))
theorem zgb.EN {E:Env}(h:zgb P E)(N:Nat):zgb P (EN E N):=⟨h.mix,h.fn,h.spec,h.caught⟩
theorem FP.real {E:Env}(hE:zgb P E){f:Nat}{args:List PV}{b:Bool}(k:FP E f args (.ret (.bool b))){args':List Value}(hl:args.length=args'.length)(ha:∀(i:Nat) (x:PV) (y:Value),args[i]?=some x->args'[i]?=some y->CI w x y) :
  (∀w,(callFunc f args'.toArray).run P w=.ok (.enter f args'.toArray) w)/\CallsIn (Fr none) 0 P f args'.toArray w fun e w'=>e=.returned (.bool b)/\Below w.heap.size w w':=by
 obtain⟨ρ,h,us,c1,p1,v1⟩:=zik (R:=CI w) (fun x y a=>a.lay) hl ha _ _ (WR.start w);obtain⟨r,h',⟨K,hK⟩,_,_,re⟩:=k (All h.next) h us (fun _ _ hb=>hb) p1
 cases r with
 | panic u=>exact re.elim
 | ret u =>
  have hu:u=.bool b:=by
   have re:PR _ h' (.bool b) u:=re
   cases re;rfl
  subst hu;obtain⟨q1,q2⟩:=(zjD (zgb.EN hE K) K).1 f us h _ h' (hK K (zAE9 _) K (zAE9 _)) w.heap.size ρ w args' c1.wr (zAE9 _) v1;refine⟨q1,q2.mono ?_⟩;rintro e w' ⟨ρ',_,_,hb,_,v',rfl,hv⟩
  cases hv
  exact⟨rfl,hb⟩
theorem FP.calls {E:Env}(hE:zgb P E){f:Nat}{args:List PV}{b:Bool}(k:FP E f args (.ret (.bool b))){args':List Value}(hl:args.length=args'.length)(ha:∀(i:Nat) (x:PV) (y:Value),args[i]?=some x->args'[i]?=some y->CI w x y) :
  Calls P f args'.toArray w fun e w'=>e=.returned (.bool b)/\Below w.heap.size w w':=callsIn_wide.1 (FP.real hE k hl ha).2
theorem zjd {E:Env}{f:Nat}{g:List TV->TH->Option (TE×TH)}(hf:E.funcs.get f=none)(hg:E.spec f=some g){args:List PV}{e:FE}
  (k:∀S h us,(∀p b,S p b->b<h.next)->LR (PR S h) args us->∃r h',g us h=some (r,h')/\h.next<=h'.next/\(∀b,b<h.next->h'.get b=h.get b)/\RE (PR (S0 S h.next h'.next) h') e r):FN E f args e:=fun S h us hS ha=>by
 obtain⟨r,h',h1,h2⟩:=k S h us hS ha;refine⟨r,h',⟨1,fun N hN d hd=>?_⟩,h2⟩;obtain⟨d,rfl⟩:∃i,d=i+1:=⟨d-1,by omega⟩
 show zbe (EN E N) (zdq (EN E N) d) f us h=_;unfold zbe;rw[show (EN E N).funcs.get f=none from hf];dsimp only;rw[show (EN E N).spec f=some g from hg];exact h1
def zmq (us:List TV)(h:TH):Option (TE×TH):=match us with
 | []=>some (.ret (.bool true),h)
 | _=>none
theorem zzu {E:Env}{f:Nat}(hf:E.funcs.get f=none)(hg:E.spec f=some zmq):FN E f [] (.ret (.bool true)) :=
 zjd hf hg fun S h us hS ha=>by
  obtain rfl:=ha.of_nil;exact⟨_,h,rfl,zAE9 _,fun _ _=>rfl,.bool true⟩
theorem zyL {f:Nat}(henter:∀w,(callFunc f #[]).run P w=.ok (.enter f #[]) w)(h:∀w,CallsIn (Fr none) 0 P f #[] w fun e w'=>e=.returned (.bool true)/\Below w.heap.size w w') :
  ∀(Z:Nat) (ρ:Rho) (w:World) (args:List TV) (args':List Value) (h:TH) (r:TE) (h':TH),zmq args h=some (r,h')->WR P Z ρ h w->Z<=w.heap.size->VL ρ args args' ->
  (∀w,(callFunc f args'.toArray).run P w=.ok (.enter f args'.toArray) w)/\CallsIn (Fr none) 0 P f args'.toArray w (zfz P Z ρ h h' w r):=by
 intro Z ρ w args args' hh r h' hr k hZ hv;unfold zmq at hr
 split at hr
 ·obtain rfl:=hv.of_nil;injection hr with hr;injection hr with hr1 hr2;subst hr1;subst hr2;refine⟨henter,(h w).mono ?_⟩;rintro e w' ⟨rfl,hb⟩;exact⟨ρ,Rho.le.refl _ _,k.world hb.size fun r hr=>hb.block r hr,⟨hb.os,hb.tape,hb.output,hb.size,fun j hj=>hb.block j (zBC9 hj hZ)⟩,zAE9 _,_,rfl,.bool true⟩
 ·cases hr
end Fv
end Go.Proofs.YtkeknmgnoceogaaGreat
namespace Go.Proofs.YtkeknmgnoceogaaGreat
namespace Fv
open Tw
section plain
variable (k k':IntKind)(x y:Int)
theorem zeW:Nat.beq (kno k) (kno k)=true:=zbV rfl
theorem zaV:sc2 (zcu .add) [.int k x,.int k y]=some (.int k (k.wrap (x+y))):=by simp[sc2,PV.toT,zcu,zek,zfy,zeW,ofT]
theorem za1:sc2 (zcu .sub) [.int k x,.int k y]=some (.int k (k.wrap (x-y))):=by simp[sc2,PV.toT,zcu,zek,zfy,zeW,ofT]
theorem za4:sc2 (zcu .mul) [.int k x,.int k y]=some (.int k (k.wrap (x*y))):=by simp[sc2,PV.toT,zcu,zek,zfy,zeW,ofT]
theorem za2 (h:y≠0):sc2 (zcu .quo) [.int k x,.int k y]=some (.int k (k.wrap (x.tdiv y))):=by
 have:(y==0)=false:=by simpa using h
 simp[sc2,PV.toT,zcu,zek,zfy,zeW,ofT,zcX,this]
theorem zaW (h:y≠0):sc2 (zcu .rem) [.int k x,.int k y]=some (.int k (x.tmod y)):=by
 have:(y==0)=false:=by simpa using h
 simp[sc2,PV.toT,zcu,zek,zfy,zeW,ofT,zcX,this]
theorem za7:sc2 (zcu .eql) [.int k x,.int k y]=some (.bool (decide (x=y))):=by
 simp[sc2,PV.toT,zcu,zek,zfy,zeW,ofT,zcX];rfl
theorem zaU:sc2 (zcu .neq) [.int k x,.int k y]=some (.bool (!decide (x=y))):=by
 simp[sc2,PV.toT,zcu,zek,zfy,zeW,ofT,zcX];rfl
theorem zaN:sc2 (zcu .lss) [.int k x,.int k y]=some (.bool (decide (x<y))):=by
 simp[sc2,PV.toT,zcu,zek,zfy,zeW,ofT,zeJ]
 grind
theorem zaP:sc2 (zcu .leq) [.int k x,.int k y]=some (.bool (decide (x<=y))):=by
 simp[sc2,PV.toT,zcu,zek,zfy,zeW,ofT,zeJ]
theorem zaS:sc2 (zcu .gtr) [.int k x,.int k y]=some (.bool (decide (y<x))):=by
 simp[sc2,PV.toT,zcu,zek,zfy,zeW,ofT,zeJ]
 grind
theorem za5:sc2 (zcu .geq) [.int k x,.int k y]=some (.bool (decide (y<=x))):=by
 simp[sc2,PV.toT,zcu,zek,zfy,zeW,ofT,zeJ]
theorem zal:sc1 (zlf k) [.int k' x]=some (.int k (k.wrap x)):=by simp[sc1,PV.toT,zlf,ofT]
theorem zba (b:Bool):sc1 (pUn .not) [.bool b]=some (.bool (!b)):=by simp[sc1,PV.toT,pUn,zwZ,ofT]
theorem zaZ:sc1 (pUn .neg) [.int k x]=some (.int k (k.wrap (0-x))):=by simp[sc1,PV.toT,pUn,zwW,ofT]
theorem za8 (a b:Bool):sc2 (zn8 false) [.bool a,.bool b]=some (.bool (a==b)):=by cases a<;>cases b<;>rfl
theorem za6 (a b:Bool):sc2 (zn8 true) [.bool a,.bool b]=some (.bool (!(a==b))):=by cases a<;>cases b<;>rfl
theorem zbb:sc2 (ziR true) [.int k x,.int k y]=some (.int k (max x y)):=by
 simp[sc2,PV.toT,ziR,zeW,ofT,zeJ]
 grind
theorem za0:sc2 (ziR false) [.int k x,.int k y]=some (.int k (min x y)):=by
 simp[sc2,PV.toT,ziR,zeW,ofT,zeJ]
 grind
end plain
theorem zdK (tm:Nat->PV){d t:Nat}(v:PV)(h:t≠d):upd tm d v t=tm t:=if_neg h
theorem zn (tm:Nat->PV)(df:List FD)(H:List zd)(d:Nat)(v:PV):FSt.put ⟨tm,df,H⟩ (some d) v=⟨upd tm d v,df,H⟩:=rfl
theorem zA (s:FSt)(v:PV):s.put none v=s:=rfl
theorem wrap_i64 {x:Int}(h1:-9223372036854775808<=x)(h2:x<9223372036854775808):IntKind.i64.wrap x=x:=IntWalk.i64_in x zo
theorem wrap_u64 {x:Int}(h1:0<=x)(h2:x<18446744073709551616):IntKind.u64.wrap x=x:=IntWalk.u64_in x zo
theorem zbY {E:Env}{caught:Tr Unit}{rnd:Option Nat}{ops:List zbo}{rest:zbI}{s:FSt}{Q:FX->FSt->Prop}(k:W E caught rnd rest s Q):WO E caught [] s (zeq ops (zef (fun s'=>W E caught rnd rest s' Q) Q)):=zhg k
theorem zdp {E:Env}{caught:Tr Unit}{ops:List zbo}{s:FSt}{Q:FX->FSt->Prop}(k:Q .norm s):WO E caught [] s (zeq ops Q):=zhg k
theorem zep {E:Env}{F:zc}{R:FE->List zd->Prop}{tm:Nat->PV}{H:List zd}{vs:List PV}(h:zbf tm H F.res=some vs)(k:R (.ret (zjY vs)) H):zdT E F R .ret ⟨tm,[],H⟩:=⟨vs,h,k⟩
theorem ze2 {E:Env}{F:zc}{R:FE->List zd->Prop}{tm:Nat->PV}{H:List zd}{vs:List PV}(h:zbf tm H F.res=some vs)(k:R (.ret (zjY vs)) H):zdT E F R .norm ⟨tm,[],H⟩:=⟨vs,h,k⟩
@[reducible] def iv (n:Int):PV:=.int .i64 n
@[reducible] def uv (n:Nat):PV:=.int .u64 n
theorem Lb.unit:Lb (.tuple []):=.tuple (fun x h=>by cases h)
def zbe:List zbo->FSt->FSt×List zbo
 | [],s=>(s,[])
 | o::l,s=>match zaE o s with
  | some s'=>zbe l s'
  | none=>(s,o::l)
theorem zne {E:Env}{caught:Tr Unit}{Q:FX->FSt->Prop}{s':FSt}{r:List zbo}:∀{ops:List zbo} {s:FSt},zbe ops s=(s',r)->WO E caught r s' Q->WO E caught ops s Q
 | [],s,h,k=>by simp only[zbe]at h;injection h with h1 h2;subst h1;subst h2;exact k
 | o::l,s,h,k=>by
  simp only[zbe]at h
  split at h
  ·rename_i s1 h1;exact zyu h1 (zne h k)
  grind
theorem zzf {E:Env}{caught:Tr Unit}{rnd:Option Nat}{x:TOp}{id:Nat}{rest:zbI}{s:FSt}{Q:FX->FSt->Prop}{b:Bool}(hx:ev s.tm x=some (.bool b))(h1:b=true->W E caught rnd rest s Q)(h2:b=false->Q (.exit id) s):W E caught rnd (.seq (.cond x .skip (.exit id)) rest) s Q:=by
 refine zar (zng hx (fun h=>zas (h1 h)) fun h=>zjb (h2 h))
theorem zbC {E:Env}{caught:Tr Unit}{rnd:Option Nat}{ops:List zbo}{x:TOp}{id:Nat}{rest:zbI}{s:FSt}{Q:FX->FSt->Prop}(h:W E caught rnd (.seq (.region ops) (.seq (.cond x .skip (.exit id)) rest)) s Q):W E caught rnd (.seq (.seq (.region ops) (.cond x .skip (.exit id))) rest) s Q:=fun B c t rnd' hs hn=>by
  obtain⟨x',t',y,s',c',⟨K,hK⟩,h2⟩:=h B c t rnd' hs hn;refine⟨x',t',y,s',c',⟨K,fun N hN d hd=>?_⟩,h2⟩;have:=hK N hN d hd;rw[<- this];simp only[zbK]
  cases hr:znH (zd2 ops) (zeD (zdq (EN E N) d) caught ops t)with
  | none=>rfl
  | some r =>
    obtain⟨x1,s1⟩:=r
    cases x1<;>first
      | rfl
      | (dsimp only
         cases he:zfl s1.tm x with
         | none=>rfl
         | some v=>cases v<;>first|rfl|(rename_i b;cases b<;>rfl))
end Fv
end Go.Proofs.YtkeknmgnoceogaaGreat
namespace Go.Proofs.YtkeknmgnoceogaaGreat
namespace Fv
open Tw
variable {E:Env}{caught:Tr Unit}{rnd:Option Nat}
def Cx.lazy (c:Cx)(n:Nat):Cx:=⟨c.S,c.ρ,fun i=>c.L i\/i=n⟩
theorem HR.lazy {B:Ba}{c:Cx}{H:List zd}{h:TH}(k:HR B c H h)(e z:Nat):Mo c (c.lazy H.length) h h/\HR B (c.lazy H.length) (H++[.row e z 0 0 []]) h:=by
 have hn:c.ρ H.length=none:=by
  cases hc:c.ρ H.length with
  | none=>rfl
  | some y=>have:=(k.own _ _ hc).2.2;omega
 have m:Mo c (c.lazy H.length) h h:=⟨fun _ _ h=>h,fun _ _ h=>h,fun _ h=>.inl h,fun _ _ _ _ _ _ _ h=>h⟩
 refine⟨m,⟨k.le,k.keep,k.old,fun p b hb=>⟨(k.S p b hb).1,fun i x hx e=>by have:=(k.S p b hb).2 i x hx e;rw[zAS9 (zAC9.1 this).1];exact this⟩,fun id x hx=>?_,fun id hL=>?_,k.inj,fun id o ho=>?_⟩⟩
 ·obtain⟨h1,h2,h3⟩:=k.own id x hx
  grind
 ·rcases hL with hL|rfl
  ·obtain⟨h1,h2⟩:=k.lz id hL;exact⟨by simp;omega,h2⟩
  ·exact⟨by simp,fun x hx=>by have:c.ρ H.length=some x:=hx;rw[hn]at this;cases this⟩
 ·by_cases hi:id<H.length
  ·rw[zAS9 hi]at ho;exact(k.obj id o ho).move m rfl (fun h=>.inl h) fun _ _=>rfl
  ·rw[zAU9 zo]at ho;have hi2:id-H.length=0:=by grind
   rw[hi2]at ho;simp at ho;subst ho;obtain rfl:id=H.length:=zo;exact .inl ⟨rfl,rfl,hn,.inr rfl⟩
def lzy (H:List zd)(z:Nat):PV:=.sl H.length 0 0 0 0 z
theorem zdg {code:zbI}{s:FSt}{Q:FX->FSt->Prop}{i:Nat}(e z:Nat)(hi:s.tm i=.nilsl)(k:W E caught rnd code ⟨upd s.tm i (lzy s.H z),s.df,s.H++[.row e z 0 0 []]⟩ Q):W E caught rnd code s Q:=fun B c t rnd' hs hn=>by
 obtain⟨m,hr⟩:=hs.hr.lazy e z;have htm:tmR (c.lazy s.H.length) t.h (upd s.tm i (lzy s.H z)) t.tm:=fun j=>by
  unfold upd
  by_cases hj:j=i
  ·rw[if_pos hj];subst hj;rcases hs.tm j with h1|⟨u,u1,u2⟩
   ·grind
   ·rw[hi]at u2;obtain rfl:u=.nilsl:=by cases u2 with|pure u2=>cases u2;rfl
    exact .inr ⟨_,u1,.slnil _ (.inr rfl)⟩
  ·rw[if_neg hj];exact(hs.tm.mono m) j
 obtain⟨x',t',x,s',c',e1,q1,hx,m1,k1⟩:=k B _ t rnd' ⟨hr,htm,hs.df.mono m⟩ (hn.mono m);exact⟨x',t',x,s',c',e1,q1,hx,m.trans m1,k1⟩
theorem HR.lazyBox {B:Ba}{c:Cx}{H:List zd}{h:TH}(k:HR B c H h)(e z:Nat){id e0 z0 G M:Nat}{v v':PV}(hH:H[id]?=some (.row e0 z0 G M [v]))
  (hl:v'.cells.length=v.cells.length) (hc:∀(i:Nat) (x y:PV),v.cells[i]?=some x->v'.cells[i]?=some y->y=x\/(x=.nilsl/\y=lzy H z)) :
  Mo c (c.lazy H.length) h h/\HR B (c.lazy H.length) (H.set id (.row e0 z0 G M [v'])++[.row e z 0 0 []]) h:=by
 obtain⟨m,hr⟩:=k.lazy e z;have hid:id<H.length:=(zAC9.1 hH).1;refine⟨m,⟨hr.le,hr.keep,hr.old,fun p b hb=>⟨(hr.S p b hb).1,fun i x hx e=>?_⟩,fun i x hx=>?_,fun i hL=>?_,hr.inj,fun i o ho=>?_⟩⟩
 ·have hv:=(hr.S p b hb).2 i x hx e
  grind
 ·have:=hr.own i x hx;simpa using this
 ·have:=hr.lz i hL;simpa using this
 ·by_cases hi:i=id
  ·subst hi;rw[zAS9 (by simpa using hid),zAY9 hid]at ho;injection ho with ho;subst ho;have hob:=hr.obj i (.row e0 z0 G M [v]) (by rw[zAS9 hid];exact hH);rcases hob with⟨h1,_⟩|⟨b,d,G',M',cells,cs,h1,h2,h3,h4,h5,h6⟩
   ·cases h1
   ·refine .inr ⟨b,d,G',M',cells,cs,h1,h2,h3,h4,h5,ER.one' (by rw[hl];exact h6.one v (by simp)) ?_⟩;have hall:LR (VR (c.lazy H.length) h) v.cells cs:=by have:=h6.all;simpa using this
    refine⟨by rw[hl];exact hall.1,fun j x y hx hy=>?_⟩;obtain⟨x0,hx0⟩:∃x0,v.cells[j]?=some x0:=⟨_,zAA9 (by rw[<- hl];exact(zAC9.1 hx).1)⟩
    have hv:=hall.2 j x0 y hx0 hy;rcases hc j x0 x hx0 hx with rfl|⟨rfl,rfl⟩
    ·exact hv
    ·obtain rfl:y=.nilsl:=by cases hv with|pure hv=>cases hv;rfl
     exact .slnil _ (.inr rfl)
  ·refine hr.obj i o ?_
   grind
theorem zf1 {code:zbI}{s:FSt}{Q:FX->FSt->Prop}(e z:Nat){id e0 z0 G M:Nat}{v v':PV}(hH:s.H[id]?=some (.row e0 z0 G M [v]))
  (hl:v'.cells.length=v.cells.length) (hc:∀(i:Nat) (x y:PV),v.cells[i]?=some x->v'.cells[i]?=some y->y=x\/(x=.nilsl/\y=lzy s.H z))
  (k:W E caught rnd code ⟨s.tm,s.df,s.H.set id (.row e0 z0 G M [v'])++[.row e z 0 0 []]⟩ Q):W E caught rnd code s Q:=fun B c t rnd' hs hn=>by
 obtain⟨m,hr⟩:=hs.hr.lazyBox e z hH hl hc;obtain⟨x',t',x,s',c',e1,q1,hx,m1,k1⟩:=k B _ t rnd' ⟨hr,hs.tm.mono m,hs.df.mono m⟩ (hn.mono m);exact⟨x',t',x,s',c',e1,q1,hx,m.trans m1,k1⟩
theorem zpc {code:zbI}{s:FSt}{Q:FX->FSt->Prop}(e z:Nat){id e0 z0 G M:Nat}(hH:s.H[id]?=some (.row e0 z0 G M [.nilsl]))
  (k:W E caught rnd code ⟨s.tm,s.df,s.H.set id (.row e0 z0 G M [lzy s.H z])++[.row e z 0 0 []]⟩ Q):W E caught rnd code s Q :=
 zf1 (v:=.nilsl) (v':=lzy s.H z) e z hH rfl (fun i x y hx hy=>by
  cases i with
  | zero=>simp[PV.cells,lzy]at hx hy;subst hx;subst hy;exact .inr ⟨rfl,rfl⟩
  | succ i=>simp[PV.cells]at hx) k
theorem za {α:Type}(G:List α)(x y:α):(G++[x]).set G.length y=G++[y]:=by grind
theorem zb {α:Type}(G:List α)(x:α):(G++[x])[G.length]?=some x:=by simp
theorem zr1 {tm:Nat->PV}{s:DF}{Q:FX->DF->Prop}{g:zcF}{l:List zcF}{s1:DF}{o:zbo}{f:Nat}{caps vs aS:List PV}{v:PV}{nm':Nat->PV}(hc:zbd s.K g.chk)(hx:zav tm g.exe s=some s1)(ha:g.act=some o)(hk:o.kind=.call)(hw:zY tm s1.nm o.guard=some true)(hv:zbj tm s1.nm o.args=some (.fn f caps::vs))
  (k:FN E f aS (.ret v)) (hl:LF s1.H 1 (vs++caps) aS) (hn:zbg s1.nm o.dst v=some nm') (hQ:WD E caught tm l ⟨nm',s1.df,s1.H,s1.K⟩ Q):WD E caught tm (g::l) s Q :=
 zop hc hx ha hk hw hv ((FN.FO k hl).mono fun e H' he=>by obtain⟨rfl,rfl⟩:=he;exact⟨nm',hn,hQ⟩)
end Fv
end Go.Proofs.YtkeknmgnoceogaaGreat
namespace Go.Proofs.YtkeknmgnoceogaaGreat
namespace Fv
open Tw
variable {E:Env}
inductive NR (n:Nat):PV->Prop
 | bool (b:Bool):NR n (.bool b)
 | int (k:IntKind) (m:Int):NR n (.int k m)
 | str (s:List Nat):NR n (.str s)
 | nilptr:NR n .nilptr
 | nilsl:NR n .nilsl
 | nilmap:NR n .nilmap
 | nilfn:NR n .nilfn
 | niliface:NR n .niliface
 | list (p z:Nat) (l:List PV):NR n (.list p z l)
 | elem (l:List PV):NR n (.elem l)
 | sl {id:Nat} (g o m q z:Nat):id<n->NR n (.sl id g o m q z)
 | ptr {id:Nat} (g i o m:Nat):id<n->NR n (.ptr id g i o m)
 | map {id:Nat}:id<n->NR n (.map id)
 | yield {id:Nat}:id<n->NR n (.yield id)
 | iface {t:Nat} {v:PV}:NR n v->NR n (.iface t v)
 | fn {f:Nat} {l:List PV}:(∀x∈l,NR n x)->NR n (.fn f l)
 | agg {l:List PV}:(∀x∈l,NR n x)->NR n (.agg l)
 | tuple {l:List PV}:(∀x∈l,NR n x)->NR n (.tuple l)
def NRX (n:Nat):FX->Prop
 | .panic v=>NR n v
 | _=>True
def NRO (n:Nat):zd->Prop
 | .row _ _ _ _ l=>∀x∈l.flatMap PV.cells,NR n x
 | .mapI _ m=>∀x v,m x=some v->NR n v
 | .mapS m=>∀x v,m x=some v->NR n v
 | .loop _ pe tm _ _ _ m=>m<n/\(∀i,tm i=.bad\/NR n (tm i))/\NRX n pe
 | _=>True
def NRE (n:Nat):FE->Prop
 | .ret v=>NR n v
 | .panic v=>NR n v
def Cx.cut (c:Cx)(n:Nat):Cx:=⟨c.S,fun i=>if i<n then c.ρ i else none,fun i=>c.L i/\i<n⟩
section
variable {c:Cx}{h:TH}{n:Nat}
theorem zfG {id:Nat}(hi:id<n){x}(hx:c.ρ id=some x):(c.cut n).ρ id=some x:=by
 show (if id<n then c.ρ id else none)=_
 grind
theorem zhD {id:Nat}{x}(hx:(c.cut n).ρ id=some x):id<n/\c.ρ id=some x:=by
 have hx:(if id<n then c.ρ id else none)=some x:=hx
 grind
theorem VR.cut {v:PV}{u:TV}(k:VR c h v u):NR n v->VR (c.cut n) h v u:=by
 induction k with
 | pure k=>intro _;exact .pure k
 | sl hρ=>intro hn;cases hn with|sl _ _ _ _ _ hi=>exact .sl (zfG hi hρ)
 | slnil z hL=>intro hn;cases hn with|sl _ _ _ _ _ hi=>exact .slnil z ⟨hL,hi⟩
 | ptr hρ=>intro hn;cases hn with|ptr _ _ _ _ hi=>exact .ptr (zfG hi hρ)
 | map hρ=>intro hn;cases hn with|map hi=>exact .map (zfG hi hρ)
 | yield hρ=>intro hn;cases hn with|yield hi=>exact .yield (zfG hi hρ)
 | iface _ ih=>intro hn;cases hn with|iface hn=>exact .iface (ih hn)
 | fn h1 _ ih=>intro hn;cases hn with|fn hn=>exact .fn h1 fun i x y hx hy=>ih i x y hx hy (hn x (zAJ9 hx))
 | agg h1 _ ih=>intro hn;cases hn with|agg hn=>exact .agg h1 fun i x y hx hy=>ih i x y hx hy (hn x (zAJ9 hx))
 | tuple h1 _ ih=>intro hn;cases hn with|tuple hn=>exact .tuple h1 fun i x y hx hy=>ih i x y hx hy (hn x (zAJ9 hx))
theorem PR.nr {S:zeF}{v:PV}{u:TV}(k:PR S h v u):NR n v:=by
 induction k with
 | bool b=>exact .bool b
 | int k n=>exact .int k n
 | str s=>exact .str s
 | nilptr=>exact .nilptr
 | nilsl=>exact .nilsl
 | nilmap=>exact .nilmap
 | nilfn=>exact .nilfn
 | niliface=>exact .niliface
 | iface _ ih=>exact .iface ih
 | listnil p z=>exact .list p z _
 | list _ _ _ _ _ _ _=>exact .list _ _ _
 | elem _ _ _ _ _=>exact .elem _
 | fn h1 _ ih =>
  refine .fn fun x hx=>?_;obtain⟨i,hi,rfl⟩:=zBH9.1 hx;exact ih i _ _ (zAA9 hi) (zAA9 (by rw[<- h1];exact hi))
 | agg h1 _ ih =>
  refine .agg fun x hx=>?_;obtain⟨i,hi,rfl⟩:=zBH9.1 hx;exact ih i _ _ (zAA9 hi) (zAA9 (by rw[<- h1];exact hi))
 | tuple h1 _ ih =>
  refine .tuple fun x hx=>?_;obtain⟨i,hi,rfl⟩:=zBH9.1 hx;exact ih i _ _ (zAA9 hi) (zAA9 (by rw[<- h1];exact hi))
theorem VR.nr {B:Ba}{H:List zd}(k:HR B c H h){v:PV}{u:TV}(x:VR c h v u):NR H.length v:=by
 induction x with
 | pure x=>exact x.nr
 | sl hρ=>exact .sl _ _ _ _ _ (k.own _ _ hρ).2.2
 | slnil z hL=>exact .sl _ _ _ _ _ (k.lz _ hL).1
 | ptr hρ=>exact .ptr _ _ _ _ (k.own _ _ hρ).2.2
 | map hρ=>exact .map (k.own _ _ hρ).2.2
 | yield hρ=>exact .yield (k.own _ _ hρ).2.2
 | iface _ ih=>exact .iface ih
 | fn h1 _ ih =>
  refine .fn fun x hx=>?_;obtain⟨i,hi,rfl⟩:=zBH9.1 hx;exact ih i _ _ (zAA9 hi) (zAA9 (by rw[<- h1];exact hi))
 | agg h1 _ ih =>
  refine .agg fun x hx=>?_;obtain⟨i,hi,rfl⟩:=zBH9.1 hx;exact ih i _ _ (zAA9 hi) (zAA9 (by rw[<- h1];exact hi))
 | tuple h1 _ ih =>
  refine .tuple fun x hx=>?_;obtain⟨i,hi,rfl⟩:=zBH9.1 hx;exact ih i _ _ (zAA9 hi) (zAA9 (by rw[<- h1];exact hi))
theorem OR.nr {B:Ba}{H:List zd}(k:HR B c H h){id:Nat}{o:zd}(hH:H[id]?=some o):NRO H.length o:=by
 have ho:=k.obj _ _ hH
 cases o with
 | row e z G M l =>
  rcases ho with⟨rfl,_⟩|⟨b,d,G',M',cells,cs,_,_,_,_,_,h6⟩
  ·intro x hx;simp at hx
  ·intro x hx;obtain⟨i,hi,rfl⟩:=zBH9.1 hx;exact(h6.all.2 i _ _ (zAA9 hi) (zAA9 (by rw[<- h6.all.1];exact hi))).nr k
 | mapI kk m =>
  obtain⟨b,d,z,es,clock,_,_,h3⟩:=ho;intro x v hx;obtain⟨u,_,u2⟩:=h3.some x v hx;exact u2.nr k
 | mapS m =>
  obtain⟨b,d,z,es,clock,_,_,h3⟩:=ho;intro x v hx;obtain⟨u,_,u2⟩:=h3.some x v hx;exact u2.nr k
 | loop st pe tm ps aS bo m =>
  obtain⟨b,d,z,bm,dm,zm,t,pe',_,h2,_,h4,h5⟩:=ho;refine⟨(k.own _ _ h2).2.2,fun i=>?_,?_⟩
  ·rcases h4 i with h4|⟨u,_,u2⟩
   ·exact .inl h4
   ·exact .inr (u2.nr k)
  ·cases h5 with
   | panic hv=>exact hv.nr k
   | _=>trivial
 | _=>trivial
theorem OR.cut {id:Nat}(hi:id<n){o:zd}(ho:OR c h id o)(hn:NRO n o):OR (c.cut n) h id o:=by
 cases o with
 | row e z G M l =>
  rcases ho with⟨h1,h2,h3,h4⟩|⟨b,d,G',M',cells,cs,h1,h2,h3,h4,h5,h6⟩
  ·exact .inl ⟨h1,h2,by show (if id<n then c.ρ id else none)=none;rw[h3];simp,h4,hi⟩
  ·exact .inr ⟨b,d,G',M',cells,cs,zfG hi h1,h2,h3,h4,h5,h6.one,h6.all.1,fun i x y hx hy=>(h6.all.2 i x y hx hy).cut (hn x (zAJ9 hx))⟩
 | map0=>obtain⟨b,d,z,clock,h1,h2⟩:=ho;exact⟨b,d,z,clock,zfG hi h1,h2⟩
 | mapI kk m =>
  obtain⟨b,d,z,es,clock,h1,h2,h3⟩:=ho;exact⟨b,d,z,es,clock,zfG hi h1,h2,h3.keys,fun x v hx=>by obtain⟨u,u1,u2⟩:=h3.some x v hx;exact⟨u,u1,u2.cut (hn x v hx)⟩,h3.none⟩
 | mapS m =>
  obtain⟨b,d,z,es,clock,h1,h2,h3⟩:=ho;exact⟨b,d,z,es,clock,zfG hi h1,h2,h3.keys,fun x v hx=>by obtain⟨u,u1,u2⟩:=h3.some x v hx;exact⟨u,u1,u2.cut (hn x v hx)⟩,h3.none⟩
 | dfr shut=>obtain⟨b,d,z,h1,h2⟩:=ho;exact⟨b,d,z,zfG hi h1,h2⟩
 | loop st pe tm ps aS bo m =>
  obtain⟨b,d,z,bm,dm,zm,t,pe',h1,h2,h3,h4,h5⟩:=ho;refine⟨b,d,z,bm,dm,zm,t,pe',zfG hi h1,zfG hn.1 h2,h3,fun i=>?_,?_⟩
  ·rcases h4 i with h4|⟨u,u1,u2⟩
   ·exact .inl h4
   ·rcases hn.2.1 i with hb|hb
    ·exact .inl hb
    ·exact .inr ⟨u,u1,u2.cut hb⟩
  ·cases h5 with
   | norm=>exact .norm
   | exit id=>exact .exit id
   | goto l=>exact .goto l
   | ret=>exact .ret
   | panic hv=>exact .panic (hv.cut hn.2.2)
 | void=>trivial
theorem HR.cut {B:Ba}{H G:List zd}(k:HR B c (H++G) h)(hn:∀(id:Nat) (o:zd),H[id]?=some o->NRO H.length o):HR B (c.cut H.length) H h :=
 ⟨k.le,k.keep,k.old,fun p b hb=>⟨(k.S p b hb).1,fun id x hx e=>by have:=(k.S p b hb).2 id x (zhD hx).2 e;rw[zAS9 (zhD hx).1]at this;exact this⟩,fun id x hx=>by
  obtain⟨h1,h2⟩:=zhD hx;obtain⟨a1,a2,_⟩:=k.own id x h2;exact⟨a1,a2,h1⟩,fun id hL=>⟨hL.2,fun x hx=>(k.lz id hL.1).2 x (zhD hx).2⟩,fun id id' x x' hx hx'=>k.inj _ _ _ _ (zhD hx).2 (zhD hx').2,fun id o ho=>by
  have hi:=(zAC9.1 ho).1;exact(k.obj id o (by rw[zAS9 hi];exact ho)).cut hi (hn id o ho)⟩
theorem Mo.cut {c':Cx}{h':TH}(m:Mo c c' h h')(hρ:∀id x,c.ρ id=some x->id<n)(hL:∀id,c.L id->id<n):Mo c (c'.cut n) h h' :=
 ⟨m.S,fun id x hx=>zfG (hρ _ _ hx) (m.ρ _ _ hx),fun id hx=>⟨m.L _ hx,hL _ hx⟩,m.rd⟩
end
def zh2 (H:List zd)(H' H'' G:List zd):Prop:=H'=H''++G/\H''.length=H.length/\∀(id:Nat) (o:zd),H''[id]?=some o->H[id]?=some o\/NRO H.length o
theorem zh2.cut {B B':Ba}{c c':Cx}{H H' H'' G:List zd}{h h':TH}(k:zh2 H H' H'' G)(hr:HR B c H h)(hr':HR B' c' H' h')(m:Mo c c' h h'):Mo c (c'.cut H.length) h h'/\HR B' (c'.cut H.length) H'' h':=by
 obtain⟨rfl,hl,hk⟩:=k;refine⟨m.cut (fun id x hx=>(hr.own _ _ hx).2.2) (fun id hL=>(hr.lz _ hL).1),?_⟩;have:=hr'.cut (H:=H'') fun id o ho=>by
  rw[hl];rcases hk id o ho with h1|h1
  ·exact OR.nr hr h1
  ·exact h1
 grind
theorem FO.gc {f:Nat}{args:List PV}{H:List zd}{b:Bool}{Q:FE->List zd->Prop}(k:FO E f args H b fun e H'=>∃H'' G,zh2 H H' H'' G/\NRE H.length e/\Q e H''):FO E f args H b Q:=fun B c h us hr ha=>by
 obtain⟨r,h',e,H',c',e1,⟨H'',G,hk,hn,hQ⟩,m1,k1,re,hs⟩:=k B c h us hr ha;obtain⟨m2,k2⟩:=hk.cut hr k1 m1;refine⟨r,h',e,H'',_,e1,hQ,m2,k2,?_,hs⟩
 cases e<;>cases r<;>first|exact re.elim|exact VR.cut re hn
theorem FY.gc {id:Nat}{args:List PV}{H:List zd}{Q:Bool->List zd->Prop}(k:FY E id args H fun r H'=>∃H'' G,zh2 H H' H'' G/\Q r H''):FY E id args H Q:=fun B c h us b d z hr hρ ha=>by
 obtain⟨r,h',H',c',e1,⟨H'',G,hk,hQ⟩,m1,k1⟩:=k B c h us b d z hr hρ ha;obtain⟨m2,k2⟩:=hk.cut hr k1 m1
 grind
theorem FY.mono {id:Nat}{args:List PV}{H:List zd}{Q Q':Bool->List zd->Prop}(k:FY E id args H Q)(hQ:∀r H,Q r H->Q' r H):FY E id args H Q':=fun B c h us b d z hr hρ ha=>by
 obtain⟨r,h',H',c',e1,q,k2⟩:=k B c h us b d z hr hρ ha
 grind
theorem zhL {n:Nat}{tm:Nat->PV}{d:Nat}{v:PV}(h:∀i,tm i=.bad\/NR n (tm i))(hv:NR n v):∀i,upd tm d v i=.bad\/NR n (upd tm d v i):=fun i=>by
 unfold upd
 grind
theorem zzj {n:Nat}{l:List PV}(h:∀v∈l,NR n v):∀i,zj l i=.bad\/NR n (zj l i):=fun i=>by
 unfold zj
 grind
theorem ze {α:Type}(G:List α)(x y:α):(G++[x]++[y])[G.length]?=some x:=by grind
def zkE:List PV->Prop
 | []=>True
 | x::l=>Id0 x/\zkE l
theorem zkE.all:∀{l:List PV},zkE l->∀x∈l,Id0 x
 | x::l,h,y,hy=>by
  rcases zBA9.1 hy with rfl|hy
  ·exact h.1
  ·exact zkE.all h.2 y hy
theorem zu9 {caught:Tr Unit}{d:Option Nat}{args:List TOp}{g:Option (TOp×Bool)}{ops:List zbo}{s:FSt}{Q:FX->FSt->Prop}{f:Nat}{caps vs aS:List PV}{v:PV}
  (hg:zat s.tm g=some true) (ha:evs s.tm args=some (.fn f caps::vs)) (k:FP E f aS (.ret v)) (he:vs++caps=aS) (hl:zkE aS) (hQ:WO E caught ops (s.put d v) Q):WO E caught (⟨d,.call,args,g⟩::ops) s Q :=
 zjo hg ha ((FP.FO (he ▸ k) (he ▸ hl).all).mono fun e H' he=>by obtain⟨rfl,rfl⟩:=he;exact hQ)
theorem zwq {caught:Tr Unit}{tm:Nat->PV}{s:DF}{Q:FX->DF->Prop}{g:zcF}{l:List zcF}{s1:DF}{o:zbo}{f:Nat}{caps vs aS:List PV}{v:PV}{nm':Nat->PV}(hc:zbd s.K g.chk)(hx:zav tm g.exe s=some s1)(ha:g.act=some o)(hk:o.kind=.call)(hw:zY tm s1.nm o.guard=some true)(hv:zbj tm s1.nm o.args=some (.fn f caps::vs))
  (k:FP E f aS (.ret v)) (he:vs++caps=aS) (hl:zkE aS) (hn:zbg s1.nm o.dst v=some nm') (hQ:WD E caught tm l ⟨nm',s1.df,s1.H,s1.K⟩ Q):WD E caught tm (g::l) s Q :=
 zop hc hx ha hk hw hv ((FP.FO (he ▸ k) (he ▸ hl).all).mono fun e H' he=>by obtain⟨rfl,rfl⟩:=he;exact⟨nm',hn,hQ⟩)
theorem Id0.frz {H:List zd}{lab:Nat}{v:PV}(h:Id0 v):Frz H lab v v:=by
 induction h with
 | bool b=>exact .bool b
 | int k n=>exact .int k n
 | str s=>exact .str s
 | nilptr=>exact .nilptr
 | nilsl=>exact .nilsl
 | nilmap=>exact .nilmap
 | nilfn=>exact .nilfn
 | niliface=>exact .niliface
 | list p z l=>exact .list p z l
 | elem l=>exact .elem l
 | iface _ ih=>exact .iface ih
 | fn _ ih=>exact .fn rfl fun i x y hx hy=>by rw[hx]at hy;injection hy with hy;subst hy;exact ih x (zAJ9 hx)
 | agg _ ih=>exact .agg rfl fun i x y hx hy=>by rw[hx]at hy;injection hy with hy;subst hy;exact ih x (zAJ9 hx)
 | tuple _ ih=>exact .tuple rfl fun i x y hx hy=>by rw[hx]at hy;injection hy with hy;subst hy;exact ih x (zAJ9 hx)
theorem Frz.whole {H:List zd}{lab id e z z' G o n q:Nat}{l:List PV}(hH:H[id]?=some (.row e z' G 0 l))(ho:o=0)(hl:n=l.length)(hq:2*l.length<=q)(hz:∀v∈l,v.cells.length=z)(hs:∀v∈l.flatMap PV.cells,Id0 v) :
  Frz H lab (.sl id G o n q z) (.list lab z l):=by
 subst ho hl;refine .sl hH (zAL9 _) (zAE9 _) zo hq rfl hz (by simp) fun i x y hx hy=>?_;have:x=y:=by grind
 subst this;exact(hs _ (zAJ9 hy)).frz
theorem zcN {H:List zd}{lab id e z n:Nat}{cs:List PV}(hH:H[id]?=some (.row e z 0 0 [.agg cs]))(hn:n=cs.length)(hc:∀v∈cs,Id0 v):Frz H lab (.ptr id 0 0 0 n) (.elem cs):=by
 refine .ptr (w:=.agg cs) ?_ (by simp[PV.cells,hn]) hn fun j x y hx hy=>?_
 ·simp[zbl,hH]
 ·have:x=y:=by
   simp[PV.cells,hn]at hx
   grind
  subst this;exact(hc _ (zAJ9 hy)).frz
theorem zsI {l:List Nat}:∀v∈(l.map uv).flatMap PV.cells,Id0 v:=fun v hv=>by
 obtain⟨x,hx,hv⟩:=zBE9.1 hv;obtain⟨n,_,rfl⟩:=zAK9.1 hx;simp[PV.cells]at hv;subst hv;exact .int _ _
theorem ztn {l:List Int}:∀v∈(l.map iv).flatMap PV.cells,Id0 v:=fun v hv=>by
 obtain⟨x,hx,hv⟩:=zBE9.1 hv;obtain⟨n,_,rfl⟩:=zAK9.1 hx;simp[PV.cells]at hv;subst hv;exact .int _ _
theorem zme {F:zc}{R:FE->List zd->Prop}{tm:Nat->PV}{H:List zd}{vs:List PV}{id:Nat}(hm:H[id]?=some (.dfr false))(h:zbf tm (H.set id (.dfr true)) F.res=some vs)(k:R (.ret (zjY vs)) (H.set id (.dfr true))):zdT E F R .ret ⟨tm,[.mark id],H⟩:=⟨hm,vs,h,k⟩
theorem zu0 {F:zc}{R:FE->List zd->Prop}{tm:Nat->PV}{H:List zd}{vs:List PV}{id:Nat}(hm:H[id]?=some (.dfr false))(h:zbf tm (H.set id (.dfr true)) F.res=some vs)(k:R (.ret (zjY vs)) (H.set id (.dfr true))):zdT E F R .norm ⟨tm,[.mark id],H⟩:=⟨hm,vs,h,k⟩
theorem Id0.nr {n:Nat}{v:PV}(h:Id0 v):NR n v:=by
 induction h with
 | bool b=>exact .bool b
 | int k n=>exact .int k n
 | str s=>exact .str s
 | nilptr=>exact .nilptr
 | nilsl=>exact .nilsl
 | nilmap=>exact .nilmap
 | nilfn=>exact .nilfn
 | niliface=>exact .niliface
 | list p z l=>exact .list p z l
 | elem l=>exact .elem l
 | iface _ ih=>exact .iface ih
 | fn _ ih=>exact .fn ih
 | agg _ ih=>exact .agg ih
 | tuple _ ih=>exact .tuple ih
theorem zy5 {n e z G M:Nat}{l:List PV}(h:∀v∈l.flatMap PV.cells,Id0 v):NRO n (.row e z G M l):=fun x hx=>(h x hx).nr
theorem NR.mono {n m:Nat}(hm:n<=m){v:PV}(h:NR n v):NR m v:=by
 induction h with
 | bool b=>exact .bool b
 | int k n=>exact .int k n
 | str s=>exact .str s
 | nilptr=>exact .nilptr
 | nilsl=>exact .nilsl
 | nilmap=>exact .nilmap
 | nilfn=>exact .nilfn
 | niliface=>exact .niliface
 | list p z l=>exact .list p z l
 | elem l=>exact .elem l
 | sl g o m q z h=>exact .sl g o m q z zo
 | ptr g i o m h=>exact .ptr g i o m zo
 | map h=>exact .map zo
 | yield h=>exact .yield zo
 | iface _ ih=>exact .iface ih
 | fn _ ih=>exact .fn ih
 | agg _ ih=>exact .agg ih
 | tuple _ ih=>exact .tuple ih
theorem zua {A A' C G:List zd}(hl:A'.length=A.length)(h:∀(id:Nat) (o:zd),A'[id]?=some o->NRO A.length o)(hm:∀(n m:Nat) (o:zd),n<=m->NRO n o->NRO m o):zh2 (A++C) (A'++C++G) (A'++C) G:=by
 refine⟨rfl,by simp[hl],fun id o ho=>?_⟩
 grind
theorem NRO.mono {n m:Nat}(hm:n<=m){o:zd}(h:NRO n o):NRO m o:=by
 cases o with
 | row e z G M l=>exact fun x hx=>NR.mono hm (h x hx)
 | mapI k f=>exact fun x v hx=>NR.mono hm (h x v hx)
 | mapS f=>exact fun x v hx=>NR.mono hm (h x v hx)
 | loop st pe tm ps aS bo q =>
  refine⟨by have:=h.1;omega,fun i=>?_,?_⟩
  ·rcases h.2.1 i with h|h
   ·exact .inl h
   ·exact .inr (h.mono hm)
  ·have:=h.2.2
   cases pe<;>first|trivial|exact NR.mono hm this
 | _=>trivial
theorem zh2.front {A A' C G:List zd}(hl:A'.length=A.length)(h:∀(id:Nat) (o:zd),A'[id]?=some o->NRO A.length o):zh2 (A++C) (A'++C++G) (A'++C) G:=zua hl h fun _ _ _ h k=>k.mono h
theorem zbD (n m:Nat):(n+1==m+1)=(n==m):=by simp
theorem zbE (n:Nat):(n+1==0)=false:=by simp
theorem za9 (n:Nat):(0==n+1)=false:=by simp
theorem zpl {caught:Tr Unit}{tm:Nat->PV}{s:DF}{Q:FX->DF->Prop}{g:zcF}{l:List zcF}{s1:DF}{o:zbo}{f:Nat}{caps vs aS:List PV}{same:Bool}{H0:List zd}{R:FE->List zd->Prop}(hc:zbd s.K g.chk)(hx:zav tm g.exe s=some s1)(ha:g.act=some o)(hk:o.kind=.call)(hw:zY tm s1.nm o.guard=some true)(hv:zbj tm s1.nm o.args=some (.fn f caps::vs))
  (k:FO E f aS H0 same R) (he:vs++caps=aS) (hH:s1.H=H0) (hQ:∀e H',R e H'->zus E caught tm l s1 o.dst same Q e H'):WD E caught tm (g::l) s Q:=by
 subst he hH;exact zop hc hx ha hk hw hv (k.mono hQ)
theorem zkQ {caught:Tr Unit}{d:Option Nat}{args:List TOp}{g:Option (TOp×Bool)}{ops:List zbo}{s:FSt}{Q:FX->FSt->Prop}{f:Nat}{caps vs aS:List PV}{b:Bool}{H0:List zd}{R:FE->List zd->Prop}
  (hg:zat s.tm g=some true) (ha:evs s.tm args=some (.fn f caps::vs)) (k:FO E f aS H0 b R) (he:vs++caps=aS) (hH:s.H=H0) (hQ:∀e H',R e H'->zw2 E caught ops s d Q e H'):WO E caught (⟨d,.call,args,g⟩::ops) s Q:=by
 subst he hH;exact zjo hg ha (k.mono hQ)
end Fv
end Go.Proofs.YtkeknmgnoceogaaGreat
namespace Go.Proofs.YtkeknmgnoceogaaGreat
namespace Fv
open Tw
variable {E:Env}{caught:Tr Unit}{rnd:Option Nat}
def zgV (n:Nat)(H:List zd):List zd:=H.mapIdx fun i o=>if i=n then o else .void
theorem znT {n:Nat}{H:List zd}{o:zd}(h:H[n]?=some o):(zgV n H)[n]?=some o:=by
 unfold zgV
 grind
theorem zyy {n id:Nat}{H:List zd}{e z G M:Nat}{l:List PV}(h:(zgV n H)[id]?=some (.row e z G M l)):id=n:=by
 unfold zgV at h
 grind
theorem zxi {n id:Nat}{H:List zd}(h:H[id]?=some .void):(zgV n H)[id]?=some .void:=by
 unfold zgV
 grind
theorem ztf {n:Nat}{H:List zd}:(zgV n H).length=H.length:=by unfold zgV;simp
def CF (n:Nat)(H:List zd)(v w:PV):Prop:=w=v\/Frz (zgV n H) 0 v w
inductive CO (n:Nat)(H:List zd)(id:Nat):zd->zd->Prop
 | void (o:zd):CO n H id o .void
 | same (o:zd):id≠n->CO n H id o o
 | row {e z G M:Nat} {l l':List PV}:id≠n->l'.length=l.length->(∀v∈l',v.cells.length=z)->(l.flatMap PV.cells).length=(l'.flatMap PV.cells).length->(∀(i:Nat) (x y:PV),(l.flatMap PV.cells)[i]?=some x->(l'.flatMap PV.cells)[i]?=some y->CF n H x y)->CO n H id (.row e z G M l) (.row e z G M l')
def Cx.frz (c:Cx)(n:Nat):Cx:=⟨fun p b=>c.S p b\/(p=0/\∃x,c.ρ n=some x/\x.1=b),c.ρ,c.L⟩
theorem HR.frz {B:Ba}{c:Cx}{H H':List zd}{h:TH}(k:HR B c H h){n:Nat}(hl:H'.length=H.length)(hv:H'[n]?=some .void)(hH:∀id o o',H[id]?=some o->H'[id]?=some o'->CO n H id o o') :
  Mo c (c.frz n) h h/\HR B (c.frz n) H' h/\∀v w u,VR c h v u->CF n H v w->VR (c.frz n) h w u:=by
 have m:Mo c (c.frz n) h h:=⟨fun _ _ h=>.inl h,fun _ _ h=>h,fun _ h=>h,fun _ _ _ _ _ _ _ h=>h⟩
 have hm:HR B c (zgV n H) h:=⟨k.le,k.keep,k.old,fun p b hb=>⟨(k.S p b hb).1,fun id x hx e=>zxi ((k.S p b hb).2 id x hx e)⟩,fun id x hx=>by rw[ztf];exact k.own id x hx,fun id hx=>by rw[ztf];exact k.lz id hx,k.inj,fun id o ho=>by
  by_cases hi:id=n
  ·subst hi;unfold zgV at ho;rw[List.getElem?_mapIdx]at ho
   cases hH:H[id]? with
   | none=>rw[hH]at ho;cases ho
   | some o' =>
    rw[hH]at ho;simp at ho;subst ho;exact k.obj id _ hH
  ·unfold zgV at ho;rw[List.getElem?_mapIdx]at ho
   cases hH:H[id]? with
   | none=>rw[hH]at ho;cases ho
   | some o'=>rw[hH]at ho;simp[hi]at ho;subst ho;trivial⟩
 have hcf:∀v w u,VR c h v u->CF n H v w->VR (c.frz n) h w u:=fun v w u hv hw=>by
  rcases hw with rfl|hw
  ·exact hv.mono m
  ·exact .pure (hw.ok' hm (fun _ _ h=>.inl h) (fun id x e z G M l hr hx=>by
    obtain rfl:=zyy hr;exact .inr ⟨rfl,x,hx,rfl⟩) hv)
 refine⟨m,⟨k.le,k.keep,fun p b hb=>?_,fun p b hb=>?_,fun id x hx=>by rw[hl];exact k.own id x hx,fun id hx=>by rw[hl];exact k.lz id hx,k.inj,fun id o' ho'=>?_⟩,hcf⟩
 ·rcases hb with hb|⟨rfl,x,hx,rfl⟩
  ·exact k.old p b hb
  ·exact .inr ⟨rfl,(k.own _ _ hx).1⟩
 ·rcases hb with hb|⟨rfl,x,hx,rfl⟩
  ·obtain⟨h1,h2⟩:=k.S p b hb;refine⟨h1,fun id x hx e=>?_⟩;have h3:=h2 id x hx e;have hid:id<H'.length:=by rw[hl];exact(zAC9.1 h3).1
   have h4:=hH id _ _ h3 (zAA9 hid);rw[zAA9 hid];generalize H'[id]=o' at h4
   cases h4<;>rfl
  ·refine⟨(k.own _ _ hx).2.1,fun id y hy e=>?_⟩;obtain rfl:=k.inj _ _ _ _ hy hx e;exact hv
 ·have hid:id<H.length:=by rw[<- hl];exact(zAC9.1 ho').1
  have hob:=k.obj id _ (zAA9 hid);have hc:=hH id _ _ (zAA9 hid) ho';generalize H[id]=o at hob hc
  cases hc with
  | void=>trivial
  | same _ hn=>exact hob.move m rfl (fun h=>h) fun _ _=>rfl
  | @row e z G M l l' hn h1 h2 h3 h4 =>
   rcases hob with⟨rfl,g0,r0,L0⟩|⟨b,d,G',M',cells,cs,r1,r2,r3,r4,r5,r6⟩
   ·obtain rfl:=zDU9.1 h1;exact .inl ⟨rfl,g0,r0,L0⟩
   ·refine .inr ⟨b,d,G',M',cells,cs,r1,by rw[h1];exact r2,r3,r4,by rw[h1];exact r5,h2,?_⟩;refine⟨by rw[<- h3];exact r6.all.1,fun i x y hx hy=>?_⟩;obtain⟨x',hx'⟩:∃x',(l.flatMap PV.cells)[i]?=some x':=⟨_,zAA9 (by rw[h3];exact(zAC9.1 hx).1)⟩
    exact hcf _ _ _ (r6.all.2 i _ _ hx' hy) (h4 i _ _ hx' hx)
theorem zxO {code:zbI}{s:FSt}{Q:FX->FSt->Prop}(n:Nat)(tm':Nat->PV)(H':List zd)(ht:∀i,tm' i=.bad\/CF n s.H (s.tm i) (tm' i))(hl:H'.length=s.H.length)(hv:H'[n]?=some .void)(hH:∀id o o',s.H[id]?=some o->H'[id]?=some o'->CO n s.H id o o')
  (k:W E caught rnd code ⟨tm',s.df,H'⟩ Q):W E caught rnd code s Q:=fun B c t rnd' hs hn=>by
 obtain⟨m,hr,hcf⟩:=hs.hr.frz hl hv hH;obtain⟨x',t',x,s',c',e1,q1,hx,m1,k1⟩:=k B _ t rnd' ⟨hr,fun i=>by
  rcases ht i with h1|h1
  ·exact .inl h1
  ·rcases hs.tm i with h2|⟨u,u1,u2⟩
   ·rcases h1 with h1|h1
    ·exact .inl (h1.trans h2)
    ·rw[h2]at h1;cases h1
   ·exact .inr ⟨u,u1,hcf _ _ _ u2 h1⟩,hs.df.mono m⟩ (hn.mono m)
 exact⟨x',t',x,s',c',e1,q1,hx,m.trans m1,k1⟩
theorem zjH {code:zbI}{s:FSt}{Q:FX->FSt->Prop}(i n:Nat){w:PV}{o:zd}(hn:s.H[n]?=some o)(hw:Frz (zgV n s.H) 0 (s.tm i) w)(k:W E caught rnd code ⟨upd s.tm i w,s.df,s.H.set n .void⟩ Q):W E caught rnd code s Q:=by
 have hlt:=(zAC9.1 hn).1;refine zxO n _ _ (fun j=>.inr ?_) (by simp) (by simp[hlt]) (fun id o o' ho ho'=>?_) k
 ·unfold upd
  by_cases hj:j=i
  ·subst hj;rw[if_pos rfl];exact .inr hw
  ·rw[if_neg hj];exact .inl rfl
 ·by_cases hi:n=id
  ·subst hi;simp[hlt]at ho';subst ho';exact .void _
  ·rw[zAT9 hi,ho]at ho';injection ho' with ho';subst ho';exact .same _ (Ne.symm hi)
theorem zA4 {code:zbI}{s:FSt}{Q:FX->FSt->Prop}(b n:Nat){e z G M:Nat}{v v':PV}(hb:s.H[b]?=some (.row e z G M [v])){o:zd}(hn:s.H[n]?=some o)(hne:b≠n)(hz:v'.cells.length=z)(hz':v.cells.length=z)
  (hw:∀(i:Nat) (x y:PV),v.cells[i]?=some x->v'.cells[i]?=some y->CF n s.H x y)
  (k:W E caught rnd code ⟨s.tm,s.df,(s.H.set n .void).set b (.row e z G M [v'])⟩ Q):W E caught rnd code s Q:=by
 have hlt:=(zAC9.1 hn).1;have hlt':=(zAC9.1 hb).1;refine zxO n _ _ (fun j=>.inr (.inl rfl)) (by simp) (by rw[zAT9 hne];simp[hlt]) (fun id o o' ho ho'=>?_) k
 by_cases hi:b=id
 ·subst hi;rw[zAY9 (by simpa using hlt')]at ho';rw[hb]at ho;injection ho with ho;injection ho' with ho';subst ho;subst ho';refine .row hne rfl (by simpa using hz) (by simp[hz,hz']) (by simpa using hw)
 ·rw[zAT9 hi]at ho'
  by_cases hj:n=id
  ·subst hj;simp[hlt]at ho';subst ho';exact .void _
  ·rw[zAT9 hj,ho]at ho';injection ho' with ho';subst ho';exact .same _ (Ne.symm hj)
end Fv
end Go.Proofs.YtkeknmgnoceogaaGreat
namespace Go.Proofs.YtkeknmgnoceogaaGreat
namespace Fv
open Tw
theorem zty {f:Nat->Nat->Nat}{op:BinOp}(ho:∀x y,zfy op .u64 .u64 x y=zjJ f .u64 x y){x y:Int}(h1:0<=x)(h2:x<18446744073709551616)(h3:0<=y)(h4:y<18446744073709551616):sc2 (zcu op) [.int .u64 x,.int .u64 y]=some (.int .u64 (f x.toNat y.toNat:Nat)):=by
 obtain⟨a,rfl⟩:=zCK9 h1;obtain⟨b,rfl⟩:=zCK9 h3;simp only[sc2,PV.toT,zcu,zek,ho];show (match(bif Nat.blt a (2 ^ 64)then bif Nat.blt b (2 ^ 64)then some (TV.int .u64 (.ofNat (f a b)))else none else none)with|some w=>ofT w|none=>none)=_;rw[show Nat.blt a (2 ^ 64)=true by rw[zCA9];omega,show Nat.blt b (2 ^ 64)=true by rw[zCA9];omega];rfl
theorem zaT {x y:Int}(h1:0<=x)(h2:x<18446744073709551616)(h3:0<=y)(h4:y<18446744073709551616):sc2 (zcu .and) [.int .u64 x,.int .u64 y]=some (.int .u64 (Nat.land x.toNat y.toNat:Nat)):=zty (fun _ _=>rfl) h1 h2 h3 h4
theorem zbB {x y:Int}(h1:0<=x)(h2:x<18446744073709551616)(h3:0<=y)(h4:y<18446744073709551616):sc2 (zcu .or) [.int .u64 x,.int .u64 y]=some (.int .u64 (Nat.lor x.toNat y.toNat:Nat)):=zty (fun _ _=>rfl) h1 h2 h3 h4
theorem zaM {x y:Int}(h1:0<=x)(h2:x<18446744073709551616)(h3:0<=y)(h4:y<18446744073709551616):sc2 (zcu .xor) [.int .u64 x,.int .u64 y]=some (.int .u64 (Nat.xor x.toNat y.toNat:Nat)):=zty (fun _ _=>rfl) h1 h2 h3 h4
theorem zlY (n:Nat):IntKind.u64.wrap (n:Int)=((n%18446744073709551616:Nat):Int):=by
 have h:((n%18446744073709551616:Nat):Int)=(n:Int)%18446744073709551616:=by simp
 rw[h];simp[IntKind.wrap,IntKind.bits,IntKind.signed]
theorem zaQ {k':IntKind}{x y:Int}(h1:0<=x)(h3:0<=y)(h4:y<=64):sc2 (zcu .shl) [.int .u64 x,.int k' y]=some (.int .u64 (x.toNat*2 ^ y.toNat%18446744073709551616:Nat)):=by
 obtain⟨a,rfl⟩:=zCK9 h1;obtain⟨b,rfl⟩:=zCK9 h3;simp only[sc2,PV.toT,zcu,zek];show (match(bif Nat.ble b 64 then some (TV.int .u64 (IntKind.u64.wrap ((a:Int)*2 ^ (min b 64))))else none)with|some w=>ofT w|none=>none)=_;rw[zcj zo,zDH9 zo];simp only[cond_true,ofT,zDL9];rw[show (a:Int)*2 ^ b=((a*2 ^ b:Nat):Int) by simp,zlY]
theorem zaY {k':IntKind}{x y:Int}(h1:0<=x)(h3:0<=y)(h4:y<=64):sc2 (zcu .shr) [.int .u64 x,.int k' y]=some (.int .u64 (x.toNat/2 ^ y.toNat:Nat)):=by
 obtain⟨a,rfl⟩:=zCK9 h1;obtain⟨b,rfl⟩:=zCK9 h3;simp only[sc2,PV.toT,zcu,zek];show (match(bif Nat.ble b 64 then some (TV.int .u64 (.ofNat (a/2 ^ (min b 64))))else none)with|some w=>ofT w|none=>none)=_;rw[zcj zo,zDH9 zo];rfl
theorem zkO (a b:List Nat):zdH a b=decide (a=b):=by
 by_cases h:a=b
 ·rw[(zg9 a b).2 h];simp[h]
 ·rw[zGG9.2 fun e=>h ((zg9 a b).1 e)];simp[h]
theorem zaX (a b:List Nat):sc2 (zcu .eql) [.str a,.str b]=some (.bool (decide (a=b))):=by
 rw[<- zkO];rfl
theorem zaO (a b:List Nat):sc2 (zcu .neq) [.str a,.str b]=some (.bool (!decide (a=b))):=by
 rw[<- zkO];rfl
theorem zaq (s:List Nat):sc1 zp7 [.str s]=some (.int .i64 s.length):=rfl
theorem zi9:∀(l:List Nat) (n:Nat),zjV l n=l[n]?
 | [],n=>by simp[zjV]
 | x::l,0=>rfl
 | x::l,n+1=>by simp only[zjV,zBL9];exact zi9 l n
theorem zz8 {k:IntKind}{s:List Nat}{j:Int}{x:Nat}(h0:0<=j)(h:s[j.toNat]?=some x):sc2 zi1 [.str s,.int k j]=some (.int .u8 x):=by
 obtain⟨n,rfl⟩:=zCK9 h0;rw[zDL9,<- zi9]at h;simp only[sc2,PV.toT];show (match(match zjV s n with|some c=>some (TV.int .u8 (.ofNat c))|none=>none)with|some w=>ofT w|none=>none)=_;rw[h];rfl
section
variable (n:Nat)
theorem zam (k:IntKind)(m:Int):dpF (n+1) (.int k m)=true:=rfl
theorem zX (b:Bool):dpF (n+1) (.bool b)=true:=rfl
theorem zan (s:List Nat):dpF (n+1) (.str s)=true:=rfl
theorem zap (p z:Nat)(l:List PV):dpF (n+1) (.list p z l)=true:=rfl
theorem zW (l:List PV):dpF (n+1) (.elem l)=true:=rfl
theorem za3 (a b c d e f:Nat):dpF (n+1) (.sl a b c d e f)=true:=rfl
theorem zak (a b c d e:Nat):dpF (n+1) (.ptr a b c d e)=true:=rfl
theorem zaj (a:Nat):dpF (n+1) (.map a)=true:=rfl
theorem zq (a:Nat):dpF (n+1) (.yield a)=true:=rfl
theorem zr:dpF (n+1) .nilsl=true:=rfl
theorem zg:dpF (n+1) .nilptr=true:=rfl
theorem zh:dpF (n+1) .nilmap=true:=rfl
theorem zk:dpF (n+1) .nilfn=true:=rfl
theorem zf:dpF (n+1) .niliface=true:=rfl
theorem zC (t:Nat)(v:PV):dpF (n+1) (.iface t v)=dpF n v:=rfl
theorem zaR (f:Nat)(l:List PV):dpF (n+1) (.fn f l)=l.all (dpF n):=rfl
theorem zao (l:List PV):dpF (n+1) (.agg l)=l.all (dpF n):=rfl
theorem zy (l:List PV):dpF (n+1) (.tuple l)=l.all (dpF n):=rfl
end
attribute [go_sem] zbe zaE zat zaA evs ev okv zbA zZ.cls zbi zbp zbt zn zA upd zj zaV za1 za4 zaW za7 zaU zaN zaP zaS za5 zal zba zaZ za8 za6 zbb za0 zaz zbl zbr zac zaf zbz PV.cells ofC zbn zAR zaw okF zab spl zaC zaH bnd zad zah zai zbh zbx zL zax zaJ zag zbv zbu zV lenP zb za zae zbk PV.toT zaD ze Nat.mul_mod_right Int.reduceOfNat Int.reduceToNat Int.cast_ofNat_Int Int.reduceLE Int.reduceLT Int.reduceAdd Int.reduceSub Int.reduceMul Int.reduceNegSucc Nat.reduceEqDiff if_true if_false ite_true ite_false decide_true decide_false Bool.not_true Bool.not_false and_true true_and and_self false_and and_false or_false false_or or_true true_or or_self List.length_cons List.length_nil List.length_map List.getElem?_cons_zero List.getElem?_cons_succ List.getElem?_map List.getElem?_nil Option.map_some Option.map_none Option.getD_some List.append_nil List.nil_append List.cons_append List.take_succ_cons List.take_zero List.drop_zero List.drop_succ_cons List.set_cons_zero List.set_cons_succ Int.toNat_natCast Int.natCast_nonneg Nat.le_refl Nat.zero_le Nat.reduceAdd Nat.reduceSub Nat.reduceMul Nat.reduceLeDiff Nat.reduceLT Bool.false_eq_true Bool.true_eq_false Nat.add_zero Nat.zero_add List.all_cons List.all_nil Bool.and_true Bool.and_self Bool.true_and Nat.reduceMod Nat.reduceDiv eq_self zav zaK zY zbj evN zbg zaL zbw zay zbd zby zaB List.filter_cons List.filter_nil List.contains_cons List.contains_nil Nat.reduceBEq zbD zbE za9 Option.some.injEq Option.isSome_some wrap_i64 wrap_u64 za2 Bool.or_self Bool.or_false Bool.false_or List.isEmpty_nil List.isEmpty_cons zaa zbs zM zaF zaG zaT zbB zaM zaQ zaY zam zX zan zap zW za3 zak zaj zq zr zg zh zk zf zC zaR zao zy zR cond_true cond_false zaX zaO zaq
attribute [go_sem ↓] reduceIte
section
variable {E:Env}{caught:Tr Unit}{rnd:Option Nat}{ops:List zbo}{rest:zbI}{s s':FSt}{r:List zbo}{Q:FX->FSt->Prop}
theorem zgo (k:W E caught rnd rest s' Q)(h:zbe ops s=(s',[]):=by simp(disch:=omega)only[go_sem]<;>rfl):W E caught rnd (.region ops) s (zef (fun s'=>W E caught rnd rest s' Q) Q):=zau (zne h (zbY k))
theorem zrg (k:WO E caught r s' (zeq ops Q))(h:zbe ops s=(s',r):=by simp(disch:=omega)only[go_sem]<;>rfl):W E caught rnd (.region ops) s Q:=zau (zne h k)
theorem zfx (k:WO E caught r s' Q)(h:zbe ops s=(s',r):=by simp(disch:=omega)only[go_sem]<;>rfl):WO E caught ops s Q:=zne h k
theorem zfc {x:TOp}{b:Bool}{p q:zbI}(h1:b=true->W E caught rnd p s Q)(h2:b=false->W E caught rnd q s Q)(hx:ev s.tm x=some (.bool b):=by simp only[go_sem]<;>rfl):W E caught rnd (.cond x p q) s Q:=zng hx h1 h2
theorem zca {d:Option Nat}{args:List TOp}{g:Option (TOp×Bool)}{f:Nat}{caps vs aS:List PV}{v:PV}(k:FN E f aS (.ret v))(hQ:WO E caught ops (s.put d v) Q)(hg:zat s.tm g=some true:=by first|rfl|(simp only[go_sem]<;>rfl))(ha:evs s.tm args=some (.fn f caps::vs):=by simp only[go_sem]<;>rfl)
  (hl:LF s.H 1 (vs++caps) aS:=by(repeat(first|exact trivial|refine And.intro ?_ ?_|exact .int _ _|exact .bool _|exact .list _ _ _|exact .elem _|exact .nilsl|exact .nil _ _|exact .str _|refine Frz.aggL ?_|refine Frz.fnL ?_|refine Frz.tupL ?_|refine .iface ?_|exact zcN rfl rfl (by assumption)))):WO E caught (⟨d,.call,args,g⟩::ops) s Q:=zhK hg ha k hl hQ
theorem zcl {d:Option Nat}{args:List TOp}{g:Option (TOp×Bool)}{f:Nat}{caps vs aS:List PV}{v:PV}(k:FN E f aS (.ret v))(hl:LF s.H 1 (vs++caps) aS)(hQ:WO E caught ops (s.put d v) Q)(hg:zat s.tm g=some true:=by first|rfl|(simp only[go_sem]<;>rfl))(ha:evs s.tm args=some (.fn f caps::vs):=by simp only[go_sem]<;>rfl):WO E caught (⟨d,.call,args,g⟩::ops) s Q:=zhK hg ha k hl hQ
theorem zcm {d:Option Nat}{args:List TOp}{g:Option (TOp×Bool)}{f:Nat}{caps vs aS:List PV}{v:PV}{R:Prop}(k:FN E f aS (.ret v))(hk:R)(hQ:WO E caught ops (s.put d v) Q)(hg:zat s.tm g=some true:=by first|rfl|(simp only[go_sem]<;>rfl))(ha:evs s.tm args=some (.fn f caps::vs):=by simp only[go_sem]<;>rfl)
  (hl:R->LF s.H 1 (vs++caps) aS:=by intro hk;(repeat(first|exact trivial|refine And.intro ?_ ?_|exact .int _ _|exact .bool _|exact .list _ _ _|exact .elem _|exact .nilsl|exact .nil _ _|exact .str _|refine Frz.aggL ?_|refine Frz.fnL ?_|refine Frz.tupL ?_|refine .iface ?_|exact zcN rfl rfl (by assumption)));exact hk;(repeat(first|exact trivial|refine And.intro ?_ ?_|exact .int _ _|exact .bool _|exact .list _ _ _|exact .elem _|exact .nilsl|exact .nil _ _|exact .str _|refine Frz.aggL ?_|refine Frz.fnL ?_|refine Frz.tupL ?_|refine .iface ?_|exact zcN rfl rfl (by assumption)))):WO E caught (⟨d,.call,args,g⟩::ops) s Q:=zhK hg ha k (hl hk) hQ
theorem zcx {d:Option Nat}{args:List TOp}{g:Option (TOp×Bool)}{f:Nat}{caps vs aS:List PV}{v:PV}(k:FN E f aS (.panic v))(hQ:Q (.panic v) s)(hg:zat s.tm g=some true:=by first|rfl|(simp only[go_sem]<;>rfl))(ha:evs s.tm args=some (.fn f caps::vs):=by simp only[go_sem]<;>rfl)
  (hl:LF s.H 1 (vs++caps) aS:=by(repeat(first|exact trivial|refine And.intro ?_ ?_|exact .int _ _|exact .bool _|exact .list _ _ _|exact .elem _|exact .nilsl|exact .nil _ _|exact .str _|refine Frz.aggL ?_|refine Frz.fnL ?_|refine Frz.tupL ?_|refine .iface ?_|exact zcN rfl rfl (by assumption)))):WO E caught (⟨d,.call,args,g⟩::ops) s Q:=zxm hg ha k hl hQ
theorem zcp {d:Option Nat}{args:List TOp}{g:Option (TOp×Bool)}{f:Nat}{caps vs aS:List PV}{v:PV}(k:FP E f aS (.ret v))(hQ:WO E caught ops (s.put d v) Q)(hg:zat s.tm g=some true:=by first|rfl|(simp only[go_sem]<;>rfl))(ha:evs s.tm args=some (.fn f caps::vs):=by simp only[go_sem]<;>rfl)(he:vs++caps=aS:=by rfl)(hl:zkE aS:=by(repeat(first|exact trivial|refine And.intro ?_ ?_|exact Id0.int _ _|exact Id0.bool _|exact Id0.list _ _ _|exact Id0.elem _|exact Id0.nilsl|exact Id0.str _|exact zAv _ _ _))):WO E caught (⟨d,.call,args,g⟩::ops) s Q:=zu9 hg ha k he hl hQ
end
section
variable {E:Env}{caught:Tr Unit}{tm:Nat->PV}{s:DF}{Q:FX->DF->Prop}{g:zcF}{l:List zcF}{s1:DF}{o:zbo}
theorem zdl (k:WD E caught tm l s1 Q)(hx:zav tm g.exe s=some s1:=by simp(disch:=omega)only[go_sem]<;>rfl)(hc:zbd s.K g.chk:=by first|exact trivial|simp only[go_sem])(ha:g.act=none:=by rfl):WD E caught tm (g::l) s Q:=zsY hc hx ha k
def daF (tm:Nat->PV)(g:zcF)(s:DF):Option (DF×AR):=match zav tm g.exe s with
 | none=>none
 | some s1=>match g.act with
  | none=>none
  | some o=>match zbj tm s1.nm o.args with
   | none=>none
   | some vs=>match zbt s1.H o.kind vs with
    | none=>none
    | some a=>some (s1,a)
def dnF (tm:Nat->PV)(g:zcF)(s:DF):Option (DF×List PV):=match zav tm g.exe s with
 | none=>none
 | some s1=>match g.act with
  | none=>none
  | some o=>match zbj tm s1.nm o.args with
   | none=>none
   | some vs=>some (s1,vs)
theorem zda {a:AR}{nm':Nat->PV}(k:WD E caught tm l ⟨nm',s1.df,a.H,zaB a.W s1.K⟩ Q)(h:daF tm g s=some (s1,a))(hc:zbd s.K g.chk:=by first|exact trivial|simp only[go_sem])(ha:g.act=some o:=by rfl)(hw:zY tm s1.nm o.guard=some true:=by first|rfl|(simp only[go_sem]<;>rfl))(hn:zbg s1.nm o.dst a.v=some nm':=by simp only[go_sem]<;>rfl):WD E caught tm (g::l) s Q:=by
 unfold daF at h
 split at h
 ·cases h
 rename_i s2 hx;rw[ha]at h;dsimp only at h
 split at h
 ·cases h
 rename_i vs hv
 split at h
 ·cases h
 rename_i a2 hf;injection h with h;injection h with h1 h2;subst h1 h2;exact zzR hc hx ha hw hv hf hn k
theorem zhb {vs:List PV}(h:dnF tm g s=some (s1,vs))(ha:g.act=some o):zav tm g.exe s=some s1/\zbj tm s1.nm o.args=some vs:=by
 unfold dnF at h
 grind
theorem zdn {f:Nat}{caps vs aS:List PV}{v:PV}{nm':Nat->PV}(k:FN E f aS (.ret v))(hQ:WD E caught tm l ⟨nm',s1.df,s1.H,s1.K⟩ Q)(h:dnF tm g s=some (s1,.fn f caps::vs))(hc:zbd s.K g.chk:=by first|exact trivial|simp only[go_sem])(ha:g.act=some o:=by rfl)(hk:o.kind=.call:=by rfl)(hw:zY tm s1.nm o.guard=some true:=by first|rfl|(simp only[go_sem]<;>rfl))
  (hl:LF s1.H 1 (vs++caps) aS:=by(repeat(first|exact trivial|refine And.intro ?_ ?_|exact .int _ _|exact .bool _|exact .list _ _ _|exact .elem _|exact .nilsl|exact .nil _ _|exact .str _|refine Frz.aggL ?_|refine Frz.fnL ?_|refine Frz.tupL ?_|refine .iface ?_|exact zcN rfl rfl (by assumption)))) (hn:zbg s1.nm o.dst v=some nm':=by simp only[go_sem]<;>rfl):WD E caught tm (g::l) s Q :=
 zr1 hc (zhb h ha).1 ha hk hw (zhb h ha).2 k hl hn hQ
theorem zdi {f:Nat}{caps vs aS:List PV}{v:PV}{nm':Nat->PV}(k:FN E f aS (.ret v))(hl:LF s1.H 1 (vs++caps) aS)(hQ:WD E caught tm l ⟨nm',s1.df,s1.H,s1.K⟩ Q)(h:dnF tm g s=some (s1,.fn f caps::vs))(hc:zbd s.K g.chk:=by first|exact trivial|simp only[go_sem])(ha:g.act=some o:=by rfl)(hk:o.kind=.call:=by rfl)(hw:zY tm s1.nm o.guard=some true:=by first|rfl|(simp only[go_sem]<;>rfl))(hn:zbg s1.nm o.dst v=some nm':=by simp only[go_sem]<;>rfl):WD E caught tm (g::l) s Q :=
 zr1 hc (zhb h ha).1 ha hk hw (zhb h ha).2 k hl hn hQ
theorem zdf {f:Nat}{caps vs aS:List PV}{v:PV}{nm':Nat->PV}(k:FP E f aS (.ret v))(hl:zkE aS)(hQ:WD E caught tm l ⟨nm',s1.df,s1.H,s1.K⟩ Q)(h:dnF tm g s=some (s1,.fn f caps::vs))(hc:zbd s.K g.chk:=by first|exact trivial|simp only[go_sem])(ha:g.act=some o:=by rfl)(hk:o.kind=.call:=by rfl)(hw:zY tm s1.nm o.guard=some true:=by first|rfl|(simp only[go_sem]<;>rfl))(he:vs++caps=aS:=by rfl)(hn:zbg s1.nm o.dst v=some nm':=by simp only[go_sem]<;>rfl):WD E caught tm (g::l) s Q :=
 zwq hc (zhb h ha).1 ha hk hw (zhb h ha).2 k he hl hn hQ
end
section
variable {E:Env}{f:Nat}{F:zc}{args:List PV}{c:zbI}
theorem zfn {e:FE}(hF:E.funcs.get f=some F)(hl:LbE e)(hW:W E E.caught none c ⟨zj args,[],[]⟩ (zdT E F fun e' H=>zbq H 0 e' e))(hc:F.body=c:=by simp only[go_sem]<;>rfl)(hn:args.length<=F.N:=by exact zAM9 rfl):FN E f args e:=zx7 hF hn hl (by rw[hc];exact hW)
theorem zfp {e:FE}(hF:E.funcs.get f=some F)(hW:W E E.caught none c ⟨zj args,[],[]⟩ (zdT E F fun e' H=>zbq H 0 e' e))(hc:F.body=c:=by simp only[go_sem]<;>rfl)(hn:args.length<=F.N:=by exact zAM9 rfl):FP E f args e:=zx4 hF hn (by rw[hc];exact hW)
theorem zro (hF:E.funcs.get f=some F){H:List zd}{R:FE->List zd->Prop}(hW:W E E.caught none c ⟨zj args,[],H⟩ (zdT E F R))(hc:F.body=c:=by simp only[go_sem]<;>rfl)(hn:args.length<=F.N:=by exact zAM9 rfl):FO E f args H false R:=zu5 hF hn (by rw[hc];exact hW)
end
theorem zt {p:Prop}(h:p:=by first|exact trivial|rfl|simp[upd,zj]):p:=h
theorem zu {q p:Prop}(h:q)(k:q->p:=by intro h;first|exact h|simp[upd,h]):p:=k h
theorem zwi {x y:Int}(h:x=y/\-9223372036854775808<=x/\x<9223372036854775808:=by omega):IntKind.i64.wrap x=y:=by rw[wrap_i64 h.2.1 h.2.2];exact h.1
theorem zwu {x y:Int}(h:x=y/\0<=x/\x<18446744073709551616:=by omega):IntKind.u64.wrap x=y:=by rw[wrap_u64 h.2.1 h.2.2];exact h.1
theorem zwh {E:Env}{caught:Tr Unit}{rnd:Option Nat}{x:TOp}{id:Nat}{rest:zbI}{s:FSt}{Q:FX->FSt->Prop}{b:Bool}(h1:b=true->W E caught rnd rest s Q)(h2:b=false->Q (.exit id) s)(hx:ev s.tm x=some (.bool b):=by simp only[go_sem]<;>rfl):W E caught rnd (.seq (.cond x .skip (.exit id)) rest) s Q:=zzf hx h1 h2
section
theorem zr2 {p1 p2:Prop}(a1:p1)(a2:p2):p1/\p2:=⟨a1,a2⟩
theorem zr3 {p1 p2 p3:Prop}(a1:p1)(a2:p2)(a3:p3):p1/\p2/\p3:=⟨a1,a2,a3⟩
theorem zr4 {p1 p2 p3 p4:Prop}(a1:p1)(a2:p2)(a3:p3)(a4:p4):p1/\p2/\p3/\p4:=⟨a1,a2,a3,a4⟩
theorem zr5 {p1 p2 p3 p4 p5:Prop}(a1:p1)(a2:p2)(a3:p3)(a4:p4)(a5:p5):p1/\p2/\p3/\p4/\p5:=⟨a1,a2,a3,a4,a5⟩
theorem zr6 {p1 p2 p3 p4 p5 p6:Prop}(a1:p1)(a2:p2)(a3:p3)(a4:p4)(a5:p5)(a6:p6):p1/\p2/\p3/\p4/\p5/\p6:=⟨a1,a2,a3,a4,a5,a6⟩
theorem zr7 {p1 p2 p3 p4 p5 p6 p7:Prop}(a1:p1)(a2:p2)(a3:p3)(a4:p4)(a5:p5)(a6:p6)(a7:p7):p1/\p2/\p3/\p4/\p5/\p6/\p7:=⟨a1,a2,a3,a4,a5,a6,a7⟩
theorem zr8 {p1 p2 p3 p4 p5 p6 p7 p8:Prop}(a1:p1)(a2:p2)(a3:p3)(a4:p4)(a5:p5)(a6:p6)(a7:p7)(a8:p8):p1/\p2/\p3/\p4/\p5/\p6/\p7/\p8:=⟨a1,a2,a3,a4,a5,a6,a7,a8⟩
theorem zr9 {p1 p2 p3 p4 p5 p6 p7 p8 p9:Prop}(a1:p1)(a2:p2)(a3:p3)(a4:p4)(a5:p5)(a6:p6)(a7:p7)(a8:p8)(a9:p9):p1/\p2/\p3/\p4/\p5/\p6/\p7/\p8/\p9:=⟨a1,a2,a3,a4,a5,a6,a7,a8,a9⟩
theorem zhk {p1 p2 p3 p4 p5 p6 p7 p8 p9 p10:Prop}(a1:p1)(a2:p2)(a3:p3)(a4:p4)(a5:p5)(a6:p6)(a7:p7)(a8:p8)(a9:p9)(a10:p10):p1/\p2/\p3/\p4/\p5/\p6/\p7/\p8/\p9/\p10:=⟨a1,a2,a3,a4,a5,a6,a7,a8,a9,a10⟩
theorem ziC {p1 p2 p3 p4 p5 p6 p7 p8 p9 p10 p11:Prop}(a1:p1)(a2:p2)(a3:p3)(a4:p4)(a5:p5)(a6:p6)(a7:p7)(a8:p8)(a9:p9)(a10:p10)(a11:p11):p1/\p2/\p3/\p4/\p5/\p6/\p7/\p8/\p9/\p10/\p11:=⟨a1,a2,a3,a4,a5,a6,a7,a8,a9,a10,a11⟩
theorem zfa {p1 p2 p3 p4 p5 p6 p7 p8 p9 p10 p11 p12:Prop}(a1:p1)(a2:p2)(a3:p3)(a4:p4)(a5:p5)(a6:p6)(a7:p7)(a8:p8)(a9:p9)(a10:p10)(a11:p11)(a12:p12):p1/\p2/\p3/\p4/\p5/\p6/\p7/\p8/\p9/\p10/\p11/\p12:=⟨a1,a2,a3,a4,a5,a6,a7,a8,a9,a10,a11,a12⟩
end
section
variable {E:Env}{caught:Tr Unit}{rnd:Option Nat}{ops:List zbo}{rest:zbI}{s s':FSt}{r:List zbo}{Q:FX->FSt->Prop}{p:Prop}
theorem zbH (hF:p)(k:W E caught rnd rest s' Q)(h:p->zbe ops s=(s',[]):=by intro hF;simp(disch:=omega)only[go_sem,hF]<;>rfl):W E caught rnd (.region ops) s (zef (fun s'=>W E caught rnd rest s' Q) Q):=zgo k (h hF)
theorem zzE (hF:p)(k:WO E caught r s' (zeq ops Q))(h:p->zbe ops s=(s',r):=by intro hF;simp(disch:=omega)only[go_sem,hF]<;>rfl):W E caught rnd (.region ops) s Q:=zrg k (h hF)
theorem zcz (hF:p)(k:WO E caught r s' Q)(h:p->zbe ops s=(s',r):=by intro hF;simp(disch:=omega)only[go_sem,hF]<;>rfl):WO E caught ops s Q:=zfx k (h hF)
theorem zfr {F:zc}{R:FE->List zd->Prop}{tm:Nat->PV}{H:List zd}{vs:List PV}(k:R (.ret (zjY vs)) H)(h:zbf tm H F.res=some vs:=by simp only[go_sem]<;>rfl):zdT E F R .ret ⟨tm,[],H⟩:=zep h k
theorem zco {d:Option Nat}{args:List TOp}{g:Option (TOp×Bool)}{f:Nat}{caps vs aS:List PV}{b:Bool}{H0:List zd}{R:FE->List zd->Prop}(k:FO E f aS H0 b R)(hQ:∀e H',R e H'->zw2 E caught ops s d Q e H')(hg:zat s.tm g=some true:=by first|rfl|(simp only[go_sem]<;>rfl))(ha:evs s.tm args=some (.fn f caps::vs):=by simp only[go_sem]<;>rfl)(he:vs++caps=aS:=by rfl)(hH:s.H=H0:=by rfl):WO E caught (⟨d,.call,args,g⟩::ops) s Q:=zkQ hg ha k he hH hQ
theorem zct {x:TOp}{p q:zbI}(h1:W E caught rnd p s Q)(hx:ev s.tm x=some (.bool true):=by simp only[go_sem]<;>rfl):W E caught rnd (.cond x p q) s Q:=zng hx (fun _=>h1) (fun h=>by cases h)
theorem zcf {x:TOp}{p q:zbI}(h1:W E caught rnd q s Q)(hx:ev s.tm x=some (.bool false):=by simp only[go_sem]<;>rfl):W E caught rnd (.cond x p q) s Q:=zng hx (fun h=>by cases h) (fun _=>h1)
end
section
variable {E:Env}{caught:Tr Unit}{tm:Nat->PV}{s:DF}{Q:FX->DF->Prop}{g:zcF}{l:List zcF}{s1:DF}{o:zbo}{p:Prop}
theorem zAN (hF:p)(k:WD E caught tm l s1 Q)(hx:p->zav tm g.exe s=some s1:=by intro hF;simp(disch:=omega)only[go_sem,hF]<;>rfl)(hc:zbd s.K g.chk:=by first|exact trivial|simp only[go_sem])(ha:g.act=none:=by rfl):WD E caught tm (g::l) s Q:=zdl k (hx hF) hc ha
theorem zcI {a:AR}{nm':Nat->PV}(hF:p)(k:WD E caught tm l ⟨nm',s1.df,a.H,zaB a.W s1.K⟩ Q)(h:p->daF tm g s=some (s1,a):=by intro hF;simp(disch:=omega)only[go_sem,hF]<;>rfl)(hc:zbd s.K g.chk:=by first|exact trivial|simp only[go_sem])(ha:g.act=some o:=by rfl)(hw:zY tm s1.nm o.guard=some true:=by first|rfl|(simp only[go_sem]<;>rfl))(hn:zbg s1.nm o.dst a.v=some nm':=by simp only[go_sem]<;>rfl):WD E caught tm (g::l) s Q:=zda k (h hF) hc ha hw hn
theorem zdo {f:Nat}{caps vs aS:List PV}{same:Bool}{H0:List zd}{R:FE->List zd->Prop}(k:FO E f aS H0 same R)(hQ:∀e H',R e H'->zus E caught tm l s1 o.dst same Q e H')(h:dnF tm g s=some (s1,.fn f caps::vs))(hc:zbd s.K g.chk:=by first|exact trivial|simp only[go_sem])(ha:g.act=some o:=by rfl)(hk:o.kind=.call:=by rfl)(hw:zY tm s1.nm o.guard=some true:=by first|rfl|(simp only[go_sem]<;>rfl))(he:vs++caps=aS:=by rfl)(hH:s1.H=H0:=by rfl):WD E caught tm (g::l) s Q:=zpl hc (zhb h ha).1 ha hk hw (zhb h ha).2 k he hH hQ
theorem zAM {f:Nat}{caps vs aS:List PV}{same:Bool}{H0:List zd}{R:FE->List zd->Prop}(hF:p)(k:FO E f aS H0 same R)(hQ:∀e H',R e H'->zus E caught tm l s1 o.dst same Q e H')(h:p->dnF tm g s=some (s1,.fn f caps::vs):=by intro hF;simp(disch:=omega)only[go_sem,hF]<;>rfl)(hc:zbd s.K g.chk:=by first|exact trivial|simp only[go_sem])(ha:g.act=some o:=by rfl)(hk:o.kind=.call:=by rfl)(hw:zY tm s1.nm o.guard=some true:=by first|rfl|(simp only[go_sem]<;>rfl))(he:vs++caps=aS:=by rfl)(hH:s1.H=H0:=by rfl):WD E caught tm (g::l) s Q:=zdo k hQ (h hF) hc ha hk hw he hH
theorem zdc {f:Nat}{caps vs aS:List PV}{v:PV}{nm':Nat->PV}(hF:p)(k:FN E f aS (.ret v))(hQ:WD E caught tm l ⟨nm',s1.df,s1.H,s1.K⟩ Q)(h:p->dnF tm g s=some (s1,.fn f caps::vs):=by intro hF;simp(disch:=omega)only[go_sem,hF]<;>rfl)(hc:zbd s.K g.chk:=by first|exact trivial|simp only[go_sem])(ha:g.act=some o:=by rfl)(hk:o.kind=.call:=by rfl)(hw:zY tm s1.nm o.guard=some true:=by first|rfl|(simp only[go_sem]<;>rfl))
  (hl:LF s1.H 1 (vs++caps) aS:=by(repeat(first|exact trivial|refine And.intro ?_ ?_|exact .int _ _|exact .bool _|exact .list _ _ _|exact .elem _|exact .nilsl|exact .nil _ _|exact .str _|refine Frz.aggL ?_|refine Frz.fnL ?_|refine Frz.tupL ?_|refine .iface ?_|exact zcN rfl rfl (by assumption)))) (hn:zbg s1.nm o.dst v=some nm':=by simp only[go_sem]<;>rfl):WD E caught tm (g::l) s Q:=zdn k hQ (h hF) hc ha hk hw hl hn
end
section
variable {p P R:Prop}
theorem zG (k:R)(h:R->P:=by intro hk;(repeat(first|refine zar ?_|refine zgo ?_));exact hk):P:=h k
theorem zGF (hF:p)(k:R)(h:p->R->P:=by intro hF hk;(repeat(first|refine zar ?_|refine zbH hF ?_));exact hk):P:=h hF k
theorem zI (k:R)(h:R->P:=by intro hk;(repeat refine zar ?_);refine zrg ?_;exact hk):P:=h k
theorem zIF (hF:p)(k:R)(h:p->R->P:=by intro hF hk;(repeat refine zar ?_);refine zzE hF ?_;exact hk):P:=h hF k
theorem zJ (k:R)(h:R->P:=by intro hk;(repeat refine zar ?_);refine zrg ?_;refine zdp ?_;exact hk):P:=h k
theorem zJF (hF:p)(k:R)(h:p->R->P:=by intro hF hk;(repeat refine zar ?_);refine zzE hF ?_;refine zdp ?_;exact hk):P:=h hF k
theorem zK (k:R)(h:R->P:=by intro hk;refine zfx ?_;refine zdp ?_;exact hk):P:=h k
theorem zKF (hF:p)(k:R)(h:p->R->P:=by intro hF hk;refine zcz hF ?_;refine zdp ?_;exact hk):P:=h hF k
theorem zN (k:R)(h:R->P:=by intro hk;refine zfx ?_;refine zbY ?_;exact hk):P:=h k
theorem zNF (hF:p)(k:R)(h:p->R->P:=by intro hF hk;refine zcz hF ?_;refine zbY ?_;exact hk):P:=h hF k
theorem zO (k:R)(h:R->P:=by intro hk;(repeat(first|refine zar ?_|refine zgo ?_));refine zbG (zfr ?_);exact hk):P:=h k
theorem zOF (hF:p)(k:R)(h:p->R->P:=by intro hF hk;(repeat(first|refine zar ?_|refine zbH hF ?_));refine zbG (zfr ?_);exact hk):P:=h hF k
theorem zP (k:R)(h:R->P:=by intro hk;refine zfx ?_;refine zbY ?_;refine zbG (zfr ?_);exact hk):P:=h k
theorem zPF (hF:p)(k:R)(h:p->R->P:=by intro hF hk;refine zcz hF ?_;refine zbY ?_;refine zbG (zfr ?_);exact hk):P:=h hF k
theorem zQ (k:R)(h:R->P:=by intro hk;refine zdl ?_;refine zb3 ?_;simp only[go_sem];exact hk):P:=h k
theorem zQF (hF:p)(k:R)(h:p->R->P:=by intro hF hk;refine zAN hF ?_;refine zb3 ?_;simp only[go_sem];exact hk):P:=h hF k
theorem zS (k:R)(h:R->P:=by intro hk;(repeat(first|refine zar ?_|refine zgo ?_));refine zct ?_;exact hk):P:=h k
theorem zSF (hF:p)(k:R)(h:p->R->P:=by intro hF hk;(repeat(first|refine zar ?_|refine zbH hF ?_));refine zct ?_;exact hk):P:=h hF k
theorem zT (k:R)(h:R->P:=by intro hk;(repeat(first|refine zar ?_|refine zgo ?_));refine zcf ?_;exact hk):P:=h k
theorem zTF (hF:p)(k:R)(h:p->R->P:=by intro hF hk;(repeat(first|refine zar ?_|refine zbH hF ?_));refine zcf ?_;exact hk):P:=h hF k
theorem zU (k:R)(h:R->P:=by intro hk;refine zct ?_;(repeat(first|refine zar ?_|refine zgo ?_));refine zbG (zfr ?_);exact hk):P:=h k
theorem zB (k:R)(h:R->P:=by intro hk;(repeat refine zar ?_);exact hk):P:=h k
end
end Fv
end Go.Proofs.YtkeknmgnoceogaaGreat
namespace Go.Proofs.YtkeknmgnoceogaaGreat
namespace Fv
open Tw
variable {E:Env}
theorem HR.adopt {B:Ba}{c:Cx}{H:List zd}{h h':TH}(hr:HR B c H h)(hn:h.next<=h'.next)(hk:∀b,b<h.next->h'.get b=h.get b){b d z:Nat}(hb:h.next<=b)(hb2:b<h'.next){o:zd}(ho:OR (c.add H.length b d z) h' H.length o) :
  Mo c (c.add H.length b d z) h h'/\HR B (c.add H.length b d z) (H++[o]) h':=by
 have hnone:c.ρ H.length=none:=by
  cases hc:c.ρ H.length with
  | none=>rfl
  | some y=>have:=(hr.own _ _ hc).2.2;omega
 have m:Mo c (c.add H.length b d z) h h':=⟨fun _ _ h=>h,fun id y hy=>by
  show (if id=H.length then _ else _)=_;rw[if_neg (fun e=>by subst e;rw[hnone]at hy;cases hy)];exact hy,fun _ h=>h,fun p b hb g o n cs hc=>zoT hk hc⟩
 have hρ:∀id y,(c.add H.length b d z).ρ id=some y->(id=H.length/\y=(b,d,z))\/c.ρ id=some y:=fun id y hy=>by
  have hy:(if id=H.length then some (b,d,z)else c.ρ id)=some y:=hy
  grind
 have hle:=hr.le;refine⟨m,⟨zBJ9 hr.le hn,fun x hx=>?_,hr.old,fun p x hx=>?_,fun id y hy=>?_,fun id hL=>?_,fun id id' y y' hy hy' e=>?_,fun id o' ho'=>?_⟩⟩
 ·rw[hk x (zBC9 hx hr.le)];exact hr.keep x hx
 ·obtain⟨h1,h2⟩:=hr.S p x hx
  grind
 ·rw[zAB9];rcases hρ id y hy with⟨rfl,rfl⟩|hy
  ·grind
  ·obtain⟨h1,h2,h3⟩:=hr.own id y hy;omega
 ·obtain⟨h1,h2⟩:=hr.lz id hL
  grind
 ·rcases hρ id y hy with⟨rfl,rfl⟩|hy
  ·rcases hρ id' y' hy' with⟨rfl,rfl⟩|hy'
   ·rfl
   ·have:=(hr.own _ _ hy').2.1;dsimp only at e;omega
  ·rcases hρ id' y' hy' with⟨rfl,rfl⟩|hy'
   ·have:=(hr.own _ _ hy).2.1;dsimp only at e;omega
   ·exact hr.inj _ _ _ _ hy hy' e
 ·by_cases hi:id<H.length
  ·rw[zAS9 hi]at ho';refine(hr.obj id o' ho').move m ?_ (fun h=>h) fun y hy=>hk _ (hr.own _ _ hy).2.1;show (if id=H.length then _ else _)=_
   grind
  grind
def zww (l:List PV):Prop:=∀v∈l,∃k n,v=.int k n
theorem FO.own1 {f:Nat}{args aS:List PV}{H:List zd}{l:List PV}{e0 z n:Nat}(k:FO E f aS [] false (fun e' H'=>∃id g M,e'=.ret (.sl id g 0 n (2*n) z)/\M<=g/\H'[id]?=some (.row e0 z g M l)))(hl:LF H 1 args aS)(hi:zww (l.flatMap PV.cells))(hne:l ≠ []) :
  FO E f args H true (fun e' H'=>∃g M,e'=.ret (.sl H.length g 0 n (2*n) z)/\M<=g/\H'=H++[.row e0 z g M l]):=fun B c h us hr ha=>by
 have h1:=LF.ok hr (S:=zmk c) (fun p b hb=>.inl hb) (fun id x hx=>.inr ⟨rfl,id,x,hx,rfl⟩) hl ha;have hS:∀p b,zmk c p b->b<h.next:=fun p b hb=>by
  rcases hb with hb|⟨_,id,x,hx,rfl⟩
  ·exact(hr.S p b hb).1
  ·exact(hr.own _ _ hx).2.1
 have hr1:HR ⟨h.next,h,zmk c⟩ ⟨zmk c,fun _=>none,fun _=>False⟩ [] h:=⟨zAE9 _,fun _ _=>rfl,fun p b hb=>.inl hb,fun p b hb=>⟨hS p b hb,fun id x hx=>(by cases hx)⟩,fun id x hx=>(by cases hx),fun id hx=>hx.elim,fun id id' x x' hx=>(by cases hx),fun id o ho=>(by simp at ho)⟩
 obtain⟨r,h',e',H',c',e1,⟨id,g,M,rfl,hM,hrow⟩,m1,k1,re,_⟩:=k _ _ h us hr1 (LR.pure (c:=⟨zmk c,fun _=>none,fun _=>False⟩) h1);have hn:=k1.le;have hk:∀b,b<h.next->h'.get b=h.get b:=fun b hb=>k1.keep b hb
 cases r with
 | panic u=>exact re.elim
 | ret u =>
  have re:VR c' h' (.sl id g 0 n (2*n) z) u:=re;rcases k1.obj id _ hrow with⟨h0,_⟩|⟨b,d,G',M',cells,cs,r1,r2,r3,r4,r5,r6⟩
  ·exact absurd h0 hne
  obtain⟨o1,o2,_⟩:=k1.own id _ r1;have o1:h.next<=b:=o1;rcases sl_inv re with⟨_,_,_,_,_,hL⟩|⟨b',d',g',hρ,hgd,rfl⟩
  ·have hl1:=(k1.lz id hL).2 _ r1;dsimp only at hl1;omega
  rw[r1]at hρ;injection hρ with hρ;injection hρ with hρ1 hρ2;injection hρ2 with hρ2 hρ3;subst hρ1 hρ2;have r6':ER (VR (c.add H.length b d z) h') z l cs:=by
   refine⟨r6.one,r6.all.1,fun i x y hx hy=>?_⟩;obtain⟨kk,nn,rfl⟩:=hi x (zAJ9 hx);have:=r6.all.2 i _ y hx hy;obtain rfl:=this.int_inv;exact .pure (.int _ _)
  obtain⟨m,hr2⟩:=hr.adopt hn hk (z:=z) o1 o2 (o:=.row e0 z g M l) (.inr ⟨b,d,G',M',cells,cs,add_same ..,r2,r3,r4,r5,r6'⟩);refine⟨_,h',_,_,_,e1,⟨g,M,rfl,hM,rfl⟩,m,hr2,?_,fun _ id x hx=>hk _ (hr.own _ _ hx).2.1⟩;show VR _ h' (.sl H.length g 0 n (2*n) z) _;rw[hgd];exact .sl (add_same ..)
end Fv
end Go.Proofs.YtkeknmgnoceogaaGreat
