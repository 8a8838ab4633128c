/- part 3 of the proof of tree_reads. -/
import Derived.Test.YtfomlmhnmheenaaGreatTR2
import Derived.IntWalk
set_option linter.unusedSimpArgs false
set_option linter.unusedVariables false
namespace Go.Proofs.YtfomlmhnmheenaaGreat
namespace Fv
open Tw
variable {E:Env}{caught:Tr Unit}
def FY (E:Env)(id:Nat)(args:List PV)(H:List zn)(Q:Bool->List zn->Prop):Prop :=
 ∀B c h us b d z,HR B c H h->c.ρ id=some (b,d,z)->LR (VR c h) args us->∃r h' H' c',Ev E (fun C _=>C.rd b us h=some (r,h'))/\Q r H'/\Mo c c' h h'/\HR B c' H' h'
theorem zuq {c:Cx}{h:TH}{id:Nat}{u:TV}(x:VR c h (.yield id) u):∃b d z,c.ρ id=some (b,d,z)/\u=.yield b:=by
 cases x with
 | pure x=>cases x
 | yield h=>exact⟨_,_,_,h,rfl⟩
theorem zvb {tm:Nat->PV}{s:DF}{Q:FX->DF->Prop}{g:zb7}{l:List zb7}{s1:DF}{o:zY}{id:Nat}{vs:List PV}(hc:za1 s.K g.chk)(hx:zaq tm g.exe s=some s1)(ha:g.act=some o)(hk:o.kind=.call)(hw:zX tm s1.nm o.guard=some true)(hv:za4 tm s1.nm o.args=some (.yield id::vs))
  (k:FY E id vs s1.H fun r H'=>∃nm',za0 s1.nm o.dst (.bool r)=some nm'/\WD E caught tm l ⟨nm',s1.df,H',zaw false s1.K⟩ Q):WD E caught tm (g::l) s Q:=fun B c t d hd=>by
 obtain⟨c1,d1,e1,m1,k1⟩:=zeJ hd hx;obtain⟨us,u1,u2⟩:=zie k1.tm k1.nm hv;obtain⟨u,us',rfl,u3,u4⟩:=u2.of_cons;obtain⟨b,d',z,hρ,rfl⟩:=zuq u3;have hw':=zfN k1.tm k1.nm hw _ (zcZ.refl _);obtain⟨r,h',H',c2,f1,⟨nm',hn,q1⟩,m2,hr2⟩:=k B c1 d1.h _ _ _ _ k1.hr hρ u4;have hK:∀n',zcZ d1.nm n'->∀e∈zaw false s1.K,Ent c2 h' t n' e:=fun n' hm e he=>by
  obtain⟨he1,he2⟩:=zCY9.1 (show e∈s1.K.filter _ from he);refine(k1.K e he1).move m2 (fun id hi=>?_) hm;rw[List.isEmpty_iff]at he2;rw[he2]at hi;cases hi
 obtain⟨n',n1,k2⟩:=k1.dput (K':=zaw false s1.K) m2 hr2 (v:=.bool r) (u:=.bool r) (.pure (.bool r)) hn hK;obtain⟨r2,x,s',c',d',e2,q2,m3,k3,h2⟩:=q1 B c2 t _ k2;refine⟨r2,x,s',c',d',Ev.and2 (fun C N a b=>?_) f1 e2,q2,(m1.trans m2).trans m3,k3,h2⟩;unfold zcy;rw[zia hd hc,e1];dsimp only[cond_true];rw[ha];dsimp only;unfold zi3;rw[hw'];dsimp only;rw[u1 _ (zcZ.refl _)];dsimp only;rw[hk];simp only[act,zlk];rw[a];simp only[zoZ,ziU,Tw.dput,n1,dgo];exact b
def zaA:List Nat->List PV->(Nat->PV)->(Nat->PV)
 | p::ps,v::vs,t=>zaA ps vs (upd t p v)
 | _,_,t=>t
theorem zrK {c:Cx}{h:TH}:∀{ps:List Nat} {vs:List PV} {us:List TV} {tm:Nat->PV} {t:Tr TV},LR (VR c h) vs us->tmR c h tm t->tmR c h (zaA ps vs tm) (zgG ps us t)
 | [],vs,us,tm,t,hl,k=>by cases vs<;>cases us<;>exact k
 | p::ps,[],us,tm,t,hl,k=>by obtain rfl:=hl.of_nil;exact k
 | p::ps,v::vs,us,tm,t,hl,k=>by
  obtain⟨u,us',rfl,h1,h2⟩:=hl.of_cons;show tmR c h (zaA ps vs (upd tm p v)) (zgG ps us' (t.set p (some u)));exact zrK h2 (k.put h1)
def zy9 (id:Nat)(Q:Bool->List zn->Prop):FX->FSt->Prop
 | .norm,s=>s.df=[]/\∃st pe tm ps aS bo m,s.H[id]?=some (.loop st pe tm ps aS bo m)/\Q true (s.H.set id (.loop .ready .norm tm ps aS bo m))
 | .panic _,_=>False
 | x,s=>s.df=[]/\∃st pe tm ps aS bo m,s.H[id]?=some (.loop st pe tm ps aS bo m)/\Q false (s.H.set id (.loop .done x tm ps aS bo m))
theorem ziM {B:Ba}{c:Cx}{H:List zn}{h:TH}(k:HR B c H h){id m:Nat}{st:LoopState}{pe:FX}{tm:Nat->PV}{ps:List Nat}{aS bo:zbl}(hH:H[id]?=some (.loop st pe tm ps aS bo m)){b d z:Nat}(hρ:c.ρ id=some (b,d,z)) :
  ∃bm dm zm t pe',c.ρ m=some (bm,dm,zm)/\h.get b=some (.loop st pe' t ps aS bo bm)/\tmR c h tm t/\XR c h pe pe':=by
 obtain⟨b',d',z',bm,dm,zm,t,pe',h1,h2⟩:=k.obj _ _ hH;rw[hρ]at h1;injection h1 with h1;injection h1 with h1 _;subst h1;exact⟨bm,dm,zm,t,pe',h2⟩
theorem zlb {B:Ba}{c:Cx}{H:List zn}{h:TH}(k:HR B c H h){id b d z m bm dm zm:Nat}(hρ:c.ρ id=some (b,d,z))(hv:¬H[id]?=some .void)(hm:c.ρ m=some (bm,dm,zm)){st:LoopState}{pe:FX}{pe':TX}{tm:Nat->PV}{t:Tr TV}{ps:List Nat}{aS bo:zbl}(ht:tmR c h tm t)(hp:XR c h pe pe') :
  Mo c c h (h.set b (.loop st pe' t ps aS bo bm))/\HR B c (H.set id (.loop st pe tm ps aS bo m)) (h.set b (.loop st pe' t ps aS bo bm)) :=
 k.set hρ hv fun mm=>⟨b,d,z,bm,dm,zm,t,pe',hρ,hm,by rw[TH.get_set _ _ _ _ (k.own _ _ hρ).2.1,if_pos rfl],ht.mono mm,hp.mono mm⟩
theorem zx1 (E:Env)(N:Nat):(EN E N).N=N:=rfl
theorem zvf {id m:Nat}{pe:FX}{tm:Nat->PV}{ps:List Nat}{aS bo:zbl}{H:List zn}{args:List PV}{Q:Bool->List zn->Prop}{st:LoopState}(hH:H[id]?=some (.loop st pe tm ps aS bo m))(hl:ps.length=args.length)
  (kW:W E .nil (some id) aS ⟨zaA ps args tm,[],H⟩ fun x s1=>x=.norm/\∃pe1 tm1 ps1 as1 bo1 m1,s1.H[id]?=some (.loop .ready pe1 tm1 ps1 as1 bo1 m1) /\
   W E .nil (some id) bo ⟨s1.tm,s1.df,s1.H.set id (.loop .busy pe1 tm1 ps1 as1 bo1 m1)⟩ (zy9 id Q)):FY E id args H Q:=fun B c h us b d z hr hρ ha=>by
 obtain⟨bm,dm,zm,t,pe',hm,hg,ht,hp⟩:=ziM hr hH hρ;obtain⟨x',t1,x,s1,c1,e1,⟨rfl,pe1,tm1,ps1,as1,bo1,m1,hH1,kW2⟩,hx,mo1,k1⟩:=kW B c ⟨zgG ps us t,[],h⟩ (some b) ⟨hr,zrK ha ht,trivial⟩ ⟨d,z,hρ⟩
 cases hx
 have hρ1:=mo1.ρ _ _ hρ;obtain⟨bm1,dm1,zm1,tt1,pe1',hm1,hg1,ht1,hp1⟩:=ziM k1.hr hH1 hρ1;obtain⟨mo2,hr2⟩:=zlb k1.hr (st:=.busy) (ps:=ps1) (aS:=as1) (bo:=bo1) hρ1 (fun e=>by rw[hH1]at e;cases e) hm1 ht1 hp1;obtain⟨x',t3,x,s3,c3,e3,q3,hx,mo3,k3⟩:=kW2 B c1 ⟨t1.tm,t1.df,t1.h.set b (.loop .busy pe1' tt1 ps1 as1 bo1 bm1)⟩ (some b) ⟨hr2,k1.tm.mono mo2,k1.df.mono mo2⟩ ⟨d,z,hρ1⟩;have hρ3:=mo3.ρ _ _ hρ1;have run:∀r h',zhd b (some (x',t3))=some (r,h')->Ev E (fun C _=>C.rd b us h=some (r,h')):=fun r h' hre=>by
  obtain⟨K,hK⟩:=e1;obtain⟨L,hL⟩:=e3;refine⟨max K L+1,fun N hN d hd=>?_⟩;obtain⟨d,rfl⟩:∃i,d=i+1:=⟨d-1,by omega⟩
  show zmN (EN E N) (zcK (EN E N) d) b us h=_;unfold zmN;rw[hg];dsimp only;unfold zqI;dsimp only;rw[zby (by rw[<- ha.1];exact hl)];dsimp only[cond_true];rw[zx1,hK N (by omega) d (by omega)];unfold zvg;dsimp only;rw[hg1];dsimp only;unfold zpA;dsimp only;rw[zx1,hL N (by omega) d (by omega)];exact hre
 have fin:∀(r:Bool) (st:LoopState) (pen:FX) (pen':TX),XR c3 t3.h pen pen'->s3.df=[]->(∀st2 pe2 tt2 ps2 as2 bo2 bm2,zsl x' t3.h b (.loop st2 pe2 tt2 ps2 as2 bo2 bm2)=some (r,t3.h.set b (.loop st pen' tt2 ps2 as2 bo2 bm2))) ->
   (∃st2 pe2 tm2 ps2 as2 bo2 m2,s3.H[id]?=some (.loop st2 pe2 tm2 ps2 as2 bo2 m2)/\Q r (s3.H.set id (.loop st pen tm2 ps2 as2 bo2 m2))) ->
   ∃r h' H' c',Ev E (fun C _=>C.rd b us h=some (r,h'))/\Q r H'/\Mo c c' h h'/\HR B c' H' h':=fun r st pen pen' hxr hdf hj ⟨st2,pe2,tm2,ps2,as2,bo2,m2,hH3,q⟩=>by
  obtain⟨bm3,dm3,zm3,tt3,pe3',hm3,hg3,ht3,hp3⟩:=ziM k3.hr hH3 hρ3;obtain⟨mo4,hr4⟩:=zlb k3.hr (st:=st) (ps:=ps2) (aS:=as2) (bo:=bo2) hρ3 (fun e=>by rw[hH3]at e;cases e) hm3 ht3 hxr;have hd0:t3.df=[]:=by
   have:=k3.df;rw[hdf]at this
   cases h0:t3.df with
   | nil=>rfl
   | cons a l=>rw[h0]at this;exact this.elim
  refine⟨r,_,_,c3,run r _ ?_,q,((mo1.trans mo2).trans mo3).trans mo4,hr4⟩;unfold zhd;dsimp only;rw[hd0];dsimp only;rw[hg3];exact hj ..
 cases hx with
 | norm=>exact fin true .ready .norm .norm .norm q3.1 (fun _ _ _ _ _ _ _=>rfl) q3.2
 | exit j=>exact fin false .done (.exit j) (.exit j) (.exit j) q3.1 (fun _ _ _ _ _ _ _=>rfl) q3.2
 | goto j=>exact fin false .done (.goto j) (.goto j) (.goto j) q3.1 (fun _ _ _ _ _ _ _=>rfl) q3.2
 | ret=>exact fin false .done .ret .ret .ret q3.1 (fun _ _ _ _ _ _ _=>rfl) q3.2
 | panic hv=>exact q3.elim
theorem zuV {f:TOp}{ps:List Nat}{aS bo:zbl}{s:FSt}{Q:FX->FSt->Prop}{g:Nat}{cap:List PV}{b:Bool}(hf:ev s.tm f=some (.fn g cap))
  (k:FO E g (.yield (s.H.length+1)::cap) (s.H++[.dfr false]++[.loop .ready .norm s.tm ps aS bo s.H.length]) b fun e H'=>(∃v,e=.ret v)/\∃st pe tm ps aS bo m,st ≠ .busy/\H'[s.H.length+1]?=some (.loop st pe tm ps aS bo m)/\Q pe ⟨s.tm,.mark s.H.length::s.df,H'.set (s.H.length+1) (.loop .exhausted pe tm ps aS bo m)⟩) :
  W E caught none (.rangef f ps aS bo) s Q:=fun B c t rnd' hs hn=>by
 obtain rfl:rnd'=none:=by cases rnd' with|none=>rfl|some x=>exact hn.elim
 obtain⟨u,u1,u2⟩:=zio hs.tm hf;obtain⟨cs,rfl,u3⟩:=u2.fn_inv;obtain⟨m1,k1⟩:=hs.hr.push (o:=.dfr false) (x:=.dfr false) (z:=0) fun m=>⟨t.h.next,0,0,add_same ..,by rw[TH.get_push,if_pos rfl]⟩
 have hlen:(s.H++[zn.dfr false]).length=s.H.length+1:=by simp
 obtain⟨m2,k2⟩:=k1.push (o:=.loop .ready .norm s.tm ps aS bo s.H.length) (x:=.loop .ready .norm t.tm ps aS bo t.h.next) (z:=0) fun m=>by
  rw[hlen]at m⊢;refine⟨(t.h.push (.dfr false)).next,0,0,t.h.next,0,0,t.tm,.norm,add_same ..,?_,by rw[TH.get_push,if_pos rfl],(hs.tm.mono m1).mono m,.norm⟩;exact m.ρ _ _ (add_same ..)
 rw[hlen]at m2 k2;have hρ0:((c.add s.H.length t.h.next 0 0).add (s.H.length+1) (t.h.push (.dfr false)).next 0 0).ρ s.H.length=some (t.h.next,0,0):=m2.ρ _ _ (add_same ..);have hρ1:((c.add s.H.length t.h.next 0 0).add (s.H.length+1) (t.h.push (.dfr false)).next 0 0).ρ (s.H.length+1)=some (t.h.next+1,0,0):=add_same ..;obtain⟨r,h',e,H',c',e1,⟨⟨v,rfl⟩,st,pe,tm,ps',as',bo',m',hst,hH',hQ⟩,m3,k3,re,_⟩:=k B _ _ (.yield (t.h.next+1)::cs) k2 (LR.cons (.yield hρ1) ((u3.mono fun _ _=>VR.mono m1).mono fun _ _=>VR.mono m2))
 cases r with
 | panic u=>exact re.elim
 | ret u =>
  have hρ2:=m3.ρ _ _ hρ1;obtain⟨bm,dm,zm,tt,pe',hm,hg,ht,hp⟩:=ziM k3 hH' hρ2;obtain⟨m4,k4⟩:=zlb k3 (st:=.exhausted) (ps:=ps') (aS:=as') (bo:=bo') hρ2 (fun e=>by rw[hH']at e;cases e) hm ht hp;have mall:=((m1.trans m2).trans m3).trans m4;refine⟨pe',⟨t.tm,.mark t.h.next::t.df,h'.set (t.h.next+1) (.loop .exhausted pe' tt ps' as' bo' bm)⟩,pe,_,c',e1.mono fun C N a=>?_,hQ,hp.mono m4,mall,⟨k4,hs.tm.mono mall,⟨⟨0,0,m3.ρ _ _ hρ0⟩,hs.df.mono mall⟩⟩⟩;unfold zbc;rw[u1];simp only[zmx,zjB];have a:C.fn g (.yield (t.h.next+1)::cs) ((t.h.push (.dfr false)).push (.loop .ready .norm t.tm ps aS bo t.h.next))=some (.ret u,h'):=a;rw[a];simp only[zqb];rw[hg];simp only[zwt]
  all_goals (cases st<;>first|rfl|exact absurd rfl hst)
end Fv
end Go.Proofs.YtfomlmhnmheenaaGreat
namespace Go.Proofs.YtfomlmhnmheenaaGreat
open Go.RowKit
namespace Fv
open Tw
inductive CI (w:World):PV->Value->Prop
 | bool (b:Bool):CI w (.bool b) (.bool b)
 | int (k:IntKind) (n:Int):CI w (.int k n) (.int k n)
 | str (s:ByteArray):CI w (.str (s.data.toList.map (·.toNat))) (.string s)
 | nilsl (p z:Nat):CI w (.list p z []) (.slice none 0 0)
 | list {p z:Nat} {l:List PV} {r off c:Nat} {cs:List Value}:r<w.heap.size->l.length<=c->c<=maxLen->(∀v∈l,v.cells.length=z)->(l.flatMap PV.cells).length=cs.length ->
   (∀(i:Nat) (x:PV) (y:Value),(l.flatMap PV.cells)[i]?=some x->cs[i]?=some y->CI w x y)->(∀(j:Nat) v,cs[j]?=some v->w.cell? ⟨r,off+j,none⟩=some v)->(∀x∈l.flatMap PV.cells,zao x=true)->CI w (.list p z l) (.slice (some ⟨r,off,none⟩) l.length c)
 | agg {l:List PV} {cs:List Value}:l.length=cs.length->(∀(i:Nat) (x:PV) (y:Value),l[i]?=some x->cs[i]?=some y->CI w x y)->(∀x∈l,zao x=true)->CI w (.agg l) (.agg cs.toArray)
def All (n:Nat):zdT:=fun _ b=>b<n
variable {P:Program}{w:World}
theorem zue {S:zdT}{h:TH}{v:PV}{u:TV}(k:PR S h v u)(h1:zao v=true):u.one=true:=by
 cases k<;>first|rfl|cases h1
structure zdW (P:Program)(w:World)(ρ:Rho)(h:TH)(ρ':Rho)(h':TH):Prop where
 wr:WR P w.heap.size ρ' h' w
 more:∀b g loc,ρ b g=some loc->ρ' b g=some loc
 le:h.next<=h'.next
 keep:∀b,b<h.next->h'.get b=h.get b
theorem zdW.refl {ρ:Rho}{h:TH}(k:WR P w.heap.size ρ h w):zdW P w ρ h ρ h:=⟨k,fun _ _ _ h=>h,zAM9 _,fun _ _=>rfl⟩
theorem zdW.trans {ρ ρ' ρ'':Rho}{h h' h'':TH}(a:zdW P w ρ h ρ' h')(b:zdW P w ρ' h' ρ'' h''):zdW P w ρ h ρ'' h'' :=
 ⟨b.wr,fun x g loc hx=>b.more _ _ _ (a.more _ _ _ hx),zBN9 a.le b.le,fun x hx=>by rw[b.keep x (zBE9 hx a.le),a.keep x hx]⟩
theorem zdW.pr {ρ ρ':Rho}{h h':TH}(a:zdW P w ρ h ρ' h'){v:PV}{u:TV}(k:PR (All h.next) h v u):PR (All h'.next) h' v u :=
 k.mono (fun _ _ hb=>zBE9 hb a.le) fun _ _ _ _ _ _ _ hr=>zrB a.keep hr
theorem zhC {R:PV->Value->Prop}(hR:∀x y,R x y->∀ρ h,WR P w.heap.size ρ h w->∃ρ' h' u,zdW P w ρ h ρ' h'/\PR (All h'.next) h' x u/\Tw.VR ρ' u y) :
  ∀{l:List PV} {cs:List Value},l.length=cs.length->(∀(i:Nat) (x:PV) (y:Value),l[i]?=some x->cs[i]?=some y->R x y)->∀ρ h,WR P w.heap.size ρ h w->∃ρ' h' us,zdW P w ρ h ρ' h'/\LR (PR (All h'.next) h') l us/\VL ρ' us cs
 | [],[],_,_,ρ,h,k=>⟨ρ,h,[],zdW.refl k,LR.nil,VL.nil _⟩
 | [],_::_,hl,_,_,_,_=>by simp at hl
 | _::_,[],hl,_,_,_,_=>by simp at hl
 | x::l,y::cs,hl,hp,ρ,h,k=>by
  obtain⟨ρ1,h1,u,c1,p1,v1⟩:=hR x y (hp 0 x y rfl rfl) ρ h k;obtain⟨ρ2,h2,us,c2,p2,v2⟩:=zhC hR (l:=l) (cs:=cs) (by simpa using hl) (fun i a b ha hb=>hp (i+1) a b (by simpa using ha) (by simpa using hb)) ρ1 h1 c1.wr;exact⟨ρ2,h2,u::us,c1.trans c2,LR.cons (c2.pr p1) p2,.cons (v1.mono c2.more) v2⟩
theorem zwS {ρ:Rho}{h:TH}(k:WR P w.heap.size ρ h w){r L:Nat}(hr:r<w.heap.size){cells:Tr TV}(hc:∀i x,cells.get i=some x->∃v,w.cell? ⟨r,i,none⟩=some v/\x.one=true/\Tw.VR ρ x v) :
  zdW P w ρ h (ρ.add h.next 0 ⟨r,L,0⟩) (h.push (.ro cells)):=by
 have hn:∀g,ρ h.next g=none:=fun g=>by
  cases hg:ρ h.next g with
  | none=>rfl
  | some loc=>have:=(k.dom _ _ _ hg).1;omega
 have hm:=Rho.add_more (loc:=⟨r,L,0⟩) (hn 0);have k1:=k.push (.ro cells);refine⟨⟨fun b g loc hl=>?_,fun b g loc hl=>?_,fun b b' g g' loc loc' hl hl' e hZ=>?_⟩,hm,by rw[TH.next_push];omega,fun b hb=>by rw[TH.get_push,if_neg (by omega)]⟩
 ·rcases Rho.add_inv hl with⟨rfl,rfl,rfl⟩|hl
  ·exact⟨by rw[TH.next_push];omega,.inr ⟨cells,by rw[TH.get_push,if_pos rfl]⟩,hr⟩
  ·exact k1.dom b g loc hl
 ·by_cases hb:b=h.next
  ·subst hb;refine⟨.ro cells,by rw[TH.get_push,if_pos rfl],fun g' loc' hl'=>?_⟩;rcases Rho.add_inv hl' with⟨_,rfl,rfl⟩|hl'
   ·refine⟨rfl,fun i x hx=>?_⟩;obtain⟨v,v1,v2,v3⟩:=hc i x hx;exact⟨v,v1,v2,v3.mono hm⟩
   ·rw[hn]at hl';cases hl'
  ·have hl':ρ b g=some loc:=by rw[<- hl,Rho.add_ne hb]
   obtain⟨o,ho,hor⟩:=k1.obj b g loc hl';exact⟨o,ho,hor.move hm (fun g=>Rho.add_ne hb g) fun _ _ _=>rfl⟩
 ·rcases Rho.add_inv hl with⟨_,_,rfl⟩|ha
  ·dsimp only at hZ;omega
  ·rcases Rho.add_inv hl' with⟨_,_,rfl⟩|ha'
   ·dsimp only at e;omega
   ·exact k.sep _ _ _ _ _ _ ha ha' e hZ
theorem CI.lay {v:PV}{v':Value}(a:CI w v v'):∀ρ h,WR P w.heap.size ρ h w->∃ρ' h' u,zdW P w ρ h ρ' h'/\PR (All h'.next) h' v u/\Tw.VR ρ' u v':=by
 induction a with
 | bool b=>intro ρ h k;exact⟨ρ,h,_,zdW.refl k,.bool b,.bool b⟩
 | int kk n=>intro ρ h k;exact⟨ρ,h,_,zdW.refl k,.int kk n,.int kk n⟩
 | str s=>intro ρ h k;exact⟨ρ,h,_,zdW.refl k,.str _,.str s⟩
 | nilsl p z=>intro ρ h k;exact⟨ρ,h,_,zdW.refl k,.listnil p z,.nilsl⟩
 | @list p z l r off c cs hr hlc hcm hz hlen _ hcell hone ih =>
  intro ρ h k;obtain⟨ρ1,h1,us,c1,p1,v1⟩:=zhC (R:=fun x y=>∀ρ h,WR P w.heap.size ρ h w->∃ρ' h' u,zdW P w ρ h ρ' h'/\PR (All h'.next) h' x u/\Tw.VR ρ' u y) (fun _ _ h=>h) hlen ih ρ h k;have hul:us.length=l.length*z:=by rw[<- p1.1,zkO hz]
  have hget:∀i x,(Tr.putL .nil off us).get i=some x->∃v,w.cell? ⟨r,i,none⟩=some v/\x.one=true/\Tw.VR ρ1 x v:=fun i x hx=>by
   rw[Tr.get_putL]at hx
   split at hx
   ·rename_i hi;have hi2:i-off<cs.length:=by rw[<- v1.1];omega
    have hi3:i-off<(l.flatMap PV.cells).length:=by rw[p1.1];omega
    refine⟨cs[i-off],?_,?_,v1.2 _ _ _ hx (zAB9 hi2)⟩
    ·have:=hcell (i-off) _ (zAB9 hi2)
     rwa [show off+(i-off)=i by omega]at this
    ·exact zue (p1.2 _ _ _ (zAB9 hi3) hx) (hone _ (zBP9 hi3))
   ·rw[Tr.get_nil]at hx;cases hx
  have c2:=zwS c1.wr (L:=off+l.length*z) hr hget;refine⟨_,_,.sl h1.next 0 off l.length (2*l.length+1) z,c1.trans c2,?_,?_⟩
  ·have hrd:zbs (h1.push (.ro (Tr.putL .nil off us))) h1.next 0 off (l.length*z)=some us:=by
    refine zfr (x:=.ro (Tr.putL .nil off us)) (by rw[TH.get_push,if_pos rfl]) ?_;unfold zgg;dsimp only;rw[zby rfl,<- hul];exact zgP fun j hj=>by rw[Tr.get_putL,if_pos (by omega)];congr 1;omega
   have p2:=p1.mono fun _ _=>c2.pr;exact .list (show h1.next<(h1.push (.ro (Tr.putL .nil off us))).next by rw[TH.next_push];omega) hrd (by omega) hz p2.1 p2.2
  ·refine .sl (loc:=⟨r,off+l.length*z,0⟩) (Rho.add_same _ _ _ _) (by omega) (by omega) ?_ (.inl rfl) (fun h=>by omega) hcm;have:(2*l.length+1)/2=l.length:=by omega
   rw[this];exact zAM9 _
 | @agg l cs hlen _ hone ih =>
  intro ρ h k;obtain⟨ρ1,h1,us,c1,p1,v1⟩:=zhC (R:=fun x y=>∀ρ h,WR P w.heap.size ρ h w->∃ρ' h' u,zdW P w ρ h ρ' h'/\PR (All h'.next) h' x u/\Tw.VR ρ' u y) (fun _ _ h=>h) hlen ih ρ h k;refine⟨ρ1,h1,.agg us,c1,.agg p1.1 p1.2,Tw.VR.aggL v1 fun x hx=>?_⟩;obtain⟨i,hi,rfl⟩:=zBJ9.1 hx;have hi2:i<l.length:=by rw[p1.1];exact hi
  exact zue (p1.2 _ _ _ (zAB9 hi2) (zAB9 hi)) (hone _ (zBP9 hi2))
theorem zfq.EN {E:Env}(h:zfq P E)(N:Nat):zfq P (EN E N):=⟨h.mix,h.fn,h.spec,h.caught⟩
theorem FP.real {E:Env}(hE:zfq P E){f:Nat}{args:List PV}{b:Bool}(k:FP E f args (.ret (.bool b))){args':List Value}(hl:args.length=args'.length)(ha:∀(i:Nat) (x:PV) (y:Value),args[i]?=some x->args'[i]?=some y->CI w x y) :
  (∀w,(callFunc f args'.toArray).run P w=.ok (.enter f args'.toArray) w)/\CallsIn (Fr none) 0 P f args'.toArray w fun e w'=>e=.returned (.bool b)/\Below w.heap.size w w':=by
 obtain⟨ρ,h,us,c1,p1,v1⟩:=zhC (R:=CI w) (fun x y a=>a.lay) hl ha _ _ (WR.start w);obtain⟨r,h',⟨K,hK⟩,_,_,re⟩:=k (All h.next) h us (fun _ _ hb=>hb) p1
 cases r with
 | panic u=>exact re.elim
 | ret u =>
  have hu:u=.bool b:=by
   have re:PR _ h' (.bool b) u:=re
   cases re;rfl
  subst hu;obtain⟨q1,q2⟩:=(ziQ (zfq.EN hE K) K).1 f us h _ h' (hK K (zAM9 _) K (zAM9 _)) w.heap.size ρ w args' c1.wr (zAM9 _) v1;refine⟨q1,q2.mono ?_⟩;rintro e w' ⟨ρ',_,_,hb,_,v',rfl,hv⟩
  cases hv
  exact⟨rfl,hb⟩
theorem FP.calls {E:Env}(hE:zfq P E){f:Nat}{args:List PV}{b:Bool}(k:FP E f args (.ret (.bool b))){args':List Value}(hl:args.length=args'.length)(ha:∀(i:Nat) (x:PV) (y:Value),args[i]?=some x->args'[i]?=some y->CI w x y) :
  Calls P f args'.toArray w fun e w'=>e=.returned (.bool b)/\Below w.heap.size w w':=callsIn_wide.1 (FP.real hE k hl ha).2
theorem zxr {E:Env}{f:Nat}{g:List TV->TH->Option (TE×TH)}(hf:E.funcs.get f=none)(hg:E.spec f=some g){args:List PV}{e:FE}
  (k:∀S h us,(∀p b,S p b->b<h.next)->LR (PR S h) args us->∃r h',g us h=some (r,h')/\h.next<=h'.next/\(∀b,b<h.next->h'.get b=h.get b)/\RE (PR (S0 S h.next h'.next) h') e r):FN E f args e:=fun S h us hS ha=>by
 obtain⟨r,h',h1,h2⟩:=k S h us hS ha;refine⟨r,h',⟨1,fun N hN d hd=>?_⟩,h2⟩;obtain⟨d,rfl⟩:∃i,d=i+1:=⟨d-1,by omega⟩
 show zaZ (EN E N) (zcK (EN E N) d) f us h=_;unfold zaZ;rw[show (EN E N).funcs.get f=none from hf];dsimp only;rw[show (EN E N).spec f=some g from hg];exact h1
def zlt (us:List TV)(h:TH):Option (TE×TH):=match us with
 | []=>some (.ret (.bool true),h)
 | _=>none
theorem zxk {E:Env}{f:Nat}(hf:E.funcs.get f=none)(hg:E.spec f=some zlt):FN E f [] (.ret (.bool true)) :=
 zxr hf hg fun S h us hS ha=>by
  obtain rfl:=ha.of_nil;exact⟨_,h,rfl,zAM9 _,fun _ _=>rfl,.bool true⟩
theorem zxv {f:Nat}(henter:∀w,(callFunc f #[]).run P w=.ok (.enter f #[]) w)(h:∀w,CallsIn (Fr none) 0 P f #[] w fun e w'=>e=.returned (.bool true)/\Below w.heap.size w w') :
  ∀(Z:Nat) (ρ:Rho) (w:World) (args:List TV) (args':List Value) (h:TH) (r:TE) (h':TH),zlt args h=some (r,h')->WR P Z ρ h w->Z<=w.heap.size->VL ρ args args' ->
  (∀w,(callFunc f args'.toArray).run P w=.ok (.enter f args'.toArray) w)/\CallsIn (Fr none) 0 P f args'.toArray w (zhS P Z ρ h h' w r):=by
 intro Z ρ w args args' hh r h' hr k hZ hv;unfold zlt at hr
 split at hr
 ·obtain rfl:=hv.of_nil;injection hr with hr;injection hr with hr1 hr2;subst hr1;subst hr2;refine⟨henter,(h w).mono ?_⟩;rintro e w' ⟨rfl,hb⟩;exact⟨ρ,Rho.le.refl _ _,k.world hb.size fun r hr=>hb.block r hr,⟨hb.os,hb.tape,hb.output,hb.size,fun j hj=>hb.block j (zBE9 hj hZ)⟩,zAM9 _,_,rfl,.bool true⟩
 ·cases hr
end Fv
end Go.Proofs.YtfomlmhnmheenaaGreat
namespace Go.Proofs.YtfomlmhnmheenaaGreat
namespace Fv
open Tw
section plain
variable (k k':IntKind)(x y:Int)
theorem zeh:Nat.beq (kno k) (kno k)=true:=zby rfl
theorem zaS:sc2 (zcR .add) [.int k x,.int k y]=some (.int k (k.wrap (x+y))):=by simp[sc2,PV.toT,zcR,zeI,zfl,zeh,ofT]
theorem zaQ:sc2 (zcR .sub) [.int k x,.int k y]=some (.int k (k.wrap (x-y))):=by simp[sc2,PV.toT,zcR,zeI,zfl,zeh,ofT]
theorem zaR:sc2 (zcR .mul) [.int k x,.int k y]=some (.int k (k.wrap (x*y))):=by simp[sc2,PV.toT,zcR,zeI,zfl,zeh,ofT]
theorem zaG (h:y≠0):sc2 (zcR .quo) [.int k x,.int k y]=some (.int k (k.wrap (x.tdiv y))):=by
 have:(y==0)=false:=by simpa using h
 simp[sc2,PV.toT,zcR,zeI,zfl,zeh,ofT,zcD,this]
theorem zax (h:y≠0):sc2 (zcR .rem) [.int k x,.int k y]=some (.int k (x.tmod y)):=by
 have:(y==0)=false:=by simpa using h
 simp[sc2,PV.toT,zcR,zeI,zfl,zeh,ofT,zcD,this]
theorem zaL:sc2 (zcR .eql) [.int k x,.int k y]=some (.bool (decide (x=y))):=by
 simp[sc2,PV.toT,zcR,zeI,zfl,zeh,ofT,zcD];rfl
theorem zaP:sc2 (zcR .neq) [.int k x,.int k y]=some (.bool (!decide (x=y))):=by
 simp[sc2,PV.toT,zcR,zeI,zfl,zeh,ofT,zcD];rfl
theorem zaT:sc2 (zcR .lss) [.int k x,.int k y]=some (.bool (decide (x<y))):=by
 simp[sc2,PV.toT,zcR,zeI,zfl,zeh,ofT,zd7]
 by_cases h:x<y
 ·simp[h]
 ·simp[h];omega
theorem zaM:sc2 (zcR .leq) [.int k x,.int k y]=some (.bool (decide (x<=y))):=by
 simp[sc2,PV.toT,zcR,zeI,zfl,zeh,ofT,zd7]
theorem zaY:sc2 (zcR .gtr) [.int k x,.int k y]=some (.bool (decide (y<x))):=by
 simp[sc2,PV.toT,zcR,zeI,zfl,zeh,ofT,zd7]
 by_cases h:y<x
 ·simp[h]
 ·simp[h];omega
theorem zaO:sc2 (zcR .geq) [.int k x,.int k y]=some (.bool (decide (y<=x))):=by
 simp[sc2,PV.toT,zcR,zeI,zfl,zeh,ofT,zd7]
theorem zar:sc1 (zkb k) [.int k' x]=some (.int k (k.wrap x)):=by simp[sc1,PV.toT,zkb,ofT]
theorem zaV (b:Bool):sc1 (pUn .not) [.bool b]=some (.bool (!b)):=by simp[sc1,PV.toT,pUn,zvH,ofT]
theorem zaU:sc1 (pUn .neg) [.int k x]=some (.int k (k.wrap (0-x))):=by simp[sc1,PV.toT,pUn,zvx,ofT]
theorem zaX (a b:Bool):sc2 (znb false) [.bool a,.bool b]=some (.bool (a==b)):=by cases a<;>cases b<;>rfl
theorem zaW (a b:Bool):sc2 (znb true) [.bool a,.bool b]=some (.bool (!(a==b))):=by cases a<;>cases b<;>rfl
theorem zaK:sc2 (zhO true) [.int k x,.int k y]=some (.int k (max x y)):=by
 simp[sc2,PV.toT,zhO,zeh,ofT,zd7]
 by_cases h:y<=x
 ·simp[h];omega
 ·simp[h];omega
theorem zaN:sc2 (zhO false) [.int k x,.int k y]=some (.int k (min x y)):=by
 simp[sc2,PV.toT,zhO,zeh,ofT,zd7]
 by_cases h:x<=y
 ·simp[h];omega
 ·simp[h];omega
end plain
theorem zb1 (tm:Nat->PV){d t:Nat}(v:PV)(h:t≠d):upd tm d v t=tm t:=if_neg h
theorem zQ (tm:Nat->PV)(df:List FD)(H:List zn)(d:Nat)(v:PV):FSt.put ⟨tm,df,H⟩ (some d) v=⟨upd tm d v,df,H⟩:=rfl
theorem zR (s:FSt)(v:PV):s.put none v=s:=rfl
theorem wrap_i64 {x:Int}(h1:-9223372036854775808<=x)(h2:x<9223372036854775808):IntKind.i64.wrap x=x:=IntWalk.i64_in x (by omega)
theorem zJ {x:Int}(h1:0<=x)(h2:x<18446744073709551616):IntKind.u64.wrap x=x:=IntWalk.u64_in x (by omega)
theorem zh {E:Env}{caught:Tr Unit}{rnd:Option Nat}{ops:List zY}{rest:zbl}{s:FSt}{Q:FX->FSt->Prop}(k:W E caught rnd rest s Q):WO E caught [] s (zd ops (zb (fun s'=>W E caught rnd rest s' Q) Q)):=zgi k
theorem zy {E:Env}{caught:Tr Unit}{ops:List zY}{s:FSt}{Q:FX->FSt->Prop}(k:Q .norm s):WO E caught [] s (zd ops Q):=zgi k
theorem zj {E:Env}{F:zC}{R:FE->List zn->Prop}{tm:Nat->PV}{H:List zn}{vs:List PV}(h:zE tm H F.res=some vs)(k:R (.ret (zG vs)) H):zcT E F R .ret ⟨tm,[],H⟩:=⟨vs,h,k⟩
theorem zvJ {E:Env}{F:zC}{R:FE->List zn->Prop}{tm:Nat->PV}{H:List zn}{vs:List PV}(h:zE tm H F.res=some vs)(k:R (.ret (zG vs)) H):zcT E F R .norm ⟨tm,[],H⟩:=⟨vs,h,k⟩
@[reducible] def iv (n:Int):PV:=.int .i64 n
@[reducible] def uv (n:Nat):PV:=.int .u64 n
theorem Lb.unit:Lb (.tuple []):=.tuple (fun x h=>by cases h)
def zaZ:List zY->FSt->FSt×List zY
 | [],s=>(s,[])
 | o::l,s=>match zaz o s with
  | some s'=>zaZ l s'
  | none=>(s,o::l)
theorem zlT {E:Env}{caught:Tr Unit}{Q:FX->FSt->Prop}{s':FSt}{r:List zY}:∀{ops:List zY} {s:FSt},zaZ ops s=(s',r)->WO E caught r s' Q->WO E caught ops s Q
 | [],s,h,k=>by simp only[zaZ]at h;injection h with h1 h2;subst h1;subst h2;exact k
 | o::l,s,h,k=>by
  simp only[zaZ]at h
  split at h
  ·rename_i s1 h1;exact zw0 h1 (zlT h k)
  ·injection h with h1 h2;subst h1;subst h2;exact k
theorem zN {E:Env}{caught:Tr Unit}{rnd:Option Nat}{x:TOp}{id:Nat}{rest:zbl}{s:FSt}{Q:FX->FSt->Prop}{b:Bool}(hx:ev s.tm x=some (.bool b))(h1:b=true->W E caught rnd rest s Q)(h2:b=false->Q (.exit id) s):W E caught rnd (.seq (.cond x .skip (.exit id)) rest) s Q:=by
 refine za (ztq hx (fun h=>zF (h1 h)) fun h=>zgh (h2 h))
theorem zK {E:Env}{caught:Tr Unit}{rnd:Option Nat}{ops:List zY}{x:TOp}{id:Nat}{rest:zbl}{s:FSt}{Q:FX->FSt->Prop}(h:W E caught rnd (.seq (.region ops) (.seq (.cond x .skip (.exit id)) rest)) s Q):W E caught rnd (.seq (.seq (.region ops) (.cond x .skip (.exit id))) rest) s Q:=fun B c t rnd' hs hn=>by
  obtain⟨x',t',y,s',c',⟨K,hK⟩,h2⟩:=h B c t rnd' hs hn;refine⟨x',t',y,s',c',⟨K,fun N hN d hd=>?_⟩,h2⟩;have:=hK N hN d hd;rw[<- this];simp only[zbc]
  cases hr:zlM (zdv ops) (zbx (zcK (EN E N) d) caught ops t)with
  | none=>rfl
  | some r =>
    obtain⟨x1,s1⟩:=r
    cases x1<;>first
      | rfl
      | (dsimp only
         cases he:zeE s1.tm x with
         | none=>rfl
         | some v=>cases v<;>first|rfl|(rename_i b;cases b<;>rfl))
end Fv
end Go.Proofs.YtfomlmhnmheenaaGreat
namespace Go.Proofs.YtfomlmhnmheenaaGreat
namespace Fv
open Tw
variable {E:Env}{caught:Tr Unit}{rnd:Option Nat}
def Cx.lazy (c:Cx)(n:Nat):Cx:=⟨c.S,c.ρ,fun i=>c.L i\/i=n⟩
theorem HR.lazy {B:Ba}{c:Cx}{H:List zn}{h:TH}(k:HR B c H h)(e z:Nat):Mo c (c.lazy H.length) h h/\HR B (c.lazy H.length) (H++[.row e z 0 0 []]) h:=by
 have hn:c.ρ H.length=none:=by
  cases hc:c.ρ H.length with
  | none=>rfl
  | some y=>have:=(k.own _ _ hc).2.2;omega
 have m:Mo c (c.lazy H.length) h h:=⟨fun _ _ h=>h,fun _ _ h=>h,fun _ h=>.inl h,fun _ _ _ _ _ _ _ h=>h⟩
 refine⟨m,⟨k.le,k.keep,k.old,fun p b hb=>⟨(k.S p b hb).1,fun i x hx e=>by have:=(k.S p b hb).2 i x hx e;rw[zAW9 (zAD9.1 this).1];exact this⟩,fun id x hx=>?_,fun id hL=>?_,k.inj,fun id o ho=>?_⟩⟩
 ·obtain⟨h1,h2,h3⟩:=k.own id x hx;exact⟨h1,h2,by simp;omega⟩
 ·rcases hL with hL|rfl
  ·obtain⟨h1,h2⟩:=k.lz id hL;exact⟨by simp;omega,h2⟩
  ·exact⟨by simp,fun x hx=>by have:c.ρ H.length=some x:=hx;rw[hn]at this;cases this⟩
 ·by_cases hi:id<H.length
  ·rw[zAW9 hi]at ho;exact(k.obj id o ho).move m rfl (fun h=>.inl h) fun _ _=>rfl
  ·rw[zAO9 (by omega)]at ho;have hi2:id-H.length=0:=by
    cases hd:id-H.length with
    | zero=>rfl
    | succ n=>rw[hd]at ho;simp at ho
   rw[hi2]at ho;simp at ho;subst ho;obtain rfl:id=H.length:=by omega
   exact .inl ⟨rfl,rfl,hn,.inr rfl⟩
def lzy (H:List zn)(z:Nat):PV:=.sl H.length 0 0 0 0 z
theorem zcd {code:zbl}{s:FSt}{Q:FX->FSt->Prop}{i:Nat}(e z:Nat)(hi:s.tm i=.nilsl)(k:W E caught rnd code ⟨upd s.tm i (lzy s.H z),s.df,s.H++[.row e z 0 0 []]⟩ Q):W E caught rnd code s Q:=fun B c t rnd' hs hn=>by
 obtain⟨m,hr⟩:=hs.hr.lazy e z;have htm:tmR (c.lazy s.H.length) t.h (upd s.tm i (lzy s.H z)) t.tm:=fun j=>by
  unfold upd
  by_cases hj:j=i
  ·rw[if_pos hj];subst hj;rcases hs.tm j with h1|⟨u,u1,u2⟩
   ·rw[hi]at h1;cases h1
   ·rw[hi]at u2;obtain rfl:u=.nilsl:=by cases u2 with|pure u2=>cases u2;rfl
    exact .inr ⟨_,u1,.slnil _ (.inr rfl)⟩
  ·rw[if_neg hj];exact(hs.tm.mono m) j
 obtain⟨x',t',x,s',c',e1,q1,hx,m1,k1⟩:=k B _ t rnd' ⟨hr,htm,hs.df.mono m⟩ (hn.mono m);exact⟨x',t',x,s',c',e1,q1,hx,m.trans m1,k1⟩
theorem HR.lazyBox {B:Ba}{c:Cx}{H:List zn}{h:TH}(k:HR B c H h)(e z:Nat){id e0 z0 G M:Nat}{v v':PV}(hH:H[id]?=some (.row e0 z0 G M [v]))
  (hl:v'.cells.length=v.cells.length) (hc:∀(i:Nat) (x y:PV),v.cells[i]?=some x->v'.cells[i]?=some y->y=x\/(x=.nilsl/\y=lzy H z)) :
  Mo c (c.lazy H.length) h h/\HR B (c.lazy H.length) (H.set id (.row e0 z0 G M [v'])++[.row e z 0 0 []]) h:=by
 obtain⟨m,hr⟩:=k.lazy e z;have hid:id<H.length:=(zAD9.1 hH).1;refine⟨m,⟨hr.le,hr.keep,hr.old,fun p b hb=>⟨(hr.S p b hb).1,fun i x hx e=>?_⟩,fun i x hx=>?_,fun i hL=>?_,hr.inj,fun i o ho=>?_⟩⟩
 ·have hv:=(hr.S p b hb).2 i x hx e
  by_cases hi:i<H.length
  ·rw[zAW9 hi]at hv;rw[zAW9 (by simpa using hi),zAZ9 (fun e=>by subst e;rw[hH]at hv;cases hv)];exact hv
  ·rw[zAO9 (by omega)]at hv;rw[zAO9 (by simpa using hi),zCS9];exact hv
 ·have:=hr.own i x hx;simpa using this
 ·have:=hr.lz i hL;simpa using this
 ·by_cases hi:i=id
  ·subst hi;rw[zAW9 (by simpa using hid),zBH9 hid]at ho;injection ho with ho;subst ho;have hob:=hr.obj i (.row e0 z0 G M [v]) (by rw[zAW9 hid];exact hH);rcases hob with⟨h1,_⟩|⟨b,d,G',M',cells,cs,h1,h2,h3,h4,h5,h6⟩
   ·cases h1
   ·refine .inr ⟨b,d,G',M',cells,cs,h1,h2,h3,h4,h5,ER.one' (by rw[hl];exact h6.one v (by simp)) ?_⟩;have hall:LR (VR (c.lazy H.length) h) v.cells cs:=by have:=h6.all;simpa using this
    refine⟨by rw[hl];exact hall.1,fun j x y hx hy=>?_⟩;obtain⟨x0,hx0⟩:∃x0,v.cells[j]?=some x0:=⟨_,zAB9 (by rw[<- hl];exact(zAD9.1 hx).1)⟩
    have hv:=hall.2 j x0 y hx0 hy;rcases hc j x0 x hx0 hx with rfl|⟨rfl,rfl⟩
    ·exact hv
    ·obtain rfl:y=.nilsl:=by cases hv with|pure hv=>cases hv;rfl
     exact .slnil _ (.inr rfl)
  ·refine hr.obj i o ?_;rw[<- ho]
   by_cases hi2:i<H.length
   ·rw[zAW9 hi2,zAW9 (by simpa using hi2),zAZ9 (Ne.symm hi)]
   ·rw[zAO9 (by omega),zAO9 (by simp;omega),zCS9]
theorem zgn {code:zbl}{s:FSt}{Q:FX->FSt->Prop}(e z:Nat){id e0 z0 G M:Nat}{v v':PV}(hH:s.H[id]?=some (.row e0 z0 G M [v]))
  (hl:v'.cells.length=v.cells.length) (hc:∀(i:Nat) (x y:PV),v.cells[i]?=some x->v'.cells[i]?=some y->y=x\/(x=.nilsl/\y=lzy s.H z))
  (k:W E caught rnd code ⟨s.tm,s.df,s.H.set id (.row e0 z0 G M [v'])++[.row e z 0 0 []]⟩ Q):W E caught rnd code s Q:=fun B c t rnd' hs hn=>by
 obtain⟨m,hr⟩:=hs.hr.lazyBox e z hH hl hc;obtain⟨x',t',x,s',c',e1,q1,hx,m1,k1⟩:=k B _ t rnd' ⟨hr,hs.tm.mono m,hs.df.mono m⟩ (hn.mono m);exact⟨x',t',x,s',c',e1,q1,hx,m.trans m1,k1⟩
theorem zjI {code:zbl}{s:FSt}{Q:FX->FSt->Prop}(e z:Nat){id e0 z0 G M:Nat}(hH:s.H[id]?=some (.row e0 z0 G M [.nilsl]))
  (k:W E caught rnd code ⟨s.tm,s.df,s.H.set id (.row e0 z0 G M [lzy s.H z])++[.row e z 0 0 []]⟩ Q):W E caught rnd code s Q :=
 zgn (v:=.nilsl) (v':=lzy s.H z) e z hH rfl (fun i x y hx hy=>by
  cases i with
  | zero=>simp[PV.cells,lzy]at hx hy;subst hx;subst hy;exact .inr ⟨rfl,rfl⟩
  | succ i=>simp[PV.cells]at hx) k
theorem zk {α:Type}(G:List α)(x y:α):(G++[x]).set G.length y=G++[y]:=by
 rw[zBV9 _ _ (zAM9 _)];simp
theorem zc {α:Type}(G:List α)(x:α):(G++[x])[G.length]?=some x:=by simp
theorem zqh {tm:Nat->PV}{s:DF}{Q:FX->DF->Prop}{g:zb7}{l:List zb7}{s1:DF}{o:zY}{f:Nat}{caps vs aS:List PV}{v:PV}{nm':Nat->PV}(hc:za1 s.K g.chk)(hx:zaq tm g.exe s=some s1)(ha:g.act=some o)(hk:o.kind=.call)(hw:zX tm s1.nm o.guard=some true)(hv:za4 tm s1.nm o.args=some (.fn f caps::vs))
  (k:FN E f aS (.ret v)) (hl:LF s1.H 1 (vs++caps) aS) (hn:za0 s1.nm o.dst v=some nm') (hQ:WD E caught tm l ⟨nm',s1.df,s1.H,s1.K⟩ Q):WD E caught tm (g::l) s Q :=
 zj1 hc hx ha hk hw hv ((FN.FO k hl).mono fun e H' he=>by obtain⟨rfl,rfl⟩:=he;exact⟨nm',hn,hQ⟩)
theorem zts {tm:Nat->PV}{s:DF}{Q:FX->DF->Prop}{g:zb7}{l:List zb7}{s1:DF}{o:zY}{f:Nat}{caps vs aS:List PV}{v:PV}(hc:za1 s.K g.chk)(hx:zaq tm g.exe s=some s1)(ha:g.act=some o)(hk:o.kind=.call)(hw:zX tm s1.nm o.guard=some true)(hv:za4 tm s1.nm o.args=some (.fn f caps::vs))
  (k:FN E f aS (.panic v)) (hl:LF s1.H 1 (vs++caps) aS) (hQ:Q (.panic v) s1):WD E caught tm (g::l) s Q :=
 zj1 hc hx ha hk hw hv ((FN.FO k hl).mono fun e H' he=>by obtain⟨rfl,rfl⟩:=he;exact hQ)
end Fv
end Go.Proofs.YtfomlmhnmheenaaGreat
namespace Go.Proofs.YtfomlmhnmheenaaGreat
namespace Fv
open Tw
variable {E:Env}
inductive NR (n:Nat):PV->Prop
 | bool (b:Bool):NR n (.bool b)
 | int (k:IntKind) (m:Int):NR n (.int k m)
 | str (s:List Nat):NR n (.str s)
 | nilptr:NR n .nilptr
 | nilsl:NR n .nilsl
 | nilmap:NR n .nilmap
 | nilfn:NR n .nilfn
 | niliface:NR n .niliface
 | list (p z:Nat) (l:List PV):NR n (.list p z l)
 | elem (l:List PV):NR n (.elem l)
 | sl {id:Nat} (g o m q z:Nat):id<n->NR n (.sl id g o m q z)
 | ptr {id:Nat} (g i o m:Nat):id<n->NR n (.ptr id g i o m)
 | map {id:Nat}:id<n->NR n (.map id)
 | yield {id:Nat}:id<n->NR n (.yield id)
 | iface {t:Nat} {v:PV}:NR n v->NR n (.iface t v)
 | fn {f:Nat} {l:List PV}:(∀x∈l,NR n x)->NR n (.fn f l)
 | agg {l:List PV}:(∀x∈l,NR n x)->NR n (.agg l)
 | tuple {l:List PV}:(∀x∈l,NR n x)->NR n (.tuple l)
def NRX (n:Nat):FX->Prop
 | .panic v=>NR n v
 | _=>True
def NRO (n:Nat):zn->Prop
 | .row _ _ _ _ l=>∀x∈l.flatMap PV.cells,NR n x
 | .mapI _ m=>∀x v,m x=some v->NR n v
 | .loop _ pe tm _ _ _ m=>m<n/\(∀i,tm i=.bad\/NR n (tm i))/\NRX n pe
 | _=>True
def NRE (n:Nat):FE->Prop
 | .ret v=>NR n v
 | .panic v=>NR n v
def Cx.cut (c:Cx)(n:Nat):Cx:=⟨c.S,fun i=>if i<n then c.ρ i else none,fun i=>c.L i/\i<n⟩
section
variable {c:Cx}{h:TH}{n:Nat}
theorem zfI {id:Nat}(hi:id<n){x}(hx:c.ρ id=some x):(c.cut n).ρ id=some x:=by
 show (if id<n then c.ρ id else none)=_;rw[if_pos hi];exact hx
theorem zgL {id:Nat}{x}(hx:(c.cut n).ρ id=some x):id<n/\c.ρ id=some x:=by
 have hx:(if id<n then c.ρ id else none)=some x:=hx
 split at hx
 ·exact⟨by assumption,hx⟩
 ·cases hx
theorem VR.cut {v:PV}{u:TV}(k:VR c h v u):NR n v->VR (c.cut n) h v u:=by
 induction k with
 | pure k=>intro _;exact .pure k
 | sl hρ=>intro hn;cases hn with|sl _ _ _ _ _ hi=>exact .sl (zfI hi hρ)
 | slnil z hL=>intro hn;cases hn with|sl _ _ _ _ _ hi=>exact .slnil z ⟨hL,hi⟩
 | ptr hρ=>intro hn;cases hn with|ptr _ _ _ _ hi=>exact .ptr (zfI hi hρ)
 | map hρ=>intro hn;cases hn with|map hi=>exact .map (zfI hi hρ)
 | yield hρ=>intro hn;cases hn with|yield hi=>exact .yield (zfI hi hρ)
 | iface _ ih=>intro hn;cases hn with|iface hn=>exact .iface (ih hn)
 | fn h1 _ ih=>intro hn;cases hn with|fn hn=>exact .fn h1 fun i x y hx hy=>ih i x y hx hy (hn x (zAK9 hx))
 | agg h1 _ ih=>intro hn;cases hn with|agg hn=>exact .agg h1 fun i x y hx hy=>ih i x y hx hy (hn x (zAK9 hx))
 | tuple h1 _ ih=>intro hn;cases hn with|tuple hn=>exact .tuple h1 fun i x y hx hy=>ih i x y hx hy (hn x (zAK9 hx))
theorem PR.nr {S:zdT}{v:PV}{u:TV}(k:PR S h v u):NR n v:=by
 induction k with
 | bool b=>exact .bool b
 | int k n=>exact .int k n
 | str s=>exact .str s
 | nilptr=>exact .nilptr
 | nilsl=>exact .nilsl
 | nilmap=>exact .nilmap
 | nilfn=>exact .nilfn
 | niliface=>exact .niliface
 | iface _ ih=>exact .iface ih
 | listnil p z=>exact .list p z _
 | list _ _ _ _ _ _ _=>exact .list _ _ _
 | elem _ _ _ _ _=>exact .elem _
 | fn h1 _ ih =>
  refine .fn fun x hx=>?_;obtain⟨i,hi,rfl⟩:=zBJ9.1 hx;exact ih i _ _ (zAB9 hi) (zAB9 (by rw[<- h1];exact hi))
 | agg h1 _ ih =>
  refine .agg fun x hx=>?_;obtain⟨i,hi,rfl⟩:=zBJ9.1 hx;exact ih i _ _ (zAB9 hi) (zAB9 (by rw[<- h1];exact hi))
 | tuple h1 _ ih =>
  refine .tuple fun x hx=>?_;obtain⟨i,hi,rfl⟩:=zBJ9.1 hx;exact ih i _ _ (zAB9 hi) (zAB9 (by rw[<- h1];exact hi))
theorem VR.nr {B:Ba}{H:List zn}(k:HR B c H h){v:PV}{u:TV}(x:VR c h v u):NR H.length v:=by
 induction x with
 | pure x=>exact x.nr
 | sl hρ=>exact .sl _ _ _ _ _ (k.own _ _ hρ).2.2
 | slnil z hL=>exact .sl _ _ _ _ _ (k.lz _ hL).1
 | ptr hρ=>exact .ptr _ _ _ _ (k.own _ _ hρ).2.2
 | map hρ=>exact .map (k.own _ _ hρ).2.2
 | yield hρ=>exact .yield (k.own _ _ hρ).2.2
 | iface _ ih=>exact .iface ih
 | fn h1 _ ih =>
  refine .fn fun x hx=>?_;obtain⟨i,hi,rfl⟩:=zBJ9.1 hx;exact ih i _ _ (zAB9 hi) (zAB9 (by rw[<- h1];exact hi))
 | agg h1 _ ih =>
  refine .agg fun x hx=>?_;obtain⟨i,hi,rfl⟩:=zBJ9.1 hx;exact ih i _ _ (zAB9 hi) (zAB9 (by rw[<- h1];exact hi))
 | tuple h1 _ ih =>
  refine .tuple fun x hx=>?_;obtain⟨i,hi,rfl⟩:=zBJ9.1 hx;exact ih i _ _ (zAB9 hi) (zAB9 (by rw[<- h1];exact hi))
theorem OR.nr {B:Ba}{H:List zn}(k:HR B c H h){id:Nat}{o:zn}(hH:H[id]?=some o):NRO H.length o:=by
 have ho:=k.obj _ _ hH
 cases o with
 | row e z G M l =>
  rcases ho with⟨rfl,_⟩|⟨b,d,G',M',cells,cs,_,_,_,_,_,h6⟩
  ·intro x hx;simp at hx
  ·intro x hx;obtain⟨i,hi,rfl⟩:=zBJ9.1 hx;exact(h6.all.2 i _ _ (zAB9 hi) (zAB9 (by rw[<- h6.all.1];exact hi))).nr k
 | mapI kk m =>
  obtain⟨b,d,z,es,clock,_,_,h3⟩:=ho;intro x v hx;obtain⟨u,_,u2⟩:=h3.some x v hx;exact u2.nr k
 | loop st pe tm ps aS bo m =>
  obtain⟨b,d,z,bm,dm,zm,t,pe',_,h2,_,h4,h5⟩:=ho;refine⟨(k.own _ _ h2).2.2,fun i=>?_,?_⟩
  ·rcases h4 i with h4|⟨u,_,u2⟩
   ·exact .inl h4
   ·exact .inr (u2.nr k)
  ·cases h5 with
   | panic hv=>exact hv.nr k
   | _=>trivial
 | _=>trivial
theorem OR.cut {id:Nat}(hi:id<n){o:zn}(ho:OR c h id o)(hn:NRO n o):OR (c.cut n) h id o:=by
 cases o with
 | row e z G M l =>
  rcases ho with⟨h1,h2,h3,h4⟩|⟨b,d,G',M',cells,cs,h1,h2,h3,h4,h5,h6⟩
  ·exact .inl ⟨h1,h2,by show (if id<n then c.ρ id else none)=none;rw[h3];simp,h4,hi⟩
  ·exact .inr ⟨b,d,G',M',cells,cs,zfI hi h1,h2,h3,h4,h5,h6.one,h6.all.1,fun i x y hx hy=>(h6.all.2 i x y hx hy).cut (hn x (zAK9 hx))⟩
 | map0=>obtain⟨b,d,z,clock,h1,h2⟩:=ho;exact⟨b,d,z,clock,zfI hi h1,h2⟩
 | mapI kk m =>
  obtain⟨b,d,z,es,clock,h1,h2,h3⟩:=ho;exact⟨b,d,z,es,clock,zfI hi h1,h2,h3.keys,fun x v hx=>by obtain⟨u,u1,u2⟩:=h3.some x v hx;exact⟨u,u1,u2.cut (hn x v hx)⟩,h3.none⟩
 | dfr shut=>obtain⟨b,d,z,h1,h2⟩:=ho;exact⟨b,d,z,zfI hi h1,h2⟩
 | loop st pe tm ps aS bo m =>
  obtain⟨b,d,z,bm,dm,zm,t,pe',h1,h2,h3,h4,h5⟩:=ho;refine⟨b,d,z,bm,dm,zm,t,pe',zfI hi h1,zfI hn.1 h2,h3,fun i=>?_,?_⟩
  ·rcases h4 i with h4|⟨u,u1,u2⟩
   ·exact .inl h4
   ·rcases hn.2.1 i with hb|hb
    ·exact .inl hb
    ·exact .inr ⟨u,u1,u2.cut hb⟩
  ·cases h5 with
   | norm=>exact .norm
   | exit id=>exact .exit id
   | goto l=>exact .goto l
   | ret=>exact .ret
   | panic hv=>exact .panic (hv.cut hn.2.2)
 | void=>trivial
theorem HR.cut {B:Ba}{H G:List zn}(k:HR B c (H++G) h)(hn:∀(id:Nat) (o:zn),H[id]?=some o->NRO H.length o):HR B (c.cut H.length) H h :=
 ⟨k.le,k.keep,k.old,fun p b hb=>⟨(k.S p b hb).1,fun id x hx e=>by have:=(k.S p b hb).2 id x (zgL hx).2 e;rw[zAW9 (zgL hx).1]at this;exact this⟩,fun id x hx=>by
  obtain⟨h1,h2⟩:=zgL hx;obtain⟨a1,a2,_⟩:=k.own id x h2;exact⟨a1,a2,h1⟩,fun id hL=>⟨hL.2,fun x hx=>(k.lz id hL.1).2 x (zgL hx).2⟩,fun id id' x x' hx hx'=>k.inj _ _ _ _ (zgL hx).2 (zgL hx').2,fun id o ho=>by
  have hi:=(zAD9.1 ho).1;exact(k.obj id o (by rw[zAW9 hi];exact ho)).cut hi (hn id o ho)⟩
theorem Mo.cut {c':Cx}{h':TH}(m:Mo c c' h h')(hρ:∀id x,c.ρ id=some x->id<n)(hL:∀id,c.L id->id<n):Mo c (c'.cut n) h h' :=
 ⟨m.S,fun id x hx=>zfI (hρ _ _ hx) (m.ρ _ _ hx),fun id hx=>⟨m.L _ hx,hL _ hx⟩,m.rd⟩
end
def zhE (H:List zn)(H' H'' G:List zn):Prop:=H'=H''++G/\H''.length=H.length/\∀(id:Nat) (o:zn),H''[id]?=some o->H[id]?=some o\/NRO H.length o
theorem zhE.cut {B B':Ba}{c c':Cx}{H H' H'' G:List zn}{h h':TH}(k:zhE H H' H'' G)(hr:HR B c H h)(hr':HR B' c' H' h')(m:Mo c c' h h'):Mo c (c'.cut H.length) h h'/\HR B' (c'.cut H.length) H'' h':=by
 obtain⟨rfl,hl,hk⟩:=k;refine⟨m.cut (fun id x hx=>(hr.own _ _ hx).2.2) (fun id hL=>(hr.lz _ hL).1),?_⟩;have:=hr'.cut (H:=H'') fun id o ho=>by
  rw[hl];rcases hk id o ho with h1|h1
  ·exact OR.nr hr h1
  ·exact h1
 rwa [hl]at this
theorem FO.gc {f:Nat}{args:List PV}{H:List zn}{b:Bool}{Q:FE->List zn->Prop}(k:FO E f args H b fun e H'=>∃H'' G,zhE H H' H'' G/\NRE H.length e/\Q e H''):FO E f args H b Q:=fun B c h us hr ha=>by
 obtain⟨r,h',e,H',c',e1,⟨H'',G,hk,hn,hQ⟩,m1,k1,re,hs⟩:=k B c h us hr ha;obtain⟨m2,k2⟩:=hk.cut hr k1 m1;refine⟨r,h',e,H'',_,e1,hQ,m2,k2,?_,hs⟩
 cases e<;>cases r<;>first|exact re.elim|exact VR.cut re hn
theorem FY.gc {id:Nat}{args:List PV}{H:List zn}{Q:Bool->List zn->Prop}(k:FY E id args H fun r H'=>∃H'' G,zhE H H' H'' G/\Q r H''):FY E id args H Q:=fun B c h us b d z hr hρ ha=>by
 obtain⟨r,h',H',c',e1,⟨H'',G,hk,hQ⟩,m1,k1⟩:=k B c h us b d z hr hρ ha;obtain⟨m2,k2⟩:=hk.cut hr k1 m1;exact⟨r,h',H'',_,e1,hQ,m2,k2⟩
theorem FY.mono {id:Nat}{args:List PV}{H:List zn}{Q Q':Bool->List zn->Prop}(k:FY E id args H Q)(hQ:∀r H,Q r H->Q' r H):FY E id args H Q':=fun B c h us b d z hr hρ ha=>by
 obtain⟨r,h',H',c',e1,q,k2⟩:=k B c h us b d z hr hρ ha;exact⟨r,h',H',c',e1,hQ _ _ q,k2⟩
theorem zml {n:Nat}{tm:Nat->PV}{d:Nat}{v:PV}(h:∀i,tm i=.bad\/NR n (tm i))(hv:NR n v):∀i,upd tm d v i=.bad\/NR n (upd tm d v i):=fun i=>by
 unfold upd
 by_cases e:i=d
 ·rw[if_pos e];exact .inr hv
 ·rw[if_neg e];exact h i
theorem zxD {n:Nat}{l:List PV}(h:∀v∈l,NR n v):∀i,zo l i=.bad\/NR n (zo l i):=fun i=>by
 unfold zo
 cases hi:l[i]? with
 | none=>exact .inl rfl
 | some v=>exact .inr (h v (zAK9 hi))
theorem zH {α:Type}(G:List α)(x y:α):(G++[x]++[y])[G.length]?=some x:=by
 rw[zAF9,zAO9 (zAM9 _)];simp
def zkX:List PV->Prop
 | []=>True
 | x::l=>Id0 x/\zkX l
theorem zkX.all:∀{l:List PV},zkX l->∀x∈l,Id0 x
 | x::l,h,y,hy=>by
  rcases zAX9.1 hy with rfl|hy
  ·exact h.1
  ·exact zkX.all h.2 y hy
theorem zcg {caught:Tr Unit}{d:Option Nat}{args:List TOp}{g:Option (TOp×Bool)}{ops:List zY}{s:FSt}{Q:FX->FSt->Prop}{f:Nat}{caps vs aS:List PV}{v:PV}
  (hg:zab s.tm g=some true) (ha:evs s.tm args=some (.fn f caps::vs)) (k:FP E f aS (.ret v)) (he:vs++caps=aS) (hl:zkX aS) (hQ:WO E caught ops (s.put d v) Q):WO E caught (⟨d,.call,args,g⟩::ops) s Q :=
 zhf hg ha ((FP.FO (he ▸ k) (he ▸ hl).all).mono fun e H' he=>by obtain⟨rfl,rfl⟩:=he;exact hQ)
theorem zwi {caught:Tr Unit}{tm:Nat->PV}{s:DF}{Q:FX->DF->Prop}{g:zb7}{l:List zb7}{s1:DF}{o:zY}{f:Nat}{caps vs aS:List PV}{v:PV}{nm':Nat->PV}(hc:za1 s.K g.chk)(hx:zaq tm g.exe s=some s1)(ha:g.act=some o)(hk:o.kind=.call)(hw:zX tm s1.nm o.guard=some true)(hv:za4 tm s1.nm o.args=some (.fn f caps::vs))
  (k:FP E f aS (.ret v)) (he:vs++caps=aS) (hl:zkX aS) (hn:za0 s1.nm o.dst v=some nm') (hQ:WD E caught tm l ⟨nm',s1.df,s1.H,s1.K⟩ Q):WD E caught tm (g::l) s Q :=
 zj1 hc hx ha hk hw hv ((FP.FO (he ▸ k) (he ▸ hl).all).mono fun e H' he=>by obtain⟨rfl,rfl⟩:=he;exact⟨nm',hn,hQ⟩)
theorem Id0.frz {H:List zn}{lab:Nat}{v:PV}(h:Id0 v):Frz H lab v v:=by
 induction h with
 | bool b=>exact .bool b
 | int k n=>exact .int k n
 | str s=>exact .str s
 | nilptr=>exact .nilptr
 | nilsl=>exact .nilsl
 | nilmap=>exact .nilmap
 | nilfn=>exact .nilfn
 | niliface=>exact .niliface
 | list p z l=>exact .list p z l
 | elem l=>exact .elem l
 | iface _ ih=>exact .iface ih
 | fn _ ih=>exact .fn rfl fun i x y hx hy=>by rw[hx]at hy;injection hy with hy;subst hy;exact ih x (zAK9 hx)
 | agg _ ih=>exact .agg rfl fun i x y hx hy=>by rw[hx]at hy;injection hy with hy;subst hy;exact ih x (zAK9 hx)
 | tuple _ ih=>exact .tuple rfl fun i x y hx hy=>by rw[hx]at hy;injection hy with hy;subst hy;exact ih x (zAK9 hx)
theorem Frz.whole {H:List zn}{lab id e z z' G o n q:Nat}{l:List PV}(hH:H[id]?=some (.row e z' G 0 l))(ho:o=0)(hl:n=l.length)(hq:2*l.length<=q)(hz:∀v∈l,v.cells.length=z)(hs:∀v∈l.flatMap PV.cells,Id0 v) :
  Frz H lab (.sl id G o n q z) (.list lab z l):=by
 subst ho hl;refine .sl hH (zAS9 _) (zAM9 _) (by omega) hq rfl hz (by simp) fun i x y hx hy=>?_;have:x=y:=by
  simp at hx;rw[hx]at hy;injection hy
 subst this;exact(hs _ (zAK9 hy)).frz
theorem zbv {H:List zn}{lab id e z n:Nat}{cs:List PV}(hH:H[id]?=some (.row e z 0 0 [.agg cs]))(hn:n=cs.length)(hc:∀v∈cs,Id0 v):Frz H lab (.ptr id 0 0 0 n) (.elem cs):=by
 refine .ptr (w:=.agg cs) ?_ (by simp[PV.cells,hn]) hn fun j x y hx hy=>?_
 ·simp[zaC,hH]
 ·have:x=y:=by
   simp[PV.cells,hn]at hx;rw[hx]at hy;injection hy
  subst this;exact(hc _ (zAK9 hy)).frz
theorem zif {l:List Nat}:∀v∈(l.map uv).flatMap PV.cells,Id0 v:=fun v hv=>by
 obtain⟨x,hx,hv⟩:=zBC9.1 hv;obtain⟨n,_,rfl⟩:=zAP9.1 hx;simp[PV.cells]at hv;subst hv;exact .int _ _
theorem zrF {l:List Int}:∀v∈(l.map iv).flatMap PV.cells,Id0 v:=fun v hv=>by
 obtain⟨x,hx,hv⟩:=zBC9.1 hv;obtain⟨n,_,rfl⟩:=zAP9.1 hx;simp[PV.cells]at hv;subst hv;exact .int _ _
theorem zvA {F:zC}{R:FE->List zn->Prop}{tm:Nat->PV}{H:List zn}{vs:List PV}{id:Nat}(hm:H[id]?=some (.dfr false))(h:zE tm (H.set id (.dfr true)) F.res=some vs)(k:R (.ret (zG vs)) (H.set id (.dfr true))):zcT E F R .ret ⟨tm,[.mark id],H⟩:=⟨hm,vs,h,k⟩
theorem Id0.nr {n:Nat}{v:PV}(h:Id0 v):NR n v:=by
 induction h with
 | bool b=>exact .bool b
 | int k n=>exact .int k n
 | str s=>exact .str s
 | nilptr=>exact .nilptr
 | nilsl=>exact .nilsl
 | nilmap=>exact .nilmap
 | nilfn=>exact .nilfn
 | niliface=>exact .niliface
 | list p z l=>exact .list p z l
 | elem l=>exact .elem l
 | iface _ ih=>exact .iface ih
 | fn _ ih=>exact .fn ih
 | agg _ ih=>exact .agg ih
 | tuple _ ih=>exact .tuple ih
theorem zwI {n e z G M:Nat}{l:List PV}(h:∀v∈l.flatMap PV.cells,Id0 v):NRO n (.row e z G M l):=fun x hx=>(h x hx).nr
theorem NR.mono {n m:Nat}(hm:n<=m){v:PV}(h:NR n v):NR m v:=by
 induction h with
 | bool b=>exact .bool b
 | int k n=>exact .int k n
 | str s=>exact .str s
 | nilptr=>exact .nilptr
 | nilsl=>exact .nilsl
 | nilmap=>exact .nilmap
 | nilfn=>exact .nilfn
 | niliface=>exact .niliface
 | list p z l=>exact .list p z l
 | elem l=>exact .elem l
 | sl g o m q z h=>exact .sl g o m q z (by omega)
 | ptr g i o m h=>exact .ptr g i o m (by omega)
 | map h=>exact .map (by omega)
 | yield h=>exact .yield (by omega)
 | iface _ ih=>exact .iface ih
 | fn _ ih=>exact .fn ih
 | agg _ ih=>exact .agg ih
 | tuple _ ih=>exact .tuple ih
theorem zsB {A A' C G:List zn}(hl:A'.length=A.length)(h:∀(id:Nat) (o:zn),A'[id]?=some o->NRO A.length o)(hm:∀(n m:Nat) (o:zn),n<=m->NRO n o->NRO m o):zhE (A++C) (A'++C++G) (A'++C) G:=by
 refine⟨rfl,by simp[hl],fun id o ho=>?_⟩
 by_cases hi:id<A'.length
 ·rw[zAW9 hi]at ho;exact .inr (hm _ _ _ (by simp) (h id o ho))
 ·rw[zAO9 (by omega),hl]at ho;exact .inl (by rw[zAO9 (by omega)];exact ho)
theorem NRO.mono {n m:Nat}(hm:n<=m){o:zn}(h:NRO n o):NRO m o:=by
 cases o with
 | row e z G M l=>exact fun x hx=>NR.mono hm (h x hx)
 | mapI k f=>exact fun x v hx=>NR.mono hm (h x v hx)
 | loop st pe tm ps aS bo q =>
  refine⟨by have:=h.1;omega,fun i=>?_,?_⟩
  ·rcases h.2.1 i with h|h
   ·exact .inl h
   ·exact .inr (h.mono hm)
  ·have:=h.2.2
   cases pe<;>first|trivial|exact NR.mono hm this
 | _=>trivial
theorem zhE.front {A A' C G:List zn}(hl:A'.length=A.length)(h:∀(id:Nat) (o:zn),A'[id]?=some o->NRO A.length o):zhE (A++C) (A'++C++G) (A'++C) G:=zsB hl h fun _ _ _ h k=>k.mono h
theorem zac (n m:Nat):(n+1==m+1)=(n==m):=by simp
theorem zad (n:Nat):(n+1==0)=false:=by simp
theorem zP (n:Nat):(0==n+1)=false:=by simp
theorem zog {caught:Tr Unit}{tm:Nat->PV}{s:DF}{Q:FX->DF->Prop}{g:zb7}{l:List zb7}{s1:DF}{o:zY}{f:Nat}{caps vs aS:List PV}{same:Bool}{H0:List zn}{R:FE->List zn->Prop}(hc:za1 s.K g.chk)(hx:zaq tm g.exe s=some s1)(ha:g.act=some o)(hk:o.kind=.call)(hw:zX tm s1.nm o.guard=some true)(hv:za4 tm s1.nm o.args=some (.fn f caps::vs))
  (k:FO E f aS H0 same R) (he:vs++caps=aS) (hH:s1.H=H0) (hQ:∀e H',R e H'->zxM E caught tm l s1 o.dst same Q e H'):WD E caught tm (g::l) s Q:=by
 subst he hH;exact zj1 hc hx ha hk hw hv (k.mono hQ)
theorem zdN {caught:Tr Unit}{d:Option Nat}{args:List TOp}{g:Option (TOp×Bool)}{ops:List zY}{s:FSt}{Q:FX->FSt->Prop}{f:Nat}{caps vs aS:List PV}{b:Bool}{H0:List zn}{R:FE->List zn->Prop}
  (hg:zab s.tm g=some true) (ha:evs s.tm args=some (.fn f caps::vs)) (k:FO E f aS H0 b R) (he:vs++caps=aS) (hH:s.H=H0) (hQ:∀e H',R e H'->zvR E caught ops s d Q e H'):WO E caught (⟨d,.call,args,g⟩::ops) s Q:=by
 subst he hH;exact zhf hg ha (k.mono hQ)
end Fv
end Go.Proofs.YtfomlmhnmheenaaGreat
namespace Go.Proofs.YtfomlmhnmheenaaGreat
namespace Fv
open Tw
variable {E:Env}{caught:Tr Unit}{rnd:Option Nat}
def zfi (n:Nat)(H:List zn):List zn:=H.mapIdx fun i o=>if i=n then o else .void
theorem zfU {n:Nat}{H:List zn}{o:zn}(h:H[n]?=some o):(zfi n H)[n]?=some o:=by
 unfold zfi;rw[zEF9,h];simp
theorem zxg {n id:Nat}{H:List zn}{e z G M:Nat}{l:List PV}(h:(zfi n H)[id]?=some (.row e z G M l)):id=n:=by
 unfold zfi at h;rw[zEF9]at h
 cases hH:H[id]? with
 | none=>rw[hH]at h;cases h
 | some o =>
  rw[hH]at h
  by_cases hi:id=n
  ·exact hi
  ·simp[hi]at h
theorem zvV {n id:Nat}{H:List zn}(h:H[id]?=some .void):(zfi n H)[id]?=some .void:=by
 unfold zfi;rw[zEF9,h];simp
theorem zrC {n:Nat}{H:List zn}:(zfi n H).length=H.length:=by unfold zfi;simp
def CF (n:Nat)(H:List zn)(v w:PV):Prop:=w=v\/Frz (zfi n H) 0 v w
inductive CO (n:Nat)(H:List zn)(id:Nat):zn->zn->Prop
 | void (o:zn):CO n H id o .void
 | same (o:zn):id≠n->CO n H id o o
 | row {e z G M:Nat} {l l':List PV}:id≠n->l'.length=l.length->(∀v∈l',v.cells.length=z)->(l.flatMap PV.cells).length=(l'.flatMap PV.cells).length->(∀(i:Nat) (x y:PV),(l.flatMap PV.cells)[i]?=some x->(l'.flatMap PV.cells)[i]?=some y->CF n H x y)->CO n H id (.row e z G M l) (.row e z G M l')
def Cx.frz (c:Cx)(n:Nat):Cx:=⟨fun p b=>c.S p b\/(p=0/\∃x,c.ρ n=some x/\x.1=b),c.ρ,c.L⟩
theorem HR.frz {B:Ba}{c:Cx}{H H':List zn}{h:TH}(k:HR B c H h){n:Nat}(hl:H'.length=H.length)(hv:H'[n]?=some .void)(hH:∀id o o',H[id]?=some o->H'[id]?=some o'->CO n H id o o') :
  Mo c (c.frz n) h h/\HR B (c.frz n) H' h/\∀v w u,VR c h v u->CF n H v w->VR (c.frz n) h w u:=by
 have m:Mo c (c.frz n) h h:=⟨fun _ _ h=>.inl h,fun _ _ h=>h,fun _ h=>h,fun _ _ _ _ _ _ _ h=>h⟩
 have hm:HR B c (zfi n H) h:=⟨k.le,k.keep,k.old,fun p b hb=>⟨(k.S p b hb).1,fun id x hx e=>zvV ((k.S p b hb).2 id x hx e)⟩,fun id x hx=>by rw[zrC];exact k.own id x hx,fun id hx=>by rw[zrC];exact k.lz id hx,k.inj,fun id o ho=>by
  by_cases hi:id=n
  ·subst hi;unfold zfi at ho;rw[zEF9]at ho
   cases hH:H[id]? with
   | none=>rw[hH]at ho;cases ho
   | some o' =>
    rw[hH]at ho;simp at ho;subst ho;exact k.obj id _ hH
  ·unfold zfi at ho;rw[zEF9]at ho
   cases hH:H[id]? with
   | none=>rw[hH]at ho;cases ho
   | some o'=>rw[hH]at ho;simp[hi]at ho;subst ho;trivial⟩
 have hcf:∀v w u,VR c h v u->CF n H v w->VR (c.frz n) h w u:=fun v w u hv hw=>by
  rcases hw with rfl|hw
  ·exact hv.mono m
  ·exact .pure (hw.ok' hm (fun _ _ h=>.inl h) (fun id x e z G M l hr hx=>by
    obtain rfl:=zxg hr;exact .inr ⟨rfl,x,hx,rfl⟩) hv)
 refine⟨m,⟨k.le,k.keep,fun p b hb=>?_,fun p b hb=>?_,fun id x hx=>by rw[hl];exact k.own id x hx,fun id hx=>by rw[hl];exact k.lz id hx,k.inj,fun id o' ho'=>?_⟩,hcf⟩
 ·rcases hb with hb|⟨rfl,x,hx,rfl⟩
  ·exact k.old p b hb
  ·exact .inr ⟨rfl,(k.own _ _ hx).1⟩
 ·rcases hb with hb|⟨rfl,x,hx,rfl⟩
  ·obtain⟨h1,h2⟩:=k.S p b hb;refine⟨h1,fun id x hx e=>?_⟩;have h3:=h2 id x hx e;have hid:id<H'.length:=by rw[hl];exact(zAD9.1 h3).1
   have h4:=hH id _ _ h3 (zAB9 hid);rw[zAB9 hid];generalize H'[id]=o' at h4
   cases h4<;>rfl
  ·refine⟨(k.own _ _ hx).2.1,fun id y hy e=>?_⟩;obtain rfl:=k.inj _ _ _ _ hy hx e;exact hv
 ·have hid:id<H.length:=by rw[<- hl];exact(zAD9.1 ho').1
  have hob:=k.obj id _ (zAB9 hid);have hc:=hH id _ _ (zAB9 hid) ho';generalize H[id]=o at hob hc
  cases hc with
  | void=>trivial
  | same _ hn=>exact hob.move m rfl (fun h=>h) fun _ _=>rfl
  | @row e z G M l l' hn h1 h2 h3 h4 =>
   rcases hob with⟨rfl,g0,r0,L0⟩|⟨b,d,G',M',cells,cs,r1,r2,r3,r4,r5,r6⟩
   ·obtain rfl:=zDX9.1 h1;exact .inl ⟨rfl,g0,r0,L0⟩
   ·refine .inr ⟨b,d,G',M',cells,cs,r1,by rw[h1];exact r2,r3,r4,by rw[h1];exact r5,h2,?_⟩;refine⟨by rw[<- h3];exact r6.all.1,fun i x y hx hy=>?_⟩;obtain⟨x',hx'⟩:∃x',(l.flatMap PV.cells)[i]?=some x':=⟨_,zAB9 (by rw[h3];exact(zAD9.1 hx).1)⟩
    exact hcf _ _ _ (r6.all.2 i _ _ hx' hy) (h4 i _ _ hx' hx)
theorem zqj {code:zbl}{s:FSt}{Q:FX->FSt->Prop}(n:Nat)(tm':Nat->PV)(H':List zn)(ht:∀i,tm' i=.bad\/CF n s.H (s.tm i) (tm' i))(hl:H'.length=s.H.length)(hv:H'[n]?=some .void)(hH:∀id o o',s.H[id]?=some o->H'[id]?=some o'->CO n s.H id o o')
  (k:W E caught rnd code ⟨tm',s.df,H'⟩ Q):W E caught rnd code s Q:=fun B c t rnd' hs hn=>by
 obtain⟨m,hr,hcf⟩:=hs.hr.frz hl hv hH;obtain⟨x',t',x,s',c',e1,q1,hx,m1,k1⟩:=k B _ t rnd' ⟨hr,fun i=>by
  rcases ht i with h1|h1
  ·exact .inl h1
  ·rcases hs.tm i with h2|⟨u,u1,u2⟩
   ·rcases h1 with h1|h1
    ·exact .inl (h1.trans h2)
    ·rw[h2]at h1;cases h1
   ·exact .inr ⟨u,u1,hcf _ _ _ u2 h1⟩,hs.df.mono m⟩ (hn.mono m)
 exact⟨x',t',x,s',c',e1,q1,hx,m.trans m1,k1⟩
theorem zfm {code:zbl}{s:FSt}{Q:FX->FSt->Prop}(i n:Nat){w:PV}{o:zn}(hn:s.H[n]?=some o)(hw:Frz (zfi n s.H) 0 (s.tm i) w)(k:W E caught rnd code ⟨upd s.tm i w,s.df,s.H.set n .void⟩ Q):W E caught rnd code s Q:=by
 have hlt:=(zAD9.1 hn).1;refine zqj n _ _ (fun j=>.inr ?_) (by simp) (by simp[hlt]) (fun id o o' ho ho'=>?_) k
 ·unfold upd
  by_cases hj:j=i
  ·subst hj;rw[if_pos rfl];exact .inr hw
  ·rw[if_neg hj];exact .inl rfl
 ·by_cases hi:n=id
  ·subst hi;simp[hlt]at ho';subst ho';exact .void _
  ·rw[zAZ9 hi,ho]at ho';injection ho' with ho';subst ho';exact .same _ (Ne.symm hi)
theorem zqL {code:zbl}{s:FSt}{Q:FX->FSt->Prop}(b n:Nat){e z G M:Nat}{v v':PV}(hb:s.H[b]?=some (.row e z G M [v])){o:zn}(hn:s.H[n]?=some o)(hne:b≠n)(hz:v'.cells.length=z)(hz':v.cells.length=z)
  (hw:∀(i:Nat) (x y:PV),v.cells[i]?=some x->v'.cells[i]?=some y->CF n s.H x y)
  (k:W E caught rnd code ⟨s.tm,s.df,(s.H.set n .void).set b (.row e z G M [v'])⟩ Q):W E caught rnd code s Q:=by
 have hlt:=(zAD9.1 hn).1;have hlt':=(zAD9.1 hb).1;refine zqj n _ _ (fun j=>.inr (.inl rfl)) (by simp) (by rw[zAZ9 hne];simp[hlt]) (fun id o o' ho ho'=>?_) k
 by_cases hi:b=id
 ·subst hi;rw[zBH9 (by simpa using hlt')]at ho';rw[hb]at ho;injection ho with ho;injection ho' with ho';subst ho;subst ho';refine .row hne rfl (by simpa using hz) (by simp[hz,hz']) (by simpa using hw)
 ·rw[zAZ9 hi]at ho'
  by_cases hj:n=id
  ·subst hj;simp[hlt]at ho';subst ho';exact .void _
  ·rw[zAZ9 hj,ho]at ho';injection ho' with ho';subst ho';exact .same _ (Ne.symm hj)
end Fv
end Go.Proofs.YtfomlmhnmheenaaGreat
namespace Go.Proofs.YtfomlmhnmheenaaGreat
namespace Fv
open Tw
attribute [local go_sem] zaZ zaz zab zap evs ev okv zbj zT.cls za5 za7 za9 zQ zR upd zo zaS zaQ zaR zax zaL zaP zaT zaM zaY zaO zar zaV zaU zaX zaW zaK zaN zae zaC zaJ zal zak zbg PV.cells ofC za6 zV zao okF zaf spl zaB zaF bnd zai zam zan za3 zbb zU zau zaH zaj za8 zbd zW lenP zc zk zah zba PV.toT zaA zH Nat.mul_mod_right Int.reduceOfNat Int.reduceToNat Int.cast_ofNat_Int Int.reduceLE Int.reduceLT Int.reduceAdd Int.reduceSub Int.reduceMul Int.reduceNegSucc Nat.reduceEqDiff if_true if_false ite_true ite_false decide_true decide_false Bool.not_true Bool.not_false and_true true_and and_self false_and and_false or_false false_or or_true true_or or_self List.length_cons List.length_nil List.length_map List.getElem?_cons_zero List.getElem?_cons_succ List.getElem?_map List.getElem?_nil Option.map_some Option.map_none Option.getD_some List.append_nil List.nil_append List.cons_append List.take_succ_cons List.take_zero List.drop_zero List.drop_succ_cons List.set_cons_zero List.set_cons_succ Int.toNat_natCast Int.natCast_nonneg Nat.le_refl Nat.zero_le Nat.reduceAdd Nat.reduceSub Nat.reduceMul Nat.reduceLeDiff Nat.reduceLT Bool.false_eq_true Bool.true_eq_false Nat.add_zero Nat.zero_add List.all_cons List.all_nil Bool.and_true Bool.and_self Bool.true_and Nat.reduceMod Nat.reduceDiv eq_self zaq zaD zX za4 evN za0 dpF zaI zbf zaw za1 zbe zaE List.filter_cons List.filter_nil List.contains_cons List.contains_nil Nat.reduceBEq zac zad zP Option.some.injEq Option.isSome_some wrap_i64 zJ zaG Bool.or_self Bool.or_false Bool.false_or
attribute [local go_sem ↓] reduceIte
section
variable {E:Env}{caught:Tr Unit}{rnd:Option Nat}{ops:List zY}{rest:zbl}{s s':FSt}{r:List zY}{Q:FX->FSt->Prop}
theorem zgo (k:W E caught rnd rest s' Q)(h:zaZ ops s=(s',[]):=by simp(disch:=omega)only[go_sem]<;>rfl):W E caught rnd (.region ops) s (zb (fun s'=>W E caught rnd rest s' Q) Q):=zr (zlT h (zh k))
theorem zrg (k:WO E caught r s' (zd ops Q))(h:zaZ ops s=(s',r):=by simp(disch:=omega)only[go_sem]<;>rfl):W E caught rnd (.region ops) s Q:=zr (zlT h k)
theorem zfx (k:WO E caught r s' Q)(h:zaZ ops s=(s',r):=by simp(disch:=omega)only[go_sem]<;>rfl):WO E caught ops s Q:=zlT h k
theorem zfc {x:TOp}{b:Bool}{p q:zbl}(h1:b=true->W E caught rnd p s Q)(h2:b=false->W E caught rnd q s Q)(hx:ev s.tm x=some (.bool b):=by simp only[go_sem]<;>rfl):W E caught rnd (.cond x p q) s Q:=ztq hx h1 h2
theorem zca {d:Option Nat}{args:List TOp}{g:Option (TOp×Bool)}{f:Nat}{caps vs aS:List PV}{v:PV}(k:FN E f aS (.ret v))(hQ:WO E caught ops (s.put d v) Q)(hg:zab s.tm g=some true:=by first|rfl|(simp only[go_sem]<;>rfl))(ha:evs s.tm args=some (.fn f caps::vs):=by simp only[go_sem]<;>rfl)
  (hl:LF s.H 1 (vs++caps) aS:=by(repeat(first|exact trivial|refine And.intro ?_ ?_|exact .int _ _|exact .bool _|exact .list _ _ _|exact .elem _|exact .nilsl|exact .nil _ _|exact .str _|refine Frz.aggL ?_|refine Frz.fnL ?_|refine Frz.tupL ?_|refine .iface ?_|exact zbv rfl rfl (by assumption)))):WO E caught (⟨d,.call,args,g⟩::ops) s Q:=zfe hg ha k hl hQ
theorem zcl {d:Option Nat}{args:List TOp}{g:Option (TOp×Bool)}{f:Nat}{caps vs aS:List PV}{v:PV}(k:FN E f aS (.ret v))(hl:LF s.H 1 (vs++caps) aS)(hQ:WO E caught ops (s.put d v) Q)(hg:zab s.tm g=some true:=by first|rfl|(simp only[go_sem]<;>rfl))(ha:evs s.tm args=some (.fn f caps::vs):=by simp only[go_sem]<;>rfl):WO E caught (⟨d,.call,args,g⟩::ops) s Q:=zfe hg ha k hl hQ
theorem zcx {d:Option Nat}{args:List TOp}{g:Option (TOp×Bool)}{f:Nat}{caps vs aS:List PV}{v:PV}(k:FN E f aS (.panic v))(hQ:Q (.panic v) s)(hg:zab s.tm g=some true:=by first|rfl|(simp only[go_sem]<;>rfl))(ha:evs s.tm args=some (.fn f caps::vs):=by simp only[go_sem]<;>rfl)
  (hl:LF s.H 1 (vs++caps) aS:=by(repeat(first|exact trivial|refine And.intro ?_ ?_|exact .int _ _|exact .bool _|exact .list _ _ _|exact .elem _|exact .nilsl|exact .nil _ _|exact .str _|refine Frz.aggL ?_|refine Frz.fnL ?_|refine Frz.tupL ?_|refine .iface ?_|exact zbv rfl rfl (by assumption)))):WO E caught (⟨d,.call,args,g⟩::ops) s Q:=zvw hg ha k hl hQ
end
section
variable {E:Env}{caught:Tr Unit}{tm:Nat->PV}{s:DF}{Q:FX->DF->Prop}{g:zb7}{l:List zb7}{s1:DF}{o:zY}
theorem zdl (k:WD E caught tm l s1 Q)(hx:zaq tm g.exe s=some s1:=by simp(disch:=omega)only[go_sem]<;>rfl)(hc:za1 s.K g.chk:=by first|exact trivial|simp only[go_sem])(ha:g.act=none:=by rfl):WD E caught tm (g::l) s Q:=zxy hc hx ha k
def daF (tm:Nat->PV)(g:zb7)(s:DF):Option (DF×AR):=match zaq tm g.exe s with
 | none=>none
 | some s1=>match g.act with
  | none=>none
  | some o=>match za4 tm s1.nm o.args with
   | none=>none
   | some vs=>match za9 s1.H o.kind vs with
    | none=>none
    | some a=>some (s1,a)
def dnF (tm:Nat->PV)(g:zb7)(s:DF):Option (DF×List PV):=match zaq tm g.exe s with
 | none=>none
 | some s1=>match g.act with
  | none=>none
  | some o=>match za4 tm s1.nm o.args with
   | none=>none
   | some vs=>some (s1,vs)
theorem zda {a:AR}{nm':Nat->PV}(k:WD E caught tm l ⟨nm',s1.df,a.H,zaE a.W s1.K⟩ Q)(h:daF tm g s=some (s1,a))(hc:za1 s.K g.chk:=by first|exact trivial|simp only[go_sem])(ha:g.act=some o:=by rfl)(hw:zX tm s1.nm o.guard=some true:=by first|rfl|(simp only[go_sem]<;>rfl))(hn:za0 s1.nm o.dst a.v=some nm':=by simp only[go_sem]<;>rfl):WD E caught tm (g::l) s Q:=by
 unfold daF at h
 split at h
 ·cases h
 rename_i s2 hx;rw[ha]at h;dsimp only at h
 split at h
 ·cases h
 rename_i vs hv
 split at h
 ·cases h
 rename_i a2 hf;injection h with h;injection h with h1 h2;subst h1 h2;exact zx5 hc hx ha hw hv hf hn k
theorem zid {vs:List PV}(h:dnF tm g s=some (s1,vs))(ha:g.act=some o):zaq tm g.exe s=some s1/\za4 tm s1.nm o.args=some vs:=by
 unfold dnF at h
 split at h
 ·cases h
 rename_i s2 hx;rw[ha]at h;dsimp only at h
 split at h
 ·cases h
 rename_i vs2 hv;injection h with h;injection h with h1 h2;subst h1 h2;exact⟨hx,hv⟩
theorem zdn {f:Nat}{caps vs aS:List PV}{v:PV}{nm':Nat->PV}(k:FN E f aS (.ret v))(hQ:WD E caught tm l ⟨nm',s1.df,s1.H,s1.K⟩ Q)(h:dnF tm g s=some (s1,.fn f caps::vs))(hc:za1 s.K g.chk:=by first|exact trivial|simp only[go_sem])(ha:g.act=some o:=by rfl)(hk:o.kind=.call:=by rfl)(hw:zX tm s1.nm o.guard=some true:=by first|rfl|(simp only[go_sem]<;>rfl))
  (hl:LF s1.H 1 (vs++caps) aS:=by(repeat(first|exact trivial|refine And.intro ?_ ?_|exact .int _ _|exact .bool _|exact .list _ _ _|exact .elem _|exact .nilsl|exact .nil _ _|exact .str _|refine Frz.aggL ?_|refine Frz.fnL ?_|refine Frz.tupL ?_|refine .iface ?_|exact zbv rfl rfl (by assumption)))) (hn:za0 s1.nm o.dst v=some nm':=by simp only[go_sem]<;>rfl):WD E caught tm (g::l) s Q :=
 zqh hc (zid h ha).1 ha hk hw (zid h ha).2 k hl hn hQ
theorem zdi {f:Nat}{caps vs aS:List PV}{v:PV}{nm':Nat->PV}(k:FN E f aS (.ret v))(hl:LF s1.H 1 (vs++caps) aS)(hQ:WD E caught tm l ⟨nm',s1.df,s1.H,s1.K⟩ Q)(h:dnF tm g s=some (s1,.fn f caps::vs))(hc:za1 s.K g.chk:=by first|exact trivial|simp only[go_sem])(ha:g.act=some o:=by rfl)(hk:o.kind=.call:=by rfl)(hw:zX tm s1.nm o.guard=some true:=by first|rfl|(simp only[go_sem]<;>rfl))(hn:za0 s1.nm o.dst v=some nm':=by simp only[go_sem]<;>rfl):WD E caught tm (g::l) s Q :=
 zqh hc (zid h ha).1 ha hk hw (zid h ha).2 k hl hn hQ
theorem zdf {f:Nat}{caps vs aS:List PV}{v:PV}{nm':Nat->PV}(k:FP E f aS (.ret v))(hl:zkX aS)(hQ:WD E caught tm l ⟨nm',s1.df,s1.H,s1.K⟩ Q)(h:dnF tm g s=some (s1,.fn f caps::vs))(hc:za1 s.K g.chk:=by first|exact trivial|simp only[go_sem])(ha:g.act=some o:=by rfl)(hk:o.kind=.call:=by rfl)(hw:zX tm s1.nm o.guard=some true:=by first|rfl|(simp only[go_sem]<;>rfl))(he:vs++caps=aS:=by rfl)(hn:za0 s1.nm o.dst v=some nm':=by simp only[go_sem]<;>rfl):WD E caught tm (g::l) s Q :=
 zwi hc (zid h ha).1 ha hk hw (zid h ha).2 k he hl hn hQ
end
section
variable {E:Env}{f:Nat}{F:zC}{args:List PV}{c:zbl}
theorem zfn {e:FE}(hF:E.funcs.get f=some F)(hl:LbE e)(hW:W E E.caught none c ⟨zo args,[],[]⟩ (zcT E F fun e' H=>zay H 0 e' e))(hc:F.body=c:=by simp only[go_sem]<;>rfl)(hn:args.length<=F.N:=by exact zBA9 rfl):FN E f args e:=zyf hF hn hl (by rw[hc];exact hW)
theorem zfp {e:FE}(hF:E.funcs.get f=some F)(hW:W E E.caught none c ⟨zo args,[],[]⟩ (zcT E F fun e' H=>zay H 0 e' e))(hc:F.body=c:=by simp only[go_sem]<;>rfl)(hn:args.length<=F.N:=by exact zBA9 rfl):FP E f args e:=zwu hF hn (by rw[hc];exact hW)
theorem zro (hF:E.funcs.get f=some F){H:List zn}{R:FE->List zn->Prop}(hW:W E E.caught none c ⟨zo args,[],H⟩ (zcT E F R))(hc:F.body=c:=by simp only[go_sem]<;>rfl)(hn:args.length<=F.N:=by exact zBA9 rfl):FO E f args H false R:=zqc hF hn (by rw[hc];exact hW)
end
end Fv
end Go.Proofs.YtfomlmhnmheenaaGreat
namespace Go.Proofs.YtfomlmhnmheenaaGreat
open Go.RowKit
namespace Fv
open Tw
theorem zrH {c:Cx}{h:TH}:∀{l:List Int} {cs:List TV},LR (VR c h) (l.map fun(n:Int)=>(PV.int .i64 n)) cs->cs=ivT l
 | [],cs,k=>k.of_nil
 | a::l,cs,k=>by
  obtain⟨y,cs',rfl,h1,h2⟩:=LR.of_cons k;rw[zrH h2,h1.int_inv];rfl
theorem zrw {c:Cx}{h:TH}:∀l:List Int,LR (VR c h) (l.map fun(n:Int)=>(PV.int .i64 n)) (ivT l)
 | []=>LR.nil
 | a::l=>LR.cons (.pure (.int _ _)) (zrw l)
theorem zwO {E:Env}{f e0:Nat}(hf:E.funcs.get f=none)(hg:E.spec f=some (zhA e0)){H:List zn}{id g M:Nat}{xs:List Int}(hH:H[id]?=some (.row e0 1 g M (xs.map iv)))(hM:M<=g)(hx:0<xs.length)(hx2:xs.length<=1000000)(q:Nat) :
  FO E f [.sl id g 0 xs.length q 1] H false fun e H'=>e=.ret (.tuple [])/\H'=H.set id (.row e0 1 g g ((srt xs).map iv)):=by
 intro B c h us k hv;obtain⟨y,cs',rfl,h1,h2⟩:=hv.of_cons;obtain rfl:=h2.of_nil;rcases sl_inv h1 with⟨_,_,h3,_⟩|⟨b,d,g',hρ,hgd,rfl⟩
 ·omega
 obtain⟨_,G',M',cells,cs,r1,r2,r3,r4,r5⟩:=zfR k hH hρ;obtain rfl:g'=G':=by omega
 have hflat:∀l:List Int,(l.map iv).flatMap PV.cells=l.map fun(n:Int)=>(PV.int .i64 n):=fun l=>by
  induction l with
  | nil=>rfl
  | cons a l ih=>rw[zCH9,zBS9,ih];rfl
 have r6:=r5.all;rw[hflat]at r6;have hcs:=zrH r6;rw[zAA9,Nat.mul_one]at r1 r4;obtain⟨m1,k1⟩:=k.set (o:=.row e0 1 g g ((srt xs).map iv)) (x:=.row e0 g' g' xs.length (Tr.putL .nil 0 (ivT (srt xs)))) hρ (fun e=>by rw[hH]at e;cases e) fun mm =>
  .inr ⟨b,d,g',g',Tr.putL .nil 0 (ivT (srt xs)),ivT (srt xs),hρ,by rw[TH.get_set _ _ _ _ (k.own _ _ hρ).2.1,if_pos rfl,zAA9,zjW,Nat.mul_one],r2,by omega,by
   rw[zAA9,zjW,Nat.mul_one];have:=zjJ (ivT (srt xs));unfold ivT at this;rw[zAA9,zjW]at this;exact this,⟨fun v hv=>by obtain⟨a,_,rfl⟩:=zAP9.1 hv;rfl,by rw[hflat];exact zrw _⟩⟩
 refine⟨.ret (.tuple []),_,.ret (.tuple []),_,c,⟨1,fun N hN d' hd=>?_⟩,⟨rfl,rfl⟩,m1,k1,?_,fun h=>by cases h⟩
 ·obtain⟨d',rfl⟩:∃i,d'=i+1:=⟨d'-1,by omega⟩
  show Tw.zaZ (EN E N) (zcK (EN E N) d') f _ h=_;unfold Tw.zaZ;rw[show (EN E N).funcs.get f=none from hf];dsimp only;rw[show (EN E N).spec f=some (zhA e0)from hg];show zhA e0 [.sl b g' (0*1) xs.length q 1] h=_;rw[Nat.zero_mul];show (match h.get b with
   | some o=>zl2 h b g' xs.length e0 o
   | none=>none)=_
  rw[r1];unfold zl2;dsimp only;rw[zby rfl,zby rfl,zby rfl,zch (by omega),zch hx2,r4,hcs];simp only[cond_true];rw[zlv]
 ·exact VR.tupL LR.nil
end Fv
end Go.Proofs.YtfomlmhnmheenaaGreat
