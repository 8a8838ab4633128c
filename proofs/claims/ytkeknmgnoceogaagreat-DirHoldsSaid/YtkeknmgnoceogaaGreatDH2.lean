/- part 2 of the proof of dir_holds. -/
import Derived.Test.YtkeknmgnoceogaaGreatDH1
import Derived.WalkKit
import Derived.WalkSpells
import Derived.WalkLawsBesides
import Derived.Lib.Hide
import Derived.Maps.AppendAt
import Derived.Maps.OwnOps
import Derived.Maps.Views
import Derived.Deep.AppendLies
import Derived.Deep.Draws
import Derived.Deep.RegionHeld3
import Derived.Deep.QuietTactic
import Derived.BigQuiet
import Derived.Deep.RegionWith
import Derived.Test.YtkeknmgnoceogaaGreatProg
import Derived.Laws.MakeOwn
import Derived.Laws.OwnMore
import Derived.RangeFuncNested
import Derived.RangeFuncBound
import Derived.RangeFuncCalls
import Derived.RangeFuncLeaves
import Derived.Shelf.RegionOpen
import Derived.OwnWalkIn
import Derived.TacticsInMore
import Derived.LoopNIn
import Derived.LoopIn
import Derived.Scope
import Derived.Shelf.Abstract
import Derived.OrdersHeld
import Derived.OrdersIn
import Derived.Maps.OwnIn
import Derived.RangeFuncOwn
import Derived.WalkArith
import Derived.Laws.CopyOwn
import Derived.Lib.AppendZerosOnto
import Derived.Lib.Overlaps
import Derived.Laws.Externs
import Derived.Shelf.RegionOpenPlain
import Derived.Lib.JoinLaws
import Derived.Lib.SliceRun
import Derived.Shelf.SortM.Plain
import Derived.KernelRfl
import Derived.Sort.OwnSortedInts
import Derived.IntWalk
set_option linter.unusedSimpArgs false
set_option linter.unusedVariables false
set_option linter.defProp false
set_option maxRecDepth 100000
set_option maxHeartbeats 4000000
namespace Go.Proofs.YtkeknmgnoceogaaGreat
open Tryz
open Go.RowKit
namespace Tw
variable {P:Program}{ρ ρ':zg}{Z:Nat}{h h':TH}{w:World}
variable {l:Nat}{loc:yE}{tm:LA}{tmps:LO}
theorem K5{N:Nat}:∀(ps:LN) (vs:LK) (vs':LG) (tm:LA) (tmps:LO),ps.length=vs.length->VL ρ vs vs'->(∀p∈ps,p<N)->N<=tmps.size->yP ρ tm tmps ->
  yP ρ (bd ps vs tm) ((ps.zip vs').foldl (fun tmps (t,a)=>tmps.setIfInBounds t a) tmps)/\((ps.zip vs').foldl (fun tmps (t,a)=>tmps.setIfInBounds t a) tmps).size=tmps.size
 | [],vs,vs',tm,tmps,b,d,c,f,k=>by exact⟨k,rfl⟩
 | p::ps,[],vs',tm,tmps,b,d,c,f,k=>by simp at b
 | p::ps,v::vs,vs',tm,tmps,b,d,c,f,k=>by
  obtain⟨v',cs,rfl,h1,h2⟩:=d.oc;simp only[bd,List.zip_cons_cons,Z5];have j:=c p Yp;have h:yP ρ (tm.set p (some v)) (tmps.setIfInBounds p v'):=fun t u g=>by
   rw[Tr.get_set]at g
   by_cases e:t=p
   .grind
   .rw[if_neg e]at g;obtain⟨l,m,n⟩:=k t u g
    grind
  obtain⟨o,r⟩:=K5 ps vs cs _ _ (by simpa using b) h2 (fun q i=>c q (Ys _ i)) (by simpa using f) h
  grind
theorem MQ(ps:Array Nat)(vs:LG)(tmps:LO):(ps.zip vs.toArray).foldl (fun tmps (t,a)=>tmps.setIfInBounds t a) tmps=(ps.toList.zip vs).foldl (fun tmps (t,a)=>tmps.setIfInBounds t a) tmps:=by
 obtain⟨ps⟩:=ps;simp
theorem C9(k:WR P Z ρ h w)(hl:ρ l 0=some loc){st st':LoopState}{pe pe':TX}{ps:LN}{aS bo:vw}{d:Nat}(ho:h.get l=some (.loop st pe tm ps aS bo d)){pd:Option Code}(hpd:rL pe' pd):
  ∃rec,w.heap[loc.r]?=some (.loop rec)/\rec.state=st/\rL pe rec.pending/\WR P Z ρ (h.set l (.loop st' pe' tm ps aS bo d)) (w.putObj loc.r (.loop { rec with state:=st',pending:=pd }))/\Below Z w (w.putObj loc.r (.loop { rec with state:=st',pending:=pd })):=by
 obtain⟨T,i,s⟩:=k.obj _ _ _ hl;rw[ho]at i;injection i with i;subst i;obtain⟨Q,rec,o,B,C,D,j,G,I,J,K,L,M,N,O,t,u,v⟩:=s;rw[hl]at j;injection j with j;subst j;have n:∀b m,ρ l b=some m->Z<=m.r:=fun b m a=>k.own a ho (fun cs h=>by cases h);have x:=k.dom _ _ _ hl;have y:=n _ _ hl;have p:(w.putObj loc.r (.loop { rec with state:=st',pending:=pd })).heap[loc.r]?=some (.loop { rec with state:=st',pending:=pd }):=World.putObj_heap_same x.2.2;have z:∀c b f,c≠l->ρ c b=some f->f.r≠loc.r:=fun c b f g a e=>g (k.sep _ _ _ _ _ _ a hl e zo);exact⟨rec,I,J,K,k.change (ρ':=ρ) (x':=.loop st' pe' tm ps aS bo d) (fun _ _ _ h=>h) (fun _ _ _=>rfl) hl (w':=w.putObj loc.r (.loop { rec with state:=st',pending:=pd })) (by simp) (fun c b f g a=>World.putObj_heap_other (z c b f g a))
  ⟨loc,_,o,B,C,D,hl,G,p,rfl,hpd,L,M,N,O,t,u,v⟩ (fun b f a=>by
   have A:=k.dom _ _ _ a;exact⟨n _ _ a,by simp;exact A.2.2⟩) (fun b f a c R S g q e=>g (k.sep _ _ _ _ _ _ a q e (n _ _ a)).symm),BK y _⟩
theorem Wm{E:vC}{C:wE}(hC:pE P C)(hR:mM P C)(hmix:P.follows .mixedOrders=true){args:LK}{b:Bool}(hr:i6 E C l args h=some (b,h')){args':LG}(k:WR P Z ρ h w)(hZ:Z<=w.heap.size)(hl:ρ l 0=some loc)(hv:VL ρ args args'):
  ∃fn tmps assign body,(Instr.yield loc.r args'.toArray).run P w=.ok (.round loc.r fn tmps assign body) w/\RoundIn (Fr none) 0 P loc.r fn tmps assign body w (kj P Z ρ h h' w (.ret (.bool b))):=by
 unfold i6 at hr;obtain⟨o,ho,ab⟩:=k.obj _ _ _ hl;rw[ho]at hr;dsimp only at hr
 cases o with
 | row=>cases hr
 | map=>cases hr
 | dfr=>cases hr
 | ro=>cases hr
 | loop st pe tm ps aS bo d =>
  simp only[Ed]at hr;obtain⟨s,c⟩:=ve hr;have s:=Yo s;obtain⟨bm,f,bp,N,n,m,z,q2,q3,q4,q5,q6,Q,q8,q9,ad,ah,bx⟩:=ab;rw[hl]at z;injection z with z;subst z;subst q8;refine⟨f.fn,_,f.assign,f.body,run_yield q3 (by rw[Z9,<- hv.1,<- s];simp),?_⟩;refine roundIn_of_wpIn trivial ?_;obtain⟨t1,t2⟩:=K5 f.params.toList args args' tm f.tmps s hv q9 Q q6
  cases B:vE C .nil E.N (some l) aS ⟨bd f.params.toList args tm,[],h⟩with
  | none=>rw[B]at c;cases c
  | some r1 =>
   obtain⟨R,s1⟩:=r1;rw[B]at c;have av:uW P Z ρ N .nil ⟨bd f.params.toList args tm,[],h⟩ { tmps:=(f.params.zip args'.toArray).foldl (fun tmps (t,a)=>tmps.setIfInBounds t a) f.tmps,defers:=[] } w :=
    ⟨k,by rw[MQ];exact t1,by dsimp only;rw[MQ,t2];exact Q,.nil,hZ⟩
   refine wpIn_mono (B6 hC hR hmix (ca:=.nil) (rnd:=some loc.r) (trnd:=some l) (.inr fun _=>rfl) n f.assign aS ad ρ _ _ w R s1 ⟨loc,hl,rfl⟩ av B) ?_;intro e a1 w1 hc;obtain⟨S,T,g2,U,J,p⟩:=hc;simp only[Di]at c
   cases R<;>try cases c
   have J:e=.normal:=J;subst J
   cases u:s1.h.get l with
   | none=>rw[u]at c;cases c
   | some o1 =>
    rw[u]at c;dsimp only at c
    cases o1 with
    | row=>cases c
    | map=>cases c
    | dfr=>cases c
    | ro=>cases c
    | loop a0 D nC K L M d1 =>
     simp only[BJ]at c
     cases a0<;>try cases c
     have y:=T.more _ _ _ hl;obtain⟨A,p1,p2,p3,_,_⟩:=C9 (st':=.busy) (pe':=.norm) (pd:=none) p.wr y u rfl;obtain⟨bs,j,b0,b1,p4,p5⟩:=C9 (st':=.busy) (pe':=D) (pd:=A.pending) p.wr y u p3;rw[p1]at j;injection j with j;injection j with j;subst j;refine⟨w1.putObj loc.r (.loop { A with state:=.busy }),run_beginRound p1 p2,?_⟩
     cases G:vE C .nil E.N (some l) bo ⟨s1.tm,s1.df,s1.h.set l (.loop .busy D nC K L M d1)⟩with
     | none=>rw[G]at c;cases c
     | some r2 =>
      obtain⟨V,q⟩:=r2;rw[G]at c;have k2:uW P Z S N .nil ⟨s1.tm,s1.df,s1.h.set l (.loop .busy D nC K L M d1)⟩ a1 (w1.putObj loc.r (.loop { A with state:=.busy })):=⟨p4,p.tm,p.sz,p.df,YY p.hZ p5.size⟩
      refine wpIn_mono (B6 hC hR hmix (ca:=.nil) (rnd:=some loc.r) (trnd:=some l) (.inr fun _=>rfl) m f.body bo ah S _ _ _ V q ⟨loc,y,rfl⟩ k2 G) ?_;intro e a2 w2 a3;obtain⟨X,f1,f2,f3,f4,f5⟩:=a3;simp only[Ao]at c
      cases O:q.df with
      | cons _ _=>rw[O]at c;cases c
      | nil =>
       rw[O]at c;dsimp only at c
       cases I:q.h.get l with
       | none=>rw[I]at c;cases c
       | some o2 =>
        rw[I]at c;dsimp only at c
        cases o2 with
        | row=>cases c
        | map=>cases c
        | dfr=>cases c
        | ro=>cases c
        | loop b2 b3 yN a4 a5 a6 d2 =>
         have a7:=f1.more _ _ _ y;have a8:zg.le h.next ρ X:=T.trans f1 (by rw[TH.next_set];exact U);have a9:Below Z w w2:=(g2.trans p5).trans f2;have bb:h.next<=q.h.next:=YY U (by have:=f3;rw[TH.next_set]at this;exact this);have fin:∀(x:TX) (pd:Option Code),rL x pd->h'=q.h.set l (.loop (if pd.isNone then .ready else .done) x yN a4 a5 a6 d2)->b=pd.isNone->∃v w',(Instr.endRound loc.r pd).run P w2=.ok v w'/\kj P Z ρ h h' w (.ret (.bool b)) (.returned v) w':=fun x pd hx Y hb=>by
          obtain⟨bw,z1,z2,z3,z4,z5⟩:=C9 (st':=if pd.isNone then .ready else .done) (pe':=x) (pd:=pd) f5.wr a7 I hx;refine⟨_,_,run_endRound pd z1,X,a8,by rw[Y];exact z4,a9.trans z5,by rw[Y,TH.next_set];exact bb,_,rfl,by rw[hb];exact .bool _⟩
         simp only[CS]at c
         cases V with
         | norm =>
          have f4:e=.normal:=f4;subst f4;injection c with c;injection c with g i;exact fin .norm none rfl i.symm g.symm
         | exit id =>
          have f4:e=.exit id:=f4;subst f4;injection c with c;injection c with g i;exact fin (.exit id) (some (.exit id)) rfl i.symm g.symm
         | goto t =>
          have f4:e=.goto t:=f4;subst f4;injection c with c;injection c with g i;exact fin (.goto t) (some (.goto t)) rfl i.symm g.symm
         | ret =>
          have f4:e=.ret:=f4;subst f4;injection c with c;injection c with g i;exact fin .ret (some .ret) rfl i.symm g.symm
         | panic v=>cases c
theorem KA(k:WR P Z ρ h w)(kt:yP ρ tm tmps):∀(rs:List ResultVar) (ts:List cQ) (vs:LK),uI (iX P) rs=some ts->ny tm h ts=some vs ->
  ∃vs',(rs.mapM fun(x:ResultVar)=>(match x with
  | .tmp t=>pure (tmps.getD t undef)
  | .cell a t=>do loadVar t (<- asAddr (tmps.getD a undef)):Sem Value)).run P w=.ok vs' w/\VL ρ vs vs'
 | [],ts,vs,b,c=>by
  simp only[uI]at b;injection b with b;subst b;simp only[ny]at c;injection c with c;subst c;exact⟨[],by simp,VL.nil ρ⟩
 | r::rs,ts,vs,b,c=>by
  unfold uI at b
  split at b
  .cases b
  .rename_i t d
   split at b
   .cases b
   .rename_i ts' hts;injection b with b;subst b;simp only[ny]at c
    split at c
    .cases c
    .rename_i v hv
     split at c
     .cases c
     .rename_i us hus;injection c with c;subst c;obtain⟨o,A,s⟩:=KA k kt rs ts' us hts hus;have m:∃v',((match r with
       | .tmp t=>pure (tmps.getD t undef)
       | .cell a t=>do loadVar t (<- asAddr (tmps.getD a undef)):Sem Value)).run P w=.ok v' w/\VR ρ v v':=by
       cases r with
       | tmp t0 =>
        simp only[iX]at d;injection d with d;subst d;obtain⟨v',i,e⟩:=kt _ _ hv;exact⟨v',by simp[ZL,i],e⟩
       | cell t0 B =>
        simp only[iX]at d
        split at d
        .rename_i g n hg hn;injection d with d;subst d;dsimp only at hv
         split at hv
         .rename_i p hp;obtain⟨u,i,e⟩:=kt _ _ hp;obtain⟨v',j,y⟩:=JN k hg hn e hv;refine⟨v',?_,y⟩;have q:∃l,u=.pointer (some l):=by
           have f:ni g n h p=some v:=hv;unfold ni at f
           split at f
           .cases e;exact⟨_,rfl⟩
           .cases f
          obtain⟨l,rfl⟩:=q;simp only[Instr.loadAt,Instr.sureAddr,Sem.run_bind,Sem.run_pure,Result.andThen_ok]at j;simp only[ZL,i,Option.getD_some,asAddr,Sem.run_bind,Sem.run_pure,Result.andThen_ok];exact j
         .cases hv
        .cases d
      obtain⟨v',C,z⟩:=m;refine⟨v'::o,?_,.cons z s⟩
      simp_all
theorem VZ(k:WR P Z ρ h w){fn:Func}(kt:yP ρ tm tmps){ts:List cQ}{vs:LK}(hm:uI (iX P) fn.results.toList=some ts)(hr:ny tm h ts=some vs):∃v',(results fn tmps).run P w=.ok v' w/\VR ρ (rq vs) v':=by
 obtain⟨d,f,a⟩:=KA k kt _ _ _ hm hr;unfold results;rw[Array.mapM_eq_mapM_toList];simp only[Sem.run_bind,map_eq_pure_bind,bind_assoc];generalize g:Sem.run P (List.mapM _ fn.results.toList) w=X;have e:X=.ok d w:=g.symm.trans f;rw[e];simp only[Result.andThen_ok,pure_bind,Sem.run_pure]
 cases vs with
 | nil =>
  have:=a.oN;subst this;exact⟨_,rfl,VR.tL (VL.nil ρ)⟩
 | cons v vs =>
  obtain⟨v',cs,rfl,b,c⟩:=a.oc
  cases vs with
  | nil =>
   have:=c.oN;subst this;exact⟨_,rfl,b⟩
  | cons u us =>
   obtain⟨i,ds,rfl,j,l⟩:=c.oc;refine⟨.tuple (v'::i::ds).toArray,?_,VR.tL (.cons b (.cons j l))⟩;simp
theorem Gb(k:WR P Z ρ h w){b g:Nat}(hρ:ρ b g=some loc){x:TV}(hw:nG h b g 0 [x]=some h'):(∃v,w.cell? ⟨loc.r,0,none⟩=some v)/\w.frozen? ⟨loc.r,0,none⟩=false:=by
 unfold nG at hw
 split at hw
 .rename_i y hy;unfold rC at hw
  split at hw
  .rename_i e G M len cells;obtain⟨i,n⟩:=ve hw;obtain⟨j,A⟩:=ve n;have i:=Yo i;have j:=YB j;subst i;obtain⟨o,c,l⟩:=k.obj _ _ _ hρ;rw[hy]at c;injection c with c;subst c;obtain⟨u,p,d,a,B,C,D,q,s⟩:=l.2.2 g l.1 (Ym _);rw[hρ]at d;injection d with d;subst d;have z:=q rfl;obtain⟨_,v,_,m,_,_⟩:=s 0 (by simp at j;omega);obtain⟨t,a,f⟩:=a;have I:0<p.size:=(Zd.1 m).1;refine⟨⟨v,by simp[World.cell?,a,m]⟩,?_⟩;rcases f with rfl|⟨_,f⟩
   .simp[World.frozen?,a]
   .obtain⟨lo,hi⟩:=t;simp only[World.frozen?,a,Bool.and_eq_false_iff,decide_eq_false_iff_not]
    left
    dsimp only at f;omega
  .cases hw
 .cases hw
theorem Ex(n:Int){r:Nat}{v:Value}(hc:w.cell? ⟨r,0,none⟩=some v)(hf:w.frozen? ⟨r,0,none⟩=false):(storeCells ⟨r,0,none⟩ [.int .i64 n]).run P w=.ok () (w.setCell ⟨r,0,none⟩ (.int .i64 n)):=by
 have a:(⟨r,0,none⟩:Addr).add 0=⟨r,0,none⟩:=by simp[pH]
 simp[storeCells,a,go_sem,hc,hf]
structure eq(P:Program)(errno f:Nat):Prop where
 ent:∀(args:LO) w,(callFunc f args).run P w=.ok (.enter f args) w
 idle:∀p' c' w,CallsDIn (Fr none) 0 P f #[p',c'] .returning w fun e u' w'=>(∃v,e=.returned v)/\u'=.returning/\w'=w
 hit:∀(n:Int) (eb gid:Nat) (cap:LO) (w:World) (R:World->Prop),(∀w,(callFunc gid cap).run P w=.ok (.enter gid cap) w)->CallsIn (Fr none) 0 P gid cap w (fun e w'=>e=.returned (.tuple #[])/\R w') ->
  (∀w1,R w1->(∃v,w1.cell? ⟨eb,0,none⟩=some v)/\w1.frozen? ⟨eb,0,none⟩=false) ->
  CallsDIn (Fr none) 0 P f #[.pointer (some ⟨eb,0,none⟩),.func (.func gid) #[] cap] (.panicking [{ v:=.iface errno (.int .i64 n),recovered:=false }]) w fun e u' w' =>
   (∃v,e=.returned v)/\u'=.panicking [{ v:=.iface errno (.int .i64 n),recovered:=true }]/\∃w1,R w1/\w'=w1.setCell ⟨eb,0,none⟩ (.int .i64 n)
def MR(ρ:zg):TM->FrameMode->Prop
 | .returning,u=>u=.returning
 | .panicking v,u=>∃v',u=.panicking [{ v:=v',recovered:=false }]/\VR ρ v v'
variable {u:FrameMode}
theorem MR.mono(hρ:∀b g loc,ρ b g=some loc->ρ' b g=some loc){m:TM}(k:MR ρ m u):MR ρ' m u:=by
 cases m with
 | returning=>exact k
 | panicking v=>obtain⟨v',a,b⟩:=k;exact⟨v',a,b.mono hρ⟩
theorem MR.ne{m:TM}(k:MR ρ m u):u ≠ .run:=by
 cases m with
 | returning=>simp only[MR]at k;subst k;simp
 | panicking v=>obtain⟨v',rfl,_⟩:=k;simp
theorem Td{E:vC}{C:wE}(hC:pE P C)(hca:∀f,E.caught.get f=some ()->eq P E.errno f){fn:Func}{tmps:LO}{R:Ending->World->Prop} :
  ∀(td:LZ) (ds:List Deferred) (m:TM) (u:FrameMode) (h:TH) (w:World) (ρ:zg) (m':TM) (h':TH),WR P Z ρ h w->Z<=w.heap.size->pa ρ E.caught td ds->MR ρ m u->uS E C td m h=some (m',h') ->
  (∀ρ' w' u',zg.le h.next ρ ρ'->WR P Z ρ' h' w'->Below Z w w'->h.next<=h'.next->MR ρ' m' u'->LeavesIn (Fr none) 0 P fn tmps R [] u' w')->LeavesInM (Fr none) 0 P fn tmps R ds u w:=by
 intro td
 induction td with
 | nil =>
  intro ds m u h w ρ m' h' k I hd q a G
  cases hd
  simp only[uS]at a;injection a with a;injection a with h1 h2;subst h1;subst h2;exact G ρ w u (.refl _ _) k (.refl _ _) (Ym _) q
 | cons t td U =>
  intro ds m u h w ρ m' h' k I hd q a G
  cases hd with
  | mark x K =>
   rename_i b loc ds;simp only[uS]at a
   split at a
   .rename_i hg;obtain⟨o,L,a7⟩:=k.obj _ _ _ x;rw[hg]at L;injection L with L;subst L;obtain⟨bw,D,V⟩:=a7;rw[x]at D;injection D with D;subst D;have Q:∀i O,ρ b i=some O->Z<=O.r:=fun i O d=>k.own d hg (fun cs h=>by cases h);have a8:=k.dom _ _ _ x;have a9:=Q _ _ x;have ah:(w.putObj loc.r (.deferred none)).heap[loc.r]?=some (.deferred none):=World.putObj_heap_same a8.2.2;have bb:∀c i y,c≠b->ρ c i=some y->y.r≠loc.r:=fun c i y z d e=>z (k.sep _ _ _ _ _ _ d x e zo);have k2:=k.change (ρ':=ρ) (x':=.dfr true) (fun _ _ _ h=>h) (fun _ _ _=>rfl) x (w':=w.putObj loc.r (.deferred none)) (by simp) (fun c i y z d=>World.putObj_heap_other (bb c i y z d))
     ⟨loc,x,ah⟩ (fun i y d=>by
      have bm:=k.dom _ _ _ d;exact⟨Q _ _ d,by simp;exact bm.2.2⟩) (fun i y d c bx b5 z av e=>z (k.sep _ _ _ _ _ _ d av e (Q _ _ d)).symm)
    have ab:=BK (w:=w) a9 (.deferred none);refine⟨q.ne,.inl ⟨loc.r,_,rfl,run_takeDeferred V,?_⟩⟩;exact U _ m u _ _ ρ m' h' k2 (YY I ab.size) K q a fun ρ' w' u' j s A B M=>G ρ' w' u' j s (ab.trans A) B M
   .cases a
  | caught hf hp z K =>
   rename_i f p c N c' ds;have S:=hca f hf;have a0:(invoke (.fn (.func f) #[]) #[N,c']).run P w=.ok (.enter f #[N,c']) w:=by
    simp only[invoke,Array.append_empty];exact S.ent _ w
   refine⟨q.ne,.inr ⟨fun hd=>by simp[Fr,Fence.wide]at hd,_,_,f,#[N,c'],rfl,a0,fun _ _=>trivial,?_⟩⟩
   cases m with
   | returning =>
    have q:u=.returning:=q;subst q;simp only[uS]at a;refine(S.idle N c' w).mono ?_;rintro e u' w' ⟨⟨v,rfl⟩,rfl,rfl⟩;exact U _ .returning .returning _ _ ρ m' h' k I K rfl a G
   | panicking v =>
    obtain⟨v',rfl,X⟩:=q;simp only[uS]at a
    split at a
    .rename_i heq
     cases heq
    .rename_i t n heq
     cases heq
     obtain⟨Y,l⟩:=ve a;have Y:=Yo Y
     split at l
     .rename_i g cap
      split at l
      .rename_i h1 hcall
       split at l
       .rename_i b i e0
        split at l
        .rename_i h2 hw
         cases hp with
         | ptr T b6 =>
          rename_i loc
          cases z with
          | fn bo bp =>
           rename_i caps;obtain⟨a6,ad⟩:=hC g _ _ _ h1 hcall Z ρ w caps k I ⟨bo,bp⟩
           cases X with
           | iface X =>
            cases X
            subst Y;refine(S.hit n loc.r g caps.toArray w (fun w1=>∃ρ1,zg.le h.next ρ ρ1/\WR P Z ρ1 h1 w1/\Below Z w w1/\h.next<=h1.next) a6 (ad.mono ?_) ?_).mono ?_
            .rintro e w1 ⟨ρ1,j,s,A,B,v',rfl,M⟩;refine⟨?_,ρ1,j,s,A,B⟩;generalize b7:v'=vv at M
             cases M with
             | tuple bs ca =>
              rename_i cs;have:cs=[]:=by cases cs;rfl;simp at bs
              subst this;rfl
            .rintro w1 ⟨ρ1,j,s,A,B⟩;exact Gb s (j.more _ _ _ T) hw
            .rintro e u' w' ⟨⟨v,rfl⟩,rfl,w1,⟨ρ1,j,s,A,B⟩,b0⟩;obtain⟨w2,J,b2,b3,b4⟩:=EG s (j.more _ _ _ T) (VL.one (.int .i64 n)) (by simp[TV.one]) hw;obtain⟨⟨v0,D⟩,V⟩:=Gb s (j.more _ _ _ T) hw;rw[Ex n D V]at J;injection J with _ J;rw[<- b0]at J;subst J;exact U _ .returning .returning _ _ ρ1 m' h' b2 (YY I (A.trans b3).size) (K.mono j.more) rfl l fun ρ' w3 u' c1 c2 c3 c4 c5=>G ρ' w3 u' (j.trans c1 (by rw[b4];exact B)) c2 ((A.trans b3).trans c3) (by rw[b4]at c4;exact YY B c4) c5
        .cases l
       .cases l
      .cases l
     .cases l
    .cases a
structure mI(P:Program)(E:vC):Prop where
 mix:P.follows .mixedOrders=true
 fn:∀f F,E.funcs.get f=some F->∃fn,P.funcs[f]?=some fn/\di P fn=some F/\∀(args:LO) w,(callFunc f args).run P w=.ok (.enter f args) w
 spec:∀f g,E.spec f=some g->∀(Z:Nat) (ρ:zg) (w:World) (args:LK) (args':LG) (h:TH) (r:TE) (h':TH),g args h=some (r,h')->WR P Z ρ h w->Z<=w.heap.size->VL ρ args args' ->
  (∀w,(callFunc f args'.toArray).run P w=.ok (.enter f args'.toArray) w)/\CallsIn (Fr none) 0 P f args'.toArray w (kj P Z ρ h h' w r)
 caught:∀f,E.caught.get f=some ()->eq P E.errno f
variable {E:vC}
theorem QX{fn:Func}{F:ze}(hF:di P fn=some F):∃c,fn.body=some c/\ut P fn.ntmps 1000 c=some F.body/\uI (iX P) fn.results.toList=some F.res/\F.N=fn.ntmps:=by
 unfold di at hF
 grind
theorem QM(hE:mI P E){C:wE}(hC:pE P C)(hR:mM P C):pE P ⟨zC E C,i6 E C⟩:=by
 intro f args h r h' i Z ρ w p k O Q;simp only[zC]at i
 split at i
 .rename_i F hF;obtain⟨L,b⟩:=ve i;have L:=YB L;obtain⟨D,p1,p2,p3⟩:=hE.fn f F hF;obtain⟨c,c1,c2,c3,c4⟩:=QX p2;refine⟨fun w=>p3 _ w,callsIn_of_wp_marks p1 c1 trivial ?_⟩
  cases z:vE C E.caught E.N none F.body ⟨Tr.putL .nil 0 args,[],h⟩with
  | none=>rw[z]at b;cases b
  | some r1 =>
   obtain⟨x,s⟩:=r1;rw[z]at b;have ab:uW P Z ρ D.ntmps E.caught ⟨Tr.putL .nil 0 args,[],h⟩ { tmps:=p.toArray++Array.replicate (D.ntmps-p.toArray.size) undef,defers:=[] } w:=by
    refine⟨k,fun t v j=>?_,by simp;omega,.nil,O⟩;dsimp only at j;rw[Tr.get_putL]at j
    split at j
    .rename_i hlt;obtain⟨y,y1,y2⟩:=Q.at j
     grind
    .rw[Tr.get_nil]at j;cases j
   refine wpIn_mono (B6 hC hR hE.mix (rnd:=none) (trnd:=none) (.inl rfl) 1000 c F.body c2 ρ _ _ w x s trivial ab z) ?_;intro e G w1 hc;obtain⟨R,g1,g2,S,d,n⟩:=hc;have A:∀(m:TM) (u:FrameMode),MR R m u->pR E F s.tm (uS E C s.df m s.h)=some (r,h')->LeavesInM (Fr none) 0 P D G.tmps (kj P Z ρ h h' w r) G.defers u w1:=fun m u hm a=>by
    cases B:uS E C s.df m s.h with
    | none=>rw[B]at a;cases a
    | some q =>
     obtain⟨T,h2⟩:=q;rw[B]at a;refine Td hC hE.caught s.df G.defers m u s.h w1 R T h2 n.wr n.hZ n.df hm B fun U w2 u2 V I b3 b4 o=>?_;have M:=g1.trans V S;have X:=g2.trans b3;have Y:=YY S b4
     cases T with
     | returning =>
      have o:u2=.returning:=o;subst o;simp only[pR]at a
      split at a
      .rename_i vs hvs;injection a with a;injection a with J K;subst J;subst K;obtain⟨v',d1,d2⟩:=VZ I (n.tm.mono V.more) c3 hvs;exact⟨v',d1,U,M,I,X,Y,v',rfl,d2⟩
      .cases a
     | panicking v =>
      obtain⟨v',rfl,d2⟩:=o;simp only[pR]at a;injection a with a;injection a with J K;subst J;subst K;exact⟨U,M,I,X,Y,v',rfl,d2⟩
   simp only[Cf]at b
   cases x with
   | norm =>
    have d:e=.normal:=d;subst d;exact A .returning .returning rfl b
   | ret =>
    have d:e=.ret:=d;subst d;exact A .returning .returning rfl b
   | panic v =>
    obtain⟨v',rfl,ad⟩:=d;exact A (.panicking v) _ ⟨v',rfl,ad⟩ b
   | exit id=>cases b
   | goto l=>cases b
 .split at i
  .rename_i g hg;exact hE.spec f g hg Z ρ w args p h r h' i k O Q
  .cases i
theorem BZ(hE:mI P E):∀d,pE P (y7 E d)/\mM P (y7 E d)
 | 0=>⟨fun f args h r h' a=>(by cases a),fun l args h b h' a=>(by cases a)⟩
 | d+1=>by
  obtain⟨c,e⟩:=BZ hE d;exact⟨QM hE c e,fun l args h b h' a Z ρ w m loc k g i j=>Wm c e hE.mix a k g i j⟩
theorem WR.start(w:World):WR P w.heap.size (fun _ _=>none) ⟨0,.nil⟩ w:=⟨fun _ _ _ h=>(by cases h),fun _ _ _ h=>(by cases h),fun _ _ _ _ _ _ h=>(by cases h)⟩
theorem PE(hE:mI P E){d f:Nat}{r:TE}(hr:(y7 E d).fn f [] ⟨0,.nil⟩=some (r,h'))(w:World):
  (∀w,(callFunc f #[]).run P w=.ok (.enter f #[]) w)/\CallsIn (Fr none) 0 P f #[] w fun e w'=>Below w.heap.size w w'/\match r with
   | .ret v=>∃ρ v',e=.returned v'/\VR ρ v v'
   | .panic v=>∃ρ v',e=.panicked [{ v:=v',recovered:=false }]/\VR ρ v v':=by
 obtain⟨h1,h2⟩:=(BZ hE d).1 f [] ⟨0,.nil⟩ r h' hr w.heap.size _ w [] (WR.start w) (Ym _) (VL.nil _);refine⟨h1,h2.mono ?_⟩;rintro e w' ⟨ρ',_,_,a,_,b⟩
 grind
end Tw
variable {Z:Nat}
def wJ(w w':World):Prop:=Below w.heap.size w w'
variable {p:Addr}{w w1 w2:World}
theorem wJ.refl(w:World):wJ w w:=Below.refl _ w
theorem wJ.trans(h:wJ w w1)(k:wJ w1 w2):wJ w w2:=Below.trans h (Below.mono k (Below.size h))
theorem wJ.drew(h:wJ w w1):wJ w w1.drew:=Below.drew h
theorem wJ.alloc(h:wJ w w1)(o:Obj):wJ w (w1.alloc o):=Below.alloc h (Below.size h) o
theorem wJ.setCell(h:wJ w w1)(hp:w.heap.size<=p.block)(u:Value):wJ w (w1.setCell p u):=Below.setCell h hp u
theorem wJ.grown{row:LB}(h:wJ w w1)(hg:w1.grownBy w2 row)(hr:∀k,row=some k->w.heap.size<=k):wJ w w2:=Below.grown h hg (Below.size h) hr
theorem wJ.size(h:wJ w w1):w.heap.size<=w1.heap.size:=Below.size h
theorem wJ.below(h:wJ w w1):Below w.heap.size w w1:=h
theorem wJ.cells{W:World}(hb:wJ W w1):(∀b o,b<W.heap.size->w1.cell? ⟨b,o,none⟩=W.cell? ⟨b,o,none⟩)/\(∀b o,b<W.heap.size->w1.frozen? ⟨b,o,none⟩=W.frozen? ⟨b,o,none⟩) :=
 ⟨fun b o h=>Below.cell hb (p:=⟨b,o,none⟩) h,fun b o h=>Below.frozen hb (p:=⟨b,o,none⟩) h⟩
theorem wJ.cell(h:wJ w w1){v:Value}(hc:w.cell? p=some v):w1.cell? p=some v:=(Below.cell h (World.block_lt_of_cell? w _ hc)).trans hc
theorem wJ.block(h:wJ w w1){b:Nat}{o:Obj}(hc:w.heap[b]?=some o):w1.heap[b]?=some o:=(Below.block h b (Zd.1 hc).1).trans hc
theorem Qy(w:World)(o1:Obj):wJ w (w.alloc o1):=(wJ.refl w).alloc o1
theorem wJ.grownBy(h:wJ w w1)(row:LB):w.grownBy w1 row:=⟨h.os,h.tape,h.output,h.size,fun k a _=>Below.block h k a⟩
theorem eM(b o j:Nat):(⟨b,o,none⟩:Addr).add j=⟨b,o+j,none⟩:=by unfold Addr.add;split<;>simp_all
def xj(w:World)(b:Nat)(t:TypeId):Prop:=∃cs fr,w.heap[b]?=some (.cells cs t fr)
variable {b:Nat}{t:TypeId}{w':World}
theorem xj.lt(h:xj w b t):b<w.heap.size:=by obtain⟨_,_,h⟩:=h;exact(Zd.1 h).1
theorem xj.ext(h:xj w b t)(hb:wJ w w'):xj w' b t:=by obtain⟨cs,a,h⟩:=h;exact⟨cs,a,hb.block h⟩
theorem xj.set(h:xj w b t)(p:Addr)(v:Value):xj (w.setCell p v) b t:=by
 obtain⟨cs,a,h⟩:=h
 by_cases e:p.block=b
 .subst e;exact⟨_,_,by simp[World.setCell,zBO9,h];exact⟨rfl,rfl⟩⟩
 .exact⟨cs,a,(Below.heap_setCell w p v b (fun x=>e x.symm)).trans h⟩
theorem xj.same(h:xj w b t)(he:w'.heap[b]?=w.heap[b]?):xj w' b t:=by obtain⟨cs,a,h⟩:=h;exact⟨cs,a,he.trans h⟩
theorem xj.one{t':TypeId}(h:xj w b t)(h':xj w b t'):t=t':=by
 obtain⟨cs,d,h⟩:=h;obtain⟨a,c,h'⟩:=h'
 grind
theorem UP{base:Nat}{e:TypeId}{size n:Nat}{v:Value}{xs:LG}(h:w.ownsRow base e size v n xs)(hb:v.ownBlock=some b):xj w b e:=by
 rcases h.2 with⟨rfl,_⟩|⟨g,c,d,rfl,_,a,_⟩
 .simp[Value.ownBlock]at hb
 .simp[Value.ownBlock]at hb;subst hb;exact⟨_,_,a⟩
def mL(t:TypeId)(Z:Nat)(w:World)(b:Nat):Prop:=b<Z\/xj w b t
theorem mL.same{w':World}(h:mL t Z w b)(he:w'.heap[b]?=w.heap[b]?):mL t Z w' b:=h.imp id fun h=>h.same he
theorem mL.ne{X:Nat}{t':TypeId}(h:mL t Z w b)(hX:Z<=X)(ht:xj w X t')(hne:t'≠t):b≠X:=by
 rintro rfl;rcases h with h|h
 .omega
 .exact hne (ht.one h)
def RT(t:TypeId)(Z:Nat)(w:World)(A:Option Addr)(xs:LG):Prop :=
 xs ≠ []->∃b o,A=some ⟨b,o,none⟩/\mL t Z w b/\∀(j:Nat) u,xs[j]?=some u->w.cell? ⟨b,o+j,none⟩=some u
variable {t:TypeId}
variable {base:Nat}{e:TypeId}{n o:Nat}{v:Value}{xs:LG}
theorem RT.nil(w:World)(A:Option Addr):RT t Z w A []:=fun h=>(h rfl).elim
theorem RT.move{A xs}(h:RT t Z w A xs)(hb:∀b o,A=some ⟨b,o,none⟩->mL t Z w b->b<w.heap.size->w'.heap[b]?=w.heap[b]?):RT t Z w' A xs:=fun c=>by
 obtain⟨b,o,d,e,f⟩:=h c;have i:b<w.heap.size:=by
  obtain⟨u,l,rfl⟩:=List.exists_cons_of_ne_nil c;exact World.block_lt_of_cell? w _ (f 0 u rfl)
 have g:=hb b o d e i;exact⟨b,o,d,e.same g,fun j u k=>(World.cell?_of_block (a:=⟨b,o+j,none⟩) g).trans (f j u k)⟩
theorem RT.ext{A xs}(h:RT t Z w A xs)(hb:wJ w w'):RT t Z w' A xs:=h.move fun b _ _ _ a=>Below.block hb b a
theorem RT.drew{A xs}(h:RT t Z w A xs):RT t Z w.drew A xs:=h.ext (wJ.refl _).drew
theorem RT.alloc{A xs}(h:RT t Z w A xs)(o:Obj):RT t Z (w.alloc o) A xs:=h.ext (Qy _ _)
theorem RT.grown{A xs}(h:RT t Z w A xs){size:Nat}{ys:LG}(hown:w.ownsRow base e size v n ys)(he:e≠t)(hb:Z<=base)(hg:w.grownBy w' v.ownBlock):RT t Z w' A xs :=
 h.move fun b _ _ c d=>hg.block b d fun a=>c.ne (YY hb (hown.lt b a.symm).1) (UP hown a.symm) he rfl
theorem RT.set{A xs}(h:RT t Z w A xs){p:Addr}(hp:Z<=p.block)(ht:xj w p.block e)(he:e≠t)(v:Value):RT t Z (w.setCell p v) A xs :=
 h.move fun b _ _ a _=>Below.heap_setCell w p v b (a.ne hp ht he)
theorem RT.lt{A xs}(h:RT t Z w A xs)(hA:A=some ⟨b,o,none⟩)(hl:xs ≠ []):b<w.heap.size:=by
 obtain⟨e,f,a,_,d⟩:=h hl;rw[hA]at a;injection a with a;injection a with a c;subst a;subst c;obtain⟨u,l,rfl⟩:=List.exists_cons_of_ne_nil hl;exact World.block_lt_of_cell? w _ (d 0 u rfl)
theorem RT.mono{A xs}(h:RT t Z w A xs){Z':Nat}(hz:Z<=Z'):RT t Z' w A xs:=fun a=>by
 obtain⟨b,o,c,d,e⟩:=h a;exact⟨b,o,c,d.imp (fun h=>YS h hz) id,e⟩
theorem RT.sub{xs}(h:RT t Z w (some ⟨b,o,none⟩) xs)(k n:Nat):RT t Z w (some ⟨b,o+k,none⟩) ((xs.drop k).take n):=fun d=>by
 have c:xs ≠ []:=by rintro rfl;simp at d
 obtain⟨e,f,a,g,i⟩:=h c;injection a with a;injection a with h1 h2;subst h1;subst h2
 grind
theorem RT.drop{xs}(h:RT t Z w (some ⟨b,o,none⟩) xs)(k:Nat):RT t Z w (some ⟨b,o+k,none⟩) (xs.drop k):=by
 have:=h.sub k (xs.drop k).length
 grind
theorem RT.take{A xs}(h:RT t Z w A xs)(n:Nat):RT t Z w A (xs.take n):=fun c=>by
 have a:xs ≠ []:=by rintro rfl;simp at c
 obtain⟨b,o,d,e,f⟩:=h a
 grind
theorem UO{size:Nat}(h:w.ownsRow base e size v n xs):
  ∃A c,v=.slice A n c/\n<=c/\c<=maxLen/\RT e Z w A xs/\∀b o,A=some ⟨b,o,none⟩->base<=b/\b<w.heap.size/\o=0/\v.ownBlock=some b:=by
 rcases h.2 with⟨rfl,rfl⟩|⟨g,p,q,rfl,d,a,f,i,_⟩
 .have:xs=[]:=Zc (by simpa using h.1);subst this;exact⟨none,0,rfl,Ym _,Yv _,RT.nil _ _,fun _ _ h=>by cases h⟩
 .refine⟨_,_,rfl,f,i,fun _=>⟨g,0,rfl,.inr ⟨_,_,a⟩,fun j u k=>?_⟩,fun b o e=>?_⟩
  .have:=h.cells (g:=g) rfl j u k
   rwa [eM]at this
  .injection e with e;injection e with l m;subst l;subst m;exact⟨d,(Zd.1 a).1,rfl,rfl⟩
theorem UN{size:Nat}(h:w.ownsRow base e size v n xs)(hx:wJ w w'):w'.ownsRow base e size v n xs:=by
 refine World.ownsRow.kept h (row:=none) (hx.grownBy none) ?_
 grind
section
variable {P:Program}(w:World)
end
structure uB(α:Type) where
 t:TypeId
 size:Nat
 bytes:Nat
 enc:α->LG
 len:∀a,(enc a).length=size
 one:∀a,∀u∈enc a,u.oneCell'=true
 pos:0<size
 z:Value
 info:(prog.info? t).map (fun i=>(i.zero,i.size,i.bytes))=some (some z,size,bytes)
 zs:z.cells.size=size
variable {α:Type}{L:uB α}
def uB.all(L:uB α)(l:List α):LG:=l.flatMap L.enc
theorem uB.all_cons(L:uB α)(a:α)(l:List α):L.all (a::l)=L.enc a++L.all l:=rfl
theorem uB.all_one(L:uB α)(a:α):L.all [a]=L.enc a:=by simp[uB.all]
theorem uB.all_len(L:uB α)(l:List α):(L.all l).length=l.length*L.size:=by
 induction l with
 | nil=>simp[uB.all]
 | cons a l b=>rw[L.all_cons,Yn,L.len,b,Yq,ZR,ZQ]
theorem uB.all_oneCell(L:uB α)(l:List α):∀u∈L.all l,u.oneCell'=true:=by
 intro u b;obtain⟨a,_,c⟩:=YG.1 b;exact L.one a u c
theorem uB.all_at(L:uB α):∀(l:List α) (j:Nat) (a:α),l[j]?=some a->∀i u,(L.enc a)[i]?=some u->(L.all l)[j*L.size+i]?=some u
 | [],_,_,h,_,_,_=>by simp at h
 | x::l,0,a,h,i,u,b=>by
  simp at h;subst h;have c:i<(L.enc x).length:=(Yl.1 b).1;rw[L.all_cons,zBT9,Y6,YP c];exact b
 | x::l,j+1,a,h,i,u,b=>by
  have c:i<L.size:=by rw[<- L.len a];exact(Yl.1 b).1
  rw[L.all_cons,YN (by rw[L.len];rw[ZR];omega),L.len];have:=L.all_at l j a (by simpa using h) i u b
  grind
theorem uB.all_drop(L:uB α):∀(k:Nat) (l:List α),L.all (l.drop k)=(L.all l).drop (k*L.size)
 | 0,l=>by simp
 | k+1,[]=>by simp[uB.all]
 | k+1,x::l=>by
  have e:(k+1)*L.size=L.size+k*L.size:=by rw[ZR,ZQ]
  rw[zCC9,L.all_drop k l,L.all_cons,e,<- Z0];have a:List.drop L.size (L.enc x++L.all l)=L.all l:=by
   have:=zAT9 (l₁:=L.enc x) (l₂:=L.all l)
   rwa [L.len]at this
  rw[a]
theorem uB.all_take(L:uB α):∀(k:Nat) (l:List α),L.all (l.take k)=(L.all l).take (k*L.size)
 | 0,l=>by simp[uB.all]
 | k+1,[]=>by simp[uB.all]
 | k+1,x::l=>by
  have e:(k+1)*L.size=(L.enc x).length+k*L.size:=by rw[ZR,ZQ,L.len]
  rw[zAY9,L.all_cons,L.all_take k l,L.all_cons,e,List.take_length_add_append]
theorem uB.all_ne(L:uB α){l:List α}(h:l ≠ []):L.all l ≠ []:=by
 intro e;have:=L.all_len l;rw[e]at this;have a:=Nat.mul_pos (Zq.2 h) L.pos
 grind
def RL(L:uB α)(Z:Nat)(w:World)(A:Option Addr)(l:List α):Prop:=RT L.t Z w A (L.all l)
variable {l:List α}
theorem RL.nil(w:World)(A:Option Addr):RL L Z w A []:=RT.nil w A
theorem RL.ext{w':World}{A}(h:RL L Z w A l)(hb:wJ w w'):RL L Z w' A l:=RT.ext h hb
theorem RL.alloc{A}(h:RL L Z w A l)(o:Obj):RL L Z (w.alloc o) A l:=RT.alloc h o
theorem RL.drew{A}(h:RL L Z w A l):RL L Z w.drew A l:=RT.drew h
theorem RL.at{A}(h:RL L Z w A l)(hl:l ≠ []):∃b o,A=some ⟨b,o,none⟩/\b<w.heap.size/\mL L.t Z w b/\∀j a,l[j]?=some a->∀i u,(L.enc a)[i]?=some u->w.cell? ⟨b,o+(j*L.size+i),none⟩=some u:=by
 obtain⟨b,o,c,d,e⟩:=h (L.all_ne hl);exact⟨b,o,c,RT.lt h c (L.all_ne hl),d,fun j a f i u g=>e _ u (L.all_at l j a f i u g)⟩
theorem RL.sub{b o:Nat}(h:RL L Z w (some ⟨b,o,none⟩) l)(k n:Nat):RL L Z w (some ⟨b,o+k*L.size,none⟩) ((l.drop k).take n):=by
 unfold RL;rw[L.all_take,L.all_drop];exact RT.sub h (k*L.size) (n*L.size)
theorem RL.take{A}(h:RL L Z w A l)(n:Nat):RL L Z w A (l.take n):=by
 unfold RL;rw[L.all_take];exact RT.take h _
def OL(L:uB α)(w:World)(base:Nat)(v:Value)(l:List α):Prop:=w.ownsRow base L.t L.size v l.length (L.all l)
theorem OL.nil(L:uB α)(w:World)(base:Nat):OL L w base (.slice none 0 0) []:=World.ownsRow_nil w base _ _
theorem OL.rl{base v}(h:OL L w base v l):∃A c,v=.slice A l.length c/\l.length<=c/\c<=maxLen/\RL L Z w A l/\∀b o,A=some ⟨b,o,none⟩->base<=b/\b<w.heap.size/\o=0/\v.ownBlock=some b:=UO h
theorem OL.alloc{base v}(h:OL L w base v l)(o:Obj):OL L (w.alloc o) base v l:=World.ownsRow.alloc h o
theorem OL.ext{w':World}{base v}(h:OL L w base v l)(hx:wJ w w'):OL L w' base v l:=UN h hx
def LU:uB Nat:=⟨29,1,8,fun x=>[.int .u64 x],fun _=>rfl,fun _ u hu=>(by simp only[YA,Zl,or_false]at hu;subst hu;rfl),by decide,.int .u64 0,by kernel_rfl,rfl⟩
def LI:uB Int:=⟨3,1,8,fun x=>[.int .i64 x],fun _=>rfl,fun _ u hu=>(by simp only[YA,Zl,or_false]at hu;subst hu;rfl),by decide,.int .i64 0,by kernel_rfl,rfl⟩
def LT:uB (Int×Nat):=⟨120,2,16,fun x=>[.int .i64 x.1,.int .u64 x.2],fun _=>rfl,fun _ u hu=>(by simp only[YA,Zl,or_false]at hu;rcases hu with rfl|rfl<;>rfl),by decide,.agg #[.int .i64 0,.int .u64 0],by kernel_rfl,rfl⟩
theorem RL.u64{A}{l:LN}(h:RL LU Z w A l)(hl:l ≠ []):∃b o,A=some ⟨b,o,none⟩/\b<w.heap.size/\mL 29 Z w b/\∀j (hj:j<l.length),w.cell? ⟨b,o+j,none⟩=some (.int .u64 (l[j]:Nat)):=by
 obtain⟨b,o,a,c,d,e⟩:=h.at hl;refine⟨b,o,a,c,d,fun j hj=>?_⟩;have:=e j l[j] (Yk hj) 0 (.int .u64 (l[j]:Nat)) rfl;simpa[LU]using this
theorem RL.int{A}{l:LH}(h:RL LI Z w A l)(hl:l ≠ []):∃b o,A=some ⟨b,o,none⟩/\b<w.heap.size/\mL 3 Z w b/\∀j (hj:j<l.length),w.cell? ⟨b,o+j,none⟩=some (.int .i64 l[j]):=by
 obtain⟨b,o,a,c,d,e⟩:=h.at hl;refine⟨b,o,a,c,d,fun j hj=>?_⟩;have:=e j l[j] (Yk hj) 0 (.int .i64 l[j]) rfl;simpa[LI]using this
theorem RL.put{A}{l:List (Int×Nat)}(h:RL LT Z w A l)(hl:l ≠ []):∃b o,A=some ⟨b,o,none⟩/\b<w.heap.size/\mL 120 Z w b/\∀j (hj:j<l.length),w.cell? ⟨b,o+j*2,none⟩=some (.int .i64 l[j].1)/\w.cell? ⟨b,o+j*2+1,none⟩=some (.int .u64 (l[j].2:Nat)):=by
 obtain⟨b,o,c,d,e,a⟩:=h.at hl;refine⟨b,o,c,d,e,fun j hj=>⟨?_,?_⟩⟩
 .have:=a j l[j] (Yk hj) 0 (.int .i64 l[j].1) rfl;simpa[LT]using this
 .have:=a j l[j] (Yk hj) 1 (.int .u64 (l[j].2:Nat)) rfl;simpa[LT,zAP9]using this
theorem wJ.frozen{w1:World}(h:wJ w w1){o:Nat}{u:Bool}(hc:w.frozen? ⟨b,o,none⟩=u)(hb:b<w.heap.size):w1.frozen? ⟨b,o,none⟩=u:=(h.cells.2 b o hb).trans hc
attribute [go_sem] Oper.semAt_some
theorem xj.cells(h:xj w b t):∃o,w.heap[b]?=some o/\o.isCells=true:=by
 obtain⟨cs,a,h⟩:=h;exact⟨_,h,rfl⟩
open Go.RowKit Go.Maps
structure Nh where
 t:TypeId
 k:TypeId
 q:IntKind
 hk:prog.underlying k=some (.int q)
 ht:prog.underlying t=some (.map k 3)
variable {M:Nh}{B:Nat}{S:LH}
theorem RT.map{w w':World}{A xs}(h:RT t Z w A xs){o:Obj}(ho:w.heap[B]?=some o)(hc:o.isCells=false)(hB:Z<=B)(hg:w.grownBy w' (some B)):RT t Z w' A xs :=
 h.move fun b _ _ a c=>hg.block b c fun e=>by
  injection e with e;subst e;rcases a with a|⟨cs,d,a⟩
  .omega
  .rw[ho]at a;injection a with a;subst a;cases hc
namespace Tw
variable {ρ:zg}
theorem VR.sl_inv{b g o n q z:Nat}{v:Value}(h:VR ρ (.sl b g o n q z) v):∃loc o' c,v=.slice (some ⟨loc.r,o',none⟩) n c/\ρ b g=some loc/\n<=q/2/\q/2<=c/\o+q/2*z<=loc.L/\(o'=o\/n=0/\c=0/\o≠0)/\(q%2=0->o+c*z=loc.S)/\c<=maxLen:=by
 cases h
 grind
def yV(l:LH):LH:=l.mergeSort fun x y=>decide (x<=y)
theorem rc(l:LH):(yV l).length=l.length:=List.length_mergeSort _
def fl:LK->Option (LH)
 | []=>some []
 | .int .i64 a::l=>(match fl l with
  | some r=>some (a::r)
  | none=>none)
 | _=>none
def kx(l:LH):LK:=l.map fun a=>.int .i64 a
theorem HQ:∀{l:LK} {r:LH},fl l=some r->l=kx r
 | [],r,h=>by injection h with h;subst h;rfl
 | x::l,r,h=>by
  unfold fl at h
  split at h
  .grind
  .rename_i a l' e;injection e with b c;subst b;subst c
   split at h
   .rename_i r' hr;injection h with h;subst h;rw[HQ hr];rfl
   .cases h
  .cases h
theorem HS:∀r:LH,fl (kx r)=some r
 | []=>rfl
 | a::r=>by have:=HS r;unfold kx at this⊢;rw[YL,fl,this]
noncomputable def Bb (h:TH)(b g n e0:Nat):TO->Option (TE×TH)
 | .row e G M len cells=>bif Nat.beq e e0 then bif Nat.beq g G then bif Nat.beq n len then bif Nat.ble M G then bif Nat.ble n 1000000 then(match cells.getL 0 len with
  | some l=>(match fl l with
   | some r=>some (.ret (.tuple []),h.set b (.row e G G len (Tr.putL .nil 0 (kx (yV r)))))
   | none=>none)
  | none=>none)else none else none else none else none else none
 | _=>none
noncomputable def cD (e0:Nat)(vs:LK)(h:TH):Option (TE×TH):=match vs with
 | [.sl b g 0 n _ 1]=>(match h.get b with
  | some o=>Bb h b g n e0 o
  | none=>none)
 | _=>none
end Tw
variable {Z:Nat}
variable {Q:Exit->Act->World->Prop}{a:Act}{o:Oper}{ops:LX}(l:List (Int×Nat))(w:World)(x:Int×Nat)(base g:Nat)
theorem KH{P:Program}(dT sT ty elem:TypeId)(size g o dLen dCap:Nat)(a:Addr)(sLen sCap:Nat)(cur:LG)(t:TypeId)(cs:LG)(hu:P.underlying dT=some (.slice elem))(hs:(P.info? elem).map (·.size)=some size)(hg:w.heap[g]?=some (.cells cur.toArray t (0,0)))(hn:cs.length=Nat.min sLen dLen*size)(hsrc:∀j v,cs[j]?=some v->w.cell? (a.add j)=some v)(hfit:o+cs.length<=cur.length)(h1:∀v∈cs,v.oneCell'=true):
  (Builtin.copy_ #[dT,sT] ty #[.slice (some ⟨g,o,none⟩) dLen dCap,.slice (some a) sLen sCap]).run P w =
   .ok (goInt (Nat.min sLen dLen:Nat)) (w.setRow g (splice cur o cs).toArray):=by
 have d:=run_loadCells_list (P:=P) w a cs hsrc;have c:=run_storeCells_at P g o t cs 0 cur.toArray w hg (by simpa using hfit) h1
 cases b:P.info? elem with
 | none=>simp[b]at hs
 | some i =>
  have e:i.size=size:=by simpa[b]using hs
  simp only[ZP,YI]at c;simp[Builtin.copy_,run_underlying hu,Builtin.lenOf,Builtin.firstCells,sizeOf,typeInfo,b,e,<- hn,d,c,splice]
theorem Xm(R X S:List α)(hX:X.length=2):splice (splice R 0 X) 2 S=X++(S++R.drop (2+S.length)):=by
 have a:splice R 0 X=X++R.drop 2:=by unfold splice;simp[hX]
 rw[a];unfold splice;rw[ZG zo,YV zo,List.drop_append,List.drop_eq_nil_of_le zo,Z0,YC]
 grind
theorem Xn(C X S:List α)(hX:X.length=2)(hC:2<=C.length):splice (splice C 2 S) 0 X=X++(S++C.drop (2+S.length)):=by
 unfold splice
 grind
theorem HA(cs:LO):w.grownBy (w.setRow g cs) (some g) :=
 ⟨rfl,rfl,rfl,by simp[World.setRow],fun k _ a=>setRow_other w g k cs (fun e=>a (by rw[e]))⟩
theorem kD{w:World}{rest:AA}(hgd:o.guard=none)(d s:Operand)(dT sT:TypeId)(ho:o.op=.call { callee:=.builtin .copy,args:=#[d,s],argTypes:=#[dT,sT] })(elem:TypeId)(hu:prog.underlying dT=some (.slice elem))(size:Nat)(hsz:(prog.info? elem).map (·.size)=some size)(g off dLen dCap:Nat)(ad:Addr)(sLen sCap:Nat)(hd:a.eval d=.slice (some ⟨g,off,none⟩) dLen dCap)(hs:a.eval s=.slice (some ad) sLen sCap)(cur:LG)(t:TypeId)(hg:w.heap[g]?=some (.cells cur.toArray t (0,0)))(cs:LG)(hn:cs.length=Nat.min sLen dLen*size)(hsrc:∀j v,cs[j]?=some v->w.cell? (ad.add j)=some v)(hfit:off+cs.length<=cur.length)(h1:∀v∈cs,v.oneCell'=true)(h:∀w',Hid (w'.heap[g]?=some (.cells (splice cur off cs).toArray t (0,0)))->Hid (w.grownBy w' (some g))->wpList prog ops Q rest (a.put o.dst (goInt (Nat.min sLen dLen:Nat))) w'):wpList prog ops Q (o::rest) a w:=by
 refine wpList_plain hgd fun K c=>?_;have b:=KH (P:=prog) w dT sT o.type elem size g off dLen dCap ad sLen sCap cur t cs hu hsz hg hn hsrc hfit h1;unfold Oper.wp;simp[execOp,ho,resolve,invoke,builtin,hd,hs,b,Result.andThen];exact c _ _ (h _ (Lib.hid (setRow_heap w g _ _ t _ hg)) (Lib.hid (HA _ _ _)))
theorem Ll{w:World}{K:Act->World->Prop}{E:Prop}(hgd:o.guard=none)(d s:Operand)(dT sT:TypeId)(ho:o.op=.call { callee:=.builtin .copy,args:=#[d,s],argTypes:=#[dT,sT] })(elem:TypeId)(hu:prog.underlying dT=some (.slice elem))(size:Nat)(hsz:(prog.info? elem).map (·.size)=some size)(g off dLen dCap:Nat)(ad:Addr)(sLen sCap:Nat)(hd:a.eval d=.slice (some ⟨g,off,none⟩) dLen dCap)(hs:a.eval s=.slice (some ad) sLen sCap)(cur:LG)(t:TypeId)(hg:w.heap[g]?=some (.cells cur.toArray t (0,0)))(cs:LG)(hn:cs.length=Nat.min sLen dLen*size)(hsrc:∀j v,cs[j]?=some v->w.cell? (ad.add j)=some v)(hfit:off+cs.length<=cur.length)(h1:∀v∈cs,v.oneCell'=true)(h:∀w',Hid (w'.heap[g]?=some (.cells (splice cur off cs).toArray t (0,0)))->Hid (w.grownBy w' (some g))->K (a.put o.dst (goInt (Nat.min sLen dLen:Nat))) w'):
  if Region.wanted o (yielded ops a.tmps)=true then Oper.wp prog o a w K Q else E:=by
 have c:Region.wanted o (yielded ops a.tmps)=true:=by simp[Region.wanted,hgd]
 rw[if_pos c];have b:=KH (P:=prog) w dT sT o.type elem size g off dLen dCap ad sLen sCap cur t cs hu hsz hg hn hsrc hfit h1;unfold Oper.wp;simp[execOp,ho,resolve,invoke,builtin,hd,hs,b,Result.andThen];exact h _ (Lib.hid (setRow_heap w g _ _ t _ hg)) (Lib.hid (HA _ _ _))
theorem xQ:(prog.info? 120).map (·.size)=some 2:=by
 obtain⟨e,a,c,b,d⟩:=info_parts LT.info;rw[show 120=LT.t from rfl,a];simp[b,LT]
theorem RP(c vb vc:Nat)(w:World)(hl:l ≠ [])(hn:l.length<=100000)(hroom:¬l.length+1<=c)(h:OL LT w base (.slice (some ⟨g,0,none⟩) l.length c) l)(hv:RL LT Z w (some ⟨vb,0,none⟩) [x])(hb:base<=w.heap.size):
  Calls prog 200 #[.slice (some ⟨g,0,none⟩) l.length c,.int .i64 0,.slice (some ⟨vb,0,none⟩) 1 vc] w fun e w'=>∃v,e=.returned v/\OL LT w' base v (x::l)/\Below base w w'/\(∃g' c',v=.slice (some ⟨g',0,none⟩) (l.length+1) c'/\(g'=g\/w.heap.size<=g'))/\∀k,k≠g->k<w.heap.size->w'.heap[k]?=w.heap[k]?:=by
 obtain⟨A,c',a5,a6,a7,a8,O⟩:=OL.rl (Z:=0) h;injection a5 with D e2 e3;subst D;subst e3;have q:=O g 0 rfl;have b6:0<l.length:=Zq.2 hl;obtain rfl:c=l.length:=by omega
 obtain⟨bb,oo,r,cb,_,P⟩:=RL.at hv (by simp);injection r with r;injection r with a3 a4;subst a3;subst a4;obtain⟨i0,Q,R,S,s⟩:=info_parts LT.info;have T:(LT.all l).length=l.length*2:=LT.all_len l;have U:∀j u,(LT.all [x])[j]?=some u->w.cell? ((⟨vb,0,none⟩:Addr).add j)=some u:=fun j u d=>by
  rw[eM];have:=P 0 x rfl j u (by rwa [LT.all_one]at d);simpa using this
 have V:∀j u,(LT.all l)[j]?=some u->w.cell? ((⟨g,0,none⟩:Addr).add j)=some u:=World.ownsRow.cells h rfl;have X:∀u∈LT.all l,u.oneCell'=true:=LT.all_oneCell l;have Y:∀u∈LT.all [x],u.oneCell'=true:=LT.all_oneCell [x];have M:(LT.all [x]).length=2:=LT.all_len [x];have N:(Builtin.firstCells i0.size 0 (.slice (some ⟨g,0,none⟩) 0 l.length)).run prog w.drew=.ok ([]:LG).toArray w.drew :=
  run_firstCells_some w.drew _ 0 ⟨g,0,none⟩ 0 l.length [] (by simp) (fun j v d=>by simp at d)
 have m:∀I,(Builtin.append_ #[57,3] I #[.slice (some ⟨g,0,none⟩) 0 l.length,.int .i64 ((l.length:Int)+1)]).run prog w =
   .ok (.slice (some ⟨w.heap.size,0,none⟩) (l.length+1) (grownCap w (l.length+1) l.length 120)) (w.drew.alloc (.cells (([]:LG).toArray++Builtin.zeroCells LT.z.cells (l.length+1)++Builtin.zeroCells LT.z.cells (grownCap w (l.length+1) l.length 120-(l.length+1))) 120)):=fun I=>by
  have h:=Lib.run_append_grow_zeros w 57 3 I 120 i0 _ .i64 .i64 underlying57 underlying3 Q R (some ⟨g,0,none⟩) 0 l.length [] N (l.length+1) zo (by rw[S];exact LT.pos) zo zo (by rw[s];simp only[LT];omega) (by rw[s];exact growslice_fits zo (by simp only[LT];omega));simp only[Y6]at h;exact h
 have ab:=grownCap_ge w (l.length+1) l.length 120;have t:=grownCap_le_maxLen w (l.length+1) l.length 120 (by simp only[maxLen];omega);obtain⟨G,hG⟩:∃G,G=grownCap w (l.length+1) l.length 120:=⟨_,rfl⟩
 rw[<- hG]at m ab t;obtain⟨a,p⟩:∃a:LG,a.toArray=([]:LG).toArray++Builtin.zeroCells LT.z.cells (l.length+1)++Builtin.zeroCells LT.z.cells (G-(l.length+1)):=⟨_,Array.toArray_toList⟩
 rw[<- p]at m;have ad:a.length=G*2:=by
  have:=congrArg Array.size p;simp only[Z9,zAH9,size_zeroCells,YK]at this;rw[show LT.z.cells.size=2 from rfl]at this;omega
 have n:(w.drew.alloc (.cells a.toArray 120)).heap[w.heap.size]?=some (.cells a.toArray 120 (0,0)):=heap_alloc_new w.drew _;have y:wJ w (w.drew.alloc (.cells a.toArray 120)):=((wJ.refl w).drew).alloc _;obtain⟨i,ah⟩:∃i,i=w.drew.alloc (.cells a.toArray 120):=⟨_,rfl⟩
 rw[<- ah]at m n y;clear ah p hG N;have b7:w.heap.size+1<=i.heap.size:=(Zd.1 n).1;have ca:G<=9223372036854775807:=by simp only[maxLen]at t;omega
 have k1:¬((l.length:Int)=0):=by omega
 have cc:¬((0:Int)=(l.length:Int)):=by omega
 have k2:¬G=0:=by omega
 have k3:¬G=1:=by omega
 have k4:¬l.length=0:=by omega
 have k5:(l.length:Int)<(l.length:Int)+1:=by omega
 have k6:(0:Int)<=(l.length:Int):=by omega
 have b5:prog.follows Departure.mixedOrders=true:=by kernel_rfl
 have k7:IntKind.i64.wrap 1=1:=by rw[IntKind.wrap_i64];omega
 have k8:(1:Int)<=(l.length:Int)+1:=by omega
 have k9:(1:Int).toNat=1:=rfl;have a9:=Lib.hid n;have bm:=Lib.hid U;have bo:=Lib.hid V;have bp:=Lib.hid X;have bs:=Lib.hid Y;have J:=Lib.hid T;have o:=Lib.hid M;have B:=Lib.hid ad;have b:=Lib.hid y;have HO:=Lib.hid h;have bw:=Lib.hid (And.intro q.1 q.2.1);clear n U V X Y T M ad y a8 O q P e2 a6 a7 h hv Q R S s
 go_enter func200,Tryz.ntmps200
 iterate 137 go_step
 refine Lib.wpList_append_run _ rfl _ _ _ _ rfl _ _ rfl rfl _ _ (m _) ?_
 iterate 20 go_step
 refine kD rfl _ _ 57 57 rfl 120 underlying57 2 xQ w.heap.size 0 _ _ ⟨vb,0,none⟩ 1 _ rfl rfl a 120 a9.out (LT.all [x]) (by show _=min _ _*2;rw[o.out];omega) (fun j u d=>b.out.cell (bm.out j u d)) (by rw[o.out,B.out];omega) bs.out ?_;intro w2 bx f
 iterate 4 go_step
 have av:∀j u,(LT.all l)[j]?=some u->(w2.drew).cell? ((⟨g,0,none⟩:Addr).add j)=some u:=fun j u d=>by
  have h1:=b.out.cell (bo.out j u d);rw[eM]at h1⊢;exact f.out.cell h1 (fun e=>by injection e with e;have:=bw.out.2;dsimp only at e;omega)
 have a0:(splice a 0 (LT.all [x])).length=G*2:=by rw[length_splice _ _ _ (by rw[o.out,B.out];omega)];exact B.out
 have b0:=Lib.hid av;have C:=Lib.hid a0;clear av a0
 go_region_law_o (refine Ll rfl _ _ 57 57 rfl 120 underlying57 2 xQ w.heap.size 2 l.length (G-1) ⟨g,0,none⟩ l.length l.length (by simp[Act.eval,Act.put]) (by simp[Act.eval,Act.put]) (splice a 0 (LT.all [x])) 120 bx.out (LT.all l) (by show _=min _ _*2;rw[J.out];omega) b0.out (by rw[J.out,C.out];omega) bp.out ?_;intro w4 b4 a1)
 go_wp2
 go_ret
 refine⟨_,rfl,⟨?_,.inr ⟨w.heap.size,G,_,rfl,by omega,b4.out,ab,t,?_,?_⟩⟩,?_,?_,?_⟩
 .rw[LT.all_len]
 .rw[Z9,length_splice _ _ _ (by rw[J.out,C.out];omega),C.out];rfl
 .have D:splice (splice a 0 (LT.all [x])) 2 (LT.all l)=LT.all (x::l)++a.drop (2+(LT.all l).length):=by
   rw[Xm _ _ _ o.out,LT.all_cons x l,<- LT.all_one x,YI]
  rw[show (splice (splice a 0 (LT.all [x])) 2 (LT.all l)).toArray.toList=splice (splice a 0 (LT.all [x])) 2 (LT.all l)from rfl,D];rw[ZG (by rw[LT.all_len];simp[LT]),YV (by rw[LT.all_len];simp[LT])]
 .have K:Below base w i:=b.out.below.mono hb;have L:=(K.grown f.out (by have:=b.out.size;omega) (fun k e=>by injection e with e;omega)).drew;exact L.grown a1.out (by have:=f.out.size;have:=b.out.size;show base<=w2.heap.size;omega) (fun k e=>by injection e with e;omega)
 .have a2:=Ym w.heap.size
  first|exact⟨_,_,rfl,.inr a2⟩|exact⟨_,⟨_,rfl⟩,.inr a2⟩
 .have K:Below w.heap.size w i:=b.out.below;have L:=(K.grown f.out (by have:=b.out.size;omega) (fun k e=>by injection e with e;omega)).drew;have b3:=L.grown a1.out (by have:=f.out.size;have:=b.out.size;show w.heap.size<=w2.heap.size;omega) (fun k e=>by injection e with e;omega);exact fun k _ hk=>b3.block k hk
theorem RQ(c vb vc:Nat)(w:World)(hl:l ≠ [])(hn:l.length<=100000)(hroom:l.length+1<=c)(h:OL LT w base (.slice (some ⟨g,0,none⟩) l.length c) l)(hv:RL LT Z w (some ⟨vb,0,none⟩) [x])(hvg:vb≠g)(tA:TypeId)(kA:Nat)(hsa:w.shape? vb=some (tA,kA))(hfa:w.frozen? ⟨vb,0,none⟩=false)(hfe:w.frozen? ⟨vb,kA,none⟩=false)(hb:base<=w.heap.size):
  Calls prog 200 #[.slice (some ⟨g,0,none⟩) l.length c,.int .i64 0,.slice (some ⟨vb,0,none⟩) 1 vc] w fun e w'=>∃v,e=.returned v/\OL LT w' base v (x::l)/\Below base w w'/\(∃g' c',v=.slice (some ⟨g',0,none⟩) (l.length+1) c'/\(g'=g\/w.heap.size<=g'))/\∀k,k≠g->k<w.heap.size->w'.heap[k]?=w.heap[k]?:=by
 rcases h with⟨s,⟨h1,_⟩|⟨g',a6,o,h1,J,r,Y,y,z,K⟩⟩
 .cases h1
 injection h1 with n _ e3;injection n with n;injection n with n;subst n;subst e3;have a4:0<l.length:=Zq.2 hl;obtain⟨bb,oo,A,a7,_,L⟩:=RL.at hv (by simp);injection A with A;injection A with V X;subst V;subst X;have s:(LT.all l).length=l.length*2:=LT.all_len l;have M:∀j u,(LT.all [x])[j]?=some u->w.cell? ((⟨vb,0,none⟩:Addr).add j)=some u:=fun j u m=>by
  rw[eM];have:=L 0 x rfl j u (by rwa [LT.all_one]at m);simpa using this
 have N:o.toList.length=c*2:=by rw[zAD9];exact z
 have O:∀j u,(LT.all l)[j]?=some u->w.cell? ((⟨g,0,none⟩:Addr).add j)=some u:=fun j u m=>by
  rw[eM,Y6];rw[<- K,Y4]at m
  split at m
  .simp only[World.cell?,r];rw[<- Y7];exact m
  .cases m
 have P:∀u∈LT.all l,u.oneCell'=true:=LT.all_oneCell l;have Q:∀u∈LT.all [x],u.oneCell'=true:=LT.all_oneCell [x];have I:(LT.all [x]).length=2:=LT.all_len [x];have R:w.shape? g=some (120,o.size):=by show _=some (LT.t,_);simp[World.shape?,r]
 have ab:∀C D,(callFunc 255 #[.slice (some ⟨vb,0,none⟩) 1 vc,.slice (some ⟨g,2,none⟩) C D]).run prog w=.ok (.value (.bool false)) w:=fun C D=>by
  obtain⟨i0,a8,a9,bm,bo⟩:=info_parts LT.info;rw[run_callFunc_extern func255 (by kernel_rfl) (by kernel_rfl) (by kernel_rfl) (e:=Extern.SlicesOverlaps.overlaps #[57,57] #[4]) (by kernel_rfl),
   Lib.run_overlaps_apart w 57 4 120 underlying57 2 (fun w=>by kernel_rfl) ⟨vb,0,none⟩ ⟨g,2,none⟩ 1 vc C D hvg tA 120 kA o.size hsa R (by rw[z];simp only[LT];omega) hfa hfe]
  rfl
 have a3:prog.follows Departure.mixedOrders=true:=by kernel_rfl
 have a5:c<=9223372036854775807:=by simp only[maxLen]at y;omega
 have k1:¬((l.length:Int)=0):=by omega
 have bp:¬((0:Int)=(l.length:Int)):=by omega
 have k2:¬c=0:=by omega
 have k3:¬c=1:=by omega
 have k5:¬(c:Int)<(l.length:Int)+1:=by omega
 have k6:(0:Int)<=(l.length:Int):=by omega
 have k7:IntKind.i64.wrap 1=1:=by rw[IntKind.wrap_i64];omega
 have k8:(1:Int)<=(l.length:Int)+1:=by omega
 have k9:(1:Int).toNat=1:=rfl;have bs:(0:Int)<=(l.length:Int)+1:=by omega
 have ad:Hid (w.drew.heap[g]?=some (.cells o.toList.toArray 120 (0,0))):=Lib.hid r;have ah:=Lib.hid M;have av:Hid (∀j u,(LT.all l)[j]?=some u->w.drew.cell? ((⟨g,0,none⟩:Addr).add j)=some u):=Lib.hid O;have a0:=Lib.hid P;have d:=Lib.hid Q;have G:=Lib.hid s;have a:=Lib.hid I;have p:=Lib.hid N;have B:=Lib.hid J;have a1:=Lib.hid y;clear M O P Q s I N J y hv L r z K R hsa hfa hfe Y;generalize o.toList=CUR at *
 go_enter func200,Tryz.ntmps200
 go_wp2_with (simp only[ab])
 go_region_law_o (refine Ll rfl _ _ 57 57 rfl 120 underlying57 2 xQ g 2 l.length (c-1) ⟨g,0,none⟩ (l.length+1) c (by simp[Act.eval,Act.put]) (by simp[Act.eval,Act.put]) CUR 120 ad.out (LT.all l) (by show _=min _ _*2;rw[G.out];omega) av.out (by rw[G.out,p.out];omega) a0.out ?_;intro w4 f q)
 have S:∀j u,(LT.all [x])[j]?=some u->w4.cell? ((⟨vb,0,none⟩:Addr).add j)=some u:=fun j u m=>by
  have h1:=ah.out j u m;rw[eM]at h1⊢;exact q.out.cell h1 (fun e=>by injection e with e;exact hvg e)
 have T:(splice CUR 2 (LT.all l)).length=c*2:=by rw[length_splice _ _ _ (by rw[G.out,p.out];omega)];exact p.out
 have i:=Lib.hid S;have b:=Lib.hid T;clear S T
 first
 | ((iterate 10 (go_step));refine kD rfl _ _ 57 57 rfl 120 underlying57 2 xQ g 0 _ _ ⟨vb,0,none⟩ 1 _ rfl rfl (splice CUR 2 (LT.all l)) 120 f.out (LT.all [x]) (by show _=min _ _*2;rw[a.out];omega) i.out (by rw[a.out,b.out];omega) d.out ?_)
 | ((iterate 11 (go_step));refine kD rfl _ _ 57 57 rfl 120 underlying57 2 xQ g 0 _ _ ⟨vb,0,none⟩ 1 _ rfl rfl (splice CUR 2 (LT.all l)) 120 f.out (LT.all [x]) (by show _=min _ _*2;rw[a.out];omega) i.out (by rw[a.out,b.out];omega) d.out ?_)
 | ((iterate 12 (go_step));refine kD rfl _ _ 57 57 rfl 120 underlying57 2 xQ g 0 _ _ ⟨vb,0,none⟩ 1 _ rfl rfl (splice CUR 2 (LT.all l)) 120 f.out (LT.all [x]) (by show _=min _ _*2;rw[a.out];omega) i.out (by rw[a.out,b.out];omega) d.out ?_)
 | ((iterate 13 (go_step));refine kD rfl _ _ 57 57 rfl 120 underlying57 2 xQ g 0 _ _ ⟨vb,0,none⟩ 1 _ rfl rfl (splice CUR 2 (LT.all l)) 120 f.out (LT.all [x]) (by show _=min _ _*2;rw[a.out];omega) i.out (by rw[a.out,b.out];omega) d.out ?_)
 | ((iterate 14 (go_step));refine kD rfl _ _ 57 57 rfl 120 underlying57 2 xQ g 0 _ _ ⟨vb,0,none⟩ 1 _ rfl rfl (splice CUR 2 (LT.all l)) 120 f.out (LT.all [x]) (by show _=min _ _*2;rw[a.out];omega) i.out (by rw[a.out,b.out];omega) d.out ?_)
 | ((iterate 15 (go_step));refine kD rfl _ _ 57 57 rfl 120 underlying57 2 xQ g 0 _ _ ⟨vb,0,none⟩ 1 _ rfl rfl (splice CUR 2 (LT.all l)) 120 f.out (LT.all [x]) (by show _=min _ _*2;rw[a.out];omega) i.out (by rw[a.out,b.out];omega) d.out ?_)
 | ((iterate 16 (go_step));refine kD rfl _ _ 57 57 rfl 120 underlying57 2 xQ g 0 _ _ ⟨vb,0,none⟩ 1 _ rfl rfl (splice CUR 2 (LT.all l)) 120 f.out (LT.all [x]) (by show _=min _ _*2;rw[a.out];omega) i.out (by rw[a.out,b.out];omega) d.out ?_)
 | ((iterate 17 (go_step));refine kD rfl _ _ 57 57 rfl 120 underlying57 2 xQ g 0 _ _ ⟨vb,0,none⟩ 1 _ rfl rfl (splice CUR 2 (LT.all l)) 120 f.out (LT.all [x]) (by show _=min _ _*2;rw[a.out];omega) i.out (by rw[a.out,b.out];omega) d.out ?_)
 | ((iterate 18 (go_step));refine kD rfl _ _ 57 57 rfl 120 underlying57 2 xQ g 0 _ _ ⟨vb,0,none⟩ 1 _ rfl rfl (splice CUR 2 (LT.all l)) 120 f.out (LT.all [x]) (by show _=min _ _*2;rw[a.out];omega) i.out (by rw[a.out,b.out];omega) d.out ?_)
 | ((iterate 19 (go_step));refine kD rfl _ _ 57 57 rfl 120 underlying57 2 xQ g 0 _ _ ⟨vb,0,none⟩ 1 _ rfl rfl (splice CUR 2 (LT.all l)) 120 f.out (LT.all [x]) (by show _=min _ _*2;rw[a.out];omega) i.out (by rw[a.out,b.out];omega) d.out ?_)
 | ((iterate 20 (go_step));refine kD rfl _ _ 57 57 rfl 120 underlying57 2 xQ g 0 _ _ ⟨vb,0,none⟩ 1 _ rfl rfl (splice CUR 2 (LT.all l)) 120 f.out (LT.all [x]) (by show _=min _ _*2;rw[a.out];omega) i.out (by rw[a.out,b.out];omega) d.out ?_)
 | ((iterate 21 (go_step));refine kD rfl _ _ 57 57 rfl 120 underlying57 2 xQ g 0 _ _ ⟨vb,0,none⟩ 1 _ rfl rfl (splice CUR 2 (LT.all l)) 120 f.out (LT.all [x]) (by show _=min _ _*2;rw[a.out];omega) i.out (by rw[a.out,b.out];omega) d.out ?_)
 | ((iterate 22 (go_step));refine kD rfl _ _ 57 57 rfl 120 underlying57 2 xQ g 0 _ _ ⟨vb,0,none⟩ 1 _ rfl rfl (splice CUR 2 (LT.all l)) 120 f.out (LT.all [x]) (by show _=min _ _*2;rw[a.out];omega) i.out (by rw[a.out,b.out];omega) d.out ?_)
 | ((iterate 23 (go_step));refine kD rfl _ _ 57 57 rfl 120 underlying57 2 xQ g 0 _ _ ⟨vb,0,none⟩ 1 _ rfl rfl (splice CUR 2 (LT.all l)) 120 f.out (LT.all [x]) (by show _=min _ _*2;rw[a.out];omega) i.out (by rw[a.out,b.out];omega) d.out ?_)
 | ((iterate 24 (go_step));refine kD rfl _ _ 57 57 rfl 120 underlying57 2 xQ g 0 _ _ ⟨vb,0,none⟩ 1 _ rfl rfl (splice CUR 2 (LT.all l)) 120 f.out (LT.all [x]) (by show _=min _ _*2;rw[a.out];omega) i.out (by rw[a.out,b.out];omega) d.out ?_)
 | ((iterate 25 (go_step));refine kD rfl _ _ 57 57 rfl 120 underlying57 2 xQ g 0 _ _ ⟨vb,0,none⟩ 1 _ rfl rfl (splice CUR 2 (LT.all l)) 120 f.out (LT.all [x]) (by show _=min _ _*2;rw[a.out];omega) i.out (by rw[a.out,b.out];omega) d.out ?_)
 intro w5 a2 U
 go_wp2
 go_ret
 refine⟨_,rfl,⟨?_,.inr ⟨g,c,_,rfl,B.out,a2.out,hroom,a1.out,?_,?_⟩⟩,?_,⟨_,_,rfl,.inl rfl⟩,?_⟩
 .rw[LT.all_len]
 .rw[Z9,length_splice _ _ _ (by rw[a.out,b.out];omega),b.out];rfl
 .have n:splice (splice CUR 2 (LT.all l)) 0 (LT.all [x])=LT.all (x::l)++CUR.drop (2+(LT.all l).length):=by
   rw[Xn _ _ _ a.out (by rw[p.out];omega),LT.all_cons x l,<- LT.all_one x,YI]
  rw[show (splice (splice CUR 2 (LT.all l)) 0 (LT.all [x])).toArray.toList=splice (splice CUR 2 (LT.all l)) 0 (LT.all [x])from rfl,n];rw[ZG (by rw[LT.all_len];simp[LT]),YV (by rw[LT.all_len];simp[LT])]
 .have b2:=(Below.refl base w).drew.grown q.out hb (fun k e=>by injection e with e;have:=B.out;omega);exact b2.grown U.out (by have:=q.out.size;exact YY hb this) (fun k e=>by injection e with e;have:=B.out;omega)
 .intro k hk hlt;obtain⟨_,_,_,s4,f4⟩:=q.out;obtain⟨_,_,_,s5,f5⟩:=U.out;exact(f5 k (YS hlt s4) (fun e=>hk (by injection e))).trans (f4 k hlt (fun e=>hk (by injection e)))
def Xe:Go.Shelf.Ren:=⟨fun|5=>172|8=>230|7=>229|19=>299|20=>300|10=>290|11=>291|12=>292|13=>293|14=>294|15=>295|16=>296|17=>297|18=>298|30=>329|31=>330|32=>331|33=>332|34=>333|35=>334|40=>349|n=>n,fun|23=>33|25=>3|3=>3|32=>227|22=>33|0=>0|44=>381|46=>29|4=>4|36=>375|35=>374|41=>318|5=>5|9=>9|53=>397|57=>400|63=>418|64=>244|n=>n,fun|n=>n⟩
theorem Xd:Go.Proofs.SlLaysM.n5 prog Xe where
 mixed:=by kernel_rfl
 f5 := ⟨"slices.Sort[[]int,int]", by decide, func172.trans (congrArg some (by kernel_rfl))⟩
 f7 := ⟨"slices.pdqsortOrdered[int]", by decide, func229.trans (congrArg some (by kernel_rfl))⟩
 f8:=func230.trans (congrArg some (by kernel_rfl))
 f10 := ⟨"slices.insertionSortOrdered[int]", by decide, func290.trans (congrArg some (by kernel_rfl))⟩
 f11 := ⟨"slices.heapSortOrdered[int]", by decide, func291.trans (congrArg some (by kernel_rfl))⟩
 f12 := ⟨"slices.breakPatternsOrdered[int]", by decide, func292.trans (congrArg some (by kernel_rfl))⟩
 f13 := ⟨"slices.choosePivotOrdered[int]", by decide, func293.trans (congrArg some (by kernel_rfl))⟩
 f14 := ⟨"slices.reverseRangeOrdered[int]", by decide, func294.trans (congrArg some (by kernel_rfl))⟩
 f15 := ⟨"slices.partialInsertionSortOrdered[int]", by decide, func295.trans (congrArg some (by kernel_rfl))⟩
 f16 := ⟨"cmp.Less[int]", by decide, func296.trans (congrArg some (by kernel_rfl))⟩
 f17 := ⟨"slices.partitionEqualOrdered[int]", by decide, func297.trans (congrArg some (by kernel_rfl))⟩
 f18 := ⟨"slices.partitionOrdered[int]", by decide, func298.trans (congrArg some (by kernel_rfl))⟩
 f19:=func299.trans (congrArg some (by kernel_rfl))
 f20:=func300.trans (congrArg some (by kernel_rfl))
 f30 := ⟨"slices.siftDownOrdered[int]", by decide, func329.trans (congrArg some (by kernel_rfl))⟩
 f31:=func330.trans (congrArg some (by kernel_rfl))
 f32:=func331.trans (congrArg some (by kernel_rfl))
 f33 := ⟨"slices.medianAdjacentOrdered[int]", by decide, func332.trans (congrArg some (by kernel_rfl))⟩
 f34 := ⟨"slices.medianOrdered[int]", by decide, func333.trans (congrArg some (by kernel_rfl))⟩
 f35 := ⟨"cmp.isNaN[int]", by decide, func334.trans (congrArg some (by kernel_rfl))⟩
 f40 := ⟨"slices.order2Ordered[int]", by decide, func349.trans (congrArg some (by kernel_rfl))⟩
 t0:=underlying0
 a0:=Tryz.isAgg0
 z0:=Tryz.sizeOf0
 v0:=Tryz.zeroValue0
 t3:=underlying3
 a3:=Tryz.isAgg3
 z3:=Tryz.sizeOf3
 v3:=Tryz.zeroValue3
 t4:=underlying4
 a4:=Tryz.isAgg4
 z4:=Tryz.sizeOf4
 v4:=Tryz.zeroValue4
 t5:=underlying5
 a5:=Tryz.isAgg5
 z5:=Tryz.sizeOf5
 v5:=Tryz.zeroValue5
 t9:=underlying9
 a9:=Tryz.isAgg9
 z9:=Tryz.sizeOf9
 v9:=Tryz.zeroValue9
 t22:=underlying33
 a22:=Tryz.isAgg33
 z22:=Tryz.sizeOf33
 v22:=Tryz.zeroValue33
 t23:=underlying33
 a23:=Tryz.isAgg33
 z23:=Tryz.sizeOf33
 v23:=Tryz.zeroValue33
 t25:=underlying3
 a25:=Tryz.isAgg3
 z25:=Tryz.sizeOf3
 v25:=Tryz.zeroValue3
 t32:=underlying227
 a32:=Tryz.isAgg227
 z32:=Tryz.sizeOf227
 v32:=Tryz.zeroValue227
 t35:=underlying374
 a35:=Tryz.isAgg374
 z35:=Tryz.sizeOf374
 v35:=Tryz.zeroValue374
 t36:=underlying375
 a36:=Tryz.isAgg375
 z36:=Tryz.sizeOf375
 v36:=Tryz.zeroValue375
 t41:=underlying318
 a41:=Tryz.isAgg318
 z41:=Tryz.sizeOf318
 v41:=Tryz.zeroValue318
 t44:=underlying381
 a44:=Tryz.isAgg381
 z44:=Tryz.sizeOf381
 v44:=Tryz.zeroValue381
 t46:=underlying29
 a46:=Tryz.isAgg29
 z46:=Tryz.sizeOf29
 v46:=Tryz.zeroValue29
 t53:=underlying397
 a53:=Tryz.isAgg397
 z53:=Tryz.sizeOf397
 v53:=Tryz.zeroValue397
 t57:=underlying400
 a57:=Tryz.isAgg400
 z57:=Tryz.sizeOf400
 v57:=Tryz.zeroValue400
 t63:=underlying418
 a63:=Tryz.isAgg418
 z63:=Tryz.sizeOf418
 v63:=Tryz.zeroValue418
 t64:=underlying244
 a64:=Tryz.isAgg244
 z64:=Tryz.sizeOf244
 v64:=Tryz.zeroValue244
open Go.Sort Go.RowKit
namespace Tw
variable {ρ ρ':zg}{Z:Nat}{h h':TH}{w:World}
theorem Xf(k:WR prog Z ρ h w)(hZ:Z<=w.heap.size){args:LK}{args':LG}(hv:VL ρ args args'){r:TE}(hr:cD 3 args h=some (r,h')) :
  CallsIn (Fr none) 0 prog 172 args'.toArray w (kj prog Z ρ h h' w r):=by
 unfold cD at hr
 split at hr
 .rename_i b g n q
  split at hr
  .rename_i o ho;unfold Bb at hr
   split at hr
   .rename_i e G M len cells;obtain⟨L,hr⟩:=ve hr;obtain⟨N,hr⟩:=ve hr;obtain⟨O,hr⟩:=ve hr;obtain⟨U,hr⟩:=ve hr;obtain⟨V,hr⟩:=ve hr;have L:=Yo L;have N:=Yo N;have O:=Yo O;have U:=YB U;have V:=YB V;subst L;subst N;subst O
    split at hr
    .rename_i l hl
     split at hr
     .rename_i xs hxs;injection hr with hr;injection hr with hr ah;subst hr;subst ah;obtain⟨v,t1,rfl,v1,hv⟩:=hv.oc;obtain rfl:=hv.oN;have ab:∃loc c,v=.slice (some ⟨loc.r,0,none⟩) n c/\ρ b g=some loc/\n<=c/\c<=maxLen:=by
       obtain⟨loc,o',c,e,a1,a2,a3,a4,a5,a6,a7⟩:=v1.sl_inv;refine⟨loc,c,?_,a1,by omega,a7⟩;rcases a5 with rfl|⟨_,_,a8⟩
       .exact e
       .exact absurd rfl a8
      obtain⟨loc,c,rfl,f,bo,bp⟩:=ab;obtain⟨ob,s,D⟩:=k.obj _ _ _ f;rw[ho]at s;injection s with s;subst s;obtain⟨bm,d,t,u,q3,q4,q5,X,q7⟩:=D.2.2 g D.1 (Ym _);rw[f]at t;injection t with t;subst t;have u:=u.plain (by kernel_rfl);have hL:=X rfl;obtain rfl:=HQ hxs;obtain⟨av,a0⟩:=Tr.getL_some hl;have I:xs.length=n:=by rw[<- av];unfold kx;simp
      have ad:∀i,i<n->d[i]?=(xs.map (Value.int .i64))[i]?:=fun i z=>by
       obtain⟨x,v,z1,z2,_,z4⟩:=q7 i zo;have h1:=a0 i z;rw[Y6,z1]at h1;rw[z2,YH];unfold kx at h1;rw[YH]at h1
       cases Y:xs[i]? with
       | none=>rw[Y]at h1;cases h1
       | some a=>rw[Y]at h1;injection h1 with h1;subst h1;cases z4;rfl
      have bs:n<=d.size:=by omega
      have ht:d.toList.take xs.length=xs.map (Value.int .i64):=Zn fun i=>by
       rw[Y4,I]
       split
       .rename_i z;rw[Y7];exact ad i z
       .rw[Za (by simp;omega)]
      have R:=k.own f ho (fun cs e=>by cases e);have a9:=(k.dom _ _ _ f).2.2;have Q:=AnyM.slices_Sort_int Xd loc.r 0 c xs w (holds_of_blockI u ht) a9 zo;rw[I]at Q;refine callsIn_wide.2 (Calls.mono Q ?_);rintro e w' ⟨rfl,m,os,rfl⟩;have bw:(yV xs).length=n:=by rw[rc,I]
      have A:=heap_sortedI (n:=m) (os:=os) (yV xs).toArray u;have B:=grownBy_sortedI (w:=w) (g:=loc.r) (n:=m) (os:=os) (yV xs).toArray;have j:Below Z w _:=(Below.refl Z w).grown B hZ fun k e=>by injection e with e;subst e;exact R
      change w.grownBy (grow (putRow (Value.int .i64) (Sort.ahead w m) loc.r 0 (xs.mergeSort fun x y=>decide (x<=y)).toArray) os) _ at B;change (grow (putRow (Value.int .i64) (Sort.ahead w m) loc.r 0 (xs.mergeSort fun x y=>decide (x<=y)).toArray) os).heap[loc.r]?=_ at A;change Below Z w (grow (putRow (Value.int .i64) (Sort.ahead w m) loc.r 0 (xs.mergeSort fun x y=>decide (x<=y)).toArray) os)at j;generalize grow (putRow (Value.int .i64) (Sort.ahead w m) loc.r 0 (xs.mergeSort fun x y=>decide (x<=y)).toArray) os=w' at B A j⊢;have S:=take_putCellsI d (yV xs) zo;have J:(putCells (Value.int .i64) 0 (yV xs).toArray d).size=d.size:=by simp[putCells]
      generalize putCells (Value.int .i64) 0 (yV xs).toArray d=cur2 at A S J;have k2:=k.change (b:=b) (ρ':=ρ) (x':=.row 3 g g n (Tr.putL .nil 0 (kx (yV xs)))) (fun _ _ _ h=>h) (fun _ _ _=>rfl) f (w':=w') j.size
       (fun c C l0 P T=>B.block _ (k.dom _ _ _ T).2.2 fun e=>P (k.sep _ _ _ _ _ _ T f (by injection e with e) (by injection e with e;rw[e];exact R)))
       ⟨Ym _,D.2.1,fun C ha bx=>by
        have:C=g:=by omega
        subst this;refine⟨loc,cur2,f,.of A,fun e=>by rw[J];exact q3 e,q4,by rw[J];exact q5,X,fun i z=>?_⟩;have K:i<(yV xs).length:=by omega
        have b0:i<(kx (yV xs)).length:=by unfold kx;rw[Yw];exact K
        refine⟨.int .i64 ((yV xs)[i]),.int .i64 ((yV xs)[i]),?_,?_,rfl,.int _ _⟩
        .rw[Tr.get_putL,if_pos zo];unfold kx;simp
        .have:(cur2.toList.take (yV xs).length)[i]?=((yV xs).map (Value.int .i64))[i]?:=by rw[S]
         rw[Y4,if_pos K,Y7]at this;rw[this];simp[K]⟩
       (fun C l0 p=>⟨k.own p ho (fun cs e=>by cases e),YS (k.dom _ _ _ p).2.2 j.size⟩)
       (fun C l0 p c g1 l1 P bb e=>P (k.sep _ _ _ _ _ _ bb p e.symm (by rw[<- e];exact k.own p ho (fun cs e=>by cases e))))
      exact⟨ρ,zg.le.refl _ _,k2,j,Ym _,_,rfl,VR.tL (VL.nil ρ)⟩
     .cases hr
    .cases hr
   .cases hr
  .cases hr
 .cases hr
end Tw
namespace Fv
open Tw
inductive PV where
 | bad
 | bool (b:Bool)
 | int (k:IntKind) (n:Int)
 | str (s:LN)
 | nilptr
 | nilsl
 | nilmap
 | nilfn
 | niliface
 | iface (t:Nat) (v:PV)
 | list (p z:Nat) (l:List PV)
 | elem (cs:List PV)
 | sl (id g o n q z:Nat)
 | ptr (id g i o n:Nat)
 | map (id:Nat)
 | fn (f:Nat) (cap:List PV)
 | yield (id:Nat)
 | agg (vs:List PV)
 | tuple (vs:List PV)
 deriving Inhabited
abbrev LJ:=List PV
abbrev LS:=Option PV
def PV.cells:PV->LJ
 | .agg l=>l
 | .tuple _=>[]
 | v=>[v]
inductive FX where
 | norm|exit (id:Nat)|goto (l:Nat)|ret|panic (v:PV)
inductive za where
 | row (e z G M:Nat) (l:LJ)
 | map0
 | mapI (k:IntKind) (m:Int->LS)
 | mapS (m:LN->LS)
 | dfr (shut:Bool)
 | loop (st:LoopState) (pe:FX) (tm:Nat->PV) (ps:LN) (aS bo:vw) (m:Nat)
 | void
abbrev LQ:=List za
abbrev xF:=Nat->Nat->Prop
inductive PR(S:xF)(h:TH):PV->TV->Prop
 | bool (b:Bool):PR S h (.bool b) (.bool b)
 | int (k:IntKind) (n:Int):PR S h (.int k n) (.int k n)
 | str (s:LN):PR S h (.str s) (.str s)
 | nilptr:PR S h .nilptr .nilptr
 | nilsl:PR S h .nilsl .nilsl
 | nilmap:PR S h .nilmap .nilmap
 | nilfn:PR S h .nilfn .nilfn
 | niliface:PR S h .niliface .niliface
 | iface {t:Nat} {v:PV} {u:TV}:PR S h v u->PR S h (.iface t v) (.iface t u)
 | listnil (p z:Nat):PR S h (.list p z []) .nilsl
 | list {p z:Nat} {l:LJ} {b g o q:Nat} {cs:LK}:S p b->wK h b g o (l.length*z)=some cs->2*l.length<=q->(∀v∈l,v.cells.length=z)->(l.flatMap PV.cells).length=cs.length ->
   (∀(i:Nat) (x:PV) (y:TV),(l.flatMap PV.cells)[i]?=some x->cs[i]?=some y->PR S h x y)->PR S h (.list p z l) (.sl b g o l.length q z)
 | elem {vs:LJ} {p b g o:Nat} {cs:LK}:S p b->wK h b g o vs.length=some cs->vs.length=cs.length->(∀(i:Nat) (x:PV) (y:TV),vs[i]?=some x->cs[i]?=some y->PR S h x y)->PR S h (.elem vs) (.ptr b g o vs.length)
 | fn {f:Nat} {vs:LJ} {cs:LK}:vs.length=cs.length->(∀(i:Nat) (x:PV) (y:TV),vs[i]?=some x->cs[i]?=some y->PR S h x y)->PR S h (.fn f vs) (.fn f cs)
 | agg {vs:LJ} {cs:LK}:vs.length=cs.length->(∀(i:Nat) (x:PV) (y:TV),vs[i]?=some x->cs[i]?=some y->PR S h x y)->PR S h (.agg vs) (.agg cs)
 | tuple {vs:LJ} {cs:LK}:vs.length=cs.length->(∀(i:Nat) (x:PV) (y:TV),vs[i]?=some x->cs[i]?=some y->PR S h x y)->PR S h (.tuple vs) (.tuple cs)
structure Cx where
 S:xF
 ρ:Nat->Option (Nat×Nat×Nat)
 L:Nat->Prop
inductive VR(c:Cx)(h:TH):PV->TV->Prop
 | pure {v:PV} {u:TV}:PR c.S h v u->VR c h v u
 | sl {id b d z g o n q:Nat}:c.ρ id=some (b,d,z)->VR c h (.sl id (g+d) o n q z) (.sl b g (o*z) n q z)
 | slnil {id:Nat} (z:Nat):c.L id->VR c h (.sl id 0 0 0 0 z) .nilsl
 | ptr {id b d z g i o n:Nat}:c.ρ id=some (b,d,z)->VR c h (.ptr id (g+d) i o n) (.ptr b g (i*z+o) n)
 | map {id b d z:Nat}:c.ρ id=some (b,d,z)->VR c h (.map id) (.map b)
 | yield {id b d z:Nat}:c.ρ id=some (b,d,z)->VR c h (.yield id) (.yield b)
 | iface {t:Nat} {v:PV} {u:TV}:VR c h v u->VR c h (.iface t v) (.iface t u)
 | fn {f:Nat} {vs:LJ} {cs:LK}:vs.length=cs.length->(∀(i:Nat) (x:PV) (y:TV),vs[i]?=some x->cs[i]?=some y->VR c h x y)->VR c h (.fn f vs) (.fn f cs)
 | agg {vs:LJ} {cs:LK}:vs.length=cs.length->(∀(i:Nat) (x:PV) (y:TV),vs[i]?=some x->cs[i]?=some y->VR c h x y)->VR c h (.agg vs) (.agg cs)
 | tuple {vs:LJ} {cs:LK}:vs.length=cs.length->(∀(i:Nat) (x:PV) (y:TV),vs[i]?=some x->cs[i]?=some y->VR c h x y)->VR c h (.tuple vs) (.tuple cs)
def LR(R:PV->TV->Prop)(l:LJ)(cs:LK):Prop:=l.length=cs.length/\∀(i:Nat) (x:PV) (y:TV),l[i]?=some x->cs[i]?=some y->R x y
section lists
variable {R R':PV->TV->Prop}
variable {cs:LK}{l:LJ}{x:PV}
theorem LR.nil:LR R [] []:=⟨rfl,fun i x y h=>by simp at h⟩
theorem LR.cons{y:TV}(h:R x y)(hl:LR R l cs):LR R (x::l) (y::cs) :=
 ⟨by simp[hl.1],fun i a b c d=>by
  cases i with
  | zero=>simp at c d;subst c;subst d;exact h
  | succ i=>simp at c d;exact hl.2 i a b c d⟩
theorem LR.oc(h:LR R (x::l) cs):∃y cs',cs=y::cs'/\R x y/\LR R l cs':=by
 cases cs with
 | nil=>have:=h.1;grind
 | cons y cs=>exact⟨y,cs,rfl,h.2 0 x y rfl rfl,by have:=h.1;grind,fun i a b c d=>h.2 (i+1) a b (by grind) (by grind)⟩
theorem LR.oN(h:LR R [] cs):cs=[]:=by
 cases cs with
 | nil=>rfl
 | cons y cs=>have:=h.1;grind
theorem LR.mono(hR:∀x y,R x y->R' x y)(h:LR R l cs):LR R' l cs:=⟨h.1,fun i x y a b=>hR _ _ (h.2 i x y a b)⟩
theorem LR.app{m:LJ}{ds:LK}(h:LR R l cs)(k:LR R m ds):LR R (l++m) (cs++ds):=by
 refine⟨by simp[h.1,k.1],fun i x y a b=>?_⟩
 by_cases c:i<l.length
 .rw[YP c]at a;rw[YP (by rw[<- h.1];exact c)]at b;exact h.2 i x y a b
 .rw[YN zo]at a;rw[YN (by rw[<- h.1];omega),<- h.1]at b;exact k.2 _ x y a b
theorem LR.drop(h:LR R l cs)(k:Nat):LR R (l.drop k) (cs.drop k) :=
 ⟨by simp[h.1],fun i x y a b=>by rw[Zo]at a b;exact h.2 _ x y a b⟩
theorem LR.take(h:LR R l cs)(k:Nat):LR R (l.take k) (cs.take k):=by
 refine⟨by simp[h.1],fun i x y a b=>?_⟩;rw[Y4]at a b
 split at a
 .rename_i hi;rw[if_pos hi]at b;exact h.2 _ x y a b
 .cases a
theorem LR.at(h:LR R l cs){i:Nat}(hx:l[i]?=some x):∃y,cs[i]?=some y/\R x y:=by
 have b:i<l.length:=(Yl.1 hx).1;have a:i<cs.length:=by rw[<- h.1];exact b
 exact⟨cs[i],Yk a,h.2 i x _ hx (Yk a)⟩
end lists
variable {z:Nat}
structure ER(R:PV->TV->Prop)(z:Nat)(l:LJ)(cs:LK):Prop where
 one:∀v∈l,v.cells.length=z
 all:LR R (l.flatMap PV.cells) cs
theorem Cq:∀{l:LJ},(∀v∈l,v.cells.length=z)->(l.flatMap PV.cells).length=l.length*z
 | [],_=>by simp
 | v::l,h=>by
  rw[YT,Yn,h v (by simp),Cq (fun x a=>h x (by simp[a])),Yq,ZR,ZQ]
theorem He:∀{l:LJ},(∀v∈l,v.cells.length=z)->∀k,(l.drop k).flatMap PV.cells=(l.flatMap PV.cells).drop (k*z)
 | [],_,k=>by simp
 | v::l,h,0=>by simp
 | v::l,h,k+1=>by
  rw[zCC9,He (fun x a=>h x (by simp[a])) k,YT,ZR,ZQ,<- Z0,<- h v (by simp),zAT9]
theorem Hh:∀{l:LJ},(∀v∈l,v.cells.length=z)->∀k,(l.take k).flatMap PV.cells=(l.flatMap PV.cells).take (k*z)
 | [],_,k=>by simp
 | v::l,h,0=>by simp
 | v::l,h,k+1=>by
  rw[zAY9,YT,Hh (fun x a=>h x (by simp[a])) k,YT,ZR,ZQ,<- h v (by simp),List.take_length_add_append]
section elems
variable {R R':PV->TV->Prop}{z:Nat}
variable {cs ds:LK}{i:Nat}{l:LJ}{v:PV}
theorem ER.len(h:ER R z l cs):cs.length=l.length*z:=by rw[<- h.all.1,Cq h.one]
theorem ER.nil:ER R z [] []:=⟨fun v h=>by simp at h,LR.nil⟩
theorem ER.drop(h:ER R z l cs)(k:Nat):ER R z (l.drop k) (cs.drop (k*z)) :=
 ⟨fun v a=>h.one v (Y5 a),by rw[He h.one];exact h.all.drop _⟩
theorem ER.take(h:ER R z l cs)(k:Nat):ER R z (l.take k) (cs.take (k*z)) :=
 ⟨fun v a=>h.one v (YW a),by rw[Hh h.one];exact h.all.take _⟩
theorem ER.app{m:LJ}(h:ER R z l cs)(k:ER R z m ds):ER R z (l++m) (cs++ds) :=
 ⟨fun v a=>by rcases YM.1 a with a|a;exact h.one v a;exact k.one v a,by rw[Zj];exact h.all.app k.all⟩
theorem ER.mono(hR:∀x y,R x y->R' x y)(h:ER R z l cs):ER R' z l cs:=⟨h.one,h.all.mono hR⟩
theorem ER.at(h:ER R z l cs)(hv:l[i]?=some v):LR R v.cells ((cs.drop (i*z)).take z):=by
 have h1:=(h.drop i).take 1;have hd:(l.drop i).take 1=[v]:=by
  have a:i<l.length:=(Yl.1 hv).1;rw[YE a]
  grind
 rw[hd,Nat.one_mul]at h1;have h2:=h1.all
 grind
theorem ER.one'(h1:v.cells.length=z)(h:LR R v.cells cs):ER R z [v] cs:=⟨fun x a=>by grind,by simpa using h⟩
theorem ER.set(h:ER R z l cs)(hi:i<l.length)(hv:v.cells.length=z)(hd:LR R v.cells ds):ER R z (l.set i v) (cs.take (i*z)++ds++cs.drop ((i+1)*z)):=by
 rw[List.set_eq_take_append_cons_drop,if_pos hi];have h1:=h.take i;have h2:=h.drop (i+1);rw[YI];exact h1.app ((ER.one' hv hd).app h2)
end elems
variable {a:Nat}{cs:LK}{g:Nat}{h:TH}{i k m o:Nat}{x:TO}
theorem Hy{t:Tr α}:∀{n i m:Nat} {a b:List α},t.getL i n=some a->t.getL (i+n) m=some b->t.getL i (n+m)=some (a++b)
 | 0,i,m,a,b,h,k=>by simp[Tr.getL]at h;grind
 | n+1,i,m,a,b,h,k=>by
  rw[show n+1+m=(n+m)+1 by omega];unfold Tr.getL at h
  split at h
  .cases h
  .rename_i x hx
   split at h
   .cases h
   .rename_i l hl
    cases h
    have:=Hy hl (by rw[show i+1+n=i+(n+1) by omega];exact k);simp only[Tr.getL,hx,this];rfl
theorem Cz{t:Tr α}:∀{n i m:Nat} {a:List α},t.getL i (n+m)=some a->t.getL i n=some (a.take n)/\t.getL (i+n) m=some (a.drop n)
 | 0,i,m,a,h=>by simp[Tr.getL];grind
 | n+1,i,m,a,h=>by
  rw[show n+1+m=(n+m)+1 by omega]at h;unfold Tr.getL at h
  split at h
  .cases h
  .rename_i x hx
   split at h
   .cases h
   .rename_i l hl
    cases h
    obtain⟨h1,h2⟩:=Cz hl;refine⟨?_,?_⟩
    .simp only[Tr.getL,hx,h1];rfl
    grind
theorem l7{t:Tr α}{a:List α}(h:t.getL i n=some a)(hk:k+m<=n):t.getL (i+k) m=some ((a.drop k).take m):=by
 obtain⟨r,rfl⟩:=Nat.le.dest hk;rw[zAP9]at h;obtain⟨_,h2⟩:=Cz h;exact(Cz h2).1
theorem fi{t:Tr α}:∀{a:List α} {i:Nat},(∀j,j<a.length->t.get (i+j)=a[j]?)->t.getL i a.length=some a
 | [],i,_=>rfl
 | x::a,i,h=>by
  have b:=h 0 (by simp);have h1:=fi (t:=t) (a:=a) (i:=i+1) fun j c=>by
   have:=h (j+1) (by grind)
   grind
  rw[Yq];unfold Tr.getL
  grind
theorem Q3{t t':Tr α}(h:∀j,i<=j->j<i+n->t'.get j=t.get j){a:List α}(ha:t.getL i n=some a):t'.getL i n=some a:=by
 obtain⟨h1,h2⟩:=Tr.getL_some ha;subst h1;exact fi fun j b=>by grind
theorem wS(h:a<=b):Nat.ble a b=true:=Nat.ble_eq_true_of_le h
theorem wx(h:a=b):Nat.beq a b=true:=by simp_all
theorem Oj(h:Nat.beq a b=true):a=b:=Yo h
theorem lK(h:¬a=b):Nat.beq a b=false:=by
 cases c:Nat.beq a b
 all_goals simp_all
theorem DU{e G M len:Nat}{cells:LA}(hg:h.get b=some (.row e G M len cells))(h1:M<=g)(h2:g<=G)(hc:cells.getL o n=some cs):wK h b g o n=some cs:=by
 unfold wK;rw[hg];unfold mC;dsimp only;rw[wS h1,wS h2];exact hc
theorem Ah(hr:wK h b g o n=some cs):∃x,h.get b=some x/\mC g o n x=some cs:=by
 unfold wK at hr
 grind
theorem oV(hx:h.get b=some x)(hr:mC g o n x=some cs):wK h b g o n=some cs:=by
 unfold wK
 grind
theorem VJ(hr:mC g o n x=some cs)(hk:k+m<=n):mC g (o+k) m x=some ((cs.drop k).take m):=by
 unfold mC at hr⊢
 split at hr
 .rename_i e G M len cells
  cases h1:Nat.ble M g
  .grind
  .cases h2:Nat.ble g G
   .grind
   .rw[h1,h2]at hr;exact l7 hr hk
 .rename_i cells
  cases h1:Nat.beq g 0
  .grind
  .rw[h1]at hr;exact l7 hr hk
 grind
theorem iS(hr:wK h b g o n=some cs)(hk:k+m<=n):wK h b g (o+k) m=some ((cs.drop k).take m):=by
 obtain⟨x,h1,h2⟩:=Ah hr;exact oV h1 (VJ h2 hk)
theorem PR.mono{S S':xF}{h':TH}(hS:∀p b,S p b->S' p b)(hr:∀p b,S p b->∀g o n cs,wK h b g o n=some cs->wK h' b g o n=some cs){v:PV}{u:TV}(k:PR S h v u):PR S' h' v u:=by
 induction k with
 | bool b=>exact .bool b
 | int k n=>exact .int k n
 | str s=>exact .str s
 | nilptr=>exact .nilptr
 | nilsl=>exact .nilsl
 | nilmap=>exact .nilmap
 | nilfn=>exact .nilfn
 | niliface=>exact .niliface
 | iface _ a=>exact .iface a
 | listnil p z=>exact .listnil p z
 | list h1 h2 h3 h4 c _ a=>exact .list (hS _ _ h1) (hr _ _ h1 _ _ _ _ h2) h3 h4 c a
 | elem h1 h2 h3 _ a=>exact .elem (hS _ _ h1) (hr _ _ h1 _ _ _ _ h2) h3 a
 | fn h1 _ a=>exact .fn h1 a
 | agg h1 _ a=>exact .agg h1 a
 | tuple h1 _ a=>exact .tuple h1 a
structure Mo(c c':Cx)(h h':TH):Prop where
 S:∀p b,c.S p b->c'.S p b
 ρ:∀id x,c.ρ id=some x->c'.ρ id=some x
 L:∀id,c.L id->c'.L id
 rd:∀p b,c.S p b->∀g o n cs,wK h b g o n=some cs->wK h' b g o n=some cs
variable {c:Cx}{f:Nat}{l:LJ}{u:TV}{v:PV}
theorem Mo.refl(c:Cx)(h:TH):Mo c c h h:=⟨fun _ _ h=>h,fun _ _ h=>h,fun _ h=>h,fun _ _ _ _ _ _ _ h=>h⟩
theorem Mo.trans{c' c'':Cx}{h' h'':TH}(a:Mo c c' h h')(b:Mo c' c'' h' h''):Mo c c'' h h'' :=
 ⟨fun p x d=>b.S _ _ (a.S _ _ d),fun id x d=>b.ρ _ _ (a.ρ _ _ d),fun id d=>b.L _ (a.L _ d),fun p x d g o n cs e=>b.rd _ _ (a.S _ _ d) _ _ _ _ (a.rd _ _ d _ _ _ _ e)⟩
theorem VR.mono{c':Cx}{h':TH}(m:Mo c c' h h')(k:VR c h v u):VR c' h' v u:=by
 induction k with
 | pure k=>exact .pure (k.mono m.S m.rd)
 | sl h=>exact .sl (m.ρ _ _ h)
 | slnil z h=>exact .slnil z (m.L _ h)
 | ptr h=>exact .ptr (m.ρ _ _ h)
 | map h=>exact .map (m.ρ _ _ h)
 | yield h=>exact .yield (m.ρ _ _ h)
 | iface _ a=>exact .iface a
 | fn h1 _ a=>exact .fn h1 a
 | agg h1 _ a=>exact .agg h1 a
 | tuple h1 _ a=>exact .tuple h1 a
theorem PR.aggL{S:xF}(k:LR (PR S h) l cs):PR S h (.agg l) (.agg cs):=.agg k.1 k.2
theorem VR.aggL(k:LR (VR c h) l cs):VR c h (.agg l) (.agg cs):=.agg k.1 k.2
theorem VR.tL(k:LR (VR c h) l cs):VR c h (.tuple l) (.tuple cs):=.tuple k.1 k.2
theorem VR.fnL(k:LR (VR c h) l cs):VR c h (.fn f l) (.fn f cs):=.fn k.1 k.2
theorem LR.pure(k:LR (PR c.S h) l cs):LR (VR c h) l cs:=k.mono fun _ _=>.pure
theorem VR.agg_inv(k:VR c h (.agg l) u):∃cs,u=.agg cs/\LR (VR c h) l cs:=by
 cases k with
 | pure k=>cases k with|agg h1 h2=>exact⟨_,rfl,LR.pure ⟨h1,h2⟩⟩
 | agg h1 h2=>exact⟨_,rfl,h1,h2⟩
theorem VR.tuple_inv(k:VR c h (.tuple l) u):∃cs,u=.tuple cs/\LR (VR c h) l cs:=by
 cases k with
 | pure k=>cases k with|tuple h1 h2=>exact⟨_,rfl,LR.pure ⟨h1,h2⟩⟩
 | tuple h1 h2=>exact⟨_,rfl,h1,h2⟩
theorem VR.fn_inv(k:VR c h (.fn f l) u):∃cs,u=.fn f cs/\LR (VR c h) l cs:=by
 cases k with
 | pure k=>cases k with|fn h1 h2=>exact⟨_,rfl,LR.pure ⟨h1,h2⟩⟩
 | fn h1 h2=>exact⟨_,rfl,h1,h2⟩
theorem VR.iface_inv{t:Nat}(k:VR c h (.iface t v) u):∃u',u=.iface t u'/\VR c h v u':=by
 cases k with
 | pure k=>cases k with|iface h1=>exact⟨_,rfl,.pure h1⟩
 | iface h1=>grind
theorem VR.int_inv{k:IntKind}{n:Int}(x:VR c h (.int k n) u):u=.int k n:=by
 cases x with|pure x=>cases x;rfl
theorem VR.bool_inv{b:Bool}(x:VR c h (.bool b) u):u=.bool b:=by
 cases x with|pure x=>cases x;rfl
theorem VR.str_inv{s:LN}(x:VR c h (.str s) u):u=.str s:=by
 cases x with|pure x=>cases x;rfl
theorem VR.bad_inv(x:VR c h .bad u):False:=by
 cases x with|pure x=>cases x
theorem VR.cells(k:VR c h v u):LR (VR c h) v.cells u.cells:=by
 cases k with
 | pure k =>
  cases k with
  | bool b=>exact LR.cons (.pure (.bool b)) LR.nil
  | int a n=>exact LR.cons (.pure (.int a n)) LR.nil
  | str s=>exact LR.cons (.pure (.str s)) LR.nil
  | nilptr=>exact LR.cons (.pure .nilptr) LR.nil
  | nilsl=>exact LR.cons (.pure .nilsl) LR.nil
  | nilmap=>exact LR.cons (.pure .nilmap) LR.nil
  | nilfn=>exact LR.cons (.pure .nilfn) LR.nil
  | niliface=>exact LR.cons (.pure .niliface) LR.nil
  | iface h1=>exact LR.cons (.pure (.iface h1)) LR.nil
  | listnil p z=>exact LR.cons (.pure (.listnil p z)) LR.nil
  | list h1 h2 h3 h4 d e=>exact LR.cons (.pure (.list h1 h2 h3 h4 d e)) LR.nil
  | elem h1 h2 h3 h4=>exact LR.cons (.pure (.elem h1 h2 h3 h4)) LR.nil
  | fn h1 h2=>exact LR.cons (.pure (.fn h1 h2)) LR.nil
  | agg h1 h2=>exact LR.pure ⟨h1,h2⟩
  | tuple h1 h2=>exact LR.nil
 | sl h1=>exact LR.cons (.sl h1) LR.nil
 | slnil z h1=>exact LR.cons (.slnil z h1) LR.nil
 | ptr h1=>exact LR.cons (.ptr h1) LR.nil
 | map h1=>exact LR.cons (.map h1) LR.nil
 | yield h1=>exact LR.cons (.yield h1) LR.nil
 | iface h1=>exact LR.cons (.iface h1) LR.nil
 | fn h1 h2=>exact LR.cons (.fn h1 h2) LR.nil
 | agg h1 h2=>exact⟨h1,h2⟩
 | tuple h1 h2=>exact LR.nil
def bz{K:Type}(κ:K->TV):Prop:=∀x y,(x=y->nQ (κ x) (κ y)=some true)/\(¬x=y->nQ (κ x) (κ y)=some false)
open Classical in
noncomputable def lk {K:Type}(κ:K->TV)(x:K):List ud->LD
 | []=>none
 | e::l=>if e.k=κ x then some e.v else lk κ x l
structure MR{K:Type}(R:PV->TV->Prop)(κ:K->TV)(m:K->LS)(es:List ud):Prop where
 keys:∀e∈es,∃n,e.k=κ n
 some:∀x v,m x=some v->∃u,lk κ x es=some u/\R v u
 none:∀x,m x=none->lk κ x es=none
def uV(c:Cx)(h:TH)(tm:Nat->PV)(t:LA):Prop:=∀i,tm i=.bad\/∃u,t.get i=some u/\VR c h (tm i) u
inductive XR(c:Cx)(h:TH):FX->TX->Prop
 | norm:XR c h .norm .norm
 | exit (id:Nat):XR c h (.exit id) (.exit id)
 | goto (l:Nat):XR c h (.goto l) (.goto l)
 | ret:XR c h .ret .ret
 | panic {v:PV} {u:TV}:VR c h v u->XR c h (.panic v) (.panic u)
def OR(c:Cx)(h:TH)(id:Nat):za->Prop
 | .row e z G M l=>(l=[]/\G=0/\c.ρ id=none/\c.L id)\/∃b d G' M' cells cs,c.ρ id=some (b,d,z)/\h.get b=some (.row e G' M' (l.length*z) cells)/\G=G'+d/\M'<=M-d/\cells.getL 0 (l.length*z)=some cs/\ER (VR c h) z l cs
 | .map0=>∃b d z clock,c.ρ id=some (b,d,z)/\h.get b=some (.map [] clock)
 | .mapI k m=>∃b d z es clock,c.ρ id=some (b,d,z)/\h.get b=some (.map es clock)/\MR (VR c h) (TV.int k) m es
 | .mapS m=>∃b d z es clock,c.ρ id=some (b,d,z)/\h.get b=some (.map es clock)/\MR (VR c h) TV.str m es
 | .dfr shut=>∃b d z,c.ρ id=some (b,d,z)/\h.get b=some (.dfr shut)
 | .loop st pe tm ps aS bo m=>∃b d z bm dm zm t pe',c.ρ id=some (b,d,z)/\c.ρ m=some (bm,dm,zm)/\h.get b=some (.loop st pe' t ps aS bo bm)/\uV c h tm t/\XR c h pe pe'
 | .void=>True
structure Ba where
 β:Nat
 h0:TH
 S:xF
structure HR(B:Ba)(c:Cx)(H:LQ)(h:TH):Prop where
 le:B.β<=h.next
 keep:∀b,b<B.β->h.get b=B.h0.get b
 old:∀p b,c.S p b->B.S p b\/(p=0/\B.β<=b)
 S:∀p b,c.S p b->b<h.next/\∀id x,c.ρ id=some x->x.1=b->H[id]?=some .void
 own:∀id x,c.ρ id=some x->B.β<=x.1/\x.1<h.next/\id<H.length
 lz:∀id,c.L id->id<H.length/\∀x,c.ρ id=some x->x.2.1=1
 inj:∀id id' x x',c.ρ id=some x->c.ρ id'=some x'->x.1=x'.1->id=id'
 obj:∀id o,H[id]?=some o->OR c h id o
def PV.toT:PV->LD
 | .bool b=>some (.bool b)
 | .int k n=>some (.int k n)
 | .str s=>some (.str s)
 | _=>none
def yb:TV->LS
 | .bool b=>some (.bool b)
 | .int k n=>some (.int k n)
 | .str s=>some (.str s)
 | _=>none
theorem Bg{c:Cx}{h:TH}{u':TV}(k:VR c h v u)(ht:v.toT=some u'):u=u':=by
 cases v<;>simp[PV.toT]at ht<;>subst ht
 .exact k.bool_inv
 .exact k.int_inv
 .exact k.str_inv
theorem Ds{c:Cx}{h:TH}(ht:yb u=some v):VR c h v u:=by
 cases u<;>simp[yb]at ht<;>subst ht
 .exact .pure (.bool _)
 .exact .pure (.int _ _)
 .exact .pure (.str _)
def kX(f:TV->LD):LJ->LS
 | [x]=>match x.toT with
  | some u=>(match f u with|some w=>yb w|none=>none)
  | none=>none
 | _=>none
def wm(f:TV->TV->LD):LJ->LS
 | [x,y]=>match x.toT with
  | some u=>(match y.toT with
   | some t=>(match f u t with|some w=>yb w|none=>none)
   | none=>none)
  | none=>none
 | _=>none
def qd:LJ->Option (LK)
 | []=>some []
 | x::l=>match x.toT with
  | some u=>(match qd l with|some us=>some (u::us)|none=>none)
  | none=>none
def Ek(f:LK->LD)(l:LJ):LS:=match qd l with
 | some us=>(match f us with|some w=>yb w|none=>none)
 | none=>none
section plain
variable {c:Cx}{h:TH}
variable {us:LK}{vs:LJ}
theorem A4{f:TV->LD}(hv:LR (VR c h) vs us)(hp:kX f vs=some v):∃u,um us f=some u/\VR c h v u:=by
 unfold kX at hp
 split at hp
 .rename_i x;obtain⟨y,cs,rfl,h1,h2⟩:=hv.oc;obtain rfl:=h2.oN
  split at hp
  .rename_i u hu;obtain rfl:=Bg h1 hu
   split at hp
   .rename_i w hw;exact⟨w,hw,Ds hp⟩
   grind
  grind
 grind
theorem o6{f:TV->TV->LD}(hv:LR (VR c h) vs us)(hp:wm f vs=some v):∃u,ux us f=some u/\VR c h v u:=by
 unfold wm at hp
 split at hp
 .rename_i x x';obtain⟨y,cs,rfl,h1,h2⟩:=hv.oc;obtain⟨b,a,rfl,h3,h4⟩:=h2.oc;obtain rfl:=h4.oN
  split at hp
  .rename_i u hu;obtain rfl:=Bg h1 hu
   split at hp
   .rename_i u' hu';obtain rfl:=Bg h3 hu'
    split at hp
    .rename_i w hw;exact⟨w,hw,Ds hp⟩
    grind
   grind
  grind
 grind
theorem lG:∀{vs:LJ} {us us':LK},LR (VR c h) vs us->qd vs=some us'->us=us'
 | [],us,us',b,a=>by simp[qd]at a;subst a;exact b.oN
 | x::l,us,us',b,a=>by
  obtain⟨y,cs,rfl,h1,h2⟩:=b.oc;unfold qd at a
  split at a
  .rename_i u hu;obtain rfl:=Bg h1 hu
   split at a
   .rename_i ws hws
    cases a
    rw[lG h2 hws]
   grind
  grind
theorem WP{f:LK->LD}(hv:LR (VR c h) vs us)(hp:Ek f vs=some v):∃u,f us=some u/\VR c h v u:=by
 unfold Ek at hp
 split at hp
 .rename_i ws hws;obtain rfl:=lG hv hws
  split at hp
  .rename_i w hw;exact⟨w,hw,Ds hp⟩
  grind
 grind
end plain
def qe(f:TV->LS):LK->Option (LJ)
 | []=>some []
 | x::l=>match f x with
  | some v=>(match qe f l with|some vs=>some (v::vs)|none=>none)
  | none=>none
def zR:Nat->TV->LS
 | 0,_=>none
 | n+1,u=>match u with
  | .bool b=>some (.bool b)
  | .int k m=>some (.int k m)
  | .str s=>some (.str s)
  | .nilptr=>some .nilptr
  | .nilsl=>some .nilsl
  | .nilmap=>some .nilmap
  | .nilfn=>some .nilfn
  | .niliface=>some .niliface
  | .fn f []=>some (.fn f [])
  | .iface t v=>(match zR n v with|some v=>some (.iface t v)|none=>none)
  | .agg l=>(match qe (zR n) l with|some l=>some (.agg l)|none=>none)
  | .tuple l=>(match qe (zR n) l with|some l=>some (.tuple l)|none=>none)
  | _=>none
theorem cm{f:TV->LS}{S:xF}{h:TH}(hf:∀u v,f u=some v->PR S h v u):∀{us:LK} {vs:LJ},qe f us=some vs->LR (PR S h) vs us
 | [],vs,a=>by simp[qe]at a;subst a;exact LR.nil
 | u::us,vs,a=>by
  unfold qe at a
  split at a
  .rename_i v hv
   split at a
   .rename_i ws hws
    cases a
    exact LR.cons (hf _ _ hv) (cm hf hws)
   .cases a
  .cases a
theorem aX{S:xF}{h:TH}:∀{n:Nat} {u:TV} {v:PV},zR n u=some v->PR S h v u
 | 0,u,v,a=>by cases a
 | n+1,u,v,a=>by
  unfold zR at a
  split at a<;>first|(cases a;constructor;done)|skip
  .cases a;exact .fn rfl (fun i x y b=>by simp at b)
  .split at a
   .rename_i w hw;cases a;exact .iface (aX hw)
   .cases a
  .split at a
   .rename_i w hw;cases a
    have:=cm (fun u v=>aX (S:=S) (h:=h)) hw;exact .agg this.1 this.2
   .cases a
  .split at a
   .rename_i w hw;cases a
    have:=cm (fun u v=>aX (S:=S) (h:=h)) hw;exact .tuple this.1 this.2
   .cases a
  .cases a
def zW:PV->Bool
 | .agg _=>false
 | .tuple _=>false
 | .bad=>false
 | _=>true
theorem Pe{v:PV}(h:zW v=true):v.cells=[v]:=by cases v<;>first|rfl|cases h
def zF(agg:Bool)(l:LJ):LS:=if agg then some (.agg l)else match l with
 | [x]=>some x
 | _=>none
def zA(H:LQ)(id g i:Nat):LS:=match H[id]? with
 | some (.row _ _ G M l)=>if M<=g/\g<=G then l[i]? else none
 | _=>none
def zD(H:LQ)(agg:Bool)(n:Nat):LJ->LS
 | [.elem cs]=>if n<=cs.length then zF agg (cs.take n)else none
 | [.ptr id g i o m]=>if n<=m then(match zA H id g i with
  | some v=>if o+n<=v.cells.length then zF agg ((v.cells.drop o).take n)else none
  | none=>none)else none
 | _=>none
def qL(off size:Nat):LJ->LS
 | [.elem cs]=>if off+size<=cs.length then some (.elem ((cs.drop off).take size))else none
 | [.ptr id g i o m]=>if off+size<=m then some (.ptr id g i (o+off) size)else none
 | _=>none
def qN(esz:Nat):LJ->LS
 | [.list _ z l,.int _ j]=>if esz=z/\0<=j then(match l[j.toNat]? with
  | some v=>some (.elem v.cells)
  | none=>none)else none
 | [.sl id g o n _ z,.int _ j]=>if esz=z/\0<=j/\j.toNat<n then some (.ptr id g (o+j.toNat) 0 z)else none
 | _=>none
def qM(len esz:Nat):LJ->LS
 | [.elem cs,.int _ j]=>if 0<=j/\j.toNat<len/\len*esz<=cs.length then some (.elem ((cs.drop (j.toNat*esz)).take esz))else none
 | [.ptr id g i o m,.int _ j]=>if 0<=j/\j.toNat<len/\len*esz<=m then some (.ptr id g i (o+j.toNat*esz) esz)else none
 | _=>none
def zn(m:Nat):PV->LB
 | .int _ j=>if 0<=j/\j.toNat<=m then some j.toNat else none
 | _=>none
def qV(lo hi mx:Bool)(p z:Nat)(l:LJ):LJ->LS
 | []=>if lo=false/\hi=false/\mx=false then some (.list p z l)else none
 | [x]=>if mx=true\/lo=hi then none else(match zn l.length x with
  | some a=>some (.list p z (if lo then l.drop a else l.take a))
  | none=>none)
 | [x,y]=>if lo=true/\hi=true/\mx=false/\0<l.length then(match zn l.length y with
  | some b=>(match zn b x with
   | some a=>some (.list p z ((l.take b).drop a))
   | none=>none)
  | none=>none)else none
 | [x,y,w]=>if lo=true/\hi=true/\mx=true/\0<l.length then(match zn l.length w with
  | some m=>(match zn m y with
   | some b=>(match zn b x with
    | some a=>some (.list p z ((l.take b).drop a))
    | none=>none)
   | none=>none)
  | none=>none)else none
 | _=>none
def qW(lo hi mx:Bool)(id g o n q z:Nat):LJ->LS
 | []=>if lo=false/\hi=false/\mx=false then some (.sl id g o n q z)else none
 | [x]=>if mx=true\/lo=hi\/q=0 then none else if lo then(match zn n x with
   | some a=>some (.sl id g (o+a) (n-a) (q-2*a) z)
   | none=>none)else(match zn (q/2) x with
   | some a=>some (.sl id g o a q z)
   | none=>none)
 | [x,y]=>if lo=true/\hi=true/\mx=false/\0<q then(match zn (q/2) y with
  | some b=>(match zn b x with
   | some a=>some (.sl id g (o+a) (b-a) (q-2*a) z)
   | none=>none)
  | none=>none)else none
 | [x,y,m]=>if lo=true/\hi=true/\mx=true/\0<q then(match zn (q/2) m with
  | some m=>(match zn m y with
   | some b=>(match zn b x with
    | some a=>some (.sl id g (o+a) (b-a) (2*m+1-2*a) z)
    | none=>none)
   | none=>none)
  | none=>none)else none
 | _=>none
def qS(esz:Nat)(lo hi mx:Bool):LJ->LS
 | .list p z l::bs=>if esz=z then qV lo hi mx p z l bs else none
 | .sl id g o n q z::bs=>if esz=z then qW lo hi mx id g o n q z bs else none
 | _=>none
def qO(f:Nat)(vs:LJ):LS:=match f with
 | 1=>(match vs with
  | [.nilsl]=>some (.int .i64 0)
  | [.list _ _ l]=>some (.int .i64 l.length)
  | [.sl _ _ _ n _ _]=>some (.int .i64 n)
  | _=>none)
 | 3=>kX tg vs
 | _=>none
def okF(ok:Bool)(v:PV)(b:Bool):PV:=if ok then .tuple [v,.bool b]else v
def qB(H:LQ)(kf:Nat)(zero:TV)(ok:Bool):LJ->LS
 | [.map id,.int k x]=>if kf=1 then(match H[id]? with
  | some .map0=>(match zR 3 zero with|some z=>some (okF ok z false)|none=>none)
  | some (.mapI k' m)=>if k=k' then(match m x with
   | some v=>some (okF ok v true)
   | none=>(match zR 3 zero with|some z=>some (okF ok z false)|none=>none))else none
  | _=>none)else none
 | [.map id,.str x]=>if kf=2 then(match H[id]? with
  | some .map0=>(match zR 3 zero with|some z=>some (okF ok z false)|none=>none)
  | some (.mapS m)=>(match m x with
   | some v=>some (okF ok v true)
   | none=>(match zR 3 zero with|some z=>some (okF ok z false)|none=>none))
  | _=>none)else none
 | [.nilmap,.int _ _]=>if kf=1 then(match zR 3 zero with|some z=>some (okF ok z false)|none=>none)else none
 | _=>none
def z7(f:Nat)(v:PV):LW:=match f,v with
 | 1,.nilptr=>some true
 | 1,.ptr ..=>some false
 | 1,.elem _=>some false
 | 2,.nilsl=>some true
 | 2,.list _ _ (_::_)=>some false
 | 3,.nilmap=>some true
 | 3,.map _=>some false
 | 4,.nilfn=>some true
 | 4,.fn ..=>some false
 | 5,.niliface=>some true
 | 5,.iface ..=>some false
 | _,_=>none
def qr(neg:Bool):LW->LS
 | some b=>some (.bool (if neg then !b else b))
 | none=>none
def qJ(neg:Bool)(ks:LN):LJ->LS
 | [.agg l,.agg m]=>(match qd l with
  | some l=>(match qd m with
   | some m=>bif Nat.beq l.length ks.length then bif Nat.beq m.length ks.length then qr neg (yG ks l m)else none else none
   | none=>none)
  | none=>none)
 | _=>none
def qb(cells:LJ):List (Nat×Nat)->LJ->Option (LJ)
 | [],[]=>some cells
 | (off,size)::ps,v::vs=>if v.cells.length=size/\off+size<=cells.length then qb (cells.take off++v.cells++cells.drop (off+size)) ps vs else none
 | _,_=>none
def qR(agg:Bool)(off size:Nat)(l:LJ):LS :=
 if agg then(if off+size<=l.length then some (.agg ((l.drop off).take size))else none)else l[off]?
def qp(H:LQ)(esz:Nat):PV->Option (LJ)
 | .nilsl=>some []
 | .list _ z l=>if esz=z then some l else none
 | .sl id g o n _ z=>if esz=z then(match H[id]? with
  | some (.row _ _ G M l)=>if M<=g/\g<=G/\o+n<=l.length then some ((l.drop o).take n)else none
  | _=>none)else none
 | _=>none
def qE(H:LQ):LJ->LS
 | [x]=>(match qp H 1 x with
  | some l=>(match qd l with
   | some l=>(match ql l with
    | some s=>some (.str s)
    | none=>none)
   | none=>none)
  | none=>none)
 | _=>none
def qc(H:LQ)(k:zh)(vs:LJ):LS :=
 match k with
 | .mov=>(match vs with | [v]=>some v|_=>none)
 | .pick=>(match vs with | [.bool c,a,b]=>some (if c then a else b)|_=>none)
 | .load agg n=>zD H agg n vs
 | .nilchk=>(match vs with
  | [.elem cs]=>some (.elem cs)
  | [.ptr id g i o n]=>some (.ptr id g i o n)
  | [.fn f c]=>some (.fn f c)
  | _=>none)
 | .bin op=>wm (wO op) vs
 | .eqnil neg f=>(match vs with
  | [x,y]=>qr neg (qk (z7 f x) (z7 f y))
  | _=>none)
 | .eqB neg=>wm (iG neg) vs
 | .cstr=>kX Ab vs
 | .eqagg neg ks=>qJ neg ks vs
 | .un op=>kX (mB op) vs
 | .conv k=>kX (iF k) vs
 | .mkif t=>(match vs with | [v]=>some (.iface t v)|_=>none)
 | .mkfn f=>some (.fn f vs)
 | .slice esz lo hi mx=>qS esz lo hi mx vs
 | .slstr lo hi=>Ek (oT lo hi) vs
 | .faddr off size=>qL off size vs
 | .fld agg off size=>(match vs with | [.agg l]=>qR agg off size l|_=>none)
 | .iaddr esz=>qN esz vs
 | .iaddrA len esz=>qM len esz vs
 | .idxstr=>wm oS vs
 | .look kf zero ok=>qB H kf zero ok vs
 | .tassert t zero ok=>(match vs with
  | [.iface t' v]=>if t=t' then some (okF ok v true)else if ok then(match zR 3 zero with|some z=>some (.tuple [z,.bool false])|none=>none)else none
  | [.niliface]=>if ok then(match zR 3 zero with|some z=>some (.tuple [z,.bool false])|none=>none)else none
  | _=>none)
 | .extr i=>(match vs with | [.tuple l]=>l[i]? | _=>none)
 | .len f=>qO f vs
 | .tostr=>qE H vs
 | .maxI=>wm (aa true) vs
 | .minI=>wm (aa false) vs
 | .build zero places=>(match qe (zR 3) zero with
  | some z=>(match qb z places vs with
   | some l=>some (.agg l)
   | none=>none)
  | none=>none)
 | _=>none
variable {B:Ba}{h:TH}{c:Cx}{H:LQ}{vs:LJ}{us:LK}{v:PV}
variable {K:Type}{R:PV->TV->Prop}{agg:Bool}{clock d:Nat}{ds:LK}{e:Nat}{es:List ud}{esz id:Nat}{m:K->LS}{neg:Bool}{p q:Nat}{w:PV}{zero:TV}{κ:K->TV}
theorem tX(hl:LR (VR c h) l cs)(hp:zF agg l=some v):∃u,dG agg cs=some u/\VR c h v u:=by
 unfold zF at hp;unfold dG
 cases agg
 .simp only[Zi,if_false]at hp
  split at hp
  .rename_i x
   cases hp
   obtain⟨y,a,rfl,h1,h2⟩:=hl.oc;obtain rfl:=h2.oN
   grind
  grind
 .simp only[if_true]at hp
  cases hp
  exact⟨_,rfl,VR.aggL hl⟩
theorem tG(h:i<n):i*z+z<=n*z:=by
 have:=Ze z (Nat.succ_le_of_lt h)
 grind
theorem P8(cs:List α)(hz:o+n<=z):((((cs.drop a).take z).drop o).take n)=(cs.drop (a+o)).take n:=by
 rw[ZZ,zAK9,Z0,ZK zo]
theorem KG(k:HR B c H h)(hr:zA H id (g+d) i=some v)(hρ:c.ρ id=some (b,d,z)):v.cells.length=z/\∀o n,o+n<=z->∃ds,wK h b g (i*z+o) n=some ds/\LR (VR c h) ((v.cells.drop o).take n) ds:=by
 unfold zA at hr
 split at hr
 .rename_i e z' G M l hH
  split at hr
  .rename_i hg;rcases k.obj _ _ hH with⟨rfl,_⟩|⟨t,u,w,x,cells,cs,h1,h2,h3,h4,q,f⟩
   .grind
   .rw[hρ]at h1;injection h1 with h1;injection h1 with h1 a;injection a with a r;subst h1;subst a;subst r;subst h3;have s:i<l.length:=(Yl.1 hr).1;have y:=tG (z:=z) s;have j:=f.one v (Yt hr);refine⟨j,fun o n p=>?_⟩;refine⟨(cs.drop (i*z+o)).take n,DU h2 zo zo ?_,?_⟩
    .have:=l7 q (k:=i*z+o) (m:=n) zo
     grind
    .rw[<- P8 cs p];exact((f.at hr).drop o).take n
  grind
 grind
theorem ae(x:VR c h (.ptr id g i o n) u):∃b d z g',c.ρ id=some (b,d,z)/\g=g'+d/\u=.ptr b g' (i*z+o) n:=by
 cases x with
 | pure x=>cases x
 | ptr a=>grind
theorem c9{cs:LJ}(x:VR c h (.elem cs) u):∃p b g o ds,c.S p b/\u=.ptr b g o cs.length/\wK h b g o cs.length=some ds/\LR (PR c.S h) cs ds:=by
 cases x with
 | pure x=>cases x with|elem h1 h2 h3 h4=>exact⟨_,_,_,_,_,h1,rfl,h2,h3,h4⟩
theorem GD{cs:LJ}(hS:c.S p b)(hr:wK h b g o cs.length=some ds)(hl:LR (PR c.S h) cs ds)(ha:a+n<=cs.length):VR c h (.elem ((cs.drop a).take n)) (.ptr b g (o+a) n):=by
 have d:((cs.drop a).take n).length=n:=by simp;omega
 have h1:=iS hr ha;have h2:=(hl.drop a).take n;have:=PR.elem (S:=c.S) (h:=h) hS (by rw[d];exact h1) h2.1 h2.2;rw[d]at this;exact .pure this
theorem IQ(k:HR B c H h)(hv:LR (VR c h) vs us)(hp:zD H agg n vs=some v):∃u,um us (ni agg n h)=some u/\VR c h v u:=by
 unfold zD at hp
 split at hp
 .rename_i cs;obtain⟨y,q,rfl,h1,h2⟩:=hv.oc;obtain rfl:=h2.oN
  split at hp
  .rename_i hn;obtain⟨p,b,g,o,ds,s1,rfl,l,e⟩:=c9 h1;have a:=iS l (k:=0) (m:=n) zo;rw[ZP]at a;obtain⟨u,f,j⟩:=tX (LR.pure (e.take n)) hp;refine⟨u,?_,j⟩;simp only[um,ni];rw[wS hn,a];exact f
  grind
 .rename_i id g i o m;obtain⟨y,q,rfl,h1,h2⟩:=hv.oc;obtain rfl:=h2.oN
  split at hp
  .rename_i hn
   split at hp
   .rename_i w hw
    split at hp
    .rename_i ho;obtain⟨b,d,z,s,s1,rfl,rfl⟩:=ae h1;obtain⟨l,e⟩:=KG k hw s1;obtain⟨ds,a,r⟩:=e o n (by omega);obtain⟨u,f,j⟩:=tX r hp;refine⟨u,?_,j⟩;simp only[um,ni];rw[wS hn,a];exact f
    grind
   grind
  grind
 grind
theorem QB{off size:Nat}(hv:LR (VR c h) vs us)(hp:qL off size vs=some v):∃u,um us (iH off size)=some u/\VR c h v u:=by
 unfold qL at hp
 split at hp
 .rename_i cs;obtain⟨y,a,rfl,h1,h2⟩:=hv.oc;obtain rfl:=h2.oN
  split at hp
  .rename_i hn
   cases hp
   obtain⟨p,b,g,o,ds,s1,rfl,e,f⟩:=c9 h1;refine⟨.ptr b g (o+off) size,?_,GD s1 e f hn⟩;simp only[um,iH];rw[wS hn];rfl
  grind
 .rename_i id g i o m;obtain⟨y,a,rfl,h1,h2⟩:=hv.oc;obtain rfl:=h2.oN
  split at hp
  .rename_i hn
   cases hp
   obtain⟨b,d,z,j,s1,rfl,rfl⟩:=ae h1;refine⟨.ptr b j (i*z+o+off) size,?_,?_⟩
   .simp only[um,iH];rw[wS hn];rfl
   .rw[zAP9];exact .ptr s1
  grind
 grind
theorem dz{j:Int}(h:0<=j):Dl j=some j.toNat:=by
 obtain⟨n,rfl⟩:=Zs h;rfl
theorem nX(x:VR c h (.list p z l) u):(l=[]/\u=.nilsl)\/∃b g o q ds,u=.sl b g o l.length q z/\c.S p b/\wK h b g o (l.length*z)=some ds/\2*l.length<=q/\ER (PR c.S h) z l ds:=by
 cases x with
 | pure x=>cases x with
  | listnil=>grind
  | list h1 h2 h3 h4 a d=>exact .inr ⟨_,_,_,_,_,rfl,h1,h2,h3,h4,a,d⟩
theorem sl_inv(x:VR c h (.sl id g o n q z) u):(g=0/\o=0/\n=0/\q=0/\u=.nilsl/\c.L id)\/∃b d g',c.ρ id=some (b,d,z)/\g=g'+d/\u=.sl b g' (o*z) n q z:=by
 cases x with
 | pure x=>cases x
 | sl a=>grind
 | slnil _ e=>grind
theorem Rv(hv:LR (VR c h) vs us)(hp:qN esz vs=some v):∃u,ux us (iI esz)=some u/\VR c h v u:=by
 unfold qN at hp
 split at hp
 .rename_i p z l k j;obtain⟨y,A,rfl,h1,h2⟩:=hv.oc;obtain⟨B,x,rfl,h3,h4⟩:=h2.oc;obtain rfl:=h4.oN;obtain rfl:=h3.int_inv
  split at hp
  .rename_i hc;obtain⟨rfl,e⟩:=hc
   split at hp
   .rename_i w hw
    cases hp
    have a:j.toNat<l.length:=(Yl.1 hw).1;rcases nX h1 with⟨rfl,_⟩|⟨b,g,o,q,ds,rfl,s1,C,I,r⟩
    .grind
    .have D:=tG (z:=esz) a;have f:=r.one w (Yt hw);refine⟨.ptr b g (o+j.toNat*esz) esz,?_,?_⟩
     .simp only[ux,iI,xN,dz e];rw[wx rfl,bI a];rfl
     .have G:=iS C (k:=j.toNat*esz) (m:=esz) D;have s:=r.at hw;have:=PR.elem (S:=c.S) (h:=h) s1 (by rw[f];exact G) s.1 s.2;rw[f]at this;exact .pure this
   grind
  grind
 .rename_i id g o n q z k j;obtain⟨y,A,rfl,h1,h2⟩:=hv.oc;obtain⟨B,x,rfl,h3,h4⟩:=h2.oc;obtain rfl:=h4.oN;obtain rfl:=h3.int_inv
  split at hp
  .rename_i hc;obtain⟨rfl,e,a⟩:=hc
   cases hp
   rcases sl_inv h1 with⟨_,_,rfl,_⟩|⟨b,d,t,s1,rfl,rfl⟩
   .omega
   .refine⟨.ptr b t (o*esz+j.toNat*esz) esz,?_,?_⟩
    .simp only[ux,iI,xN,dz e];rw[wx rfl,bI a];rfl
    .have:=VR.ptr (h:=h) (g:=t) (i:=o+j.toNat) (o:=0) (n:=esz) s1
     grind
  grind
 grind
theorem Ru{len:Nat}(hv:LR (VR c h) vs us)(hp:qM len esz vs=some v):∃u,ux us (iJ len esz)=some u/\VR c h v u:=by
 unfold qM at hp
 split at hp
 .rename_i cs k j;obtain⟨y,n,rfl,h1,h2⟩:=hv.oc;obtain⟨q,l,rfl,h3,h4⟩:=h2.oc;obtain rfl:=h4.oN;obtain rfl:=h3.int_inv
  split at hp
  .rename_i hc;obtain⟨e,a,f⟩:=hc
   cases hp
   obtain⟨p,b,g,o,ds,s1,rfl,r,s⟩:=c9 h1;have w:=tG (z:=esz) a;refine⟨.ptr b g (o+j.toNat*esz) esz,?_,GD s1 r s zo⟩;simp only[ux,iJ,xN,dz e];rw[bI a,wS f];rfl
  grind
 .rename_i id g i o m k j;obtain⟨y,n,rfl,h1,h2⟩:=hv.oc;obtain⟨q,l,rfl,h3,h4⟩:=h2.oc;obtain rfl:=h4.oN;obtain rfl:=h3.int_inv
  split at hp
  .rename_i hc;obtain⟨e,a,f⟩:=hc
   cases hp
   obtain⟨b,d,z,t,s1,rfl,rfl⟩:=ae h1;refine⟨.ptr b t (i*z+o+j.toNat*esz) esz,?_,?_⟩
   .simp only[ux,iJ,xN,dz e];rw[bI a,wS f];rfl
   .rw[zAP9];exact .ptr s1
  grind
 grind
theorem gt{m:Nat}{x:PV}(hx:VR c h x u)(hb:zn m x=some a):xl u m=some a/\a<=m:=by
 unfold zn at hb
 split at hb
 .rename_i k j;obtain rfl:=hx.int_inv
  split at hb
  .rename_i hc
   cases hb
   refine⟨?_,hc.2⟩;unfold xl;simp only[xN,dz hc.1];rw[wS hc.2];rfl
  grind
 grind
theorem tw(s1:c.S p b)(s2:wK h b g o (l.length*z)=some ds)(s4:ER (PR c.S h) z l ds)(ha:a<=e)(he:e<=l.length)(hq:2*(e-a)<=q):VR c h (.list p z ((l.take e).drop a)) (.sl b g (o+a*z) (e-a) q z):=by
 have f:((l.take e).drop a).length=e-a:=by simp;omega
 have i:a*z+(e-a)*z<=l.length*z:=by
  rw[<- Zp,Nat.add_sub_cancel' ha];exact Ze z he
 have j:=iS s2 (k:=a*z) (m:=(e-a)*z) i;have d:=(s4.take e).drop a;have n:(ds.take (e*z)).drop (a*z)=(ds.drop (a*z)).take ((e-a)*z):=by
  rw[ZZ,Nat.sub_mul]
 rw[n]at d;have:=PR.list (S:=c.S) (h:=h) (q:=q) s1 (by rw[f];exact j) (by omega) d.one d.all.1 d.all.2;rw[f]at this;exact .pure this
theorem W8{lo hi mx:Bool}(hv:LR (VR c h) vs us)(hp:qS esz lo hi mx vs=some v):∃u,dH esz lo hi mx us=some u/\VR c h v u:=by
 unfold qS at hp
 split at hp
 .rename_i p z l bs;obtain⟨y,U,rfl,h1,h2⟩:=hv.oc
  split at hp
  .rename_i he;subst he;simp only[dH];unfold qV at hp
   split at hp
   .obtain rfl:=h2.oN
    split at hp
    .rename_i hc;obtain⟨rfl,rfl,rfl⟩:=hc
     cases hp
     rcases nX h1 with⟨rfl,rfl⟩|⟨b,g,o,q,ds,rfl,_⟩
     .exact⟨_,rfl,.pure (.listnil _ _)⟩
     .refine⟨_,?_,h1⟩;simp only[nj];rw[wx rfl];rfl
    grind
   .rename_i x;obtain⟨k,D,rfl,h3,h4⟩:=h2.oc;obtain rfl:=h4.oN
    split at hp
    .cases hp
    .rename_i hc;simp only[not_or,Bool.not_eq_true]at hc;obtain⟨rfl,L⟩:=hc
     split at hp
     .rename_i a hb
      cases hp
      obtain⟨f,i⟩:=gt h3 hb;rcases nX h1 with⟨rfl,rfl⟩|⟨b,g,o,q,ds,rfl,s1,t,R,A⟩
      .simp at i;subst i;simp only[nj,DC]
       grind
      .simp only[nj];rw[wx rfl];simp only[cond_true,cr,cond_false]
       cases lo<;>cases hi<;>first|exact absurd rfl L|skip
       .simp only[cond_true,cond_false,A7];have j:xl k (q/2)=some a:=by
         revert f;unfold xl;cases xN k<;>intro f<;>first|(cases f;done)|skip
         rename_i w;dsimp only at f⊢
         cases G:Nat.ble w l.length
         .grind
         .rw[G]at f;cases f
          rw[wS zo];rfl
        rw[j];refine⟨_,rfl,?_⟩;have:=tw (a:=0) (e:=a) (q:=q) s1 t A (Yv _) i zo
        grind
       .simp only[cond_true,cond_false,al];rw[f];refine⟨_,rfl,?_⟩;have:=tw (a:=a) (e:=l.length) (q:=q-2*a) s1 t A i (Ym _) zo
        grind
     grind
   .rename_i x y0;obtain⟨k,D,rfl,h3,h4⟩:=h2.oc;obtain⟨I,M,rfl,r,s⟩:=h4.oc;obtain rfl:=s.oN
    split at hp
    .rename_i hc;obtain⟨rfl,rfl,rfl,T⟩:=hc
     split at hp
     .rename_i e hb;obtain⟨f,i⟩:=gt r hb
      split at hp
      .rename_i a hb';obtain⟨j,J⟩:=gt h3 hb'
       cases hp
       rcases nX h1 with⟨rfl,rfl⟩|⟨b,g,o,q,ds,rfl,s1,t,R,A⟩
       .grind
       .simp only[nj];rw[wx rfl];simp only[cond_true,cr,cond_false,A8,al];have N:xl I (q/2)=some e:=by
         revert f;unfold xl;cases xN I<;>intro f<;>first|(cases f;done)|skip
         rename_i w;dsimp only at f⊢
         cases G:Nat.ble w l.length
         .grind
         .rw[G]at f;cases f
          rw[wS zo];rfl
        rw[N];dsimp only;rw[j];exact⟨_,rfl,tw s1 t A J i zo⟩
      grind
     grind
    grind
   .rename_i x y0 w0;obtain⟨k,D,rfl,h3,h4⟩:=h2.oc;obtain⟨I,M,rfl,r,s⟩:=h4.oc;obtain⟨O,V,rfl,P,Q⟩:=s.oc;obtain rfl:=Q.oN
    split at hp
    .rename_i hc;obtain⟨rfl,rfl,rfl,T⟩:=hc
     split at hp
     .rename_i m hbm;obtain⟨B,Y⟩:=gt P hbm
      split at hp
      .rename_i e hb;obtain⟨f,i⟩:=gt r hb
       split at hp
       .rename_i a hb';obtain⟨j,J⟩:=gt h3 hb'
        cases hp
        rcases nX h1 with⟨rfl,rfl⟩|⟨b,g,o,q,ds,rfl,s1,t,R,A⟩
        .grind
        .simp only[nj];rw[wx rfl];simp only[cond_true,cr,A9];have N:xl O (q/2)=some m:=by
          revert B;unfold xl;cases xN O<;>intro B<;>first|(cases B;done)|skip
          rename_i w;dsimp only at B⊢
          cases G:Nat.ble w l.length
          .grind
          .rw[G]at B;cases B
           rw[wS zo];rfl
         rw[N];dsimp only;rw[f];simp only[al];rw[j];exact⟨_,rfl,tw s1 t A J zo zo⟩
       grind
      grind
     grind
    grind
   grind
  grind
 .rename_i id g o n q z bs;obtain⟨y,U,rfl,h1,h2⟩:=hv.oc
  split at hp
  .rename_i he;subst he;simp only[dH];unfold qW at hp
   split at hp
   .obtain rfl:=h2.oN
    split at hp
    .rename_i hc;obtain⟨rfl,rfl,rfl⟩:=hc
     cases hp
     rcases sl_inv h1 with⟨rfl,rfl,rfl,rfl,rfl,K⟩|⟨b,d,C,s1,rfl,rfl⟩
     .exact⟨_,rfl,.slnil _ K⟩
     .refine⟨_,?_,h1⟩;simp only[nj];rw[wx rfl];rfl
    .cases hp
   .rename_i x;obtain⟨k,D,rfl,h3,h4⟩:=h2.oc;obtain rfl:=h4.oN
    split at hp
    .cases hp
    .rename_i hc;simp only[not_or,Bool.not_eq_true]at hc;obtain⟨rfl,L,S⟩:=hc;rcases sl_inv h1 with⟨rfl,rfl,rfl,rfl,rfl,K⟩|⟨b,d,C,s1,rfl,rfl⟩
     .omega
     .simp only[nj];rw[wx rfl];simp only[cond_true,cr,cond_false]
      cases lo<;>cases hi<;>first|exact absurd rfl L|skip
      .simp only[Zi,if_false]at hp
       split at hp
       .rename_i a hb
        cases hp
        obtain⟨f,i⟩:=gt h3 hb;simp only[cond_true,cond_false,A7];rw[f];exact⟨_,rfl,.sl s1⟩
       .cases hp
      .simp only[if_true]at hp
       split at hp
       .rename_i a hb
        cases hp
        obtain⟨f,i⟩:=gt h3 hb;simp only[cond_true,cond_false,al];rw[f];refine⟨_,rfl,?_⟩;have:=VR.sl (h:=h) (g:=C) (o:=o+a) (n:=n-a) (q:=q-2*a) s1
        grind
       .cases hp
   .rename_i x y0;obtain⟨k,D,rfl,h3,h4⟩:=h2.oc;obtain⟨I,M,rfl,r,s⟩:=h4.oc;obtain rfl:=s.oN
    split at hp
    .rename_i hc;obtain⟨rfl,rfl,rfl,S⟩:=hc;rcases sl_inv h1 with⟨rfl,rfl,rfl,rfl,rfl,K⟩|⟨b,d,C,s1,rfl,rfl⟩
     .omega
     .split at hp
      .rename_i e hb;obtain⟨f,i⟩:=gt r hb
       split at hp
       .rename_i a hb';obtain⟨j,J⟩:=gt h3 hb'
        cases hp
        simp only[nj];rw[wx rfl];simp only[cond_true,cr,cond_false,A8,al];rw[f];dsimp only;rw[j];refine⟨_,rfl,?_⟩;have:=VR.sl (h:=h) (g:=C) (o:=o+a) (n:=e-a) (q:=q-2*a) s1
        grind
       .cases hp
      .cases hp
    .cases hp
   .rename_i x y0 m0;obtain⟨k,D,rfl,h3,h4⟩:=h2.oc;obtain⟨I,M,rfl,r,s⟩:=h4.oc;obtain⟨O,V,rfl,P,Q⟩:=s.oc;obtain rfl:=Q.oN
    split at hp
    .rename_i hc;obtain⟨rfl,rfl,rfl,S⟩:=hc;rcases sl_inv h1 with⟨rfl,rfl,rfl,rfl,rfl,K⟩|⟨b,d,C,s1,rfl,rfl⟩
     .omega
     .split at hp
      .rename_i m hbm;obtain⟨X,Z⟩:=gt P hbm
       split at hp
       .rename_i e hb;obtain⟨f,i⟩:=gt r hb
        split at hp
        .rename_i a hb';obtain⟨j,J⟩:=gt h3 hb'
         cases hp
         simp only[nj];rw[wx rfl];simp only[cond_true,cr,cond_false,A9,al];rw[X];dsimp only;rw[f];dsimp only;rw[j];refine⟨_,rfl,?_⟩;have:=VR.sl (h:=h) (g:=C) (o:=o+a) (n:=e-a) (q:=2*m+1-2*a) s1
         grind
        .cases hp
       .cases hp
      .cases hp
    .cases hp
   .cases hp
  grind
 grind
theorem dE(hp:zR n u=some w):VR c h w u:=.pure (aX hp)
theorem HX(k:IntKind):bz (TV.int k):=fun x y=>by
 unfold nQ;dsimp only;rw[wx rfl,cond_true,x9]
 grind
theorem oL:∀a b:LN,xO a b=true↔a=b
 | [],[]=>by simp[xO]
 | [],_::_=>by simp[xO]
 | _::_,[]=>by simp[xO]
 | x::a,y::b=>by
  unfold xO
  by_cases h:x=y
  .rw[wx h,cond_true,oL a b];simp[h]
  simp_all
theorem HY:bz TV.str:=fun x y=>by
 unfold nQ;dsimp only;exact⟨fun h=>by rw[(oL x y).2 h],fun h=>by rw[zCV9.2 fun e=>h ((oL x y).1 e)]⟩
theorem bz.inj(hκ:bz κ){x y:K}(h:κ x=κ y):x=y:=by
 apply Classical.byContradiction
 intro e;have h1:=(hκ x y).2 e;have h2:=(hκ x x).1 rfl
 grind
theorem tz(hκ:bz κ){x:K}:∀{es:List ud} {i:Nat},(∀e∈es,∃n,e.k=κ n)->(pL (κ x) es i=some none/\lk κ x es=none)\/∃j e,pL (κ x) es i=some (some (j,e))/\lk κ x es=some e.v
 | [],i,_=>.inl ⟨rfl,rfl⟩
 | e::l,i,b=>by
  obtain⟨n,c⟩:=b e (by simp);have f:=fun g d=>b g (Ys _ d);unfold pL lk
  by_cases a:x=n
  .rw[c,(hκ x n).1 a,if_pos (by rw[a])]
   grind
  .rw[c,(hκ x n).2 a,if_neg (fun e=>a (hκ.inj e.symm))];exact tz hκ f
theorem oP{ok:Bool}{b:Bool}(k:VR c h w u):VR c h (okF ok w b) (nh ok u b):=by
 unfold okF nh
 cases ok
 .exact k
 .exact VR.tL (LR.cons k (LR.cons (.pure (.bool b)) LR.nil))
theorem ce(x:VR c h (.map id) u):∃b d z,c.ρ id=some (b,d,z)/\u=.map b:=by
 cases x with
 | pure x=>cases x
 | map h=>grind
theorem IR(hκ:bz κ)(s4:MR (VR c h) κ m es){ok:Bool}{x:K}(hp:(match m x with
   | some v=>some (okF ok v true)
   | none=>(match zR 3 zero with|some z=>some (okF ok z false)|none=>none))=some w):∃u,pT zero ok (κ x) (.map es clock)=some u/\VR c h w u:=by
 simp only[pT]
 split at hp
 .rename_i w hw
  cases hp
  obtain⟨u,a,b⟩:=s4.some _ _ hw;rcases tz hκ (x:=x) (i:=0) s4.keys with⟨f1,f2⟩|⟨j,e,f1,f2⟩
  .grind
  .rw[f2]at a;cases a
   exact⟨nh ok e.v true,by rw[f1],oP b⟩
 .rename_i hw
  split at hp
  .rename_i w hw'
   cases hp
   have a:=s4.none _ hw;rcases tz hκ (x:=x) (i:=0) s4.keys with⟨f1,f2⟩|⟨j,e,f1,f2⟩
   .exact⟨nh ok zero false,by rw[f1],oP (dE hw')⟩
   .grind
  grind
theorem IS(κ:K->TV){ok:Bool}{x:K}(hp:(match zR 3 zero with|some z=>some (okF ok z false)|none=>none)=some w):∃u,pT zero ok (κ x) (.map [] clock)=some u/\VR c h w u:=by
 split at hp
 .rename_i w hw
  cases hp
  exact⟨nh ok zero false,rfl,oP (dE hw)⟩
 grind
theorem Tm(k:HR B c H h){kf:Nat}{ok:Bool}(hv:LR (VR c h) vs us)(hp:qB H kf zero ok vs=some v):∃u,ux us (aY kf zero ok h)=some u/\VR c h v u:=by
 unfold qB at hp
 split at hp
 .rename_i id kk x;obtain⟨y,n,rfl,h1,h2⟩:=hv.oc;obtain⟨o,l,rfl,h3,h4⟩:=h2.oc;obtain rfl:=h4.oN;obtain rfl:=h3.int_inv;obtain⟨b,d,z,s1,rfl⟩:=ce h1
  split at hp
  .rename_i hkf;subst hkf;simp only[ux,aY,gJ,od,cond_true]
   split at hp
   .rename_i hH;obtain⟨f,g,i,clock,a,e⟩:=k.obj _ _ hH;rw[s1]at a;injection a with a;injection a with a _;subst a;rw[e];exact IS (TV.int kk) hp
   .rename_i k' m hH;obtain⟨f,g,i,es,clock,a,e,j⟩:=k.obj _ _ hH;rw[s1]at a;injection a with a;injection a with a _;subst a
    split at hp
    .rename_i hk;subst hk;rw[e];exact IR (HX kk) j hp
    grind
   grind
  grind
 .rename_i id x;obtain⟨y,n,rfl,h1,h2⟩:=hv.oc;obtain⟨o,l,rfl,h3,h4⟩:=h2.oc;obtain rfl:=h4.oN;obtain rfl:=h3.str_inv;obtain⟨b,d,z,s1,rfl⟩:=ce h1
  split at hp
  .rename_i hkf;subst hkf;simp only[ux,aY,gJ,oe,cond_true]
   split at hp
   .rename_i hH;obtain⟨f,g,i,clock,a,e⟩:=k.obj _ _ hH;rw[s1]at a;injection a with a;injection a with a _;subst a;rw[e];exact IS TV.str hp
   .rename_i m hH;obtain⟨f,g,i,es,clock,a,e,j⟩:=k.obj _ _ hH;rw[s1]at a;injection a with a;injection a with a _;subst a;rw[e];exact IR HY j hp
   grind
  grind
 .rename_i kk x;obtain⟨y,n,rfl,h1,h2⟩:=hv.oc;obtain⟨o,l,rfl,h3,h4⟩:=h2.oc;obtain rfl:=h4.oN;obtain rfl:=h3.int_inv;obtain rfl:y=.nilmap:=by cases h1 with|pure h1=>cases h1;rfl
  split at hp
  .rename_i hkf;subst hkf
   split at hp
   .rename_i w hw
    cases hp
    exact⟨nh ok zero false,rfl,oP (dE hw)⟩
   grind
  grind
 grind
theorem Jp{x:PV}{b:Bool}(hx:VR c h x u)(hn:z7 f x=some b):og f u=some b:=by
 unfold z7 at hn
 split at hn<;>first|(cases hn;done)|(cases hn)
 .cases hx with|pure hx=>cases hx;rfl
 .obtain⟨_,_,_,_,_,_,rfl⟩:=ae hx;rfl
 .obtain⟨_,_,_,_,_,_,rfl,_⟩:=c9 hx;rfl
 .cases hx with|pure hx=>cases hx;rfl
 .rcases nX hx with⟨h1,_⟩|⟨_,_,_,_,_,rfl,_⟩
  .cases h1
  .rfl
 .cases hx with|pure hx=>cases hx;rfl
 .obtain⟨_,_,_,_,rfl⟩:=ce hx;rfl
 .cases hx with|pure hx=>cases hx;rfl
 .obtain⟨_,rfl,_⟩:=hx.fn_inv;rfl
 .cases hx with|pure hx=>cases hx;rfl
 .obtain⟨_,rfl,_⟩:=hx.iface_inv;rfl
theorem Jw{x:LW}(hp:qr neg x=some v):∃u,oM neg x=some u/\VR c h v u:=by
 unfold qr at hp
 split at hp
 .cases hp
  refine⟨_,rfl,?_⟩
  cases neg<;>exact .pure (.bool _)
 grind
theorem Qs{ks:LN}(hv:LR (VR c h) vs us)(hp:qJ neg ks vs=some v):∃u,ux us (oR neg ks)=some u/\VR c h v u:=by
 unfold qJ at hp
 split at hp
 .obtain⟨y,cs',rfl,h1,h2⟩:=hv.oc;obtain⟨i,g,rfl,h3,h4⟩:=h2.oc;obtain rfl:=h4.oN;obtain⟨a,rfl,b⟩:=h1.agg_inv;obtain⟨j,rfl,d⟩:=h3.agg_inv
  split at hp
  .rename_i l' hl';obtain rfl:=lG b hl'
   split at hp
   .rename_i m' hm';obtain rfl:=lG d hm';obtain⟨e,hp⟩:=ve hp;obtain⟨f,hp⟩:=ve hp;obtain⟨u,h1,h2⟩:=Jw hp;exact⟨u,by simp only[ux,oR,e,f,cond_true];exact h1,h2⟩
   grind
  grind
 grind
theorem Cm:∀{places:List (Nat×Nat)} {vs:LJ} {us:LK} {l m:LJ} {cs:LK},LR (VR c h) l cs->LR (VR c h) vs us->qb l places vs=some m->∃ds,bQ cs places us=some ds/\LR (VR c h) m ds
 | [],[],us,l,m,cs,b,d,a=>by
  obtain rfl:=d.oN;simp only[qb]at a
  cases a
  exact⟨cs,rfl,b⟩
 | [],_::_,us,l,m,cs,b,d,a=>by simp[qb]at a
 | _::_,[],us,l,m,cs,b,d,a=>by simp[qb]at a
 | (off,size)::ps,v::vs,us,l,m,cs,b,d,a=>by
  obtain⟨y,e,rfl,h1,h2⟩:=d.oc;unfold qb at a
  split at a
  .rename_i hc;have h3:=h1.cells;obtain⟨ds,d1,d2⟩:=Cm (((b.take off).app h3).app (b.drop (off+size))) h2 a;refine⟨ds,?_,d2⟩;unfold bQ;dsimp only;rw[wx (by rw[<- h3.1];omega),wS (by rw[<- b.1];omega)];exact d1
  grind
theorem dD:∀(l:LK) (n:Nat),aV l n=l[n]?
 | [],n=>by simp[aV]
 | x::l,0=>rfl
 | x::l,n+1=>by simp only[aV,Y2];exact dD l n
theorem Va{off size:Nat}(hl:LR (VR c h) l cs)(hp:qR agg off size l=some v):∃u,iM agg off size cs=some u/\VR c h v u:=by
 unfold qR at hp;unfold iM
 cases agg
 .simp only[Zi,if_false]at hp;obtain⟨y,a,b⟩:=hl.at hp;exact⟨y,by simp only[cond_false];rw[dD];exact a,b⟩
 .simp only[if_true]at hp
  split at hp
  .rename_i hc
   cases hp
   refine⟨_,?_,VR.aggL ((hl.drop off).take size)⟩;simp only[cond_true];rw[wS (by rw[<- hl.1];exact hc)];rfl
  grind
theorem Qv(hv:LR (VR c h) vs us)(hp:qc H (.eqnil neg f) vs=some v):∃u,uE (.eqnil neg f) us h=some u/\VR c h v u:=by
 simp only[qc]at hp
 split at hp
 .rename_i x x';obtain⟨y,j,rfl,h1,h2⟩:=hv.oc;obtain⟨d,i,rfl,h3,h4⟩:=h2.oc;obtain rfl:=h4.oN;simp only[uE,ux,bN];have e:qk (og f y) (og f d)=qk (z7 f x) (z7 f x'):=by
   revert hp
   cases g:z7 f x with
   | none=>intro hp;simp[qk,qr]at hp
   | some b =>
    cases a:z7 f x' with
    | none=>intro hp;simp[qk,qr]at hp
    | some k=>intro _;rw[Jp h1 g,Jp h3 a]
  rw[e];exact Jw hp
 grind
theorem XC{t:Nat}{ok:Bool}(hv:LR (VR c h) vs us)(hp:qc H (.tassert t zero ok) vs=some v):∃u,uE (.tassert t zero ok) us h=some u/\VR c h v u:=by
 simp only[qc]at hp
 split at hp
 .rename_i t' w;obtain⟨y,a,rfl,h1,h2⟩:=hv.oc;obtain rfl:=h2.oN;obtain⟨b,rfl,h3⟩:=h1.iface_inv;simp only[uE,um,Ac]
  split at hp
  .rename_i ht;subst ht
   cases hp
   rw[wx rfl];exact⟨_,rfl,oP h3⟩
  .rename_i ht
   split at hp
   .rename_i hok;subst hok
    split at hp
    .rename_i z hz
     cases hp
     rw[lK ht];exact⟨_,rfl,VR.tL (LR.cons (dE hz) (LR.cons (.pure (.bool _)) LR.nil))⟩
    grind
   grind
 .obtain⟨y,a,rfl,h1,h2⟩:=hv.oc;obtain rfl:=h2.oN;obtain rfl:y=.niliface:=by cases h1 with|pure h1=>cases h1;rfl
  split at hp
  .rename_i hok;subst hok
   split at hp
   .rename_i z hz
    cases hp
    exact⟨_,rfl,VR.tL (LR.cons (dE hz) (LR.cons (.pure (.bool _)) LR.nil))⟩
   grind
  grind
 grind
def lenP:PV->Nat
 | .list _ _ l=>l.length
 | .sl _ _ _ n _ _=>n
 | _=>0
theorem bc(k:HR B c H h){G M:Nat}(hH:H[id]?=some (.row e z G M l)){z':Nat}(hρ:c.ρ id=some (b,d,z')):
  z'=z/\∃G' M' cells cs,h.get b=some (.row e G' M' (l.length*z) cells)/\G=G'+d/\M'<=M-d/\cells.getL 0 (l.length*z)=some cs/\ER (VR c h) z l cs:=by
 rcases k.obj _ _ hH with⟨_,_,h1,_⟩|⟨a,f,G',M',cells,cs,h1,h2⟩
 all_goals grind
theorem Bd(k:HR B c H h){x:PV}(hx:VR c h x u)(hp:qp H esz x=some l):l.length=lenP x/\lenV u=l.length/\∀m,m<=l.length->∃cs,be h esz u m=some cs/\ER (VR c h) esz (l.take m) cs:=by
 unfold qp at hp
 split at hp
 .cases hp
  obtain rfl:u=.nilsl:=by cases hx with|pure hx=>cases hx;rfl
  exact⟨rfl,rfl,fun m a=>⟨[],rfl,by simpa using ER.nil⟩⟩
 .split at hp
  .rename_i he
   cases hp;subst he
   rcases nX hx with⟨rfl,rfl⟩|⟨b,g,o,q,ds,rfl,s1,i,r,j⟩
   .exact⟨rfl,rfl,fun m a=>⟨[],rfl,by simpa using ER.nil⟩⟩
   .refine⟨rfl,rfl,fun m a=>⟨ds.take (m*esz),?_,(j.take m).mono fun _ _=>.pure⟩⟩;unfold be;dsimp only;rw[wx rfl];have:=iS i (k:=0) (m:=m*esz) (by rw[Y6];exact Ze esz a)
    grind
  grind
 .rename_i id g o n q z
  split at hp
  .rename_i he;subst he
   split at hp
   .rename_i e z' G M l' hH
    split at hp
    .rename_i hc;obtain⟨s,t,v⟩:=hc
     cases hp
     have f:((l'.drop o).take n).length=n:=by simp;omega
     rcases sl_inv hx with⟨rfl,rfl,rfl,rfl,rfl,w⟩|⟨b,d,y,s1,rfl,rfl⟩
     .exact⟨by simp[lenP],by simp[lenV],fun m a=>⟨[],rfl,by simpa using ER.nil⟩⟩
     .obtain⟨rfl,G',M',cells,cs,r1,r2,r3,r4,r5⟩:=bc k hH s1;refine⟨f,by rw[f];rfl,fun m a=>⟨((cs.drop (o*esz)).take (n*esz)).take (m*esz),?_,((r5.drop o).take n).take m⟩⟩;rw[f]at a;unfold be;dsimp only;rw[wx rfl,zAK9,ZK (Ze esz a)];refine DU r1 zo zo ?_;have p:o*esz+m*esz<=l'.length*esz:=by rw[<- Zp];exact Ze _ zo
      have:=l7 r4 p
      grind
    grind
   grind
  grind
 grind
theorem Fk:∀{l:LJ} {us:LK},qd l=some us->l.flatMap PV.cells=l
 | [],_,_=>rfl
 | x::l,us,h=>by
  unfold qd at h
  split at h
  .rename_i u hu
   split at h
   .rename_i ws hws;rw[YT,Fk hws]
    cases x<;>first|rfl|cases hu
   grind
  grind
theorem XJ(k:HR B c H h)(hv:LR (VR c h) vs us)(hp:qE H vs=some v):∃u,um us (aZ h)=some u/\VR c h v u:=by
 unfold qE at hp
 split at hp
 .obtain⟨y,cs',rfl,h1,h2⟩:=hv.oc;obtain rfl:=h2.oN
  split at hp
  .rename_i l hl
   split at hp
   .rename_i l' hl'
    split at hp
    .rename_i s hs
     cases hp
     obtain⟨_,t2,t3⟩:=Bd k h1 hl;obtain⟨cs,t4,t5⟩:=t3 _ (Ym _);rw[YR]at t5;have t6:=t5.all;rw[Fk hl']at t6;obtain rfl:=lG t6 hl';rw[<- t2]at t4;refine⟨.str s,?_,.pure (.str s)⟩
     cases y<;>first|(cases t4;done)|skip
     .cases t4;cases hs;rfl
     .rename_i b g o n q z;simp only[be]at t4;obtain⟨d,a⟩:=ve t4;obtain rfl:=Oj d;rw[zBM9]at a;simp only[lenV]at a;simp only[um,aZ]
      grind
    grind
   grind
  grind
 grind
theorem Ae(k:HR B c H h){kind:zh}(hv:LR (VR c h) vs us)(hp:qc H kind vs=some v):∃u,uE kind us h=some u/\VR c h v u:=by
 unfold qc at hp
 split at hp
 .split at hp
  .obtain⟨y,a,rfl,h1,h2⟩:=hv.oc;obtain rfl:=h2.oN
   cases hp
   exact⟨y,rfl,h1⟩
  grind
 .split at hp
  .rename_i b x x';obtain⟨y,a,rfl,h1,h2⟩:=hv.oc;obtain⟨e,q,rfl,h3,h4⟩:=h2.oc;obtain⟨f,r,rfl,i,j⟩:=h4.oc;obtain rfl:=j.oN;obtain rfl:=h1.bool_inv
   cases hp
   cases b
   .exact⟨f,rfl,i⟩
   .exact⟨e,rfl,h3⟩
  grind
 .exact IQ k hv hp
 .split at hp
  .obtain⟨y,a,rfl,h1,h2⟩:=hv.oc;obtain rfl:=h2.oN
   cases hp
   obtain⟨p,b,g,o,ds,s1,rfl,s,t⟩:=c9 h1;exact⟨_,rfl,h1⟩
  .obtain⟨y,a,rfl,h1,h2⟩:=hv.oc;obtain rfl:=h2.oN
   cases hp
   obtain⟨b,d,z,w,s1,rfl,rfl⟩:=ae h1;exact⟨_,rfl,h1⟩
  .obtain⟨y,a,rfl,h1,h2⟩:=hv.oc;obtain rfl:=h2.oN
   cases hp
   obtain⟨cs,rfl,_⟩:=h1.fn_inv;exact⟨_,rfl,h1⟩
  grind
 .exact o6 hv hp
 .exact Qv (H:=H) hv hp
 .exact o6 hv hp
 .exact A4 hv hp
 .exact Qs hv hp
 .exact A4 hv hp
 .exact A4 hv hp
 .split at hp
  .obtain⟨y,a,rfl,h1,h2⟩:=hv.oc;obtain rfl:=h2.oN
   cases hp
   exact⟨_,rfl,.iface h1⟩
  grind
 .cases hp
  exact⟨_,rfl,VR.fnL hv⟩
 .exact W8 hv hp
 .exact WP hv hp
 .exact QB hv hp
 .split at hp
  .obtain⟨y,a,rfl,h1,h2⟩:=hv.oc;obtain rfl:=h2.oN;obtain⟨cs,rfl,h3⟩:=h1.agg_inv;exact Va h3 hp
  grind
 .exact Rv hv hp
 .exact Ru hv hp
 .exact o6 hv hp
 .exact Tm k hv hp
 .exact XC (H:=H) hv hp
 .split at hp
  .obtain⟨y,a,rfl,h1,h2⟩:=hv.oc;obtain rfl:=h2.oN;obtain⟨cs,rfl,h3⟩:=h1.tuple_inv;obtain⟨u,m,n⟩:=h3.at hp;exact⟨u,by simp only[uE,um,tZ,dD];exact m,n⟩
  grind
 .unfold qO at hp
  split at hp
  .split at hp
   .obtain⟨y,a,rfl,h1,h2⟩:=hv.oc;obtain rfl:=h2.oN
    cases hp
    obtain rfl:y=.nilsl:=by cases h1 with|pure h1=>cases h1;rfl
    exact⟨_,rfl,.pure (.int _ _)⟩
   .obtain⟨y,a,rfl,h1,h2⟩:=hv.oc;obtain rfl:=h2.oN
    cases hp
    rcases nX h1 with⟨rfl,rfl⟩|⟨_,_,_,_,_,rfl,_⟩
    .exact⟨_,rfl,.pure (.int _ _)⟩
    .exact⟨_,rfl,.pure (.int _ _)⟩
   .obtain⟨y,a,rfl,h1,h2⟩:=hv.oc;obtain rfl:=h2.oN
    cases hp
    rcases sl_inv h1 with⟨rfl,rfl,rfl,rfl,rfl,_⟩|⟨_,_,_,_,_,rfl⟩
    .exact⟨_,rfl,.pure (.int _ _)⟩
    .exact⟨_,rfl,.pure (.int _ _)⟩
   grind
  .exact A4 hv hp
  grind
 .exact XJ k hv hp
 .exact o6 hv hp
 .exact o6 hv hp
 .split at hp
  .rename_i z hz
   split at hp
   .rename_i l hl
    cases hp
    obtain⟨ds,d1,d2⟩:=Cm (LR.pure (c:=c) (cm (fun u v=>aX) hz)) hv hl;exact⟨.agg ds,by simp only[uE,tY];rw[d1],VR.aggL d2⟩
   grind
  grind
 grind
def Cx.add(c:Cx)(id b d z:Nat):Cx:=⟨c.S,fun i=>if i=id then some (b,d,z)else c.ρ i,c.L⟩
theorem Kh(x:TO)(hr:wK h b g o n=some cs):wK (h.push x) b g o n=some cs:=by
 obtain⟨y,h1,h2⟩:=Ah hr;refine oV (x:=y) ?_ h2;rw[TH.gP,if_neg (by have:=TH.get_lt h1;omega)];exact h1
theorem MR.mono{R':PV->TV->Prop}(hR:∀x y,R x y->R' x y)(a:MR R κ m es):MR R' κ m es :=
 ⟨a.keys,fun x v b=>by obtain⟨u,c,d⟩:=a.some x v b;grind,a.none⟩
theorem OR.move{c':Cx}{h':TH}(m:Mo c c' h h'){o:za}(hρ:c'.ρ id=c.ρ id)(hL:c.L id->c'.L id)(hb:∀x,c.ρ id=some x->h'.get x.1=h.get x.1)(k:OR c h id o):OR c' h' id o:=by
 cases o with
 | row e z G M l =>
  rcases k with⟨h1,h2,h3,h4⟩|⟨b,d,g,j,cells,cs,h1,h2,h3,h4,a,n⟩
  .exact .inl ⟨h1,h2,by grind,hL h4⟩
  .exact .inr ⟨b,d,g,j,cells,cs,by grind,by grind,h3,h4,a,n.mono fun _ _=>VR.mono m⟩
 | map0 =>
  obtain⟨b,d,z,clock,h1,h2⟩:=k;exact⟨b,d,z,clock,by grind,by grind⟩
 | mapI k p =>
  obtain⟨b,d,z,es,clock,h1,h2,h3⟩:=k;exact⟨b,d,z,es,clock,by grind,by grind,h3.mono fun _ _=>VR.mono m⟩
 | mapS p =>
  obtain⟨b,d,z,es,clock,h1,h2,h3⟩:=k;exact⟨b,d,z,es,clock,by grind,by grind,h3.mono fun _ _=>VR.mono m⟩
 | dfr v =>
  obtain⟨b,d,z,h1,h2⟩:=k;exact⟨b,d,z,by grind,by grind⟩
 | loop st pe tm ps aS bo mk =>
  obtain⟨b,d,z,q,r,s,t,f,h1,h2,h3,h4,a⟩:=k;refine⟨b,d,z,q,r,s,t,f,by grind,m.ρ _ _ h2,by grind,fun i=>?_,?_⟩
  .rcases h4 i with h4|⟨u,u1,u2⟩
   .grind
   .exact .inr ⟨u,u1,u2.mono m⟩
  .cases a with
   | norm=>exact .norm
   | exit id=>exact .exit id
   | goto l=>exact .goto l
   | ret=>exact .ret
   | panic k=>exact .panic (k.mono m)
 | void=>trivial
theorem HR.push(k:HR B c H h){o:za}{x:TO}(ho:Mo c (c.add H.length h.next 0 z) h (h.push x)->OR (c.add H.length h.next 0 z) (h.push x) H.length o):
  Mo c (c.add H.length h.next 0 z) h (h.push x)/\HR B (c.add H.length h.next 0 z) (H++[o]) (h.push x):=by
 have v:c.ρ H.length=none:=by
  cases n:c.ρ H.length with
  | none=>rfl
  | some y=>have:=(k.own _ _ n).2.2;omega
 have m:Mo c (c.add H.length h.next 0 z) h (h.push x):=⟨fun _ _ h=>h,fun id y a=>by
  show (if id=H.length then _ else _)=_
  grind,fun _ h=>h,fun _ _ _ _ _ _ _ q=>Kh x q⟩
 have i:∀b,b<h.next->(h.push x).get b=h.get b:=fun b d=>by rw[TH.gP,if_neg zo]
 have g:∀id y,(c.add H.length h.next 0 z).ρ id=some y->(id=H.length/\y=(h.next,0,z))\/c.ρ id=some y:=fun id y a=>by
  have a:(if id=H.length then some (h.next,0,z)else c.ρ id)=some y:=a
  grind
 refine⟨m,⟨?_,fun b d=>?_,k.old,fun p b d=>?_,fun id y a=>?_,fun id r=>?_,fun id l y s a f e=>?_,fun id t j=>?_⟩⟩
 .rw[TH.nP];exact Nat.le_succ_of_le k.le
 .rw[i b (YS d k.le)];exact k.keep b d
 .obtain⟨h1,h2⟩:=k.S p b d;refine⟨by rw[TH.nP];omega,fun id y a e=>?_⟩
  grind
 .rw[TH.nP,Yn];rcases g id y a with⟨rfl,rfl⟩|a
  .exact⟨k.le,Zr _,by simp⟩
  .obtain⟨h1,h2,h3⟩:=k.own id y a;omega
 .obtain⟨h1,h2⟩:=k.lz id r
  grind
 .rcases g id y a with⟨rfl,rfl⟩|a<;>rcases g l s f with⟨rfl,rfl⟩|f
  .rfl
  .have:=(k.own _ _ f).2.1;omega
  .have:=(k.own _ _ a).2.1;omega
  .exact k.inj _ _ _ _ a f e
 .by_cases u:id<H.length
  .rw[YP u]at j;have h1:=k.obj id t j;refine h1.move m (by show (if id=H.length then _ else _)=_;grind) (fun h=>h) fun y a=>i _ (k.own _ _ a).2.1
  grind
theorem VK{b':Nat}(x:TO)(hb:b'<h.next)(hne:b≠b')(hr:wK h b g o n=some cs):wK (h.set b' x) b g o n=some cs:=by
 obtain⟨y,h1,h2⟩:=Ah hr;refine oV (x:=y) ?_ h2;rw[TH.get_set _ _ _ _ hb,if_neg hne];exact h1
theorem HR.set(k:HR B c H h)(hρ:c.ρ id=some (b,d,z))(hv:¬H[id]?=some .void){o:za}{x:TO}(ho:Mo c c h (h.set b x)->OR c (h.set b x) id o):
  Mo c c h (h.set b x)/\HR B c (H.set id o) (h.set b x):=by
 obtain⟨w,s,hid⟩:=k.own _ _ hρ;have r:∀a,a≠b->(h.set b x).get a=h.get a:=fun a f=>by rw[TH.get_set _ _ _ _ s,if_neg f]
 have m:Mo c c h (h.set b x):=⟨fun _ _ h=>h,fun _ _ h=>h,fun _ h=>h,fun p a f g o n cs t=>VK x s (fun e=>hv ((k.S p a f).2 _ _ hρ e.symm)) t⟩
 refine⟨m,⟨by rw[TH.next_set];omega,fun a f=>?_,k.old,fun p a f=>?_,fun l y j=>?_,fun l u=>?_,k.inj,fun l v q=>?_⟩⟩
 .rw[r a (by omega)];exact k.keep a f
 .rw[TH.next_set];refine⟨(k.S p a f).1,fun i y j e=>?_⟩;have:=(k.S p a f).2 i y j e
  grind
 .rw[TH.next_set,Y1];exact k.own _ _ j
 .rw[Y1];exact k.lz l u
 .rw[zBI9]at q
  split at q
  .grind
  .rename_i hne;exact(k.obj l v q).move m rfl (fun h=>h) fun y j=>r _ fun e=>hne (k.inj _ _ _ _ hρ j e.symm)
def qh(l:LJ):PV:=match l with
 | [x]=>x
 | l=>.agg l
theorem cn(h:l.all zW=true):(qh l).cells=l:=by
 unfold qh
 split
 .rename_i x;simp at h;exact Pe h
 .rfl
def qH(esz:Nat):Nat->LJ->LJ
 | 0,_=>[]
 | n+1,l=>qh (l.take esz)::qH esz n (l.drop esz)
theorem Gk{esz:Nat}:∀{n:Nat} {l:LJ} {cs:LK},l.all zW=true->l.length=n*esz->LR R l cs->ER R esz (qH esz n l) cs
 | 0,l,cs,d,b,a=>by
  obtain rfl:l=[]:=Zg.1 (by omega);obtain rfl:=a.oN;exact ER.nil
 | n+1,l,cs,d,b,a=>by
  have c:(l.take esz).all zW=true:=by grind
  have hd:(l.drop esz).all zW=true:=by grind
  have e:esz<=l.length:=by rw[b,ZR];omega
  have h1:ER R esz [qh (l.take esz)] (cs.take esz):=ER.one' (by rw[cn c];grind) (by rw[cn c];exact a.take esz);have h2:=Gk (esz:=esz) (n:=n) hd (by grind) (a.drop esz);have:=h1.app h2;rw[Y3]at this;exact this
def qo(l:LJ):Nat->LJ
 | 0=>[]
 | n+1=>l++qo l n
theorem Ak(h:LR R l cs):∀n,LR R (qo l n) (yT cs n)
 | 0=>LR.nil
 | n+1=>h.app (Ak h n)
theorem Ky(l:LJ):∀n,(qo l n).length=n*l.length
 | 0=>by simp[qo]
 | n+1=>by rw[qo,Yn,Ky l n,ZR,ZQ]
theorem GV:∀{places:List (Nat×Nat)} {vs l m:LJ},qb l places vs=some m->m.length=l.length
 | [],[],l,m,a=>by simp only[qb]at a;grind
 | [],_::_,l,m,a=>by simp[qb]at a
 | _::_,[],l,m,a=>by simp[qb]at a
 | (off,size)::ps,v::vs,l,m,a=>by
  unfold qb at a
  split at a
  .rename_i hc;rw[GV a]
   grind
  grind
def qg(id:Nat)(k:zh)(vs:LJ):Option (za×PV) :=
 match k with
 | .box e n=>(match vs with
  | [v]=>if v.cells.length=n then some (.row e n 0 0 [v],.ptr id 0 0 0 n)else none
  | _=>none)
 | .alloc e zero=>(match vs,qe (zR 3) zero with
  | [],some zs=>if zs.all zW=true then some (.row e zero.length 0 0 [qh zs],.ptr id 0 0 0 zero.length)else none
  | _,_=>none)
 | .bslice e esz len zero places=>(match qe (zR 3) zero with
  | some zs=>if len*esz<=16777216/\zero.length=esz then(match qb (qo zs len) places vs with
   | some l=>if l.all zW=true then some (.row e esz 0 0 (qH esz len l),.sl id 0 0 len (2*len) esz)else none
   | none=>none)else none
  | none=>none)
 | .mkslice e esz bytes zero=>(match vs,qe (zR 3) zero with
  | [.int _ n,.int _ m],some zs=>if 0<=n/\n<=m/\m<=1000000/\m*bytes<=140737488355328/\zs.all zW=true/\zero.length=esz then some (.row e esz 0 0 (List.replicate n.toNat (qh zs)),.sl id 0 0 n.toNat (2*n.toNat) esz)else none
  | _,_=>none)
 | .mkmap=>(match vs with
  | []=>some (.map0,.map id)
  | [.int _ _]=>some (.map0,.map id)
  | _=>none)
 | .tobytes e=>(match vs with
  | [.str s]=>if s.length<=1000000 then some (.row e 1 0 0 (s.map fun n:Nat=>.int .u8 n),.sl id 0 0 s.length (2*s.length) 1)else none
  | _=>none)
 | _=>none
variable {cs u:List α}
theorem add_same(c:Cx)(id b d z:Nat):(c.add id b d z).ρ id=some (b,d,z):=by simp[Cx.add]
theorem sP(l:List α):(Tr.putL .nil 0 l).getL 0 l.length=some l:=fi fun j a=>by
 rw[Tr.get_putL,if_pos zo];simp
theorem Cr(v:PV):∀n,(List.replicate n v).flatMap PV.cells=qo v.cells n
 | 0=>rfl
 | n+1=>by rw[Zy,YT,Cr v n];rfl
theorem dJ(k:HR B c H h){e z:Nat}{l:LJ}{cs:LK}(hl:ER (VR c h) z l cs) :
  Mo c (c.add H.length h.next 0 z) h (h.push (ui e cs))/\HR B (c.add H.length h.next 0 z) (H++[.row e z 0 0 l]) (h.push (ui e cs)) :=
 k.push fun m=>.inr ⟨h.next,0,0,0,Tr.putL .nil 0 cs,cs,add_same ..,by rw[TH.gP,if_pos rfl,ui,hl.len],rfl,Yv _,by rw[<- hl.len];exact sP cs,hl.mono fun _ _=>VR.mono m⟩
theorem s9(k:HR B c H h){kind:zh}{o:za}(hv:LR (VR c h) vs us)(hp:qg H.length kind vs=some (o,v)) :
  ∃x c',lay kind us h.next=some x/\Mo c c' h (h.push x.o)/\HR B c' (H++[o]) (h.push x.o)/\VR c' (h.push x.o) v x.v/\(∃z,c'.ρ H.length=some (h.next,0,z))/\mS x.v=some h.next:=by
 cases kind with
 | box e n =>
  simp only[qg]at hp
  split at hp
  .rename_i w;obtain⟨y,f,rfl,h1,h2⟩:=hv.oc;obtain rfl:=h2.oN
   split at hp
   .rename_i hn
    cases hp
    have b:=h1.cells;obtain⟨m,k'⟩:=dJ k (e:=e) (ER.one' hn b);refine⟨⟨ui e y.cells,.ptr h.next 0 0 n⟩,_,?_,m,k',?_,⟨_,add_same ..⟩,rfl⟩
    .simp only[lay,ft];rw[wx (by rw[<- b.1];exact hn)];rfl
    .have:=VR.ptr (h:=h.push (ui e y.cells)) (g:=0) (i:=0) (o:=0) (n:=n) (add_same c H.length h.next 0 n);simpa using this
   grind
  grind
 | alloc e zero =>
  simp only[qg]at hp
  split at hp
  .rename_i zs hz;obtain rfl:=hv.oN
   split at hp
   .rename_i ha
    cases hp
    have b:=cm (S:=c.S) (h:=h) (fun u v=>aX) hz;have d:(qh zs).cells.length=zero.length:=by rw[cn ha];exact b.1
    obtain⟨m,k'⟩:=dJ k (e:=e) (ER.one' (R:=VR c h) d (by rw[cn ha];exact LR.pure b));refine⟨⟨ui e zero,.ptr h.next 0 0 zero.length⟩,_,rfl,m,k',?_,⟨_,add_same ..⟩,rfl⟩;have:=VR.ptr (h:=h.push (ui e zero)) (g:=0) (i:=0) (o:=0) (n:=zero.length) (add_same c H.length h.next 0 zero.length);simpa using this
   grind
  grind
 | bslice e esz len zero L =>
  simp only[qg]at hp
  split at hp
  .rename_i zs hz
   split at hp
   .rename_i hcond
    split at hp
    .rename_i l hl
     split at hp
     .rename_i ha
      cases hp
      have b:=cm (S:=c.S) (h:=h) (fun u v=>aX) hz;obtain⟨ds,d1,d2⟩:=Cm (Ak (LR.pure (c:=c) b) len) hv hl;have d:l.length=len*esz:=by rw[GV hl,Ky,b.1,hcond.2]
      obtain⟨m,k'⟩:=dJ k (e:=e) (Gk ha d d2);refine⟨⟨ui e ds,.sl h.next 0 0 len (2*len) esz⟩,_,?_,m,k',?_,⟨_,add_same ..⟩,rfl⟩
      .simp only[lay,fu];rw[wS hcond.1,d1];rfl
      .have:=VR.sl (h:=h.push (ui e ds)) (g:=0) (o:=0) (n:=len) (q:=2*len) (add_same c H.length h.next 0 esz);simpa using this
     grind
    grind
   grind
  grind
 | mkslice e esz bytes zero =>
  simp only[qg]at hp
  split at hp
  .rename_i k1 n k2 mm zs hz;obtain⟨y,f,rfl,h1,h2⟩:=hv.oc;obtain⟨N,M,rfl,h3,h4⟩:=h2.oc;obtain rfl:=h4.oN;obtain rfl:=h1.int_inv;obtain rfl:=h3.int_inv
   split at hp
   .rename_i hcond;obtain⟨t,D,O,P,A,G⟩:=hcond
    cases hp
    have b:=cm (S:=c.S) (h:=h) (fun u v=>aX) hz;have j:ER (VR c h) esz (List.replicate n.toNat (qh zs)) (yT zero n.toNat):=by
     refine⟨fun w I=>?_,?_⟩
     .rw[ZV I,cn A,b.1,G]
     .rw[Cr,cn A];exact Ak (LR.pure b) _
    obtain⟨m,k'⟩:=dJ k (e:=e) j;refine⟨⟨ui e (yT zero n.toNat),.sl h.next 0 0 n.toNat (2*n.toNat) esz⟩,_,?_,m,k',?_,⟨_,add_same ..⟩,rfl⟩
    .simp only[lay,fw,xN,dz t,dz (Int.le_trans t D)];have J:mm.toNat*bytes<=140737488355328:=by grind
     rw[wS (show n.toNat<=mm.toNat by omega),wS (show mm.toNat<=1000000 by omega),wS J];rfl
    .have:=VR.sl (h:=h.push (ui e (yT zero n.toNat))) (g:=0) (o:=0) (n:=n.toNat) (q:=2*n.toNat) (add_same c H.length h.next 0 esz);simpa using this
   .cases hp
  grind
 | tobytes e =>
  simp only[qg]at hp
  split at hp
  .rename_i s;obtain⟨y,f,rfl,h1,h2⟩:=hv.oc;obtain rfl:=h2.oN;obtain rfl:=h1.str_inv
   split at hp
   .rename_i hs
    cases hp
    have j:∀s:LN,ER (VR c h) 1 (s.map fun n:Nat=>PV.int .u8 n) (s.map fun n=>TV.int .u8 (.ofNat n)):=by
     intro s
     induction s with
     | nil=>exact ER.nil
     | cons a l K=>exact(ER.one' (R:=VR c h) (v:=.int .u8 a) rfl (LR.cons (.pure (.int _ _)) LR.nil)).app K
    obtain⟨m,k'⟩:=dJ k (e:=e) (j s);refine⟨⟨ui e (s.map fun n=>TV.int .u8 (.ofNat n)),.sl h.next 0 0 s.length (2*s.length) 1⟩,_,?_,m,k',?_,⟨_,add_same ..⟩,rfl⟩
    .simp only[lay,fx];rw[wS hs];rfl
    .have:=VR.sl (h:=h.push (ui e (s.map fun n=>TV.int .u8 (.ofNat n)))) (g:=0) (o:=0) (n:=s.length) (q:=2*s.length) (add_same c H.length h.next 0 1);simpa using this
   .cases hp
  .cases hp
 | mkmap =>
  simp only[qg]at hp;have C:∃x,lay .mkmap us h.next=some x/\x.o=.map [] 0/\x.v=.map h.next/\o=.map0/\v=.map H.length:=by
   split at hp
   .obtain rfl:=hv.oN;injection hp with hp;injection hp with p r;exact⟨_,rfl,rfl,rfl,p.symm,r.symm⟩
   .obtain⟨y,f,rfl,h1,h2⟩:=hv.oc;obtain rfl:=h2.oN;obtain rfl:=h1.int_inv;injection hp with hp;injection hp with p r;exact⟨_,rfl,rfl,rfl,p.symm,r.symm⟩
   .cases hp
  obtain⟨⟨Q,T⟩,h1,h2,h3,rfl,rfl⟩:=C;dsimp only at h2 h3;subst h2;subst h3;obtain⟨m,k'⟩:=k.push (o:=.map0) (x:=.map [] 0) (z:=0) fun m=>⟨h.next,0,0,0,add_same ..,by rw[TH.gP,if_pos rfl]⟩
  exact⟨_,_,h1,m,k',.map (add_same ..),⟨_,add_same ..⟩,rfl⟩
 | _=>simp only[qg]at hp;cases hp
theorem Hz{t:Tr α}{a:Nat}(h:t.getL 0 cs.length=some cs)(ha:a+u.length<=cs.length):(t.putL a u).getL 0 cs.length=some (cs.take a++u++cs.drop (a+u.length)):=by
 have c:(cs.take a++u++cs.drop (a+u.length)).length=cs.length:=by simp;omega
 have:=fi (t:=t.putL a u) (a:=cs.take a++u++cs.drop (a+u.length)) (i:=0) fun j b=>by
  rw[c]at b;have h2:=(Tr.getL_some h).2 j b;rw[Y6]at h2⊢;rw[Tr.get_putL]
  grind
 grind
theorem Q4{t:Tr α}(h:t.getL 0 cs.length=some cs):(t.putL cs.length u).getL 0 (cs.length+u.length)=some (cs++u):=by
 refine Hy (Q3 (fun j h1 h2=>?_) h) ?_
 .rw[Tr.get_putL,if_neg zo]
 .rw[Y6];exact fi fun j a=>by
   rw[Tr.get_putL,if_pos zo]
   grind
def qj(old v:PV)(o n z:Nat):PV:=if n=z then v else .agg (old.cells.take o++v.cells++old.cells.drop (o+n))
structure AR where
 v:PV
 H:LQ
 W:LN
abbrev AT:=Option AR
def qs(H:LQ)(n:Nat):LJ->AT
 | [.ptr id g i o m,v]=>if v.cells.length=n/\n<=m then(match H[id]? with
  | some (.row e z G _ l)=>if g=G/\o+n<=z then(match l[i]? with
   | some old=>some ⟨.tuple [],H.set id (.row e z G G (l.set i (qj old v o n z))),[id]⟩
   | none=>none)else none
  | _=>none)else none
 | _=>none
def qy(H:LQ)(e esz bytes:Nat)(s:PV)(news:LJ):AT:=match s with
 | .nilsl=>if news.length=0 then some ⟨.nilsl,H,[]⟩else if news.length*(bytes+1)<=140737488355328 then some ⟨.sl H.length 0 0 news.length (2*news.length) esz,H++[.row e esz 0 0 news],[]⟩else none
 | .sl id g o n q z=>if news.length=0 then some ⟨.sl id g o n q z,H,[]⟩else if o=0/\q%2=0/\esz=z then(match H[id]? with
  | some (.row e' z' G M l)=>if e=e'/\z=z'/\g=G/\n=l.length/\(n+news.length)*(bytes+1)<=140737488355328 then some ⟨.sl id (G+1) 0 (n+news.length) (2*(n+news.length)) z,H.set id (.row e z (G+1) M (l++news)),[id]⟩else none
  | _=>none)else none
 | _=>none
def qF(H:LQ)(e esz bytes:Nat):LJ->AT
 | [s,x]=>(match qp H esz x with
  | none=>none
  | some news=>qy H e esz bytes s news)
 | _=>none
def qG(H:LQ)(e esz bytes:Nat)(zero:LK):LJ->AT
 | [s,.int _ m]=>(match qe (zR 3) zero with
  | some zs=>if 0<=m/\m<=1000000/\m*(bytes+1)<=140737488355328/\zs.all zW=true/\zero.length=esz then qy H e esz bytes s (List.replicate m.toNat (qh zs))else none
  | none=>none)
 | _=>none
def B8(H:LQ)(esz:Nat):LJ->AT
 | [.nilsl,x]=>(match qp H esz x with
  | some _=>some ⟨.int .i64 0,H,[]⟩
  | none=>none)
 | [.sl id g o n _ z,x]=>(match qp H esz x with
  | none=>none
  | some news=>if min news.length n=0 then some ⟨.int .i64 0,H,[]⟩else if esz=z then(match H[id]? with
   | some (.row e z' G _ l)=>if z=z'/\g=G/\o+min news.length n<=l.length then some ⟨.int .i64 (min news.length n:Nat),H.set id (.row e z G G (l.take o++news.take (min news.length n)++l.drop (o+min news.length n))),[id]⟩else none
   | _=>none)else none)
 | _=>none
variable {a:AR}{bytes:Nat}{cs:LK}{news:LJ}
def qP(H:LQ)(kf:Nat):LJ->AT
 | [.map id,.int k x,v]=>if kf=1 then(match H[id]? with
  | some .map0=>some ⟨.tuple [],H.set id (.mapI k fun y=>if y=x then some v else none),[id]⟩
  | some (.mapI k' m)=>if k=k' then some ⟨.tuple [],H.set id (.mapI k fun y=>if y=x then some v else m y),[id]⟩else none
  | _=>none)else none
 | _=>none
def qQ(H:LQ)(kf:Nat):LJ->AT
 | [.map id,.str x,v]=>if kf=2 then(match H[id]? with
  | some .map0=>some ⟨.tuple [],H.set id (.mapS fun y=>if y=x then some v else none),[id]⟩
  | some (.mapS m)=>some ⟨.tuple [],H.set id (.mapS fun y=>if y=x then some v else m y),[id]⟩
  | _=>none)else none
 | l=>qP H kf l
def qm(H:LQ)(k:zh)(vs:LJ):AT :=
 match k with
 | .store n=>qs H n vs
 | .append e esz bytes=>qF H e esz bytes vs
 | .copy esz=>B8 H esz vs
 | .mupd kf=>qQ H kf vs
 | .appz e esz bytes zero=>qG H e esz bytes zero vs
 | _=>none
structure mH(B:Ba)(c:Cx)(H:LQ)(h:TH)(a:AR)(u:TV)(h':TH)(c':Cx):Prop where
 mo:Mo c c' h h'
 hr:HR B c' a.H h'
 v:VR c' h' a.v u
 W:∀id,id ∉ a.W->∀x,c.ρ id=some x->h'.get x.1=h.get x.1
theorem o8(k:HR B c H h){d:Nat}(hρ:c.ρ id=some (b,d,z))(x:TO):∀id',id' ∉ [id]->∀y,c.ρ id'=some y->(h.set b x).get y.1=h.get y.1:=fun id' a y f=>by
 rw[TH.get_set _ _ _ _ (k.own _ _ hρ).2.1,if_neg];intro e;exact a (by rw[k.inj _ _ _ _ f hρ e];simp)
theorem Xl(cs u:List α){a o:Nat}(hon:o+n<=z)(hu:u.length=n):cs.take a++(((cs.drop a).take z).take o++u++((cs.drop a).take z).drop (o+n))++cs.drop (a+z)=cs.take (a+o)++u++cs.drop (a+o+u.length):=by
 have h1:cs.take (a+o)=cs.take a++(cs.drop a).take o:=List.take_add;have h2:cs.drop (a+o+u.length)=((cs.drop a).take z).drop (o+n)++cs.drop (a+z):=by
  rw[hu,zAP9,<- Z0,<- Z0 (i:=z) (j:=a)]
  by_cases b:z<=(cs.drop a).length
  .conv=>lhs;rw[<- Y3 z (cs.drop a)]
   grind
  .rw[YV zo,Z2 (l:=cs.drop a) (i:=z) zo,Y8]
 grind
theorem Ln(k:HR B c H h)(hv:LR (VR c h) vs us)(hp:qs H n vs=some a):∃u h' c',bF n h us=some (.ok u h')/\mH B c H h a u h' c':=by
 unfold qs at hp
 split at hp
 .rename_i id g i o m w;obtain⟨y,Y,rfl,h1,h2⟩:=hv.oc;obtain⟨j,V,rfl,h3,h4⟩:=h2.oc;obtain rfl:=h4.oN;obtain⟨b,d,f,p,s1,rfl,rfl⟩:=ae h1
  split at hp
  .rename_i hc;obtain⟨D,I⟩:=hc
   split at hp
   .rename_i e z G M l hH
    split at hp
    .rename_i hc;obtain⟨hg,O⟩:=hc
     split at hp
     .rename_i old hold
      cases hp
      obtain⟨rfl,P,M',cells,cs,Q,R,r3,r4,q⟩:=bc k hH s1;have J:p=P:=zo;subst J;have A:i<l.length:=(Yl.1 hold).1;have hm:=tG (z:=f) A;have r:=h3.cells;have Z:=q.one old (Yt hold);have K:=q.len;have t:(qj old w o n f).cells=old.cells.take o++w.cells++old.cells.drop (o+n):=by
       unfold qj
       split
       .rename_i e;subst e
        grind
       .rfl
      have v:j.cells.length=n:=by rw[<- r.1];exact D
      have s:=q.at hold;have C:ER (VR c h) f (l.set i (qj old w o n f)) (cs.take (i*f+o)++j.cells++cs.drop (i*f+o+j.cells.length)):=by
       have L:(qj old w o n f).cells.length=f:=by rw[t];simp;omega
       have N:LR (VR c h) (qj old w o n f).cells (((cs.drop (i*f)).take f).take o++j.cells++((cs.drop (i*f)).take f).drop (o+n)):=by
        rw[t];exact((s.take o).app r).app (s.drop (o+n))
       have X:=q.set A L N;have e1:cs.take (i*f)++(((cs.drop (i*f)).take f).take o++j.cells++((cs.drop (i*f)).take f).drop (o+n))++cs.drop ((i+1)*f)=cs.take (i*f+o)++j.cells++cs.drop (i*f+o+j.cells.length):=by
        rw[ZR];exact Xl cs j.cells O v
       grind
      obtain⟨S,T⟩:=k.set (o:=.row e f G G (l.set i (qj old w o n f))) (x:=.row e p p (l.length*f) (cells.putL (i*f+o) j.cells)) s1 (fun e=>by grind) fun U =>
       .inr ⟨b,d,p,p,cells.putL (i*f+o) j.cells,cs.take (i*f+o)++j.cells++cs.drop (i*f+o+j.cells.length),s1,by rw[TH.get_set _ _ _ _ (k.own _ _ s1).2.1,if_pos rfl,Y1],R,by omega,by
        rw[Y1,<- K];exact Hz (by grind) (by omega),C.mono fun _ _=>VR.mono U⟩
      refine⟨.tuple [],_,c,?_,S,T,VR.tL LR.nil,o8 k s1 _⟩;simp only[bF,nG];rw[wx v,wS I,Q];simp only[cond_true,rC];rw[wx rfl,wS zo];rfl
     grind
    grind
   grind
  grind
 grind
theorem HR.first(k:HR B c H h){e' G M:Nat}{l:LJ}(hH:H[id]?=some (.row e' z G M l))(hρ:c.ρ id=none)(hL:c.L id)(hn:ER (VR c h) z news cs):
  Mo c (c.add id h.next 1 z) h (h.push (ui e cs))/\HR B (c.add id h.next 1 z) (H.set id (.row e z 1 M news)) (h.push (ui e cs)):=by
 have hid:id<H.length:=(Yl.1 hH).1;have m:Mo c (c.add id h.next 1 z) h (h.push (ui e cs)):=⟨fun _ _ h=>h,fun i y a=>by
  show (if i=id then _ else _)=_
  grind,fun _ h=>h,fun _ _ _ _ _ _ _ f=>Kh _ f⟩
 have j:∀b,b<h.next->(h.push (ui e cs)).get b=h.get b:=fun b g=>by rw[TH.gP,if_neg zo]
 have f:∀i y,(c.add id h.next 1 z).ρ i=some y->(i=id/\y=(h.next,1,z))\/c.ρ i=some y:=fun i y a=>by
  have a:(if i=id then some (h.next,1,z)else c.ρ i)=some y:=a
  grind
 refine⟨m,⟨?_,fun b g=>?_,k.old,fun p b g=>?_,fun i y a=>?_,fun i r=>?_,fun i s y t a q e=>?_,fun i u d=>?_⟩⟩
 .rw[TH.nP];exact Nat.le_succ_of_le k.le
 .rw[j b (YS g k.le)];exact k.keep b g
 .obtain⟨h1,h2⟩:=k.S p b g;refine⟨by rw[TH.nP];omega,fun i y a e=>?_⟩
  grind
 .rw[TH.nP,Y1];rcases f i y a with⟨rfl,rfl⟩|a
  .exact⟨k.le,Zr _,hid⟩
  .obtain⟨h1,h2,h3⟩:=k.own i y a;omega
 .rw[Y1];obtain⟨h1,h2⟩:=k.lz i r
  grind
 .rcases f i y a with⟨a1,a2⟩|h5<;>rcases f s t q with⟨v,w⟩|o
  .omega
  .have:=(k.own _ _ o).2.1;grind
  .have:=(k.own _ _ h5).2.1;grind
  .exact k.inj _ _ _ _ h5 o e
 .by_cases n:id=i
  .subst n;rw[Yz hid]at d;injection d with d;subst d;exact .inr ⟨h.next,1,0,0,Tr.putL .nil 0 cs,cs,add_same ..,by rw[TH.gP,if_pos rfl,ui,hn.len],rfl,Yv _,by rw[<- hn.len];exact sP cs,hn.mono fun _ _=>VR.mono m⟩
  .rw[YD n]at d;exact(k.obj i u d).move m (by show (if i=id then _ else _)=_;grind) (fun h=>h) fun y a=>j _ (k.own _ _ a).2.1
theorem Fm(k:HR B c H h){s:PV}{y:TV}(h1:VR c h s y)(t5:ER (VR c h) esz news cs)(hp:qy H e esz bytes s news=some a):∃u h' c',mc h e esz bytes y news.length cs=some (.ok u h')/\mH B c H h a u h' c':=by
 have A:∀b,b<h.next->(h.push (ui e cs)).get b=h.get b:=fun b p=>by rw[TH.gP,if_neg zo]
 unfold qy at hp
 split at hp
 .obtain rfl:y=.nilsl:=by cases h1 with|pure h1=>cases h1;rfl
  dsimp only[mc]
  split at hp
  .rename_i hz
   cases hp
   rw[hz];exact⟨_,h,c,rfl,Mo.refl _ _,k,h1,fun _ _ _ _=>rfl⟩
  .rename_i hz
   split at hp
   .rename_i p
    cases hp
    obtain⟨j,m⟩:=dJ k (e:=e) t5;refine⟨.sl h.next 0 0 news.length (2*news.length) esz,_,_,?_,j,m,?_,fun id _ y t=>A _ (k.own _ _ t).2.1⟩
    .have:Nat.beq news.length 0=false:=by
      cases p:Nat.beq news.length 0
      all_goals simp_all
     rw[this];simp only[cond_false,lH];rw[wS p];rfl
    .have:=VR.sl (h:=h.push (ui e cs)) (g:=0) (o:=0) (n:=news.length) (q:=2*news.length) (add_same c H.length h.next 0 esz)
     grind
   grind
 .rename_i id g o n q z
  split at hp
  .rename_i hz
   cases hp
   refine⟨y,h,c,?_,Mo.refl _ _,k,h1,fun _ _ _ _=>rfl⟩;rcases sl_inv h1 with⟨rfl,rfl,rfl,rfl,rfl,v⟩|⟨b,d,f,s1,rfl,rfl⟩<;>(dsimp only[mc];simp_all)
  .rename_i hz;have C:Nat.beq news.length 0=false:=by
    cases p:Nat.beq news.length 0
    .rfl
    simp_all
   split at hp
   .rename_i hc;obtain⟨rfl,N,rfl⟩:=hc
    split at hp
    .rename_i e' z' G M l hH
     split at hp
     .rename_i hc;obtain⟨rfl,rfl,rfl,rfl,I⟩:=hc
      cases hp
      rcases sl_inv h1 with⟨rfl,_,J,rfl,rfl,v⟩|⟨b,d,f,s1,Q,rfl⟩
      .have O:l=[]:=Zg.1 J;subst O;have w:c.ρ id=none:=by
        rcases k.obj _ _ hH with⟨_,_,w,_⟩|⟨b,d,D,r,cells,cs,p1,p2,p3,_⟩
        .exact w
        .have:=(k.lz id v).2 _ p1
         grind
       obtain⟨j,m⟩:=k.first (e:=e) hH w v t5;refine⟨.sl h.next 0 0 news.length (2*news.length) esz,h.push (ui e cs),_,?_,j,by simpa using m,?_,fun i R y t=>A _ (k.own _ _ t).2.1⟩
       .dsimp only[mc];rw[C];simp only[cond_false,lH];rw[wS (by grind)];rfl
       .have:=VR.sl (h:=h.push (ui e cs)) (g:=0) (o:=0) (n:=news.length) (q:=2*news.length) (add_same c id h.next 1 esz)
        grind
      .obtain⟨_,D,r,cells,ds,r1,r2,r3,r4,r5⟩:=bc k hH s1;have K:f=D:=zo;subst K;have L:=r5.len;obtain⟨j,m⟩:=k.set (o:=.row e esz (g+1) M (l++news)) (x:=.row e (f+1) r (l.length*esz+cs.length) (cells.putL (l.length*esz) cs)) s1 (fun e=>by grind) fun P =>
        .inr ⟨b,d,f+1,r,cells.putL (l.length*esz) cs,ds++cs,s1,by rw[TH.get_set _ _ _ _ (k.own _ _ s1).2.1,if_pos rfl,Yn,Zp,t5.len],by omega,by omega,by
         rw[Yn,Zp,<- t5.len,<- L];exact Q4 (by grind),(r5.app t5).mono fun _ _=>VR.mono P⟩
       refine⟨.sl b (f+1) 0 (l.length+news.length) (2*(l.length+news.length)) esz,_,c,?_,j,m,?_,o8 k s1 _⟩
       .dsimp only[mc];rw[C];simp only[cond_false];rw[wx (show 0*esz=0 by simp),wx N,wx (rfl:esz=esz),r1];simp only[cond_true,rZ];rw[wx rfl,wx rfl,wx rfl,wS I];rfl
       .have:=VR.sl (h:=h.set b (.row e (f+1) r (l.length*esz+cs.length) (cells.putL (l.length*esz) cs))) (g:=f+1) (o:=0) (n:=l.length+news.length) (q:=2*(l.length+news.length)) s1
        grind
     grind
    grind
   grind
 grind
theorem N4(k:HR B c H h)(hv:LR (VR c h) vs us)(hp:qF H e esz bytes vs=some a):∃u h' c',bE e esz bytes h us=some (.ok u h')/\mH B c H h a u h' c':=by
 unfold qF at hp
 split at hp
 .rename_i s x;obtain⟨y,d,rfl,h1,h2⟩:=hv.oc;obtain⟨f,b,rfl,h3,h4⟩:=h2.oc;obtain rfl:=h4.oN
  split at hp
  .cases hp
  .rename_i news hs;obtain⟨_,t2,t3⟩:=Bd k h3 hs;obtain⟨cs,t4,t5⟩:=t3 _ (Ym _);rw[YR]at t5;simp only[bE,r9];rw[t2,t4];dsimp only;exact Fm k h1 t5 hp
 grind
theorem N7(k:HR B c H h){zero:LK}(hv:LR (VR c h) vs us)(hp:qG H e esz bytes zero vs=some a):∃u h' c',cR e esz bytes zero h us=some (.ok u h')/\mH B c H h a u h' c':=by
 unfold qG at hp
 split at hp
 .rename_i s kk m;obtain⟨y,x,rfl,h1,h2⟩:=hv.oc;obtain⟨z,t,rfl,h3,h4⟩:=h2.oc;obtain rfl:=h4.oN;obtain rfl:=h3.int_inv
  split at hp
  .rename_i zs hz
   split at hp
   .rename_i hc;obtain⟨i,A,j,d,l⟩:=hc;obtain⟨n,rfl⟩:=Zs i;have b:=cm (S:=c.S) (h:=h) (fun u v=>aX) hz;have g:ER (VR c h) esz (List.replicate n (qh zs)) (yT zero n):=by
     refine⟨fun w o=>?_,?_⟩
     .rw[ZV o,cn d,b.1,l]
     .rw[Cr,cn d];exact Ak (LR.pure b) _
    obtain⟨u,h',c',f,p⟩:=Fm k h1 g hp;rw[Zb]at f;refine⟨u,h',c',?_,p⟩;show (bif Nat.ble n 1000000 then bif Nat.ble (n*(bytes+1)) 140737488355328 then mc h e esz bytes y n (yT zero n)else none else none)=_;have q:n*(bytes+1)<=140737488355328:=by
     have C:((n*(bytes+1):Nat):Int)<=140737488355328:=by simpa using j
     omega
    have r:n<=1000000:=zo;rw[wS r,wS q];exact f
   grind
  grind
 grind
theorem Ue{a:Nat}(h:¬min a b=0):Nat.beq (min a b) 0=false:=by
 cases c:Nat.beq (min a b) 0
 all_goals simp_all
theorem PP(k:HR B c H h)(hv:LR (VR c h) vs us)(hp:B8 H esz vs=some a):∃u h' c',mQ esz h us=some (.ok u h')/\mH B c H h a u h' c':=by
 unfold B8 at hp
 split at hp
 .rename_i x;obtain⟨y,s,rfl,h1,h2⟩:=hv.oc;obtain⟨C,m,rfl,h3,h4⟩:=h2.oc;obtain rfl:=h4.oN;obtain rfl:y=.nilsl:=by cases h1 with|pure h1=>cases h1;rfl
  split at hp
  .rename_i news hs
   cases hp
   obtain⟨_,t2,t3⟩:=Bd k h3 hs;obtain⟨cs,t4,t5⟩:=t3 0 (Yv _);refine⟨_,h,c,?_,Mo.refl _ _,k,.pure (.int _ _),fun _ _ _ _=>rfl⟩;simp only[mQ,lenV,Nat.min_zero]
   grind
  grind
 .rename_i id g o n q z x;obtain⟨y,s,rfl,h1,h2⟩:=hv.oc;obtain⟨C,m,rfl,h3,h4⟩:=h2.oc;obtain rfl:=h4.oN
  split at hp
  .cases hp
  .rename_i news hs;obtain⟨_,t2,t3⟩:=Bd k h3 hs;obtain⟨cs,t4,t5⟩:=t3 (min news.length n) (Nat.min_le_left _ _)
   split at hp
   .rename_i hz
    cases hp
    refine⟨.int .i64 (.ofNat 0),h,c,?_,Mo.refl _ _,k,.pure (.int _ _),fun _ _ _ _=>rfl⟩;rcases sl_inv h1 with⟨rfl,rfl,rfl,rfl,rfl,L⟩|⟨b,d,f,s1,rfl,rfl⟩
    .simp only[mQ,lenV,Nat.min_zero]
     grind
    .simp only[mQ];rw[t2,show lenV (.sl b f (o*z) n q z)=n from rfl,t4,hz];rfl
   .rename_i hz
    split at hp
    .rename_i he;subst he
     split at hp
     .rename_i e z' G M l hH
      split at hp
      .rename_i hc;obtain⟨rfl,rfl,t⟩:=hc
       cases hp
       rcases sl_inv h1 with⟨_,_,rfl,_⟩|⟨b,d,f,s1,K,rfl⟩
       .omega
       .obtain⟨_,G',M',cells,ds,r1,r2,r3,r4,r5⟩:=bc k hH s1;have v:f=G':=zo;subst v;have w:=r5.len;have A:(news.take (min news.length n)).length=min news.length n:=by simp
        have i:cs.length=min news.length n*esz:=by rw[t5.len,A]
        have p:o*esz+cs.length<=l.length*esz:=by rw[i,<- Zp];exact Ze _ t
        have r:=((r5.take o).app t5).app (r5.drop (o+min news.length n));have j:(l.take o++news.take (min news.length n)++l.drop (o+min news.length n)).length=l.length:=by simp;omega
        obtain⟨D,I⟩:=k.set (o:=.row e esz g g (l.take o++news.take (min news.length n)++l.drop (o+min news.length n))) (x:=.row e f f (l.length*esz) (cells.putL (o*esz) cs)) s1 (fun e=>by grind) fun J =>
         .inr ⟨b,d,f,f,cells.putL (o*esz) cs,ds.take (o*esz)++cs++ds.drop (o*esz+cs.length),s1,by rw[TH.get_set _ _ _ _ (k.own _ _ s1).2.1,if_pos rfl,j],r2,by omega,by
          rw[j,<- w];exact Hz (by grind) (by omega),by
          rw[i,<- Zp];exact r.mono fun _ _=>VR.mono J⟩
        refine⟨.int .i64 (.ofNat (min news.length n)),_,c,?_,D,I,.pure (.int _ _),o8 k s1 _⟩;simp only[mQ];rw[t2,show lenV (.sl b f (o*esz) n q esz)=n from rfl,t4];dsimp only;rw[Ue hz,wx (rfl:esz=esz)];simp only[cond_false,cond_true,nG];rw[r1];simp only[rC];rw[wx rfl,wS p];rfl
      grind
     grind
    grind
 grind
section keys
variable {K:Type}{κ:K->TV}
variable {x:K}
theorem C8:∀{es:List ud} {fs:List ud},lk κ x es=none->lk κ x (es++fs)=lk κ x fs
 | [],fs,_=>rfl
 | e::l,fs,h=>by
  unfold lk at h
  split at h
  .cases h
  .rename_i he;rw[Yy,lk,if_neg he];exact C8 h
theorem IM{u:TV}:∀{es:List ud} {fs:List ud},lk κ x es=some u->lk κ x (es++fs)=some u
 | [],fs,h=>by cases h
 | e::l,fs,h=>by
  unfold lk at h;rw[Yy,lk]
  split at h
  .grind
  .rename_i he;rw[if_neg he];exact IM h
theorem GX(hκ:bz κ):∀{es:List ud} {i j:Nat} {e:ud},(∀e∈es,∃n,e.k=κ n)->pL (κ x) es i=some (some (j,e))->∃t,j=i+t/\(∀u,(∀e∈setE t (κ x) u es,∃n,e.k=κ n)/\lk κ x (setE t (κ x) u es)=some u/\∀y,y≠x->lk κ y (setE t (κ x) u es)=lk κ y es)
 | [],i,j,e,b,h=>by simp[pL]at h
 | e0::l,i,j,e,b,h=>by
  obtain⟨n,c⟩:=b e0 (by simp);have q:=fun d a=>b d (Ys _ a);unfold pL at h;rw[c]at h
  by_cases f:x=n
  .subst f;rw[(hκ x x).1 rfl]at h;injection h with h;injection h with h;injection h with h1 h2;refine⟨0,h1.symm,fun u=>⟨fun d a=>?_,?_,fun y m=>?_⟩⟩
   .simp only[setE,YA]at a
    grind
   .simp[setE,lk]
   .have g:¬κ x=κ y:=fun e=>m (hκ.inj e.symm);have o:¬e0.k=κ y:=by rw[c];exact g
    simp only[setE,lk,if_neg g,if_neg o]
  .rw[(hκ x n).2 f]at h;dsimp only at h;obtain⟨t,rfl,r⟩:=GX hκ q h;refine⟨t+1,by omega,fun u=>?_⟩;obtain⟨t1,t2,t3⟩:=r u;have p:¬e0.k=κ x:=by rw[c];exact fun e=>f (hκ.inj e).symm
   refine⟨fun d a=>?_,?_,fun y m=>?_⟩
   .simp only[setE,YA]at a
    grind
   .simp only[setE,lk,if_neg p];exact t2
   .simp only[setE,lk]
    grind
theorem Jc[DecidableEq K](hκ:bz κ){m:K->LS}{es:List ud}{clock b:Nat}(hm:MR R κ m es)(x:K){w:PV}{y2:TV}(h5:R w y2):
  ∃es' clock',oE h b (κ x) y2 (.map es clock)=some (.ok (.tuple []) (h.set b (.map es' clock')))/\MR R κ (fun y=>if y=x then some w else m y) es':=by
 simp only[oE];rcases tz hκ (x:=x) (i:=0) hm.keys with⟨f1,f2⟩|⟨j,e,f1,f2⟩
 .rw[f1];refine⟨_,_,rfl,fun e c=>?_,fun d v' a=>?_,fun d a=>?_⟩
  .rcases YM.1 c with c|c
   .exact hm.keys e c
   grind
  .try dsimp only at a
   split at a
   .rename_i e;subst e;injection a with a;subst a;exact⟨y2,by rw[C8 f2];simp[lk],h5⟩
   .obtain⟨u,f,g⟩:=hm.some _ _ a;exact⟨u,IM f,g⟩
  .try dsimp only at a
   split at a
   .cases a
   .rename_i hne;have k:¬κ x=κ d:=fun e=>hne (hκ.inj e).symm;rw[C8 (hm.none _ a)];simp only[lk,if_neg k]
 .rw[f1];obtain⟨t,rfl,l⟩:=GX hκ hm.keys f1;obtain⟨t1,t2,t3⟩:=l y2;rw[Y6];refine⟨_,_,rfl,t1,fun d v' a=>?_,fun d a=>?_⟩
  .try dsimp only at a
   split at a
   .grind
   .rename_i hne;obtain⟨u,f,g⟩:=hm.some _ _ a
    grind
  .try dsimp only at a
   split at a
   .cases a
   .rename_i hne;rw[t3 _ hne];exact hm.none _ a
theorem Jb(κ:K->TV):MR R κ (fun _=>none) []:=⟨fun e a=>by grind,fun x v h=>(by cases h),fun x _=>rfl⟩
end keys
variable {kf:Nat}
theorem Uk(k:HR B c H h)(hv:LR (VR c h) vs us)(hp:qP H kf vs=some a):∃u h' c',nL kf h us=some (.ok u h')/\mH B c H h a u h' c':=by
 unfold qP at hp
 split at hp
 .rename_i id kk x w;obtain⟨y,M,rfl,h1,h2⟩:=hv.oc;obtain⟨O,L,rfl,h3,h4⟩:=h2.oc;obtain⟨p,N,rfl,q,r⟩:=h4.oc;obtain rfl:=r.oN;obtain rfl:=h3.int_inv;obtain⟨b,d,z,s1,rfl⟩:=ce h1
  split at hp
  .rename_i hkf;subst hkf;have l:∀(m:Int->LS) (es:List ud) (clock:Nat),¬H[id]?=some .void->h.get b=some (.map es clock)->MR (VR c h) (TV.int kk) m es->∃u h' c',nL 1 h [.map b,.int kk x,p]=some (.ok u h')/\mH B c H h ⟨.tuple [],H.set id (.mapI kk fun y=>if y=x then some w else m y),[id]⟩ u h' c':=fun m es clock n s t=>by
    simp only[nL,gJ,od,cond_true];rw[s];obtain⟨i,g,v,A⟩:=Jc (h:=h) (b:=b) (clock:=clock) (HX kk) t x q;refine⟨_,_,c,v,?_⟩;obtain⟨C,D⟩:=k.set (o:=.mapI kk fun y=>if y=x then some w else m y) (x:=.map i g) s1 n fun G =>
     ⟨b,d,z,i,g,s1,by rw[TH.get_set _ _ _ _ (k.own _ _ s1).2.1,if_pos rfl],by
      exact A.mono fun _ _=>VR.mono G⟩
    exact⟨C,D,VR.tL LR.nil,o8 k s1 _⟩
   split at hp
   .rename_i hH
    cases hp
    obtain⟨I,J,K,clock,f,j⟩:=k.obj _ _ hH;rw[s1]at f;injection f with f;injection f with f _;subst f;exact l (fun _=>none) [] clock (fun e=>by grind) j (Jb _)
   .rename_i k' m hH;obtain⟨I,J,K,es,clock,f,j,P⟩:=k.obj _ _ hH;rw[s1]at f;injection f with f;injection f with f _;subst f
    split at hp
    .rename_i hk;subst hk
     cases hp
     simp_all
    grind
   grind
  grind
 grind
theorem Ul(k:HR B c H h)(hv:LR (VR c h) vs us)(hp:qQ H kf vs=some a):∃u h' c',nL kf h us=some (.ok u h')/\mH B c H h a u h' c':=by
 unfold qQ at hp
 split at hp
 .rename_i id x w;obtain⟨y,M,rfl,h1,h2⟩:=hv.oc;obtain⟨O,L,rfl,h3,h4⟩:=h2.oc;obtain⟨p,N,rfl,q,r⟩:=h4.oc;obtain rfl:=r.oN;obtain rfl:=h3.str_inv;obtain⟨b,d,z,s1,rfl⟩:=ce h1
  split at hp
  .rename_i hkf;subst hkf;have l:∀(m:LN->LS) (es:List ud) (clock:Nat),¬H[id]?=some .void->h.get b=some (.map es clock)->MR (VR c h) TV.str m es->∃u h' c',nL 2 h [.map b,.str x,p]=some (.ok u h')/\mH B c H h ⟨.tuple [],H.set id (.mapS fun y=>if y=x then some w else m y),[id]⟩ u h' c':=fun m es clock n s t=>by
    simp only[nL,gJ,oe,cond_true];rw[s];obtain⟨i,g,v,A⟩:=Jc (h:=h) (b:=b) (clock:=clock) HY t x q;refine⟨_,_,c,v,?_⟩;obtain⟨C,D⟩:=k.set (o:=.mapS fun y=>if y=x then some w else m y) (x:=.map i g) s1 n fun G =>
     ⟨b,d,z,i,g,s1,by rw[TH.get_set _ _ _ _ (k.own _ _ s1).2.1,if_pos rfl],by
      exact A.mono fun _ _=>VR.mono G⟩
    exact⟨C,D,VR.tL LR.nil,o8 k s1 _⟩
   split at hp
   .rename_i hH
    cases hp
    obtain⟨I,J,K,clock,f,j⟩:=k.obj _ _ hH;rw[s1]at f;injection f with f;injection f with f _;subst f;exact l (fun _=>none) [] clock (fun e=>by grind) j (Jb _)
   .rename_i m hH;obtain⟨I,J,K,es,clock,f,j,P⟩:=k.obj _ _ hH;rw[s1]at f;injection f with f;injection f with f _;subst f
    cases hp
    simp_all
   grind
  grind
 .exact Uk k hv hp
theorem rW(k:HR B c H h){C:wE}{caught:LE}{kind:zh}(hv:LR (VR c h) vs us)(hp:qm H kind vs=some a):∃u h' c',act C caught kind us h=some (.ok u h')/\mH B c H h a u h' c':=by
 unfold qm at hp
 split at hp
 .exact Ln k hv hp
 .exact N4 k hv hp
 .exact PP k hv hp
 .exact Ul k hv hp
 .exact N7 k hv hp
 grind
def EN(E:vC)(N:Nat):vC:={ E with N:=N }
def Ev(E:vC)(φ:wE->Nat->Prop):Prop:=∃K,∀N,K<=N->∀d,K<=d->φ (y7 (EN E N) d) N
section ev
variable {E:vC}{φ ψ χ:wE->Nat->Prop}
theorem Ev.all(h:∀C N,φ C N):Ev E φ:=⟨0,fun _ _ _ _=>h _ _⟩
theorem Ev.mono(hh:∀C N,φ C N->ψ C N)(h:Ev E φ):Ev E ψ:=by
 obtain⟨K,a⟩:=h;exact⟨K,fun N b d hd=>hh _ _ (a N b d hd)⟩
theorem Ev.and2(hh:∀C N,φ C N->ψ C N->χ C N)(h:Ev E φ)(k:Ev E ψ):Ev E χ:=by
 obtain⟨K,a⟩:=h;obtain⟨L,b⟩:=k;exact⟨max K L,fun N c d hd=>hh _ _ (a N zo d zo) (b N zo d zo)⟩
end ev
inductive FD where
 | caught (p clear:PV)
 | mark (id:Nat)
abbrev AV:=List FD
structure vd where
 tm:Nat->PV
 df:AV
 H:LQ
def zb(tm:Nat->PV)(d:Nat)(v:PV):Nat->PV:=fun t=>if t=d then v else tm t
def vd.put(s:vd)(d:LB)(v:PV):vd:=match d with
 | none=>s
 | some d=>⟨zb s.tm d v,s.df,s.H⟩
def DR(c:Cx)(h:TH):FD->TD->Prop
 | .caught p l,.caught p' l'=>VR c h p p'/\VR c h l l'
 | .mark id,.mark b=>∃d z,c.ρ id=some (b,d,z)
 | _,_=>False
def cW(c:Cx)(h:TH):AV->LZ->Prop
 | [],[]=>True
 | x::l,y::m=>DR c h x y/\cW c h l m
 | _,_=>False
structure SR(B:Ba)(c:Cx)(s:vd)(t:St):Prop where
 hr:HR B c s.H t.h
 tm:uV c t.h s.tm t.tm
 df:cW c t.h s.df t.df
section mono
variable {c c':Cx}{h h':TH}
variable {tm:Nat->PV}
theorem uV.mono(m:Mo c c' h h'){t:LA}(k:uV c h tm t):uV c' h' tm t:=fun i=>by
 rcases k i with k|⟨u,a,b⟩
 .grind
 .exact .inr ⟨u,a,b.mono m⟩
theorem DR.mono(m:Mo c c' h h'){x:FD}{y:TD}(k:DR c h x y):DR c' h' x y:=by
 cases x<;>cases y<;>first|exact k.elim|skip
 .exact⟨k.1.mono m,k.2.mono m⟩
 .obtain⟨d,z,k⟩:=k;exact⟨d,z,m.ρ _ _ k⟩
theorem cW.mono(m:Mo c c' h h'):∀{l:AV} {l':LZ},cW c h l l'->cW c' h' l l'
 | [],[],_=>trivial
 | _::_,_::_,k=>⟨k.1.mono m,k.2.mono m⟩
 | [],_::_,k=>k.elim
 | _::_,[],k=>k.elim
theorem uV.put{t:LA}(k:uV c h tm t){d:Nat}{u:TV}(hv:VR c h v u):uV c h (zb tm d v) (t.set d (some u)):=fun i=>by
 unfold zb;rw[Tr.get_set]
 by_cases e:i=d
 .grind
 .rw[if_neg e,if_neg e];exact k i
theorem XR.mono(m:Mo c c' h h'){x:FX}{y:TX}(k:XR c h x y):XR c' h' x y:=by
 cases k with
 | norm=>exact .norm
 | exit id=>exact .exit id
 | goto l=>exact .goto l
 | ret=>exact .ret
 | panic k=>exact .panic (k.mono m)
end mono
theorem SR.put{c':Cx}{s:vd}{t:St}(k:SR B c s t){H':LQ}{h':TH}(m:Mo c c' t.h h')(hr:HR B c' H' h'){u:TV}(hv:VR c' h' v u)(d:LB):
  SR B c' (vd.put ⟨s.tm,s.df,H'⟩ d v) (St.put ⟨t.tm,t.df,h'⟩ d u):=by
 cases d with
 | none=>exact⟨hr,k.tm.mono m,k.df.mono m⟩
 | some d=>exact⟨hr,(k.tm.mono m).put hv,k.df.mono m⟩
theorem put_h(t:St)(d:LB)(u:TV):(t.put d u).h=t.h:=by cases d<;>rfl
def zq:PV->LS
 | .bad=>none
 | v=>some v
def ev(tm:Nat->PV):vy->LS
 | .tmp t=>zq (tm t)
 | .new _=>none
 | .const u=>zR 4 u
 | .fn f=>some (.fn f [])
def zV(tm:Nat->PV):List vy->Option (LJ)
 | []=>some []
 | x::l=>match ev tm x with
  | none=>none
  | some v=>match zV tm l with
   | none=>none
   | some vs=>some (v::vs)
def qi(b:Bool):LS->LW
 | some (.bool c)=>some (if b then c else !c)
 | some (.tuple _)=>some false
 | _=>none
def zX(tm:Nat->PV):Option (vy×Bool)->LW
 | none=>some true
 | some (x,b)=>qi b (ev tm x)
theorem Dt{w:PV}(h:zq v=some w):v=w/\v ≠ .bad:=by
 cases v<;>first|(cases h;done)|(cases h;grind)
section operands
variable {c:Cx}{h:TH}{tm:Nat->PV}{t:LA}
theorem da(k:uV c h tm t){x:vy}(hx:ev tm x=some v):∃u,mi t x=some u/\VR c h v u:=by
 cases x with
 | tmp i =>
  obtain⟨h1,h2⟩:=Dt hx;rcases k i with h3|⟨u,a,b⟩
  .grind
  .exact⟨u,a,by rw[<- h1];exact b⟩
 | new i=>cases hx
 | const u=>exact⟨u,rfl,dE hx⟩
 | fn f=>cases hx;exact⟨_,rfl,VR.fnL LR.nil⟩
theorem ff(k:uV c h tm t):∀{l:List vy} {vs:LJ},zV tm l=some vs->∃us,kw t l=some us/\LR (VR c h) vs us
 | [],vs,a=>by cases a;exact⟨[],rfl,LR.nil⟩
 | x::l,vs,a=>by
  unfold zV at a
  split at a
  .cases a
  .rename_i v hx
   split at a
   .cases a
   .rename_i ws hw
    cases a
    obtain⟨u,d,b⟩:=da k hx;obtain⟨us,w1,w2⟩:=ff k hw;refine⟨u::us,?_,LR.cons b w2⟩;unfold kw
    grind
theorem ar(k:uV c h tm t){g:Option (vy×Bool)}{b:Bool}(hg:zX tm g=some b):wM t g=some b:=by
 cases g with
 | none=>exact hg
 | some x =>
  obtain⟨x,a⟩:=x;change qi a (ev tm x)=some b at hg;unfold qi at hg
  split at hg
  .rename_i cc hx;obtain⟨u,e,d⟩:=da k hx;obtain rfl:=d.bool_inv;show aq a (mi t x)=some b;unfold aq
   grind
  .rename_i hx;obtain⟨u,e,d⟩:=da k hx;obtain⟨cs,rfl,_⟩:=d.tuple_inv;show aq a (mi t x)=some b;rw[e];exact hg
  grind
end operands
def qT(o:vl)(s:vd)(vs:LJ):Option vd :=
 match o.kind.cls with
 | 0=>(match qc s.H o.kind vs with
  | some v=>some (s.put o.dst v)
  | none=>none)
 | 1=>(match qg s.H.length o.kind vs with
  | some (ob,v)=>some (vd.put ⟨s.tm,s.df,s.H++[ob]⟩ o.dst v)
  | none=>none)
 | _=>(match qm s.H o.kind vs with
  | some a=>some (vd.put ⟨s.tm,s.df,a.H⟩ o.dst a.v)
  | none=>none)
def qD(o:vl)(s:vd):Option vd :=
 match zX s.tm o.guard with
 | none=>none
 | some false=>some (s.put o.dst (.tuple []))
 | some true=>match zV s.tm o.args with
  | none=>none
  | some vs=>qT o s vs
theorem Ew{s s':vd}{t:St}(k:SR B c s t){o:vl}(hs:qD o s=some s')(C:wE)(caught:LE):∃c' t',(∀C,pA C caught o t=some (.go t'))/\Mo c c' t.h t'.h/\SR B c' s' t':=by
 unfold qD at hs
 split at hs
 .cases hs
 .rename_i hw
  cases hs
  have g:=ar k.tm hw;refine⟨c,t.put o.dst (.tuple []),fun C=>?_,by rw[put_h];exact Mo.refl _ _,k.put (Mo.refl _ _) k.hr (VR.tL LR.nil) _⟩;unfold pA;rw[g]
 .rename_i hw;have g:=ar k.tm hw
  split at hs
  .cases hs
  .rename_i vs hvs;obtain⟨us,l,d⟩:=ff k.tm hvs;have f:∀C,pA C caught o t=mW C caught o t us:=fun C=>by unfold pA;grind
   unfold qT at hs
   split at hs
   .rename_i hcls
    split at hs
    .rename_i v hp
     cases hs
     obtain⟨u,p1,p2⟩:=Ae k.hr d hp;refine⟨c,t.put o.dst u,fun C=>?_,by rw[put_h];exact Mo.refl _ _,k.put (Mo.refl _ _) k.hr p2 _⟩;rw[f];unfold mW;rw[hcls];(try dsimp only);rw[p1];rfl
    grind
   .rename_i hcls
    split at hs
    .rename_i ob v hp
     cases hs
     obtain⟨x,c',p1,p2,p3,p4,_⟩:=s9 k.hr d hp;refine⟨c',(⟨t.tm,t.df,t.h.push x.o⟩:St).put o.dst x.v,fun C=>?_,by rw[put_h];exact p2,k.put p2 p3 p4 _⟩;rw[f];unfold mW;rw[hcls];(try dsimp only);rw[p1];rfl
    grind
   .rename_i _ n0 n1
    split at hs
    .rename_i a hp
     cases hs
     have j:∀C,∃u h' c',act C caught o.kind us t.h=some (.ok u h')/\mH B c s.H t.h a u h' c':=fun C=>rW k.hr d hp;have i:∀C b,act C caught o.kind us t.h=act b caught o.kind us t.h:=fun C b=>by
      unfold qm at hp
      split at hp
      .rename_i e;rw[e];rfl
      .rename_i e;rw[e];rfl
      .rename_i e;rw[e];rfl
      .rename_i e;rw[e];rfl
      .rename_i e;rw[e];rfl
      grind
     obtain⟨u,h',c',p1,p2⟩:=j C;refine⟨c',(⟨t.tm,t.df,h'⟩:St).put o.dst u,fun b=>?_,by rw[put_h];exact p2.mo,k.put p2.mo p2.hr p2.v _⟩;rw[f];unfold mW
     split
     .grind
     .grind
     .rw[i b C,p1];rfl
    grind
inductive FE where
 | ret (v:PV)
 | panic (v:PV)
def RE(R:PV->TV->Prop):FE->TE->Prop
 | .ret v,.ret u=>R v u
 | .panic v,.panic u=>R v u
 | _,_=>False
def S0(S:xF)(a b:Nat):xF:=fun p x=>p=0/\(S 0 x\/(a<=x/\x<b))
def S1(S:xF)(a b:Nat):xF:=fun p x=>S p x\/(p=0/\a<=x/\x<b)
def FN(E:vC)(f:Nat)(args:LJ)(e:FE):Prop :=
 ∀S h us,(∀p b,S p b->b<h.next)->LR (PR S h) args us->∃r h',Ev E (fun C _=>C.fn f us h=some (r,h'))/\h.next<=h'.next/\(∀b,b<h.next->h'.get b=h.get b)/\RE (PR (S0 S h.next h'.next) h') e r
def FP(E:vC)(f:Nat)(args:LJ)(e:FE):Prop :=
 ∀S h us,(∀p b,S p b->b<h.next)->LR (PR S h) args us->∃r h',Ev E (fun C _=>C.fn f us h=some (r,h'))/\h.next<=h'.next/\(∀b,b<h.next->h'.get b=h.get b)/\RE (PR (S1 S h.next h'.next) h') e r
def FO(E:vC)(f:Nat)(args:LJ)(H:LQ)(same:Bool)(Q:FE->LQ->Prop):Prop :=
 ∀B c h us,HR B c H h->LR (VR c h) args us->∃r h' e H' c',Ev E (fun C _=>C.fn f us h=some (r,h'))/\Q e H'/\Mo c c' h h'/\HR B c' H' h'/\RE (VR c' h') e r/\(same=true->∀id x,c.ρ id=some x->h'.get x.1=h.get x.1)
theorem DV{h':TH}(hk:∀b,b<h.next->h'.get b=h.get b){b o n:Nat}{cs:LK}(hr:wK h b g o n=some cs):wK h' b g o n=some cs:=by
 obtain⟨y,h1,h2⟩:=Ah hr;exact oV (by rw[hk _ (TH.get_lt h1)];exact h1) h2
theorem Wn{id i:Nat}{w:PV}(h:zA H id g i=some w):∃e z G M l,H[id]?=some (.row e z G M l):=by
 unfold zA at h
 grind
inductive zf(H:LQ)(lab:Nat):PV->PV->Prop
 | bool (b:Bool):zf H lab (.bool b) (.bool b)
 | int (k:IntKind) (n:Int):zf H lab (.int k n) (.int k n)
 | str (s:LN):zf H lab (.str s) (.str s)
 | nilptr:zf H lab .nilptr .nilptr
 | nilsl:zf H lab .nilsl .nilsl
 | nilmap:zf H lab .nilmap .nilmap
 | nilfn:zf H lab .nilfn .nilfn
 | niliface:zf H lab .niliface .niliface
 | nil (p z:Nat):zf H lab .nilsl (.list p z [])
 | list (p z:Nat) (l:LJ):zf H lab (.list p z l) (.list p z l)
 | elem (vs:LJ):zf H lab (.elem vs) (.elem vs)
 | iface {t:Nat} {v w:PV}:zf H lab v w->zf H lab (.iface t v) (.iface t w)
 | fn {f:Nat} {vs ws:LJ}:vs.length=ws.length->(∀(i:Nat) (x y:PV),vs[i]?=some x->ws[i]?=some y->zf H lab x y)->zf H lab (.fn f vs) (.fn f ws)
 | agg {vs ws:LJ}:vs.length=ws.length->(∀(i:Nat) (x y:PV),vs[i]?=some x->ws[i]?=some y->zf H lab x y)->zf H lab (.agg vs) (.agg ws)
 | tuple {vs ws:LJ}:vs.length=ws.length->(∀(i:Nat) (x y:PV),vs[i]?=some x->ws[i]?=some y->zf H lab x y)->zf H lab (.tuple vs) (.tuple ws)
 | sl {id g o n q z e z' G M:Nat} {l m:LJ}:H[id]?=some (.row e z' G M l)->M<=g->g<=G->o+n<=l.length->2*n<=q->m.length=n->(∀v∈m,v.cells.length=z)->(((l.drop o).take n).flatMap PV.cells).length=(m.flatMap PV.cells).length ->
   (∀(i:Nat) (x y:PV),(((l.drop o).take n).flatMap PV.cells)[i]?=some x->(m.flatMap PV.cells)[i]?=some y->zf H lab x y)->zf H lab (.sl id g o n q z) (.list lab z m)
 | ptr {id g i o n:Nat} {w:PV} {cs:LJ}:zA H id g i=some w->o+n<=w.cells.length->n=cs.length->(∀(j:Nat) (x y:PV),((w.cells.drop o).take n)[j]?=some x->cs[j]?=some y->zf H lab x y)->zf H lab (.ptr id g i o n) (.elem cs)
variable {lab:Nat}
theorem zf.ok'(k:HR B c H h){S:xF}(hS:∀p b,c.S p b->S p b)(hown:∀id x e z G M l,H[id]?=some (.row e z G M l)->c.ρ id=some x->S lab x.1)(f:zf H lab v w):∀{u:TV},VR c h v u->PR S h w u:=by
 have J:∀{v:PV} {u:TV},PR c.S h v u->PR S h v u:=fun a=>a.mono hS fun _ _ _ _ _ _ _ X=>X
 induction f with
 | bool b=>intro u a;obtain rfl:=a.bool_inv;exact .bool b
 | int Y n=>intro u a;obtain rfl:=a.int_inv;exact .int Y n
 | str s=>intro u a;obtain rfl:=a.str_inv;exact .str s
 | nilptr=>intro u a;cases a with|pure a=>exact J a
 | nilsl=>intro u a;cases a with|pure a=>exact J a
 | nilmap=>intro u a;cases a with|pure a=>exact J a
 | nilfn=>intro u a;cases a with|pure a=>exact J a
 | niliface=>intro u a;cases a with|pure a=>exact J a
 | nil p z=>intro u a;cases a with|pure a=>cases a;exact .listnil p z
 | list p z l=>intro u a;cases a with|pure a=>exact J a
 | elem vs=>intro u a;cases a with|pure a=>exact J a
 | iface _ C=>intro u a;obtain⟨u',rfl,h1⟩:=a.iface_inv;exact .iface (C h1)
 | fn I _ C =>
  intro u a;obtain⟨cs,rfl,h1⟩:=a.fn_inv;exact .fn (by rw[<- I];exact h1.1) fun i x y A D=>by
   obtain⟨t,r⟩:∃t,(_:LJ)[i]?=some t:=⟨_,Yk (by rw[I];exact(Yl.1 A).1)⟩
   exact C i _ _ r A (h1.2 i _ _ r D)
 | agg I _ C =>
  intro u a;obtain⟨cs,rfl,h1⟩:=a.agg_inv;exact .agg (by rw[<- I];exact h1.1) fun i x y A D=>by
   obtain⟨t,r⟩:∃t,(_:LJ)[i]?=some t:=⟨_,Yk (by rw[I];exact(Yl.1 A).1)⟩
   exact C i _ _ r A (h1.2 i _ _ r D)
 | tuple I _ C =>
  intro u a;obtain⟨cs,rfl,h1⟩:=a.tuple_inv;exact .tuple (by rw[<- I];exact h1.1) fun i x y A D=>by
   obtain⟨t,r⟩:∃t,(_:LJ)[i]?=some t:=⟨_,Yk (by rw[I];exact(Yl.1 A).1)⟩
   exact C i _ _ r A (h1.2 i _ _ r D)
 | @sl id g o n q z e z' G M l m K hM hG L Z N hz T _ C =>
  intro u a;rcases sl_inv a with⟨rfl,rfl,rfl,rfl,rfl,hL⟩|⟨b,d,g',s1,rfl,rfl⟩
  .obtain rfl:=Zg.1 N;exact .listnil _ _
  .obtain⟨rfl,G',M',cells,cs,r1,r2,r3,r4,r5⟩:=bc k K s1;have h9:o*z+n*z<=l.length*z:=by rw[<- Zp];exact Ze _ L
   have O:=l7 r4 h9;rw[Y6]at O;have P:=(r5.drop o).take n;subst N;refine .list (hown _ _ _ _ _ _ _ K s1) (DU r1 zo zo O) Z hz (by rw[<- T];exact P.all.1) fun i x y A D=>?_;obtain⟨t,r⟩:∃t,(((l.drop o).take m.length).flatMap PV.cells)[i]?=some t:=⟨_,Yk (by grind)⟩
   exact C i _ _ r A (P.all.2 i _ _ r D)
 | @ptr id g i o n w cs Q L U _ C =>
  intro u a;obtain⟨b,d,z,g',s1,rfl,rfl⟩:=ae a;obtain⟨s2,s3⟩:=KG k Q s1;obtain⟨ds,s4,R⟩:=s3 o n (by omega);have V:((w.cells.drop o).take n).length=n:=by simp;omega
  subst U;obtain⟨e0,z0,G0,M0,l0,K⟩:=Wn Q;refine .elem (hown _ _ _ _ _ _ _ K s1) s4 (by rw[<- R.1,V]) fun j x y A D=>?_;obtain⟨t,r⟩:∃t,((w.cells.drop o).take cs.length)[j]?=some t:=⟨_,Yk (by grind)⟩
  exact C j _ _ r A (R.2 j _ _ r D)
theorem zf.ok(k:HR B c H h){S:xF}(hS:∀p b,c.S p b->S p b)(hown:∀id x,c.ρ id=some x->S lab x.1)(f:zf H lab v w):∀{u:TV},VR c h v u->PR S h w u:=f.ok' k hS fun id x _ _ _ _ _ _ h=>hown id x h
def LF(H:LQ)(lab:Nat):LJ->LJ->Prop
 | [],[]=>True
 | x::l,y::m=>zf H lab x y/\LF H lab l m
 | _,_=>False
variable {ws:LJ}
theorem LF.ok(k:HR B c H h){S:xF}(hS:∀p b,c.S p b->S p b)(hown:∀id x,c.ρ id=some x->S lab x.1):∀{l m:LJ} {us:LK},LF H lab l m->LR (VR c h) l us->LR (PR S h) m us
 | [],[],us,_,a=>by obtain rfl:=a.oN;exact LR.nil
 | x::l,y::m,us,f,a=>by
  obtain⟨u,d,rfl,h1,h2⟩:=a.oc;exact LR.cons (f.1.ok k hS hown h1) (LF.ok k hS hown f.2 h2)
 | [],_::_,us,f,_=>f.elim
 | _::_,[],us,f,_=>f.elim
theorem LF.len:∀{l m:LJ},LF H lab l m->l.length=m.length
 | [],[],_=>rfl
 | x::l,y::m,f=>by rw[Yq,Yq,LF.len f.2]
 | [],_::_,f=>f.elim
 | _::_,[],f=>f.elim
theorem LF.at:∀{l m:LJ},LF H lab l m->∀(i:Nat) (x y:PV),l[i]?=some x->m[i]?=some y->zf H lab x y
 | [],[],_,i,x,y,c,_=>by simp at c
 | x::l,y::m,f,0,a,b,c,d=>by simp at c d;subst c;subst d;exact f.1
 | x::l,y::m,f,i+1,a,b,c,d=>LF.at f.2 i a b (by grind) (by grind)
 | [],_::_,f,_,_,_,_,_=>f.elim
 | _::_,[],f,_,_,_,_,_=>f.elim
theorem zf.aggL(f:LF H lab vs ws):zf H lab (.agg vs) (.agg ws):=.agg f.len f.at
theorem zf.tL(f:LF H lab vs ws):zf H lab (.tuple vs) (.tuple ws):=.tuple f.len f.at
theorem zf.fnL{f:Nat}(k:LF H lab vs ws):zf H lab (.fn f vs) (.fn f ws):=.fn k.len k.at
inductive Lb:PV->Prop
 | bool (b:Bool):Lb (.bool b)
 | int (k:IntKind) (n:Int):Lb (.int k n)
 | str (s:LN):Lb (.str s)
 | nilptr:Lb .nilptr
 | nilsl:Lb .nilsl
 | nilmap:Lb .nilmap
 | nilfn:Lb .nilfn
 | niliface:Lb .niliface
 | list {z:Nat} {l:LJ}:(∀x∈l.flatMap PV.cells,Lb x)->Lb (.list 0 z l)
 | iface {t:Nat} {v:PV}:Lb v->Lb (.iface t v)
 | fn {f:Nat} {l:LJ}:(∀x∈l,Lb x)->Lb (.fn f l)
 | agg {l:LJ}:(∀x∈l,Lb x)->Lb (.agg l)
 | tuple {l:LJ}:(∀x∈l,Lb x)->Lb (.tuple l)
theorem Lb.ok{S S':xF}(hS:∀b,S 0 b->S' 0 b){u:TV}(k:PR S h v u):Lb v->PR S' h v u:=by
 induction k with
 | bool b=>intro _;exact .bool b
 | int k n=>intro _;exact .int k n
 | str s=>intro _;exact .str s
 | nilptr=>intro _;exact .nilptr
 | nilsl=>intro _;exact .nilsl
 | nilmap=>intro _;exact .nilmap
 | nilfn=>intro _;exact .nilfn
 | niliface=>intro _;exact .niliface
 | iface _ d=>intro a;cases a with|iface a=>exact .iface (d a)
 | listnil p z=>intro _;exact .listnil p z
 | list h1 h2 h3 h4 f _ d=>intro a;cases a with|list a=>exact .list (hS _ h1) h2 h3 h4 f fun i x y c e=>d i x y c e (a x (Yt c))
 | elem h1 h2 h3 _ d=>intro a;cases a
 | fn h1 _ d=>intro a;cases a with|fn a=>exact .fn h1 fun i x y c e=>d i x y c e (a x (Yt c))
 | agg h1 _ d=>intro a;cases a with|agg a=>exact .agg h1 fun i x y c e=>d i x y c e (a x (Yt c))
 | tuple h1 _ d=>intro a;cases a with|tuple a=>exact .tuple h1 fun i x y c e=>d i x y c e (a x (Yt c))
variable {E:vC}{caught:LE}
def WO(E:vC)(caught:LE)(ops:List vl)(s:vd)(Q:FX->vd->Prop):Prop :=
 ∀B c t,SR B c s t->∃r x s' c' t',Ev E (fun C _=>kc C caught ops t=some r)/\Q x s'/\Mo c c' t.h t'.h/\SR B c' s' t'/\((x=.norm/\r=.go t')\/∃v u,x=.panic v/\r=.panic u t'/\VR c' t'.h v u)
variable {Q:FX->vd->Prop}{s:vd}
theorem bD(h:Q .norm s):WO E caught [] s Q:=fun B c t a=>⟨.go t,.norm,s,c,t,Ev.all fun _ _=>rfl,h,Mo.refl _ _,a,.inl ⟨rfl,rfl⟩⟩
theorem NG{o:vl}{ops:List vl}{s':vd}(h:qD o s=some s')(k:WO E caught ops s' Q):WO E caught (o::ops) s Q:=fun B c t a=>by
 obtain⟨b,t1,h1,d,f⟩:=Ew a h ⟨fun _ _ _=>none,fun _ _ _=>none⟩ caught;obtain⟨r,x,g,i,t2,j,l,m,n,h2⟩:=k B b t1 f;exact⟨r,x,g,i,t2,j.mono fun C N e=>by unfold kc;grind,l,d.trans m,n,h2⟩
def BD(E:vC)(caught:LE)(ops:List vl)(s:vd)(d:LB)(Q:FX->vd->Prop):FE->LQ->Prop
 | .ret v,H'=>WO E caught ops (vd.put ⟨s.tm,s.df,H'⟩ d v) Q
 | .panic v,H'=>Q (.panic v) ⟨s.tm,s.df,H'⟩
variable {e:FE}
theorem rO{d:LB}{args:List vy}{g:Option (vy×Bool)}{ops:List vl}{s:vd}{Q:FX->vd->Prop}{caps:LJ}{b:Bool}(hg:zX s.tm g=some true)(ha:zV s.tm args=some (.fn f caps::vs))(k:FO E f (vs++caps) s.H b (BD E caught ops s d Q)):WO E caught (⟨d,.call,args,g⟩::ops) s Q:=fun B c t j=>by
 have y:=ar j.tm hg;obtain⟨us,z,A⟩:=ff j.tm ha;obtain⟨u,w,rfl,D,G⟩:=A.oc;obtain⟨cs,rfl,I⟩:=D.fn_inv;obtain⟨r,h',e,S,c',n,o,l,p,i,_⟩:=k B c t.h _ j.hr (G.app I);have m:∀C,C.fn f (w++cs) t.h=some (r,h')->pA C caught ⟨d,.call,args,g⟩ t=eL d t (fd (some (r,h'))):=fun C J=>by
  unfold pA;rw[y,z];simp only[mW,zh.cls,act,eJ];rw[J]
 cases e with
 | ret v =>
  cases r with
  | panic u=>exact i.elim
  | ret u =>
   have i:VR c' h' v u:=i;obtain⟨K,x,L,M,t2,O,P,q,R,h2⟩:=o B c' ((⟨t.tm,t.df,h'⟩:St).put d u) (j.put l p i d);rw[put_h]at q;exact⟨K,x,L,M,t2,Ev.and2 (fun C N a b=>by unfold kc;rw[m C a];exact b) n O,P,l.trans q,R,h2⟩
 | panic v =>
  cases r with
  | ret u=>exact i.elim
  | panic u =>
   have i:VR c' h' v u:=i;exact⟨.panic u ⟨t.tm,t.df,h'⟩,.panic v,_,c',⟨t.tm,t.df,h'⟩,n.mono fun C N a=>by unfold kc;rw[m C a];rfl,o,l,⟨p,j.tm.mono l,j.df.mono l⟩,.inr ⟨v,u,rfl,rfl,i⟩⟩
theorem RE.mono{R R':PV->TV->Prop}(hR:∀v u,R v u->R' v u){r:TE}(h:RE R e r):RE R' e r:=by
 cases e<;>cases r<;>first|exact hR _ _ h|exact h.elim
def Cx.lay(c:Cx)(a b:Nat):Cx:=⟨S1 c.S a b,c.ρ,c.L⟩
theorem HR.grown{h':TH}(k:HR B c H h)(hn:h.next<=h'.next)(hk:∀b,b<h.next->h'.get b=h.get b):Mo c (c.lay h.next h'.next) h h'/\HR B (c.lay h.next h'.next) H h':=by
 have m:Mo c (c.lay h.next h'.next) h h':=⟨fun p b a=>.inl a,fun _ _ h=>h,fun _ h=>h,fun _ _ _ _ _ _ _ f=>DV hk f⟩
 refine⟨m,⟨YY k.le hn,fun b a=>by rw[hk b (YS a k.le)];exact k.keep b a,fun p b a=>?_,fun p b a=>?_,fun id x d=>?_,k.lz,k.inj,fun id o g=>(k.obj id o g).move m rfl (fun h=>h) fun y i=>hk _ (k.own _ _ i).2.1⟩⟩
 .rcases a with a|⟨h1,h2,_⟩
  .exact k.old p b a
  .exact .inr ⟨h1,YY k.le h2⟩
 .rcases a with a|⟨h1,h2,h3⟩
  .obtain⟨a1,a2⟩:=k.S p b a;exact⟨YS a1 hn,a2⟩
  .exact⟨h3,fun id x d e=>by have:=(k.own _ _ d).2.1;omega⟩
 .obtain⟨a1,a2,a3⟩:=k.own id x d;omega
def cK(c:Cx):xF:=fun p b=>c.S p b\/(p=1/\∃id x,c.ρ id=some x/\x.1=b)
theorem FN.FO{args aS:LJ}(k:FN E f aS e)(hl:LF H 1 args aS):FO E f args H true (fun e' H'=>e'=e/\H'=H):=fun B c h us d l=>by
 have h1:=LF.ok d (S:=cK c) (fun p b a=>.inl a) (fun id x g=>.inr ⟨rfl,id,x,g,rfl⟩) hl l;obtain⟨r,h',n,o,i,q⟩:=k (cK c) h us (fun p b a=>by
  rcases a with a|⟨_,id,x,g,rfl⟩
  .exact(d.S p b a).1
  .exact(d.own _ _ g).2.1) h1
 obtain⟨m,j⟩:=d.grown o i;refine⟨r,h',e,H,c.lay h.next h'.next,n,⟨rfl,rfl⟩,m,j,q.mono fun v u s=>.pure (s.mono (fun p b a=>?_) fun _ _ _ _ _ _ _ d=>d),fun _ id x g=>i _ (d.own _ _ g).2.1⟩;obtain⟨rfl,a|a⟩:=a
 .rcases a with a|⟨h0,_⟩
  .exact .inl a
  .cases h0
 .exact .inr ⟨rfl,a⟩
inductive vL:PV->Prop
 | bool (b:Bool):vL (.bool b)
 | int (k:IntKind) (n:Int):vL (.int k n)
 | str (s:LN):vL (.str s)
 | nilptr:vL .nilptr
 | nilsl:vL .nilsl
 | nilmap:vL .nilmap
 | nilfn:vL .nilfn
 | niliface:vL .niliface
 | list (p z:Nat) (l:LJ):vL (.list p z l)
 | elem (l:LJ):vL (.elem l)
 | iface {t:Nat} {v:PV}:vL v->vL (.iface t v)
 | fn {f:Nat} {l:LJ}:(∀x∈l,vL x)->vL (.fn f l)
 | agg {l:LJ}:(∀x∈l,vL x)->vL (.agg l)
 | tuple {l:LJ}:(∀x∈l,vL x)->vL (.tuple l)
variable {args:List vy}{caps:LJ}{d:LB}{g:Option (vy×Bool)}{ops:List vl}
theorem vL.ok(k:vL v):∀{u:TV},VR c h v u->PR c.S h v u:=by
 induction k with
 | bool b=>intro u a;obtain rfl:=a.bool_inv;exact .bool b
 | int g n=>intro u a;obtain rfl:=a.int_inv;exact .int g n
 | str s=>intro u a;obtain rfl:=a.str_inv;exact .str s
 | nilptr=>intro u a;cases a with|pure a=>exact a
 | nilsl=>intro u a;cases a with|pure a=>exact a
 | nilmap=>intro u a;cases a with|pure a=>exact a
 | nilfn=>intro u a;cases a with|pure a=>exact a
 | niliface=>intro u a;cases a with|pure a=>exact a
 | list p z l=>intro u a;cases a with|pure a=>exact a
 | elem vs=>intro u a;cases a with|pure a=>exact a
 | iface _ e=>intro u a;obtain⟨j,rfl,h1⟩:=a.iface_inv;exact .iface (e h1)
 | fn _ e=>intro u a;obtain⟨cs,rfl,h1⟩:=a.fn_inv;exact .fn h1.1 fun i x y d f=>e x (Yt d) (h1.2 i x y d f)
 | agg _ e=>intro u a;obtain⟨cs,rfl,h1⟩:=a.agg_inv;exact .agg h1.1 fun i x y d f=>e x (Yt d) (h1.2 i x y d f)
 | tuple _ e=>intro u a;obtain⟨cs,rfl,h1⟩:=a.tuple_inv;exact .tuple h1.1 fun i x y d f=>e x (Yt d) (h1.2 i x y d f)
theorem FP.FO{args:LJ}{e:FE}(k:FP E f args e)(hl:∀x∈args,vL x):FO E f args H true (fun e' H'=>e'=e/\H'=H):=fun B c h us d g=>by
 obtain⟨r,h',n,o,j,q⟩:=k c.S h us (fun p b s=>(d.S p b s).1) ⟨g.1,fun i x y a t=>(hl x (Yt a)).ok (g.2 i x y a t)⟩;obtain⟨m,l⟩:=d.grown o j;exact⟨r,h',e,H,c.lay h.next h'.next,n,⟨rfl,rfl⟩,m,l,q.mono fun v u w=>.pure w,fun _ id x a=>j _ (d.own _ _ a).2.1⟩
theorem FO.mono{args:LJ}{b:Bool}{Q Q':FE->LQ->Prop}(hQ:∀e H,Q e H->Q' e H)(k:FO E f args H b Q):FO E f args H b Q':=fun B c h us a d=>by
 obtain⟨r,h',e,g,c',i,j,h2⟩:=k B c h us a d
 grind
theorem pc{aS:LJ}(hg:zX s.tm g=some true)(ha:zV s.tm args=some (.fn f caps::vs))(k:FN E f aS (.ret v))(hl:LF s.H 1 (vs++caps) aS)(hQ:WO E caught ops (s.put d v) Q):WO E caught (⟨d,.call,args,g⟩::ops) s Q :=
 rO hg ha ((FN.FO k hl).mono fun e b a=>by obtain⟨rfl,rfl⟩:=a;exact hQ)
theorem NF{aS:LJ}(hg:zX s.tm g=some true)(ha:zV s.tm args=some (.fn f caps::vs))(k:FN E f aS (.panic v))(hl:LF s.H 1 (vs++caps) aS)(hQ:Q (.panic v) s):WO E caught (⟨d,.call,args,g⟩::ops) s Q :=
 rO hg ha ((FN.FO k hl).mono fun e b a=>by obtain⟨rfl,rfl⟩:=a;exact hQ)
theorem Bw{ty:Nat}(hg:zX s.tm g=some true)(ha:zV s.tm args=some [.iface ty v])(hQ:Q (.panic (.iface ty v)) s):WO E caught (⟨d,.panic,args,g⟩::ops) s Q:=fun B c t a=>by
 have e:=ar a.tm hg;obtain⟨us,f,h⟩:=ff a.tm ha;obtain⟨u,k,rfl,b,i⟩:=h.oc;obtain rfl:=i.oN;obtain⟨j,rfl,l⟩:=b.iface_inv;refine⟨.panic (.iface ty j) t,.panic (.iface ty v),s,c,t,Ev.all fun C N=>?_,hQ,Mo.refl _ _,a,.inr ⟨_,_,rfl,rfl,b⟩⟩;unfold kc pA;rw[e,f];rfl
theorem gZ{p cl:PV}(hg:zX s.tm g=some true)(ha:zV s.tm args=some [.fn f [],p,cl])(hc:caught.get f=some ())(k:WO E caught ops (vd.put ⟨s.tm,.caught p cl::s.df,s.H⟩ d (.tuple [])) Q):WO E caught (⟨d,.defer,args,g⟩::ops) s Q:=fun B c t a=>by
 have m:=ar a.tm hg;obtain⟨us,n,o⟩:=ff a.tm ha;obtain⟨u,b,rfl,q,r⟩:=o.oc;obtain⟨up,b,rfl,v,w⟩:=r.oc;obtain⟨i,b,rfl,y,z⟩:=w.oc;obtain rfl:=z.oN;obtain⟨cs,rfl,A⟩:=q.fn_inv;obtain rfl:=A.oN;have l:SR B c ⟨s.tm,.caught p cl::s.df,s.H⟩ ⟨t.tm,.caught up i::t.df,t.h⟩:=⟨a.hr,a.tm,⟨v,y⟩,a.df⟩
 obtain⟨D,x,G,I,t2,J,K,j,L,h2⟩:=k B c ((⟨t.tm,.caught up i::t.df,t.h⟩:St).put d (.tuple [])) (l.put (Mo.refl _ _) a.hr (VR.tL LR.nil) d);rw[put_h]at j;refine⟨D,x,G,I,t2,J.mono fun C N e=>?_,K,j,L,h2⟩;unfold kc pA;rw[m,n];simp only[mW,zh.cls,act,Bz];rw[hc];exact e
def RN(c:Cx):LB->LB->Prop
 | none,none=>True
 | some id,some b=>∃d z,c.ρ id=some (b,d,z)
 | _,_=>False
theorem RN.mono{c':Cx}{h':TH}(m:Mo c c' h h'){a b:LB}(k:RN c a b):RN c' a b:=by
 cases a<;>cases b<;>first|exact k|(obtain⟨d,z,k⟩:=k;exact⟨d,z,m.ρ _ _ k⟩)
def W(E:vC)(caught:LE)(rnd:LB)(code:vw)(s:vd)(Q:FX->vd->Prop):Prop :=
 ∀B c t rnd',SR B c s t->RN c rnd rnd'->∃x' t' x s' c',Ev E (fun C N=>vE C caught N rnd' code t=some (x',t'))/\Q x s'/\XR c' t'.h x x'/\Mo c c' t.h t'.h/\SR B c' s' t'
variable {rnd:LB}{s:vd}{Q Q':FX->vd->Prop}
theorem xH{code:vw}(k:W E caught rnd code s Q)(hQ:∀x s,Q x s->Q' x s):W E caught rnd code s Q':=fun B c t a b d=>by
 obtain⟨e,f,x,s',c',h1,h2,h3⟩:=k B c t a b d
 grind
theorem wY(h:Q .norm s):W E caught rnd .skip s Q:=fun B c t b a d=>⟨.norm,t,.norm,s,c,Ev.all fun _ _=>rfl,h,.norm,Mo.refl _ _,a⟩
theorem eE{id:Nat}(h:Q (.exit id) s):W E caught rnd (.exit id) s Q:=fun B c t b a d=>⟨.exit id,t,.exit id,s,c,Ev.all fun _ _=>rfl,h,.exit id,Mo.refl _ _,a⟩
theorem eF{l:Nat}(h:Q (.goto l) s):W E caught rnd (.goto l) s Q:=fun B c t b a d=>⟨.goto l,t,.goto l,s,c,Ev.all fun _ _=>rfl,h,.goto l,Mo.refl _ _,a⟩
theorem vt(h:Q .ret s):W E caught rnd .ret s Q:=fun B c t b a d=>⟨.ret,t,.ret,s,c,Ev.all fun _ _=>rfl,h,.ret,Mo.refl _ _,a⟩
def x7:List vl->(Nat->PV)->(Nat->PV)
 | [],tm=>tm
 | o::l,tm=>x7 l (match o.dst with|some d=>zb tm d .bad|none=>tm)
theorem Hp:∀{ops:List vl} {tm:Nat->PV} {t:LA},uV c h tm t->uV c h (x7 ops tm) (aL ops t)
 | [],_,_,k=>k
 | o::l,tm,t,k=>by
  unfold x7 aL;refine Hp ?_
  cases o.dst with
  | none=>exact k
  | some d =>
   intro i
   .dsimp only;unfold zb;rw[Tr.get_set]
    by_cases e:i=d
    .grind
    .rw[if_neg e,if_neg e];exact k i
@[reducible] def iU (ops:List vl) (Q:FX->vd->Prop):FX->vd->Prop
 | .norm,s=>Q .norm s
 | x,s=>Q x ⟨x7 ops s.tm,s.df,s.H⟩
theorem vX{ops:List vl}(k:WO E caught ops s (iU ops Q)):W E caught rnd (.region ops) s Q:=fun B c t j h l=>by
 obtain⟨r,x,s',c',b,d,f,g,a,h2⟩:=k B c t h;rcases h2 with⟨rfl,rfl⟩|⟨v,u,rfl,rfl,i⟩
 .exact⟨.norm,b,.norm,s',c',d.mono fun C N e=>by unfold vE;rw[e];rfl,f,.norm,g,a⟩
 .exact⟨.panic u,{ b with tm:=aL ops b.tm },.panic v,_,c',d.mono fun C N e=>by unfold vE;rw[e];rfl,f,.panic i,g,⟨a.hr,Hp a.tm,a.df⟩⟩
@[reducible] def gQ (K:vd->Prop) (Q:FX->vd->Prop):FX->vd->Prop
 | .norm,s=>K s
 | x,s=>Q x s
theorem vj{a b:vw}(k:W E caught rnd a s (gQ (fun s'=>W E caught rnd b s' Q) Q)):W E caught rnd (.seq a b) s Q:=fun B c t j p m=>by
 obtain⟨G,f,x,s',c',g,h,q,d,i⟩:=k B c t j p m
 cases q with
 | norm =>
  obtain⟨n,t2,r,u,v,w,y,o,z,A⟩:=h B c' f j i (m.mono d);exact⟨n,t2,r,u,v,Ev.and2 (fun C N a b=>by unfold vE;grind) g w,y,o,d.trans z,A⟩
 | exit id=>exact⟨_,f,_,s',c',g.mono fun C N e=>by unfold vE;rw[e],h,.exit id,d,i⟩
 | goto l=>exact⟨_,f,_,s',c',g.mono fun C N e=>by unfold vE;rw[e],h,.goto l,d,i⟩
 | ret=>exact⟨_,f,_,s',c',g.mono fun C N e=>by unfold vE;rw[e],h,.ret,d,i⟩
 | panic D=>exact⟨_,f,_,s',c',g.mono fun C N e=>by unfold vE;rw[e],h,.panic D,d,i⟩
theorem rQ{x:vy}{b:Bool}{p q:vw}(hx:ev s.tm x=some (.bool b))(h1:b=true->W E caught rnd p s Q)(h2:b=false->W E caught rnd q s Q):W E caught rnd (.cond x p q) s Q:=fun B c t i a j=>by
 obtain⟨u,l,k⟩:=da a.tm hx;obtain rfl:=k.bool_inv
 cases b with
 | true =>
  obtain⟨d,f,x,s',c',g,h⟩:=h1 rfl B c t i a j;exact⟨d,f,x,s',c',g.mono fun C N e=>by unfold vE;grind,h⟩
 | false =>
  obtain⟨d,f,x,s',c',g,h⟩:=h2 rfl B c t i a j;exact⟨d,f,x,s',c',g.mono fun C N e=>by unfold vE;grind,h⟩
@[reducible] def aG (id:Nat) (Q:FX->vd->Prop):FX->vd->Prop
 | .exit j,s=>if j=id then Q .norm s else Q (.exit j) s
 | x,s=>Q x s
theorem vo{id:Nat}{b:vw}(k:W E caught rnd b s (aG id Q)):W E caught rnd (.block id b) s Q:=fun B c t m n o=>by
 obtain⟨r,d,x,s',c',f,a,p,g,h⟩:=k B c t m n o
 cases p with
 | exit j =>
  have a:if j=id then Q .norm s' else Q (.exit j) s':=a
  by_cases i:j=id
  .rw[if_pos i]at a;exact⟨.norm,d,.norm,s',c',f.mono fun C N e=>by unfold vE;simp_all,a,.norm,g,h⟩
  .rw[if_neg i]at a;exact⟨.exit j,d,.exit j,s',c',f.mono fun C N e=>by unfold vE;rw[e];dsimp only;rw[lK i];rfl,a,.exit j,g,h⟩
 | norm=>exact⟨_,d,_,s',c',f.mono fun C N e=>by unfold vE;rw[e],a,.norm,g,h⟩
 | goto l=>exact⟨_,d,_,s',c',f.mono fun C N e=>by unfold vE;rw[e],a,.goto l,g,h⟩
 | ret=>exact⟨_,d,_,s',c',f.mono fun C N e=>by unfold vE;rw[e],a,.ret,g,h⟩
 | panic q=>exact⟨_,d,_,s',c',f.mono fun C N e=>by unfold vE;rw[e],a,.panic q,g,h⟩
@[reducible] def ow (kH:Nat->vd->Prop) (n:Nat) (Q:FX->vd->Prop):FX->vd->Prop
 | .norm,s=>∃m,m<n/\kH m s
 | x,s=>Q x s
theorem vG{body:vw}(kH:Nat->vd->Prop){n:Nat}(h0:kH n s)(step:∀n s,kH n s->W E caught rnd body s (ow kH n Q)):W E caught rnd (.loop body) s Q:=fun B c t o r p=>by
 have v:∀n s c t,kH n s->SR B c s t->RN c rnd o->∃b a x s' c',(∃K,∀N,K<=N->∀d,K<=d->∀j,K<=j->b9 (vE (y7 (EN E N) d) caught N o body) j t=some (b,a))/\Q x s'/\XR c' a.h x b/\Mo c c' t.h a.h/\SR B c' s' a:=by
  intro n
  induction n using Nat.strongRecOn with
  | _ n A =>
   intro s c t C r p;obtain⟨b,a,x,s',c',⟨K,u⟩,g,D,f,k⟩:=step n s C B c t o r p;have one:b ≠ .norm->∃K,∀N,K<=N->∀d,K<=d->∀j,K<=j->b9 (vE (y7 (EN E N) d) caught N o body) j t=some (b,a):=fun U=>⟨K+1,fun N q d hd j G=>by
    obtain⟨j,rfl⟩:∃i,j=i+1:=⟨j-1,by omega⟩
    unfold b9
    grind⟩
   cases D with
   | norm =>
    obtain⟨m,I,w⟩:=g;obtain⟨y,t2,J,M,O,⟨L,V⟩,P,z,R,S⟩:=A m I s' c' a w k (p.mono f);refine⟨y,t2,J,M,O,⟨max K L+1,fun N q d hd j G=>?_⟩,P,z,f.trans R,S⟩;obtain⟨j,rfl⟩:∃i,j=i+1:=⟨j-1,by omega⟩
    unfold b9
    grind
   | exit id=>exact⟨_,a,_,s',c',one (fun e=>by cases e),g,.exit id,f,k⟩
   | goto l=>exact⟨_,a,_,s',c',one (fun e=>by cases e),g,.goto l,f,k⟩
   | ret=>exact⟨_,a,_,s',c',one (fun e=>by cases e),g,.ret,f,k⟩
   | panic T=>exact⟨_,a,_,s',c',one (fun e=>by cases e),g,.panic T,f,k⟩
 obtain⟨b,a,x,s',c',⟨K,u⟩,h⟩:=v n s c t h0 r p;exact⟨b,a,x,s',c',⟨K,fun N q d hd=>by unfold vE;exact u N q d hd N q⟩,h⟩
@[reducible] def KX (E:vC) (caught:LE) (rnd:LB) (l:Nat) (rest:vw) (Q:FX->vd->Prop):FX->vd->Prop
 | .goto j,s=>j=l/\W E caught rnd rest s fun x s'=>(∀l,x ≠ .goto l)/\Q x s'
 | x,s=>Q x s
theorem rS{l:Nat}{b rest:vw}(k:W E caught rnd b s (KX E caught rnd l rest Q)):W E caught rnd (.scope b l rest) s Q:=fun B c t m q o=>by
 obtain⟨J,g,x,s',c',h,d,r,f,i⟩:=k B c t m q o
 cases r with
 | goto j =>
  obtain⟨rfl,d⟩:=d;obtain⟨p,t2,u,v,w,y,⟨I,z⟩,n,A,D⟩:=d B c' g m i (o.mono f);refine⟨p,t2,u,v,w,Ev.and2 (fun C N a b=>?_) h y,z,n,f.trans A,D⟩;unfold vE;rw[a];dsimp only;rw[wx rfl];dsimp only[cond_true];rw[b]
  cases n<;>grind
 | exit j=>exact⟨_,g,_,s',c',h.mono fun C N e=>by unfold vE;rw[e],d,.exit j,f,i⟩
 | norm=>exact⟨_,g,_,s',c',h.mono fun C N e=>by unfold vE;rw[e],d,.norm,f,i⟩
 | ret=>exact⟨_,g,_,s',c',h.mono fun C N e=>by unfold vE;rw[e],d,.ret,f,i⟩
 | panic G=>exact⟨_,g,_,s',c',h.mono fun C N e=>by unfold vE;rw[e],d,.panic G,f,i⟩
variable {E:vC}
inductive FM where
 | returning
 | panicking (v:PV)
def rK(c:Cx)(h:TH):FM->TM->Prop
 | .returning,.returning=>True
 | .panicking v,.panicking u=>VR c h v u
 | _,_=>False
def LV(E:vC):AV->FM->LQ->(FM->LQ->Prop)->Prop
 | [],m,H,Q=>Q m H
 | .mark id::l,m,H,Q=>H[id]?=some (.dfr false)/\LV E l m (H.set id (.dfr true)) Q
 | .caught p cl::l,m,H,Q=>match m with
  | .returning=>LV E l .returning H Q
  | .panicking v=>∃n g caps b id gg mm,v=.iface E.errno (.int .i64 n)/\cl=.fn g caps/\p=.ptr id gg 0 0 mm/\FO E g caps H b fun e H1=>e=.ret (.tuple [])/\∃a,qs H1 1 [p,.int .i64 n]=some a/\LV E l .returning a.H Q
theorem C4(N:Nat)(C:wE):∀(l:LZ) (m:TM) (h:TH),uS (EN E N) C l m h=uS E C l m h
 | [],m,h=>rfl
 | .mark b::l,m,h=>by
  unfold uS;simp only[C4 N C l]
 | .caught p c::l,m,h=>by
  unfold uS;simp only[C4 N C l];rfl
theorem Ex{h2:TH}{b g o e:Nat}{k:IntKind}{n:Int}{u:TV}(hs:bF 1 h [.ptr b g o e,.int k n]=some (.ok u h2)):nG h b g o [.int k n]=some h2:=by
 unfold bF at hs;dsimp only[TV.cells,Yq,YK]at hs
 grind
theorem rI:∀{l:AV} {l':LZ} {m:FM} {m':TM} {H:LQ} {h:TH} {B:Ba} {c:Cx} {Q:FM->LQ->Prop},LV E l m H Q->HR B c H h->cW c h l l'->rK c h m m' ->
  ∃m2' h' m2 H2 c',Ev E (fun C _=>uS E C l' m' h=some (m2',h'))/\Q m2 H2/\rK c' h' m2 m2'/\Mo c c' h h'/\HR B c' H2 h'
 | [],[],m,m',H,h,B,c,Q,k,i,_,f=>⟨m',h,m,H,c,Ev.all fun _ _=>rfl,k,f,Mo.refl _ _,i⟩
 | .mark id::l,.mark b::l',m,m',H,h,B,c,Q,k,i,hd,f=>by
  obtain⟨⟨d,z,s⟩,hd⟩:=hd;obtain⟨L,y⟩:=k;obtain⟨Y,Z,z',j,e2⟩:=i.obj _ _ L;rw[s]at j;injection j with j;injection j with j e3;subst j;obtain⟨q,w⟩:=i.set (o:=.dfr true) (x:=.dfr true) s (fun e=>by grind) fun _=>⟨b,d,z,s,by rw[TH.get_set _ _ _ _ (i.own _ _ s).2.1,if_pos rfl]⟩
  have uY:rK c (h.set b (.dfr true)) m m':=by
   cases m<;>cases m'<;>first|exact f|exact VR.mono q f
  obtain⟨m2',h',m2,H2,c',f1,f2,f3,f4,f5⟩:=rI y w (hd.mono q) uY;refine⟨m2',h',m2,H2,c',f1.mono fun C N e=>?_,f2,f3,q.trans f4,f5⟩;unfold uS
  grind
 | .caught p cl::l,.caught p' X::l',m,m',H,h,B,c,Q,k,i,hd,f=>by
  obtain⟨⟨A,G⟩,hd⟩:=hd
  cases m with
  | returning =>
   cases m' with
   | panicking u=>exact f.elim
   | returning =>
    have k:LV E l .returning H Q:=k;obtain⟨m2',h',m2,H2,c',f1,f2⟩:=rI k i hd (m':=.returning) trivial;exact⟨m2',h',m2,H2,c',f1.mono fun C N e=>by unfold uS;exact e,f2⟩
  | panicking v =>
   cases m' with
   | returning=>exact f.elim
   | panicking u =>
    obtain⟨n,g,caps,bb,id,gg,mm,rfl,rfl,rfl,k⟩:=k;have f:VR c h (.iface E.errno (.int .i64 n)) u:=f;obtain⟨u',rfl,M⟩:=f.iface_inv;obtain rfl:=M.int_inv;obtain⟨cs,rfl,I⟩:=G.fn_inv;obtain⟨r,h1,e,H1,O,j,⟨rfl,a,P,y⟩,q,w,t,_⟩:=k B c h cs i I
    cases r with
    | panic u=>exact t.elim
    | ret u =>
     have t:VR O h1 (.tuple []) u:=t;obtain⟨ts,rfl,J⟩:=t.tuple_inv;obtain rfl:=J.oN;obtain⟨R,dp,S,T,q1,rfl,rfl⟩:=ae (A.mono q);have K:0*S+0=0:=by simp
     rw[K]at A⊢;obtain⟨u2,h2,c2,s1,D⟩:=Ln w (LR.cons (A.mono q) (LR.cons (.pure (.int .i64 n)) LR.nil)) P;obtain⟨m2',h',m2,H2,c',f1,f2,f3,f4,f5⟩:=rI y D.hr (hd.mono (q.trans D.mo)) (m':=.returning) trivial;refine⟨m2',h',m2,H2,c',Ev.and2 (fun C N U V=>?_) j f1,f2,f3,(q.trans D.mo).trans f4,f5⟩;unfold uS;dsimp only;rw[wx rfl];dsimp only[cond_true];rw[U];show (match nG h1 R T 0 [.int .i64 n]with
      | some h=>uS E C l' .returning h
      | none=>none)=_
     rw[Ex s1];exact V
 | [],_::_,_,_,_,_,_,_,_,_,_,hd,_=>hd.elim
 | _::_,[],_,_,_,_,_,_,_,_,_,hd,_=>hd.elim
 | .mark _::_,.caught _ _::_,_,_,_,_,_,_,_,_,_,hd,_=>hd.1.elim
 | .caught _ _::_,.mark _::_,_,_,_,_,_,_,_,_,_,hd,_=>hd.1.elim
def zj(tm:Nat->PV)(H:LQ):List cQ->Option (LJ)
 | []=>some []
 | r::l=>match(match r with
   | .tmp t=>zq (tm t)
   | .cell t agg n=>match zq (tm t)with
    | some p=>zD H agg n [p]
    | none=>none)with
  | none=>none
  | some v=>match zj tm H l with
   | none=>none
   | some vs=>some (v::vs)
theorem KB(k:HR B c H h){tm:Nat->PV}{t:LA}(kt:uV c h tm t):∀{l:List cQ} {vs:LJ},zj tm H l=some vs->∃us,ny t h l=some us/\LR (VR c h) vs us
 | [],vs,a=>by cases a;exact⟨[],rfl,LR.nil⟩
 | r::l,vs,a=>by
  unfold zj at a
  split at a
  .cases a
  .rename_i v hx
   split at a
   .cases a
   .rename_i ws hw
    cases a
    obtain⟨us,w1,w2⟩:=KB k kt hw;have f:∃u,ny t h (r::l)=some (u::us)/\VR c h v u:=by
     cases r with
     | tmp i =>
      obtain⟨u,b,d⟩:=da kt (x:=.tmp i) hx;have b:t.get i=some u:=b;refine⟨u,?_,d⟩;show (match t.get i with
       | none=>none
       | some v=>match ny t h l with
        | none=>none
        | some vs=>some (v::vs))=_
      grind
     | cell i agg n =>
      dsimp only at hx
      split at hx
      .rename_i p hp;obtain⟨u,b,d⟩:=da kt (x:=.tmp i) hp;obtain⟨w,e,g⟩:=IQ k (LR.cons d LR.nil) hx;have b:t.get i=some u:=b;have e:uE (.load agg n) [u] h=some w:=e;refine⟨w,?_,g⟩;show (match(match t.get i with
        | some p=>uE (.load agg n) [p] h
        | none=>none)with
        | none=>none
        | some v=>match ny t h l with
         | none=>none
         | some vs=>some (v::vs))=_
       grind
      grind
    obtain⟨u,b,d⟩:=f;exact⟨u::us,b,LR.cons d w2⟩
@[reducible] def bf:LJ->PV
 | [v]=>v
 | l=>.tuple l
theorem XL(k:LR (VR c h) vs us):VR c h (bf vs) (rq us):=by
 match vs,us,k with
 | [],us,k=>obtain rfl:=k.oN;exact VR.tL LR.nil
 | [v],us,k=>obtain⟨u,a,rfl,h1,h2⟩:=k.oc;obtain rfl:=h2.oN;exact h1
 | v::w::l,us,k =>
  obtain⟨u,a,rfl,h1,h2⟩:=k.oc;obtain⟨d,b,rfl,h3,h4⟩:=h2.oc;exact VR.tL k
def sx(F:ze)(tm:Nat->PV)(R:FE->LQ->Prop):FM->LQ->Prop
 | .returning,H=>∃vs,zj tm H F.res=some vs/\R (.ret (bf vs)) H
 | .panicking v,H=>R (.panic v) H
def ye(E:vC)(F:ze)(R:FE->LQ->Prop):FX->vd->Prop
 | .norm,s=>LV E s.df .returning s.H (sx F s.tm R)
 | .ret,s=>LV E s.df .returning s.H (sx F s.tm R)
 | .panic v,s=>LV E s.df (.panicking v) s.H (sx F s.tm R)
 | _,_=>False
def zr(l:LJ):Nat->PV:=fun i=>(l[i]?).getD .bad
theorem N8(k:LR (VR c h) vs us):uV c h (zr vs) (Tr.putL .nil 0 us):=fun i=>by
 unfold zr;rw[Tr.get_putL]
 by_cases a:i<vs.length
 .obtain⟨u,u1,u2⟩:=k.at (Yk a)
  grind
 grind
theorem Eh{f:Nat}{F:ze}(hF:E.funcs.get f=some F){args:LJ}(hn:args.length<=F.N){R:FE->LQ->Prop}(hW:W E E.caught none F.body ⟨zr args,[],H⟩ (ye E F R)):FO E f args H false R:=fun B c h us A o=>by
 obtain⟨p,a,x,s',c',D,b,G,q,k⟩:=hW B c ⟨Tr.putL .nil 0 us,[],h⟩ none ⟨A,N8 o,trivial⟩ trivial;have g:∀(m:FM) (n:TM),LV E s'.df m s'.H (sx F s'.tm R)->rK c' a.h m n->(∀N C,Cf (EN E N) C F (some (p,a))=pR (EN E N) F a.tm (uS (EN E N) C a.df n a.h)) ->
   ∃r h' e H' c'',Ev E (fun C _=>C.fn f us h=some (r,h'))/\R e H'/\Mo c c'' h h'/\HR B c'' H' h'/\RE (VR c'' h') e r/\(false=true->∀id x,c.ρ id=some x->h'.get x.1=h.get x.1):=fun m n I J w=>by
  obtain⟨j,h2,M,s,t,f1,f2,f3,f4,f5⟩:=rI I k.hr k.df J;have fin:∀r,(∀N,pR (EN E N) F a.tm (some (j,h2))=some (r,h2))->Ev E (fun C _=>C.fn f us h=some (r,h2)):=fun r y=>by
   obtain⟨K,O⟩:=D;obtain⟨L,P⟩:=f1;refine⟨max K L+1,fun N U d hd=>?_⟩;obtain⟨d,rfl⟩:∃i,d=i+1:=⟨d-1,by omega⟩
   show zC (EN E N) (y7 (EN E N) d) f us h=_;unfold zC;rw[show (EN E N).funcs.get f=some F from hF];dsimp only;rw[wS (by rw[<- o.1];exact hn)];dsimp only[cond_true];rw[show vE (y7 (EN E N) d) (EN E N).caught (EN E N).N none F.body ⟨Tr.putL .nil 0 us,[],h⟩=some (p,a)from O N zo d zo,w,C4,P N zo d zo,y]
  cases M with
  | returning =>
   cases j with
   | panicking u=>exact f3.elim
   | returning =>
    obtain⟨vs,Q,S⟩:=f2;obtain⟨z,w1,w2⟩:=KB f5 (k.tm.mono f4) Q;refine⟨.ret (rq z),h2,.ret (bf vs),s,t,fin _ fun N=>?_,S,q.trans f4,f5,XL w2,fun h=>by cases h⟩;show (match ny a.tm h2 F.res with
     | some vs=>some (TE.ret (rq vs),h2)
     | none=>none)=_
    rw[w1]
  | panicking v =>
   cases j with
   | returning=>exact f3.elim
   | panicking u=>exact⟨.panic u,h2,.panic v,s,t,fin _ fun N=>rfl,f2,q.trans f4,f5,f3,fun h=>by cases h⟩
 cases G with
 | norm=>exact g .returning .returning b trivial fun N C=>rfl
 | ret=>exact g .returning .returning b trivial fun N C=>rfl
 | panic T=>exact g (.panicking _) (.panicking _) b T fun N C=>rfl
 | exit id=>exact b.elim
 | goto l=>exact b.elim
def va(H:LQ)(lab:Nat):FE->FE->Prop
 | .ret v,.ret w=>zf H lab v w
 | .panic v,.panic w=>zf H lab v w
 | _,_=>False
def kI:FE->Prop
 | .ret v=>Lb v
 | .panic v=>Lb v
variable {F:ze}{args:LJ}
theorem Vj{b:Bool}(k:FO E f args [] b fun e' H=>va H 0 e' e):FP E f args e:=fun S h us q s=>by
 have t:HR ⟨h.next,h,S⟩ ⟨S,fun _=>none,fun _=>False⟩ [] h:=⟨Ym _,fun _ _=>rfl,fun p b d=>.inl d,fun p b d=>⟨q p b d,fun id x a=>(by cases a)⟩,fun id x a=>(by cases a),fun id a=>a.elim,fun id z x A a=>(by cases a),fun id o u=>(by simp at u)⟩
 obtain⟨r,h',e',B,c',y,i,C,g,j,_⟩:=k _ _ h us t (LR.pure (c:=⟨S,fun _=>none,fun _=>False⟩) s);have n:∀b,b<h.next->h'.get b=h.get b:=fun b d=>g.keep b d;refine⟨r,h',y,g.le,n,?_⟩;have m:∀p b,c'.S p b->S1 S h.next h'.next p b:=fun p b d=>by
  rcases g.old p b d with h1|⟨h1,h2⟩
  .exact .inl h1
  .exact .inr ⟨h1,h2,(g.S p b d).1⟩
 have l:∀id x,c'.ρ id=some x->S1 S h.next h'.next 0 x.1:=fun id x a=>by
  obtain⟨h1,h2,_⟩:=g.own id x a;exact .inr ⟨rfl,h1,h2⟩
 cases e'<;>cases r<;>first|exact j.elim|skip
 .cases e with
  | panic v=>exact i.elim
  | ret w=>exact zf.ok g m l i j
 .cases e with
  | ret v=>exact i.elim
  | panic w=>exact zf.ok g m l i j
theorem FP.stays(k:FP E f args e)(hl:kI e):FN E f args e:=fun S h us g i=>by
 obtain⟨r,h',j,h1,h2,c⟩:=k S h us g i;refine⟨r,h',j,h1,h2,?_⟩;have d:∀b,S1 S h.next h'.next 0 b->S0 S h.next h'.next 0 b:=fun b a=>by
  rcases a with a|⟨_,a⟩
  .exact⟨rfl,.inl a⟩
  .exact⟨rfl,.inr a⟩
 cases e<;>cases r<;>first|exact c.elim|exact Lb.ok d c hl
theorem FN.FP(k:FN E f args e):FP E f args e:=fun S h us c d=>by
 obtain⟨r,h',g,h1,h2,i⟩:=k S h us c d;refine⟨r,h',g,h1,h2,i.mono fun v u j=>j.mono (fun p b a=>?_) fun _ _ _ _ _ _ _ l=>l⟩;obtain⟨rfl,a|a⟩:=a
 .exact .inl a
 .exact .inr ⟨rfl,a⟩
theorem EQ(hF:E.funcs.get f=some F)(hn:args.length<=F.N)(hW:W E E.caught none F.body ⟨zr args,[],[]⟩ (ye E F fun e' H=>va H 0 e' e)):FP E f args e:=Vj (Eh hF hn hW)
theorem EO(hF:E.funcs.get f=some F)(hn:args.length<=F.N)(hl:kI e)(hW:W E E.caught none F.body ⟨zr args,[],[]⟩ (ye E F fun e' H=>va H 0 e' e)):FN E f args e:=(EQ hF hn hW).stays hl
variable {E:vC}{caught:LE}
variable {f:TV->TV->Bool}
def ue:Nat->PV->Bool
 | 0,_=>false
 | n+1,v=>match v with
  | .bad=>false
  | .iface _ v=>ue n v
  | .fn _ l=>l.all (ue n)
  | .agg l=>l.all (ue n)
  | .tuple l=>l.all (ue n)
  | _=>true
theorem Jq:∀l:LN,xO l l=true
 | []=>rfl
 | a::l=>by unfold xO;rw[wx rfl];exact Jq l
theorem Rw(n:Int):gH n n=true:=by rw[x9];simp
theorem tb:∀{l:LK},(∀x∈l,f x x=true)->bZ f l l=true
 | [],_=>rfl
 | a::l,h=>by unfold bZ;rw[h a (by simp)];exact tb fun x b=>h x (Ys _ b)
theorem ss{R:PV->TV->Prop}{p:PV->Bool}(hR:∀v u,R v u->p v=true->f u u=true){l:LJ}{cs:LK}(k:LR R l cs)(hp:l.all p=true):∀x∈cs,f x x=true:=fun x c=>by
 obtain⟨i,b,rfl⟩:=YU.1 c;have a:i<l.length:=by rw[k.1];exact b
 exact hR _ _ (k.2 i _ _ (Yk a) (Yk b)) (YZ.1 hp _ (YX a))
theorem cY:∀{n:Nat} {v:PV} {u:TV},VR c h v u->ue n v=true->TV.beq n u u=true
 | 0,v,u,k,hd=>by cases hd
 | n+1,v,u,k,hd=>by
  cases v with
  | bad=>exact k.bad_inv.elim
  | bool b=>obtain rfl:=k.bool_inv;cases b<;>rfl
  | int j m=>obtain rfl:=k.int_inv;simp only[TV.beq,BN];rw[wx rfl];exact Rw m
  | str s=>obtain rfl:=k.str_inv;exact Jq s
  | nilptr=>cases k with|pure k=>cases k;rfl
  | nilsl=>cases k with|pure k=>cases k;rfl
  | nilmap=>cases k with|pure k=>cases k;rfl
  | nilfn=>cases k with|pure k=>cases k;rfl
  | niliface=>cases k with|pure k=>cases k;rfl
  | list p z l =>
   rcases nX k with⟨_,rfl⟩|⟨b,g,o,q,ds,rfl,_⟩
   .rfl
   .simp only[TV.beq,sd];simp_all
  | elem l =>
   obtain⟨p,b,g,o,ds,_,rfl,_⟩:=c9 k;simp only[TV.beq,sc];simp_all
  | sl id g o m q z =>
   rcases sl_inv k with⟨_,_,_,_,rfl,_⟩|⟨b,d,e,_,_,rfl⟩
   .rfl
   .simp only[TV.beq,sd];simp_all
  | ptr id g i o m =>
   obtain⟨b,d,z,e,_,_,rfl⟩:=ae k;simp only[TV.beq,sc];simp_all
  | map id=>obtain⟨b,d,z,_,rfl⟩:=ce k;exact wx rfl
  | yield id=>cases k with|pure k=>cases k|yield _=>exact wx rfl
  | iface t w =>
   obtain⟨r,rfl,h1⟩:=k.iface_inv;simp only[TV.beq,BM];rw[wx rfl];exact cY h1 hd
  | fn f l =>
   obtain⟨cs,rfl,h1⟩:=k.fn_inv;simp only[TV.beq,BL];rw[wx rfl];exact tb (ss (R:=VR c h) (f:=TV.beq n) (p:=ue n) (fun v u k a=>cY k a) h1 hd)
  | agg l =>
   obtain⟨cs,rfl,h1⟩:=k.agg_inv;exact tb (ss (R:=VR c h) (f:=TV.beq n) (p:=ue n) (fun v u k a=>cY k a) h1 hd)
  | tuple l =>
   obtain⟨cs,rfl,h1⟩:=k.tuple_inv;exact tb (ss (R:=VR c h) (f:=TV.beq n) (p:=ue n) (fun v u k a=>cY k a) h1 hd)
def qz(tm nm:Nat->PV):vy->LS
 | .tmp t=>zq (tm t)
 | .new t=>zq (nm t)
 | .const u=>zR 4 u
 | .fn f=>some (.fn f [])
def qa(tm nm:Nat->PV):List vy->Option (LJ)
 | []=>some []
 | x::l=>match qz tm nm x with
  | none=>none
  | some v=>match qa tm nm l with
   | none=>none
   | some vs=>some (v::vs)
def zZ(tm nm:Nat->PV):Option (vy×Bool)->LW
 | none=>some true
 | some (x,b)=>qi b (qz tm nm x)
def n8(c:Cx)(h:TH)(nm:Nat->PV)(t:LA):Prop:=∀i,(nm i=.bad/\t.get i=none)\/∃u,t.get i=some u/\VR c h (nm i) u
theorem n8.mono{c':Cx}{h':TH}(m:Mo c c' h h'){nm:Nat->PV}{t:LA}(k:n8 c h nm t):n8 c' h' nm t:=fun i=>by
 rcases k i with k|⟨u,a,b⟩
 .grind
 .exact .inr ⟨u,a,b.mono m⟩
def yx(a b:LA):Prop:=∀i u,a.get i=some u->b.get i=some u
section operands
variable {c:Cx}{h:TH}{tm nm:Nat->PV}{t n:LA}
theorem Ci(k:uV c h tm t)(kn:n8 c h nm n){x:vy}(hx:qz tm nm x=some v):∃u,(∀n',yx n n'->mY t n' x=some u)/\VR c h v u:=by
 cases x with
 | tmp i =>
  obtain⟨h1,h2⟩:=Dt hx;rcases k i with h3|⟨u,a,b⟩
  .grind
  .exact⟨u,fun _ _=>a,by rw[<- h1];exact b⟩
 | new i =>
  obtain⟨h1,h2⟩:=Dt hx;rcases kn i with⟨h3,_⟩|⟨u,a,b⟩
  .grind
  .exact⟨u,fun n' d=>d _ _ a,by rw[<- h1];exact b⟩
 | const u=>exact⟨u,fun _ _=>rfl,dE hx⟩
 | fn f=>cases hx;exact⟨_,fun _ _=>rfl,VR.fnL LR.nil⟩
theorem lT(k:uV c h tm t)(kn:n8 c h nm n):∀{l:List vy} {vs:LJ},qa tm nm l=some vs->∃us,(∀n',yx n n'->kN t n' l=some us)/\LR (VR c h) vs us
 | [],vs,a=>by cases a;exact⟨[],fun _ _=>rfl,LR.nil⟩
 | x::l,vs,a=>by
  unfold qa at a
  split at a
  .cases a
  .rename_i v hx
   split at a
   .cases a
   .rename_i ws hw
    cases a
    obtain⟨u,d,b⟩:=Ci k kn hx;obtain⟨us,w1,w2⟩:=lT k kn hw;refine⟨u::us,fun n' e=>?_,LR.cons b w2⟩;unfold kN
    grind
theorem lm(k:uV c h tm t)(kn:n8 c h nm n){g:Option (vy×Bool)}{b:Bool}(hg:zZ tm nm g=some b):∀n',yx n n'->pB t n' g=some b:=fun n' f=>by
 cases g with
 | none=>exact hg
 | some x =>
  obtain⟨x,a⟩:=x;change qi a (qz tm nm x)=some b at hg;unfold qi at hg
  split at hg
  .rename_i cc hx;obtain⟨u,e,d⟩:=Ci k kn hx;obtain rfl:=d.bool_inv;show aq a (mY t n' x)=some b;unfold aq
   grind
  .rename_i hx;obtain⟨u,e,d⟩:=Ci k kn hx;obtain⟨cs,rfl,_⟩:=d.tuple_inv;show aq a (mY t n' x)=some b;rw[e n' f];exact hg
  grind
end operands
structure DF where
 nm:Nat->PV
 df:AV
 H:LQ
 K:List (vl×LN)
def cJ(c:Cx)(h:TH)(t n:LA)(e:vl×LN):Prop :=
 ∀c' h' n' df',Mo c c' h h'->(∀id∈e.2,∀x,c.ρ id=some x->h'.get x.1=h.get x.1)->yx n n'->aj t ⟨n',df',h'⟩ e.1=true
structure nI(B:Ba)(c:Cx)(tm:Nat->PV)(t:LA)(s:DF)(d:DS):Prop where
 hr:HR B c s.H d.h
 tm:uV c d.h tm t
 nm:n8 c d.h s.nm d.nm
 df:cW c d.h s.df d.df
 K:∀e∈s.K,cJ c d.h t d.nm e
theorem yx.refl(a:LA):yx a a:=fun _ _ h=>h
theorem cJ.move{c':Cx}{h':TH}{t n n':LA}{e:vl×LN}(k:cJ c h t n e)(m:Mo c c' h h')(hd:∀id∈e.2,∀x,c.ρ id=some x->h'.get x.1=h.get x.1)(hn:yx n n'):cJ c' h' t n' e :=
 fun j h2 l d o f g=>k j h2 l d (m.trans o) (fun id a x b=>by rw[f id a x (m.ρ _ _ b),hd id a x b]) fun i u p=>g _ _ (hn _ _ p)
def qq(k:zh)(vs:LJ):LN:=match k,vs with
 | .load ..,[.ptr id _ _ _ _]=>[id]
 | .look ..,[.map id,_]=>[id]
 | .len _,[.map id]=>[id]
 | .tostr,[.sl id _ _ _ _ _]=>[id]
 | _,_=>[]
theorem Vg{kind:zh}{u:TV}(k:HR B c H h)(hv:LR (VR c h) vs us)(hf:qc H kind vs=some v)(hp:uE kind us h=some u){c':Cx}{h':TH}(m:Mo c c' h h')(hd:∀id∈qq kind vs,∀x,c.ρ id=some x->h'.get x.1=h.get x.1):uE kind us h'=some u:=by
 cases kind<;>first|exact hp|skip
 case tostr =>
  simp only[qc,qE]at hf
  split at hf
  .rename_i x;obtain⟨y,j,rfl,h1,h2⟩:=hv.oc;obtain rfl:=h2.oN
   cases x<;>first|(simp[qp]at hf;done)|skip
   .obtain rfl:y=.nilsl:=by cases h1 with|pure h1=>cases h1;rfl
    exact hp
   .rename_i p z l;rcases nX h1 with⟨rfl,rfl⟩|⟨b,g,o,q,ds,rfl,s1,r,D,t⟩
    .exact hp
    .by_cases G:z=1
     .subst G;rw[zBM9]at r;simp only[uE,um,aZ]at hp⊢;rw[r]at hp;rw[m.rd _ _ s1 _ _ _ _ r];exact hp
     .simp only[uE,um,aZ]at hp;grind
   .rename_i id g o n q z;rcases sl_inv h1 with⟨rfl,rfl,rfl,rfl,rfl,_⟩|⟨b,d,w,s1,rfl,rfl⟩
    .exact hp
    .have a:=hd id (by simp[qq]) _ s1;dsimp only at a;have e:∀n,wK h' b w (o*z) n=wK h b w (o*z) n:=fun n=>by simp only[wK,a]
     simp only[uE,um,aZ]at hp⊢
     split at hp
     .rename_i s;cases s
     .rename_i s;injection s with s I J K L M;subst s I J K L M;rw[e];exact hp
     .cases hp
  grind
 case load agg n =>
  simp only[qc,zD]at hf
  split at hf
  .rename_i cs;obtain⟨y,j,rfl,h1,h2⟩:=hv.oc;obtain rfl:=h2.oN;obtain⟨p,b,g,o,ds,s1,rfl,r,D⟩:=c9 h1;simp only[uE,um,ni]at hp⊢
   split at hf
   .rename_i hn;have t:=iS r (k:=0) (m:=n) zo;rw[ZP]at t;rw[t]at hp;rw[m.rd _ _ s1 _ _ _ _ t];exact hp
   .cases hf
  .rename_i id g i o mm;obtain⟨y,j,rfl,h1,h2⟩:=hv.oc;obtain rfl:=h2.oN;obtain⟨b,d,z,w,s1,rfl,rfl⟩:=ae h1;have a:=hd id (by simp[qq]) _ s1;dsimp only at a;simp only[uE,um,ni,wK]at hp⊢;rw[a];exact hp
  .cases hf
 case look kf zero ok =>
  simp only[qc,qB]at hf
  split at hf
  .rename_i id kk x;obtain⟨y,j,rfl,h1,h2⟩:=hv.oc;obtain⟨C,A,rfl,h3,h4⟩:=h2.oc;obtain rfl:=h4.oN;obtain⟨b,d,z,s1,rfl⟩:=ce h1;have a:=hd id (by simp[qq]) _ s1;dsimp only at a;simp only[uE,ux,aY]at hp⊢;rw[a];exact hp
  .rename_i id x;obtain⟨y,j,rfl,h1,h2⟩:=hv.oc;obtain⟨C,A,rfl,h3,h4⟩:=h2.oc;obtain rfl:=h4.oN;obtain⟨b,d,z,s1,rfl⟩:=ce h1;have a:=hd id (by simp[qq]) _ s1;dsimp only at a;simp only[uE,ux,aY]at hp⊢;rw[a];exact hp
  .obtain⟨y,j,rfl,h1,h2⟩:=hv.oc;obtain⟨C,A,rfl,h3,h4⟩:=h2.oc;obtain rfl:=h4.oN;obtain rfl:y=.nilmap:=by cases h1 with|pure h1=>cases h1;rfl
   exact hp
  .cases hf
 case len f =>
  simp only[qc,qO]at hf
  split at hf
  .exact hp
  .exact hp
  .cases hf
def zY(nm:Nat->PV)(d:LB)(v:PV):Option (Nat->PV):=match d with
 | none=>some nm
 | some d=>match nm d with
  | .bad=>some (zb nm d v)
  | _=>none
theorem tQ{nm nm':Nat->PV}{n:LA}(k:n8 c h nm n){d:LB}{u:TV}(hv:VR c h v u)(hs:zY nm d v=some nm'):∃n',pJ n d u=some n'/\yx n n'/\n8 c h nm' n'/\(∀e,d=some e->n'.get e=some u):=by
 cases d with
 | none=>simp only[zY]at hs;cases hs;exact⟨n,rfl,yx.refl _,k,fun e a=>by cases a⟩
 | some d =>
  simp only[zY]at hs
  split at hs
  .rename_i hb
   cases hs
   have g:n.get d=none:=by
    rcases k d with⟨_,h1⟩|⟨j,_,b⟩
    .exact h1
    .rw[hb]at b;exact b.bad_inv.elim
   refine⟨n.set d (some u),by unfold pJ;grind,fun i w f=>?_,fun i=>?_,fun e a=>?_⟩
   .rw[Tr.get_set,if_neg (fun e=>by grind)];exact f
   .unfold zb;rw[Tr.get_set]
    by_cases e:i=d
    .grind
    .rw[if_neg e,if_neg e];exact k i
   .cases a;rw[Tr.get_set,if_pos rfl]
  grind
def qU:za->Bool
 | .row _ _ _ _ l=>l.all fun v=>v.cells.all (ue 4)
 | .map0=>true
 | _=>false
def qK(tm:Nat->PV)(o:vl)(s:DF):Option DF :=
 match zZ tm s.nm o.guard with
 | none=>none
 | some false=>(match zY s.nm o.dst (.tuple [])with
  | some nm=>some ⟨nm,s.df,s.H,(o,[])::s.K⟩
  | none=>none)
 | some true=>match qa tm s.nm o.args with
  | none=>none
  | some vs=>match o.kind.cls with
   | 0=>(match qc s.H o.kind vs with
    | some v=>if o.dst.isSome=true/\ue 4 v=true then(match zY s.nm o.dst v with
     | some nm=>some ⟨nm,s.df,s.H,(o,qq o.kind vs)::s.K⟩
     | none=>none)else none
    | none=>none)
   | 1=>(match qg s.H.length o.kind vs with
    | some (ob,v)=>if o.dst.isSome=true/\qU ob=true/\ue 4 v=true then(match zY s.nm o.dst v with
     | some nm=>some ⟨nm,s.df,s.H++[ob],(o,[s.H.length])::s.K⟩
     | none=>none)else none
    | none=>none)
   | _=>none
variable {d:Nat}{df:LZ}{n:LA}{o:vl}{tm:Nat->PV}
def z6(tm:Nat->PV):List vl->DF->Option DF
 | [],s=>some s
 | o::l,s=>match qK tm o s with
  | some s=>z6 tm l s
  | none=>none
theorem Md{t:LA}:∀{n i:Nat},(∀j,i<=j->j<i+n->∃y,t.get j=some y/\TV.beq 4 y y=true)->lh i n t t=true
 | 0,_,_=>rfl
 | n+1,i,h=>by
  obtain⟨y,a,b⟩:=h i (Ym _) zo;unfold lh;rw[a];dsimp only;rw[b];exact Md fun j h1 h2=>h j zo zo
theorem UA(k:HR B c H h){id z:Nat}{ob:za}(hH:H[id]?=some ob)(hd:qU ob=true)(hρ:c.ρ id=some (b,d,z)){x:TO}(hx:h.get b=some x):iB x x=true:=by
 cases ob with
 | row e o G M l =>
  obtain⟨rfl,A,C,cells,cs,i,D,I,q,r⟩:=bc k hH hρ;rw[hx]at i;cases i
  simp only[iB,wx rfl,cond_true];refine Md fun j _ a=>?_;rw[Y6]at a;obtain⟨t1,t2⟩:=Tr.getL_some q;have g:j<cs.length:=by rw[t1];exact a
  have t3:=t2 j a;rw[Y6,Yk g]at t3;refine⟨cs[j],t3.symm,?_⟩;have n:(l.flatMap PV.cells).all (ue 4)=true:=by
   rw[YZ];intro y s;obtain⟨w,w1,w2⟩:=YG.1 s;exact YZ.1 (YZ.1 hd w w1) y w2
  exact ss (R:=VR c h) (f:=TV.beq 4) (p:=ue 4) (fun v u k t=>cY k t) r.all n _ (YX g)
 | map0 =>
  obtain⟨J,K,o,clock,s1,m⟩:=k.obj _ _ hH;rw[hρ]at s1;injection s1 with s1;injection s1 with s1 _;subst s1;rw[hx]at m;cases m
  exact wx rfl
 | _=>cases hd
theorem WN{t:LA}{u:TV}(hw:pB t n o.guard=some true)(hd:o.dst=some d)(ha:kN t n o.args=some us)(hn:n.get d=some u)(hc:o.kind.cls=0)(hp:uE o.kind us h=some u)(hb:TV.beq 4 u u=true):aj t ⟨n,df,h⟩ o=true:=by
 unfold aj;dsimp only;rw[hw];dsimp only;unfold Ax;rw[hd];dsimp only;rw[ha];dsimp only;rw[hn];unfold A0;dsimp only;rw[hc]
 try dsimp only
 unfold Az
 grind
theorem WM{t:LA}{x:uA}(hw:pB t n o.guard=some true)(hd:o.dst=some d)(ha:kN t n o.args=some us)(hn:n.get d=some x.v)(hc:o.kind.cls=1)(hbl:mS x.v=some b)(hp:lay o.kind us b=some x)(hg:h.get b=some x.o)(hb:TV.beq 4 x.v x.v=true)(ho:iB x.o x.o=true):aj t ⟨n,df,h⟩ o=true:=by
 unfold aj;dsimp only;rw[hw];dsimp only;unfold Ax;rw[hd];dsimp only;rw[ha];dsimp only;rw[hn];unfold A0;dsimp only;rw[hc]
 try dsimp only
 unfold Ay
 grind
theorem Cj{t:LA}{s s':DF}{d:DS}(k:nI B c tm t s d)(hs:qK tm o s=some s'):∃c' d',bP t o d=some d'/\Mo c c' d.h d'.h/\nI B c' tm t s' d':=by
 unfold qK at hs
 split at hs
 .cases hs
 .rename_i hw;have j:=lm k.tm k.nm hw
  split at hs
  .rename_i nm' hn
   cases hs
   obtain⟨m,n,f,p,q⟩:=tQ k.nm (VR.tL LR.nil) hn;refine⟨c,⟨m,d.df,d.h⟩,?_,Mo.refl _ _,k.hr,k.tm,p,k.df,fun e a=>?_⟩
   .unfold bP;rw[j _ (yx.refl _)];dsimp only;rw[n];rfl
   .rcases YA.1 a with rfl|a
    .intro c2 h2 nn df2 m2 hd2 hn2;unfold aj;dsimp only;rw[j nn fun i u g=>hn2 _ _ (f _ _ g)]
    .exact(k.K e a).move (Mo.refl _ _) (fun _ _ _ _=>rfl) f
  grind
 .rename_i hw;have j:=lm k.tm k.nm hw
  split at hs
  .cases hs
  .rename_i vs hvs;obtain⟨us,r,D⟩:=lT k.tm k.nm hvs;have e0:bP t o d=lU t o d:=by unfold bP;rw[j _ (yx.refl _)]
   split at hs
   .rename_i hcls
    split at hs
    .rename_i v hp
     split at hs
     .rename_i hc;obtain⟨w,A⟩:=hc;obtain⟨L,l⟩:=Option.isSome_iff_exists.1 w
      split at hs
      .rename_i nm' hn
       cases hs
       obtain⟨u,p1,p2⟩:=Ae k.hr D hp;obtain⟨m,n,f,p,q⟩:=tQ k.nm p2 hn;refine⟨c,⟨m,d.df,d.h⟩,?_,Mo.refl _ _,k.hr,k.tm,p,k.df,fun e a=>?_⟩
       .rw[e0];simp only[lU,r _ (yx.refl _),hcls,p1,Cl,n];rfl
       .rcases YA.1 a with rfl|a
        .intro c2 h2 nn df2 m2 hd2 hn2;exact WN (j nn fun i u g=>hn2 _ _ (f _ _ g)) l (r nn fun i u g=>hn2 _ _ (f _ _ g)) (hn2 _ _ (q _ l)) hcls (Vg k.hr D hp p1 m2 hd2) (cY p2 A)
        .exact(k.K e a).move (Mo.refl _ _) (fun _ _ _ _=>rfl) f
      grind
     grind
    grind
   .rename_i hcls
    split at hs
    .rename_i ob v hp
     split at hs
     .rename_i hc;obtain⟨w,A,J⟩:=hc;obtain⟨L,l⟩:=Option.isSome_iff_exists.1 w
      split at hs
      .rename_i nm' hn
       cases hs
       obtain⟨x,c',p1,p2,p3,p4,⟨z,p5⟩,p6⟩:=s9 k.hr D hp;obtain⟨m,n,f,p,q⟩:=tQ (k.nm.mono p2) p4 hn;have I:∀b,b<d.h.next->(d.h.push x.o).get b=d.h.get b:=fun b N=>by rw[TH.gP,if_neg zo]
       have G:(d.h.push x.o).get d.h.next=some x.o:=by rw[TH.gP,if_pos rfl]
       refine⟨c',⟨m,d.df,d.h.push x.o⟩,?_,p2,p3,k.tm.mono p2,p,k.df.mono p2,fun e a=>?_⟩
       .rw[e0];unfold lU;rw[r _ (yx.refl _)];dsimp only;rw[hcls];(try dsimp only);rw[p1];unfold Ck;dsimp only;rw[n];rfl
       .rcases YA.1 a with rfl|a
        .intro c2 h2 nn df2 m2 hd2 hn2;have C:=hd2 s.H.length (by simp) _ p5;dsimp only at C;rw[G]at C;exact WM (j nn fun i u g=>hn2 _ _ (f _ _ g)) l (r nn fun i u g=>hn2 _ _ (f _ _ g)) (hn2 _ _ (q _ l)) hcls p6 p1 C (cY p4 J) (UA p3 (List.getElem?_concat_length ..) A p5 G)
        .exact(k.K e a).move p2 (fun id _ y M=>I _ (k.hr.own _ _ M).2.1) f
      grind
     grind
    grind
   grind
theorem aJ{t:LA}:∀{ops:List vl} {c:Cx} {s s':DF} {d:DS},nI B c tm t s d->z6 tm ops s=some s'->∃c' d',nR t ops d=some d'/\Mo c c' d.h d'.h/\nI B c' tm t s' d'
 | [],c,s,s',d,k,a=>by cases a;exact⟨c,d,rfl,Mo.refl _ _,k⟩
 | o::l,c,s,s',d,k,a=>by
  unfold z6 at a
  split at a
  .rename_i s1 h1;obtain⟨j,d1,m,b,e⟩:=Cj k h1;obtain⟨f,d2,n,g,i⟩:=aJ e a;exact⟨f,d2,by unfold nR;grind,b.trans g,i⟩
  grind
def qA:List (vl×LN)->vl->Prop
 | [],_=>False
 | e::K,o=>if e.1.dst=o.dst then e.1=o else qA K o
def zL(K:List (vl×LN)):List vl->Prop
 | []=>True
 | o::l=>qA K o/\zL K l
theorem HC:∀{K:List (vl×LN)} {o:vl},qA K o->∃e∈K,e.1=o
 | [],_,h=>h.elim
 | e::K,o,h=>by
  unfold qA at h
  split at h
  .grind
  .obtain⟨e',h1,h2⟩:=HC h;grind
theorem eT{t:LA}{s:DF}{d:DS}(k:nI B c tm t s d):∀{l:List vl},zL s.K l->cT t d l=true
 | [],_=>rfl
 | o::l,h=>by
  obtain⟨e,a,rfl⟩:=HC h.1;unfold cT;rw[k.K e a c d.h d.nm d.df (Mo.refl _ _) (fun _ _ _ _=>rfl) (yx.refl _)];exact eT k h.2
def qt(W:LN)(K:List (vl×LN)):List (vl×LN):=K.filter fun e=>e.2.all fun id=>!W.contains id
def WD(E:vC)(caught:LE)(tm:Nat->PV)(gs:List uX)(s:DF)(Q:FX->DF->Prop):Prop :=
 ∀B c t d,nI B c tm t s d->∃r x s' c' d',Ev E (fun C _=>xV C caught t gs d=some r)/\Q x s'/\Mo c c' d.h d'.h/\nI B c' tm t s' d'/\((x=.norm/\r=.go d')\/∃v u,x=.panic v/\r=.panic u d'.df d'.h/\VR c' d'.h v u)
variable {tm:Nat->PV}{s:DF}{Q:FX->DF->Prop}
variable {g:uX}{l:List uX}{nm':Nat->PV}{s1:DF}
theorem gm(h:Q .norm s):WD E caught tm [] s Q:=fun B c t d k=>⟨.go d,.norm,s,c,d,Ev.all fun _ _=>rfl,h,Mo.refl _ _,k,.inl ⟨rfl,rfl⟩⟩
theorem nI.dput{c':Cx}{t:LA}{d:DS}(k:nI B c tm t s d){H':LQ}{h':TH}{K':List (vl×LN)}(m:Mo c c' d.h h')(hr:HR B c' H' h'){u:TV}(hv:VR c' h' v u){dst:LB}(hn:zY s.nm dst v=some nm')(hK:∀n',yx d.nm n'->∀e∈K',cJ c' h' t n' e):∃n',pJ d.nm dst u=some n'/\nI B c' tm t ⟨nm',s.df,H',K'⟩ ⟨n',d.df,h'⟩:=by
 obtain⟨n',a,b,f,g⟩:=tQ (k.nm.mono m) hv hn;exact⟨n',a,hr,k.tm.mono m,f,k.df.mono m,hK n' b⟩
theorem E4(hc:zL s.K g.chk)(hx:z6 tm g.exe s=some s1)(ha:g.act=none)(k:WD E caught tm l s1 Q):WD E caught tm (g::l) s Q:=fun B c t d hd=>by
 obtain⟨a,d1,b,f,h⟩:=aJ hd hx;obtain⟨r,x,s',c',i,j,m,n,o,h2⟩:=k B a t d1 h;refine⟨r,x,s',c',i,j.mono fun C N e=>?_,m,f.trans n,o,h2⟩;unfold xV;rw[eT hd hc,b]
 grind
theorem NC{a:AR}(hc:zL s.K g.chk)(hx:z6 tm g.exe s=some s1)(ha:g.act=some o)(hw:zZ tm s1.nm o.guard=some true)(hv:qa tm s1.nm o.args=some vs)(hf:qm s1.H o.kind vs=some a)(hn:zY s1.nm o.dst a.v=some nm')(k:WD E caught tm l ⟨nm',s1.df,a.H,qt a.W s1.K⟩ Q):WD E caught tm (g::l) s Q:=fun B c t d hd=>by
 obtain⟨T,d1,m,n,b⟩:=aJ hd hx;obtain⟨us,p,q⟩:=lT b.tm b.nm hv;have i:=lm b.tm b.nm hw _ (yx.refl _);obtain⟨u,h',w,p1,p2⟩:=rW (C:=⟨fun _ _ _=>none,fun _ _ _=>none⟩) (caught:=caught) b.hr q hf;have f:∀C,act C caught o.kind us d1.h=some (.ok u h'):=fun C=>by
  rw[<- p1];unfold qm at hf
  split at hf
  .rename_i e;rw[e];rfl
  .rename_i e;rw[e];rfl
  .rename_i e;rw[e];rfl
  .rename_i e;rw[e];rfl
  .rename_i e;rw[e];rfl
  grind
 obtain⟨z,A,D⟩:=b.dput (K':=qt a.W s1.K) p2.mo p2.hr p2.v hn fun z G e I=>by
  obtain⟨j,S⟩:=Zk.1 I;refine(b.K e j).move p2.mo (fun id U y J=>p2.W id (fun V=>?_) y J) G
  grind
 obtain⟨r,x,s',c',L,M,O,P,R,h2⟩:=k B w t _ D;refine⟨r,x,s',c',L,M.mono fun C N e=>?_,O,(n.trans p2.mo).trans P,R,h2⟩;unfold xV;rw[eT hd hc,m];dsimp only[cond_true];rw[ha];dsimp only;unfold bG;rw[i];dsimp only;rw[p _ (yx.refl _)];dsimp only;rw[f C];simp only[bH,Tw.dput,A,nP];exact e
theorem bC(hc:zL s.K g.chk)(hx:z6 tm g.exe s=some s1)(ha:g.act=some o)(hw:zZ tm s1.nm o.guard=some false)(hn:zY s1.nm o.dst (.tuple [])=some nm')(k:WD E caught tm l ⟨nm',s1.df,s1.H,s1.K⟩ Q):WD E caught tm (g::l) s Q:=fun B c t d hd=>by
 obtain⟨f,d1,h,i,a⟩:=aJ hd hx;have b:=lm a.tm a.nm hw _ (yx.refl _);obtain⟨j,m,n⟩:=a.dput (K':=s1.K) (Mo.refl _ _) a.hr (VR.tL LR.nil) hn fun j p e q=>(a.K e q).move (Mo.refl _ _) (fun _ _ _ _=>rfl) p;obtain⟨r,x,s',c',u,v,w,y,z,h2⟩:=k B f t _ n;refine⟨r,x,s',c',u,v.mono fun C N e=>?_,w,i.trans y,z,h2⟩;unfold xV;rw[eT hd hc,h];dsimp only[cond_true];rw[ha];dsimp only;unfold bG;rw[b];simp only[Tw.dput,m,nP];exact e
def qf(same:Bool)(K:List (vl×LN)):List (vl×LN):=if same then K else K.filter fun e=>e.2.isEmpty
def rX(E:vC)(caught:LE)(tm:Nat->PV)(l:List uX)(s:DF)(dst:LB)(same:Bool)(Q:FX->DF->Prop):FE->LQ->Prop
 | .ret v,H'=>∃nm',zY s.nm dst v=some nm'/\WD E caught tm l ⟨nm',s.df,H',qf same s.K⟩ Q
 | .panic v,H'=>Q (.panic v) ⟨s.nm,s.df,H',qf same s.K⟩
theorem Bu{g:uX}{l:List uX}{s1:DF}{o:vl}{f:Nat}{caps:LJ}{same:Bool}(hc:zL s.K g.chk)(hx:z6 tm g.exe s=some s1)(ha:g.act=some o)(hk:o.kind=.call)(hw:zZ tm s1.nm o.guard=some true)(hv:qa tm s1.nm o.args=some (.fn f caps::vs))(k:FO E f (vs++caps) s1.H same (rX E caught tm l s1 o.dst same Q)):WD E caught tm (g::l) s Q:=fun B c t d hd=>by
 obtain⟨O,d1,P,D,i⟩:=aJ hd hx;obtain⟨us,R,S⟩:=lT i.tm i.nm hv;obtain⟨u,J,rfl,T,U⟩:=S.oc;obtain⟨cs,rfl,V⟩:=T.fn_inv;have L:=lm i.tm i.nm hw _ (yx.refl _);obtain⟨r,h',e,X,w,f1,m,j,z,n,M⟩:=k B O d1.h _ i.hr (U.app V);have G:∀p,yx d1.nm p->∀e∈qf same s1.K,cJ w h' t p e:=fun p I e q=>by
  unfold qf at q
  split at q
  .rename_i hs;exact(i.K e q).move j (fun id _ y Y=>M hs id y Y) I
  .obtain⟨he1,he2⟩:=Zk.1 q;refine(i.K e he1).move j (fun id hi=>?_) I
   grind
 have A:∀C,C.fn f (J++cs) d1.h=some (r,h')->xV C caught t (g::l) d=(match bH o.dst d1 (fd (some (r,h')))with
   | some (.go s)=>xV C caught t l s
   | r=>r):=fun C hC=>by
  conv=>lhs;unfold xV
  rw[eT hd hc,P];dsimp only[cond_true];rw[ha];dsimp only;unfold bG;rw[L];dsimp only;rw[R _ (yx.refl _)];dsimp only;rw[hk];simp only[act,eJ]
  grind
 cases e with
 | ret v =>
  cases r with
  | panic u=>exact n.elim
  | ret u =>
   obtain⟨nm',Z,m⟩:=m;obtain⟨p,n1,k2⟩:=i.dput (K':=qf same s1.K) j z (v:=v) (u:=u) n Z G;obtain⟨r2,x,s',c',d',e2,q2,m3,k3,h2⟩:=m B w t _ k2;refine⟨r2,x,s',c',d',Ev.and2 (fun C N a b=>?_) f1 e2,q2,(D.trans j).trans m3,k3,h2⟩;rw[A C a];simp only[fd,bH,Tw.dput,n1,nP];exact b
 | panic v =>
  cases r with
  | ret u=>exact n.elim
  | panic u =>
   refine⟨.panic u d1.df h',.panic v,⟨s1.nm,s1.df,X,qf same s1.K⟩,w,⟨d1.nm,d1.df,h'⟩,f1.mono fun C N a=>?_,m,D.trans j,⟨z,i.tm.mono j,i.nm.mono j,i.df.mono j,G _ (yx.refl _)⟩,.inr ⟨v,u,rfl,rfl,n⟩⟩;rw[A C a];rfl
def qu(nm:Nat->PV):LN->(Nat->PV)->(Nat->PV)
 | [],tm=>tm
 | d::l,tm=>qu nm l (zb tm d (nm d))
def sK:LN->(Nat->PV)->(Nat->PV)
 | [],tm=>tm
 | d::l,tm=>sK l (zb tm d .bad)
theorem Lx{nm:Nat->PV}{n:LA}(kn:n8 c h nm n):∀{ds:LN} {tm:Nat->PV} {t:LA},uV c h tm t->uV c h (qu nm ds tm) (dY n ds t)
 | [],_,_,k=>k
 | d::l,tm,t,k=>by
  unfold qu dY;refine Lx kn fun i=>?_;unfold zb;rw[Tr.get_set]
  by_cases e:i=d
  .rw[if_pos e,if_pos e];rcases kn d with⟨h1,_⟩|h1
   all_goals grind
  .rw[if_neg e,if_neg e];exact k i
theorem Hn:∀{ds:LN} {tm:Nat->PV} {t:LA},uV c h tm t->uV c h (sK ds tm) (dg ds t)
 | [],_,_,k=>k
 | d::l,tm,t,k=>by
  unfold sK dg;refine Hn fun i=>?_;unfold zb;rw[Tr.get_set]
  by_cases e:i=d
  .grind
  .rw[if_neg e,if_neg e];exact k i
@[reducible] def qX (ds:LN) (tm:Nat->PV) (Q:FX->vd->Prop):FX->DF->Prop
 | .norm,s=>Q .norm ⟨qu s.nm ds tm,s.df,s.H⟩
 | x,s=>Q x ⟨sK ds tm,s.df,s.H⟩
theorem ua{gs:List uX}{ds:LN}{s:vd}{Q:FX->vd->Prop}(k:WD E caught s.tm gs ⟨fun _=>.bad,s.df,s.H,[]⟩ (qX ds s.tm Q)):W E caught rnd (.drawn gs ds) s Q:=fun B c t n d o=>by
 obtain⟨r,x,s',c',b,f,g,j,a,h2⟩:=k B c t.tm ⟨.nil,t.df,t.h⟩ ⟨d.hr,d.tm,fun i=>.inl ⟨rfl,Tr.get_nil i⟩,d.df,fun e l=>by cases l⟩;rcases h2 with⟨rfl,rfl⟩|⟨v,u,rfl,rfl,m⟩
 .exact⟨.norm,⟨dY b.nm ds t.tm,b.df,b.h⟩,.norm,_,c',f.mono fun C N e=>by unfold vE;rw[e];rfl,g,.norm,j,⟨a.hr,Lx a.nm a.tm,a.df⟩⟩
 .exact⟨.panic u,⟨dg ds t.tm,b.df,b.h⟩,.panic v,_,c',f.mono fun C N e=>by unfold vE;rw[e];rfl,g,.panic m,j,⟨a.hr,Hn a.tm,a.df⟩⟩
def FY(E:vC)(id:Nat)(args:LJ)(H:LQ)(Q:Bool->LQ->Prop):Prop :=
 ∀B c h us b d z,HR B c H h->c.ρ id=some (b,d,z)->LR (VR c h) args us->∃r h' H' c',Ev E (fun C _=>C.rd b us h=some (r,h'))/\Q r H'/\Mo c c' h h'/\HR B c' H' h'
theorem MK{u:TV}(x:VR c h (.yield id) u):∃b d z,c.ρ id=some (b,d,z)/\u=.yield b:=by
 cases x with
 | pure x=>cases x
 | yield h=>grind
theorem E6{d:LB}{args:List vy}{g:Option (vy×Bool)}{ops:List vl}{s:vd}{Q:FX->vd->Prop}(hg:zX s.tm g=some true)(ha:zV s.tm args=some (.yield id::vs))(k:FY E id vs s.H fun r H'=>WO E caught ops (vd.put ⟨s.tm,s.df,H'⟩ d (.bool r)) Q):WO E caught (⟨d,.call,args,g⟩::ops) s Q:=fun B c t e=>by
 have j:=ar e.tm hg;obtain⟨us,l,m⟩:=ff e.tm ha;obtain⟨u,K,rfl,n,o⟩:=m.oc;obtain⟨b,L,z,p,rfl⟩:=MK n;obtain⟨r,h',H',c',q,v,f,w⟩:=k B c t.h _ _ _ _ e.hr p o;obtain⟨y,x,A,D,t2,G,I,i,J,h2⟩:=v B c' ((⟨t.tm,t.df,h'⟩:St).put d (.bool r)) (e.put f w (.pure (.bool r)) d);rw[put_h]at i;refine⟨y,x,A,D,t2,Ev.and2 (fun C N a b=>?_) q G,I,f.trans i,J,h2⟩;unfold kc pA;rw[j,l];simp only[mW,zh.cls,act,eJ];rw[a];exact b
theorem E5{g:uX}{l:List uX}{s1:DF}{o:vl}(hc:zL s.K g.chk)(hx:z6 tm g.exe s=some s1)(ha:g.act=some o)(hk:o.kind=.call)(hw:zZ tm s1.nm o.guard=some true)(hv:qa tm s1.nm o.args=some (.yield id::vs))(k:FY E id vs s1.H fun r H'=>∃nm',zY s1.nm o.dst (.bool r)=some nm'/\WD E caught tm l ⟨nm',s1.df,H',qf false s1.K⟩ Q):WD E caught tm (g::l) s Q:=fun B c t d hd=>by
 obtain⟨y,d1,A,D,f⟩:=aJ hd hx;obtain⟨us,G,I⟩:=lT f.tm f.nm hv;obtain⟨u,ab,rfl,J,L⟩:=I.oc;obtain⟨b,m,z,M,rfl⟩:=MK J;have p:=lm f.tm f.nm hw _ (yx.refl _);obtain⟨r,h',H',n,f1,⟨nm',O,P⟩,j,q⟩:=k B y d1.h _ _ _ _ f.hr M L;have R:∀i,yx d1.nm i->∀e∈qf false s1.K,cJ n h' t i e:=fun i S e T=>by
  obtain⟨w,ad⟩:=Zk.1 (show e∈s1.K.filter _ from T);refine(f.K e w).move j (fun id hi=>?_) S
  grind
 obtain⟨i,U,V⟩:=f.dput (K':=qf false s1.K) j q (v:=.bool r) (u:=.bool r) (.pure (.bool r)) O R;obtain⟨X,x,s',c',m,Y,Z,m3,k3,h2⟩:=P B n t _ V;refine⟨X,x,s',c',m,Ev.and2 (fun C N a b=>?_) f1 Y,Z,(D.trans j).trans m3,k3,h2⟩;unfold xV;rw[eT hd hc,A];dsimp only[cond_true];rw[ha];dsimp only;unfold bG;rw[p];dsimp only;rw[G _ (yx.refl _)];dsimp only;rw[hk];simp only[act,eJ];rw[a];simp only[EI,bH,Tw.dput,U,nP];exact b
def qC:LN->LJ->(Nat->PV)->(Nat->PV)
 | p::ps,v::vs,t=>qC ps vs (zb t p v)
 | _,_,t=>t
theorem K4:∀{ps:LN} {vs:LJ} {us:LK} {tm:Nat->PV} {t:LA},LR (VR c h) vs us->uV c h tm t->uV c h (qC ps vs tm) (bd ps us t)
 | [],vs,us,tm,t,a,k=>by cases vs<;>cases us<;>exact k
 | p::ps,[],us,tm,t,a,k=>by obtain rfl:=a.oN;exact k
 | p::ps,v::vs,us,tm,t,a,k=>by
  obtain⟨u,b,rfl,h1,h2⟩:=a.oc;show uV c h (qC ps vs (zb tm p v)) (bd ps b (t.set p (some u)));exact K4 h2 (k.put h1)
def Qf(id:Nat)(Q:Bool->LQ->Prop):FX->vd->Prop
 | .norm,s=>s.df=[]/\∃st pe tm ps aS bo m,s.H[id]?=some (.loop st pe tm ps aS bo m)/\Q true (s.H.set id (.loop .ready .norm tm ps aS bo m))
 | .panic _,_=>False
 | x,s=>s.df=[]/\∃st pe tm ps aS bo m,s.H[id]?=some (.loop st pe tm ps aS bo m)/\Q false (s.H.set id (.loop .done x tm ps aS bo m))
variable {bo:vw}{m:Nat}{pe:FX}{ps:LN}{st:LoopState}
theorem tB(k:HR B c H h){aS:vw}(hH:H[id]?=some (.loop st pe tm ps aS bo m))(hρ:c.ρ id=some (b,d,z)):
  ∃bm dm zm t pe',c.ρ m=some (bm,dm,zm)/\h.get b=some (.loop st pe' t ps aS bo bm)/\uV c h tm t/\XR c h pe pe':=by
 obtain⟨a,e,f,bm,dm,zm,t,pe',h1,h2⟩:=k.obj _ _ hH
 grind
theorem El(k:HR B c H h){bm dm zm:Nat}(hρ:c.ρ id=some (b,d,z))(hv:¬H[id]?=some .void)(hm:c.ρ m=some (bm,dm,zm)){pe':TX}{t:LA}{aS:vw}(ht:uV c h tm t)(hp:XR c h pe pe'):
  Mo c c h (h.set b (.loop st pe' t ps aS bo bm))/\HR B c (H.set id (.loop st pe tm ps aS bo m)) (h.set b (.loop st pe' t ps aS bo bm)) :=
 k.set hρ hv fun a=>⟨b,d,z,bm,dm,zm,t,pe',hρ,hm,by rw[TH.get_set _ _ _ _ (k.own _ _ hρ).2.1,if_pos rfl],ht.mono a,hp.mono a⟩
theorem EM(E:vC)(N:Nat):(EN E N).N=N:=rfl
theorem rF{aS:vw}{args:LJ}{Q:Bool->LQ->Prop}(hH:H[id]?=some (.loop st pe tm ps aS bo m))(hl:ps.length=args.length)(kW:W E .nil (some id) aS ⟨qC ps args tm,[],H⟩ fun x s1=>x=.norm/\∃pe1 nC ps1 as1 bo1 m1,s1.H[id]?=some (.loop .ready pe1 nC ps1 as1 bo1 m1) /\
   W E .nil (some id) bo ⟨s1.tm,s1.df,s1.H.set id (.loop .busy pe1 nC ps1 as1 bo1 m1)⟩ (Qf id Q)):FY E id args H Q:=fun B c h us b d z S A T=>by
 obtain⟨bm,dm,zm,t,bb,hm,hg,ht,hp⟩:=tB S hH A;obtain⟨D,t1,x,s1,c1,e1,⟨rfl,pe1,nC,ps1,as1,bo1,m1,X,Y⟩,G,O,u⟩:=kW B c ⟨bd ps us t,[],h⟩ (some b) ⟨S,K4 T ht,trivial⟩ ⟨d,z,A⟩
 cases G
 have o:=O.ρ _ _ A;obtain⟨Z,bp,bs,ab,V,uY,ad,ah,av⟩:=tB u.hr X o;obtain⟨w,a0⟩:=El u.hr (st:=.busy) (ps:=ps1) (aS:=as1) (bo:=bo1) o (fun e=>by grind) uY ah av;obtain⟨D,t3,x,I,U,e3,f,G,P,J⟩:=Y B c1 ⟨t1.tm,t1.df,t1.h.set b (.loop .busy V ab ps1 as1 bo1 Z)⟩ (some b) ⟨a0,u.tm.mono w,u.df.mono w⟩ ⟨d,z,o⟩;have R:=P.ρ _ _ o;have a1:∀r h',Ao b (some (D,t3))=some (r,h')->Ev E (fun C _=>C.rd b us h=some (r,h')):=fun r h' a2=>by
  obtain⟨K,hK⟩:=e1;obtain⟨L,hL⟩:=e3;refine⟨max K L+1,fun N hN d hd=>?_⟩;obtain⟨d,rfl⟩:∃i,d=i+1:=⟨d-1,by omega⟩
  show i6 (EN E N) (y7 (EN E N) d) b us h=_;unfold i6;rw[hg];dsimp only;unfold Ed;dsimp only;rw[wx (by rw[<- T.1];exact hl)];dsimp only[cond_true];rw[EM,hK N zo d zo];unfold Di;dsimp only;rw[ad];dsimp only;unfold BJ;dsimp only;rw[EM,hL N zo d zo];exact a2
 have fin:∀(r:Bool) (st:LoopState) (y:FX) (v:TX),XR U t3.h y v->I.df=[]->(∀p s tt2 g k n bm2,CS D t3.h b (.loop p s tt2 g k n bm2)=some (r,t3.h.set b (.loop st v tt2 g k n bm2))) ->
   (∃p s yN g k n M,I.H[id]?=some (.loop p s yN g k n M)/\Q r (I.H.set id (.loop st y yN g k n M))) ->
   ∃r h' H' c',Ev E (fun C _=>C.rd b us h=some (r,h'))/\Q r H'/\Mo c c' h h'/\HR B c' H' h':=fun r st y v a3 a4 hj ⟨p,s,yN,g,k,n,M,a5,q⟩=>by
  obtain⟨bw,bx,b0,b1,a9,aO,b2,a6,b3⟩:=tB J.hr a5 R;obtain⟨a7,a8⟩:=El J.hr (st:=st) (ps:=g) (aS:=k) (bo:=n) R (fun e=>by grind) aO a6 a3;have b4:t3.df=[]:=by
   have:=J.df;rw[a4]at this
   cases h0:t3.df with
   | nil=>rfl
   | cons a l=>rw[h0]at this;exact this.elim
  refine⟨r,_,_,U,a1 r _ ?_,q,((O.trans w).trans P).trans a7,a8⟩;unfold Ao
  grind
 cases G with
 | norm=>exact fin true .ready .norm .norm .norm f.1 (fun _ _ _ _ _ _ _=>rfl) f.2
 | exit j=>exact fin false .done (.exit j) (.exit j) (.exit j) f.1 (fun _ _ _ _ _ _ _=>rfl) f.2
 | goto j=>exact fin false .done (.goto j) (.goto j) (.goto j) f.1 (fun _ _ _ _ _ _ _=>rfl) f.2
 | ret=>exact fin false .done .ret .ret .ret f.1 (fun _ _ _ _ _ _ _=>rfl) f.2
 | panic hv=>exact f.elim
theorem rR{f:vy}{aS:vw}{s:vd}{Q:FX->vd->Prop}{g:Nat}{cap:LJ}{b:Bool}(hf:ev s.tm f=some (.fn g cap))(k:FO E g (.yield (s.H.length+1)::cap) (s.H++[.dfr false]++[.loop .ready .norm s.tm ps aS bo s.H.length]) b fun e H'=>(∃v,e=.ret v)/\∃st pe tm ps aS bo m,st ≠ .busy/\H'[s.H.length+1]?=some (.loop st pe tm ps aS bo m)/\Q pe ⟨s.tm,.mark s.H.length::s.df,H'.set (s.H.length+1) (.loop .exhausted pe tm ps aS bo m)⟩):
  W E caught none (.rangef f ps aS bo) s Q:=fun B c t p d S=>by
 obtain rfl:p=none:=by cases p with|none=>rfl|some x=>exact S.elim
 obtain⟨u,T,U⟩:=da d.tm hf;obtain⟨cs,rfl,V⟩:=U.fn_inv;obtain⟨l,X⟩:=d.hr.push (o:=.dfr false) (x:=.dfr false) (z:=0) fun m=>⟨t.h.next,0,0,add_same ..,by rw[TH.gP,if_pos rfl]⟩
 have q:(s.H++[za.dfr false]).length=s.H.length+1:=by simp
 obtain⟨i,J⟩:=X.push (o:=.loop .ready .norm s.tm ps aS bo s.H.length) (x:=.loop .ready .norm t.tm ps aS bo t.h.next) (z:=0) fun m=>by
  rw[q]at m⊢;refine⟨(t.h.push (.dfr false)).next,0,0,t.h.next,0,0,t.tm,.norm,add_same ..,?_,by rw[TH.gP,if_pos rfl],(d.tm.mono l).mono m,.norm⟩;exact m.ρ _ _ (add_same ..)
 rw[q]at i J;have O:((c.add s.H.length t.h.next 0 0).add (s.H.length+1) (t.h.push (.dfr false)).next 0 0).ρ s.H.length=some (t.h.next,0,0):=i.ρ _ _ (add_same ..);have w:((c.add s.H.length t.h.next 0 0).add (s.H.length+1) (t.h.push (.dfr false)).next 0 0).ρ (s.H.length+1)=some (t.h.next+1,0,0):=add_same ..;obtain⟨r,h',e,H',c',Y,⟨⟨v,rfl⟩,st,pe,tm,y,A,D,m',P,R,Z⟩,n,K,re,_⟩:=k B _ _ (.yield (t.h.next+1)::cs) J (LR.cons (.yield w) ((V.mono fun _ _=>VR.mono l).mono fun _ _=>VR.mono i))
 cases r with
 | panic u=>exact re.elim
 | ret u =>
  have G:=n.ρ _ _ w;obtain⟨bm,dm,zm,tt,I,hm,hg,ht,L⟩:=tB K R G;obtain⟨M,k4⟩:=El K (st:=.exhausted) (ps:=y) (aS:=A) (bo:=D) G (fun e=>by grind) hm ht L;have j:=((l.trans i).trans n).trans M;refine⟨I,⟨t.tm,.mark t.h.next::t.df,h'.set (t.h.next+1) (.loop .exhausted I tt y A D bm)⟩,pe,_,c',Y.mono fun C N a=>?_,Z,L.mono M,j,⟨k4,d.tm.mono j,⟨⟨0,0,n.ρ _ _ O⟩,d.df.mono j⟩⟩⟩;unfold vE;rw[T];simp only[Ag,rg];have a:C.fn g (.yield (t.h.next+1)::cs) ((t.h.push (.dfr false)).push (.loop .ready .norm t.tm ps aS bo t.h.next))=some (.ret u,h'):=a;rw[a];simp only[BE];rw[hg];simp only[JJ]
  all_goals (cases st<;>first|rfl|exact absurd rfl P)
inductive CI(w:World):PV->Value->Prop
 | bool (b:Bool):CI w (.bool b) (.bool b)
 | int (k:IntKind) (n:Int):CI w (.int k n) (.int k n)
 | str (s:ByteArray):CI w (.str (s.data.toList.map (·.toNat))) (.string s)
 | nilsl (p z:Nat):CI w (.list p z []) (.slice none 0 0)
 | list {p z:Nat} {l:LJ} {r off c:Nat} {cs:LG}:r<w.heap.size->l.length<=c->c<=maxLen->(∀v∈l,v.cells.length=z)->(l.flatMap PV.cells).length=cs.length ->
   (∀(i:Nat) (x:PV) (y:Value),(l.flatMap PV.cells)[i]?=some x->cs[i]?=some y->CI w x y)->(∀(j:Nat) v,cs[j]?=some v->w.cell? ⟨r,off+j,none⟩=some v)->(∀x∈l.flatMap PV.cells,zW x=true)->CI w (.list p z l) (.slice (some ⟨r,off,none⟩) l.length c)
 | agg {l:LJ} {cs:LG}:l.length=cs.length->(∀(i:Nat) (x:PV) (y:Value),l[i]?=some x->cs[i]?=some y->CI w x y)->(∀x∈l,zW x=true)->CI w (.agg l) (.agg cs.toArray)
def br(n:Nat):xF:=fun _ b=>b<n
variable {P:Program}{w:World}
theorem JG{S:xF}{u:TV}(k:PR S h v u)(h1:zW v=true):u.one=true:=by
 cases k<;>first|rfl|cases h1
structure xD(P:Program)(w:World)(ρ:zg)(h:TH)(ρ':zg)(h':TH):Prop where
 wr:WR P w.heap.size ρ' h' w
 more:∀b g loc,ρ b g=some loc->ρ' b g=some loc
 le:h.next<=h'.next
 keep:∀b,b<h.next->h'.get b=h.get b
variable {f:Nat}{ρ:zg}
theorem xD.refl(k:WR P w.heap.size ρ h w):xD P w ρ h ρ h:=⟨k,fun _ _ _ h=>h,Ym _,fun _ _=>rfl⟩
theorem xD.trans{ρ' ρ'':zg}{h' h'':TH}(a:xD P w ρ h ρ' h')(b:xD P w ρ' h' ρ'' h''):xD P w ρ h ρ'' h'' :=
 ⟨b.wr,fun x g loc c=>b.more _ _ _ (a.more _ _ _ c),YY a.le b.le,fun x c=>by rw[b.keep x (YS c a.le),a.keep x c]⟩
theorem xD.pr{ρ':zg}{h':TH}(a:xD P w ρ h ρ' h'){u:TV}(k:PR (br h.next) h v u):PR (br h'.next) h' v u :=
 k.mono (fun _ _ b=>YS b a.le) fun _ _ _ _ _ _ _ c=>DV a.keep c
theorem si{R:PV->Value->Prop}(hR:∀x y,R x y->∀ρ h,WR P w.heap.size ρ h w->∃ρ' h' u,xD P w ρ h ρ' h'/\PR (br h'.next) h' x u/\Tw.VR ρ' u y) :
  ∀{l:LJ} {cs:LG},l.length=cs.length->(∀(i:Nat) (x:PV) (y:Value),l[i]?=some x->cs[i]?=some y->R x y)->∀ρ h,WR P w.heap.size ρ h w->∃ρ' h' us,xD P w ρ h ρ' h'/\LR (PR (br h'.next) h') l us/\VL ρ' us cs
 | [],[],_,_,ρ,h,k=>⟨ρ,h,[],xD.refl k,LR.nil,VL.nil _⟩
 | [],_::_,d,_,_,_,_=>by grind
 | _::_,[],d,_,_,_,_=>by grind
 | x::l,y::cs,d,e,ρ,h,k=>by
  obtain⟨g,h1,u,f,p1,j⟩:=hR x y (e 0 x y rfl rfl) ρ h k;obtain⟨m,h2,us,c,p2,n⟩:=si hR (l:=l) (cs:=cs) (by grind) (fun i a b o p=>e (i+1) a b (by grind) (by grind)) g h1 f.wr;exact⟨m,h2,u::us,f.trans c,LR.cons (c.pr p1) p2,.cons (j.mono c.more) n⟩
theorem We(k:WR P w.heap.size ρ h w){r L:Nat}(hr:r<w.heap.size){cells:LA}(hc:∀i x,cells.get i=some x->∃v,w.cell? ⟨r,i,none⟩=some v/\x.one=true/\Tw.VR ρ x v):
  xD P w ρ h (ρ.add h.next 0 ⟨r,L,0⟩) (h.push (.ro cells)):=by
 have n:∀g,ρ h.next g=none:=fun g=>by
  cases p:ρ h.next g with
  | none=>rfl
  | some loc=>have:=(k.dom _ _ _ p).1;omega
 have f:=zg.add_more (loc:=⟨r,L,0⟩) (n 0);have j:=k.push (.ro cells);refine⟨⟨fun b g loc a=>?_,fun b g loc a=>?_,fun b B g q loc l a c e s=>?_⟩,f,by rw[TH.nP];omega,fun b d=>by rw[TH.gP,if_neg zo]⟩
 .rcases zg.add_inv a with⟨rfl,rfl,rfl⟩|a
  .exact⟨by rw[TH.nP];omega,.inr ⟨cells,by rw[TH.gP,if_pos rfl]⟩,hr⟩
  .exact j.dom b g loc a
 .by_cases d:b=h.next
  .subst d;refine⟨.ro cells,by rw[TH.gP,if_pos rfl],fun q l c=>?_⟩;rcases zg.add_inv c with⟨_,rfl,rfl⟩|c
   .refine⟨rfl,fun i x t=>?_⟩;obtain⟨v,u,y,z⟩:=hc i x t;exact⟨v,u,y,z.mono f⟩
   grind
  .have c:ρ b g=some loc:=by rw[<- a,zg.add_ne d]
   obtain⟨o,A,m⟩:=j.obj b g loc c;exact⟨o,A,m.move f (fun g=>zg.add_ne d g) fun _ _ _=>rfl⟩
 .rcases zg.add_inv a with⟨_,_,rfl⟩|ha
  .grind
  .rcases zg.add_inv c with⟨_,_,rfl⟩|ha'
   .grind
   .exact k.sep _ _ _ _ _ _ ha ha' e s
theorem CI.lay{v':Value}(a:CI w v v'):∀ρ h,WR P w.heap.size ρ h w->∃ρ' h' u,xD P w ρ h ρ' h'/\PR (br h'.next) h' v u/\Tw.VR ρ' u v':=by
 induction a with
 | bool b=>intro ρ h k;exact⟨ρ,h,_,xD.refl k,.bool b,.bool b⟩
 | int C n=>intro ρ h k;exact⟨ρ,h,_,xD.refl k,.int C n,.int C n⟩
 | str s=>intro ρ h k;exact⟨ρ,h,_,xD.refl k,.str _,.str s⟩
 | nilsl p z=>intro ρ h k;exact⟨ρ,h,_,xD.refl k,.listnil p z,.nilsl⟩
 | @list p z l r off c cs O Q K D m _ I o q =>
  intro ρ h k;obtain⟨t,h1,us,f,p1,g⟩:=si (R:=fun x y=>∀ρ h,WR P w.heap.size ρ h w->∃ρ' h' u,xD P w ρ h ρ' h'/\PR (br h'.next) h' x u/\Tw.VR ρ' u y) (fun _ _ h=>h) m q ρ h k;have M:us.length=l.length*z:=by rw[<- p1.1,Cq D]
  have J:∀i x,(Tr.putL .nil off us).get i=some x->∃v,w.cell? ⟨r,i,none⟩=some v/\x.one=true/\Tw.VR t x v:=fun i x d=>by
   rw[Tr.get_putL]at d
   split at d
   .rename_i A;have e:i-off<cs.length:=by rw[<- g.1];omega
    have B:i-off<(l.flatMap PV.cells).length:=by rw[p1.1];omega
    refine⟨cs[i-off],?_,?_,g.2 _ _ _ d (Yk e)⟩
    .have:=I (i-off) _ (Yk e)
     grind
    .exact JG (p1.2 _ _ _ (Yk B) d) (o _ (YX B))
   .rw[Tr.get_nil]at d;cases d
  have G:=We f.wr (L:=off+l.length*z) O J;refine⟨_,_,.sl h1.next 0 off l.length (2*l.length+1) z,f.trans G,?_,?_⟩
  .have N:wK (h1.push (.ro (Tr.putL .nil off us))) h1.next 0 off (l.length*z)=some us:=by
    refine oV (x:=.ro (Tr.putL .nil off us)) (by rw[TH.gP,if_pos rfl]) ?_;unfold mC;dsimp only;rw[wx rfl,<- M];exact fi fun j S=>by rw[Tr.get_putL,if_pos zo];grind
   have p2:=p1.mono fun _ _=>G.pr;exact .list (show h1.next<(h1.push (.ro (Tr.putL .nil off us))).next by rw[TH.nP];omega) N zo D p2.1 p2.2
  .refine .sl (loc:=⟨r,off+l.length*z,0⟩) (zg.aS _ _ _ _) zo zo ?_ (.inl rfl) (fun h=>by omega) K
   grind
 | @agg l cs m _ o q =>
  intro ρ h k;obtain⟨t,h1,us,f,p1,g⟩:=si (R:=fun x y=>∀ρ h,WR P w.heap.size ρ h w->∃ρ' h' u,xD P w ρ h ρ' h'/\PR (br h'.next) h' x u/\Tw.VR ρ' u y) (fun _ _ h=>h) m q ρ h k;refine⟨t,h1,.agg us,f,.agg p1.1 p1.2,Tw.VR.aggL g fun x d=>?_⟩;obtain⟨i,A,rfl⟩:=YU.1 d;have e:i<l.length:=by rw[p1.1];exact A
  exact JG (p1.2 _ _ _ (Yk e) (Yk A)) (o _ (YX e))
theorem mI.EN(h:mI P E)(N:Nat):mI P (EN E N):=⟨h.mix,h.fn,h.spec,h.caught⟩
theorem FP.real(hE:mI P E){b:Bool}(k:FP E f args (.ret (.bool b))){args':LG}(hl:args.length=args'.length)(ha:∀(i:Nat) (x:PV) (y:Value),args[i]?=some x->args'[i]?=some y->CI w x y):
  (∀w,(callFunc f args'.toArray).run P w=.ok (.enter f args'.toArray) w)/\CallsIn (Fr none) 0 P f args'.toArray w fun e w'=>e=.returned (.bool b)/\Below w.heap.size w w':=by
 obtain⟨ρ,h,us,g,p1,j⟩:=si (R:=CI w) (fun x y a=>a.lay) hl ha _ _ (WR.start w);obtain⟨r,h',⟨K,l⟩,_,_,c⟩:=k (br h.next) h us (fun _ _ d=>d) p1
 cases r with
 | panic u=>exact c.elim
 | ret u =>
  have m:u=.bool b:=by
   have c:PR _ h' (.bool b) u:=c
   cases c;rfl
  subst m;obtain⟨n,o⟩:=(BZ (mI.EN hE K) K).1 f us h _ h' (l K (Ym _) K (Ym _)) w.heap.size ρ w args' g.wr (Ym _) j;refine⟨n,o.mono ?_⟩;rintro e w' ⟨ρ',_,_,d,_,v',rfl,p⟩
  cases p
  grind
theorem FP.calls(hE:mI P E){b:Bool}(k:FP E f args (.ret (.bool b))){args':LG}(hl:args.length=args'.length)(ha:∀(i:Nat) (x:PV) (y:Value),args[i]?=some x->args'[i]?=some y->CI w x y):
  Calls P f args'.toArray w fun e w'=>e=.returned (.bool b)/\Below w.heap.size w w':=callsIn_wide.1 (FP.real hE k hl ha).2
theorem lx{g:LK->TH->Option (TE×TH)}(hf:E.funcs.get f=none)(hg:E.spec f=some g){e:FE}(k:∀S h us,(∀p b,S p b->b<h.next)->LR (PR S h) args us->∃r h',g us h=some (r,h')/\h.next<=h'.next/\(∀b,b<h.next->h'.get b=h.get b)/\RE (PR (S0 S h.next h'.next) h') e r):FN E f args e:=fun S h us a c=>by
 obtain⟨r,h',h1,h2⟩:=k S h us a c;refine⟨r,h',⟨1,fun N j d hd=>?_⟩,h2⟩;obtain⟨d,rfl⟩:∃i,d=i+1:=⟨d-1,by omega⟩
 show zC (EN E N) (y7 (EN E N) d) f us h=_;unfold zC;rw[show (EN E N).funcs.get f=none from hf];dsimp only;rw[show (EN E N).spec f=some g from hg];exact h1
def rm(us:LK)(h:TH):Option (TE×TH):=match us with
 | []=>some (.ret (.bool true),h)
 | _=>none
theorem M5(hf:E.funcs.get f=none)(hg:E.spec f=some rm):FN E f [] (.ret (.bool true)) :=
 lx hf hg fun S h us b a=>by
  obtain rfl:=a.oN;exact⟨_,h,rfl,Ym _,fun _ _=>rfl,.bool true⟩
theorem XK(henter:∀w,(callFunc f #[]).run P w=.ok (.enter f #[]) w)(h:∀w,CallsIn (Fr none) 0 P f #[] w fun e w'=>e=.returned (.bool true)/\Below w.heap.size w w'):
  ∀(Z:Nat) (ρ:zg) (w:World) (args:LK) (args':LG) (h:TH) (r:TE) (h':TH),rm args h=some (r,h')->WR P Z ρ h w->Z<=w.heap.size->VL ρ args args' ->
  (∀w,(callFunc f args'.toArray).run P w=.ok (.enter f args'.toArray) w)/\CallsIn (Fr none) 0 P f args'.toArray w (kj P Z ρ h h' w r):=by
 intro Z ρ w args args' i r h' b k c d;unfold rm at b
 split at b
 .obtain rfl:=d.oN
  cases b
  refine⟨henter,(h w).mono ?_⟩;rintro e w' ⟨rfl,a⟩;exact⟨ρ,zg.le.refl _ _,k.world a.size fun r b=>a.block r b,⟨a.os,a.tape,a.output,a.size,fun j g=>a.block j (YS g c)⟩,Ym _,_,rfl,.bool true⟩
 grind
section plain
variable (k k':IntKind)(x y:Int)
variable (a b:Bool)
theorem js:wm (wO .add) [.int k x,.int k y]=some (.int k (k.wrap (x+y))):=by simp[wm,PV.toT,wO,kv,ku,yb]
theorem jP:wm (wO .sub) [.int k x,.int k y]=some (.int k (k.wrap (x-y))):=by simp[wm,PV.toT,wO,kv,ku,yb]
theorem jF:wm (wO .mul) [.int k x,.int k y]=some (.int k (k.wrap (x*y))):=by simp[wm,PV.toT,wO,kv,ku,yb]
theorem jL(h:y≠0):wm (wO .quo) [.int k x,.int k y]=some (.int k (k.wrap (x.tdiv y))):=by
 have:(y==0)=false:=by simpa using h
 simp[wm,PV.toT,wO,kv,ku,yb,x9,this]
theorem jM(h:y≠0):wm (wO .rem) [.int k x,.int k y]=some (.int k (x.tmod y)):=by
 have:(y==0)=false:=by simpa using h
 simp[wm,PV.toT,wO,kv,ku,yb,x9,this]
theorem jx:wm (wO .eql) [.int k x,.int k y]=some (.bool (decide (x=y))):=by
 simp[wm,PV.toT,wO,kv,ku,yb,x9];rfl
theorem jJ:wm (wO .neq) [.int k x,.int k y]=some (.bool (!decide (x=y))):=by
 simp[wm,PV.toT,wO,kv,ku,yb,x9];rfl
theorem jC:wm (wO .lss) [.int k x,.int k y]=some (.bool (decide (x<y))):=by
 simp[wm,PV.toT,wO,kv,ku,yb,mv]
 grind
theorem jB:wm (wO .leq) [.int k x,.int k y]=some (.bool (decide (x<=y))):=by
 simp[wm,PV.toT,wO,kv,ku,yb,mv]
theorem jz:wm (wO .gtr) [.int k x,.int k y]=some (.bool (decide (y<x))):=by
 simp[wm,PV.toT,wO,kv,ku,yb,mv]
 grind
theorem jy:wm (wO .geq) [.int k x,.int k y]=some (.bool (decide (y<=x))):=by
 simp[wm,PV.toT,wO,kv,ku,yb,mv]
theorem ju:kX (iF k) [.int k' x]=some (.int k (k.wrap x)):=by simp[kX,PV.toT,iF,yb]
theorem jK:kX (mB .not) [.bool b]=some (.bool (!b)):=by simp[kX,PV.toT,mB,DA,yb]
theorem jI:kX (mB .neg) [.int k x]=some (.int k (k.wrap (0-x))):=by simp[kX,PV.toT,mB,Dy,yb]
theorem jv:wm (iG false) [.bool a,.bool b]=some (.bool (a==b)):=by cases a<;>cases b<;>rfl
theorem jG:wm (iG true) [.bool a,.bool b]=some (.bool (!(a==b))):=by cases a<;>cases b<;>rfl
theorem jD:wm (aa true) [.int k x,.int k y]=some (.int k (max x y)):=by
 simp[wm,PV.toT,aa,yb,mv]
 grind
theorem jE:wm (aa false) [.int k x,.int k y]=some (.int k (min x y)):=by
 simp[wm,PV.toT,aa,yb,mv]
 grind
end plain
variable {R:FE->LQ->Prop}{rest:vw}{x:Int}
theorem yD(tm:Nat->PV){d t:Nat}(v:PV)(h:t≠d):zb tm d v t=tm t:=if_neg h
theorem jV(tm:Nat->PV)(df:AV)(H:LQ)(d:Nat)(v:PV):vd.put ⟨tm,df,H⟩ (some d) v=⟨zb tm d v,df,H⟩:=rfl
theorem jU(s:vd)(v:PV):s.put none v=s:=rfl
theorem wrap_i64(h1:-9223372036854775808<=x)(h2:x<9223372036854775808):IntKind.i64.wrap x=x:=IntWalk.i64_in x zo
theorem wrap_u64(h1:0<=x)(h2:x<18446744073709551616):IntKind.u64.wrap x=x:=IntWalk.u64_in x zo
theorem ug{s:vd}{Q:FX->vd->Prop}(k:W E caught rnd rest s Q):WO E caught [] s (iU ops (gQ (fun s'=>W E caught rnd rest s' Q) Q)):=bD k
theorem km{s:vd}{Q:FX->vd->Prop}(k:Q .norm s):WO E caught [] s (iU ops Q):=bD k
theorem pK(h:zj tm H F.res=some vs)(k:R (.ret (bf vs)) H):ye E F R .ret ⟨tm,[],H⟩:=⟨vs,h,k⟩
theorem dc(h:zj tm H F.res=some vs)(k:R (.ret (bf vs)) H):ye E F R .norm ⟨tm,[],H⟩:=⟨vs,h,k⟩
@[reducible] def iv (n:Int):PV:=.int .i64 n
@[reducible] def uv (n:Nat):PV:=.int .u64 n
theorem Lb.unit:Lb (.tuple []):=.tuple (fun x h=>by cases h)
def zC:List vl->vd->vd×List vl
 | [],s=>(s,[])
 | o::l,s=>match qD o s with
  | some s'=>zC l s'
  | none=>(s,o::l)
theorem rP{Q:FX->vd->Prop}{s':vd}{r:List vl}:∀{ops:List vl} {s:vd},zC ops s=(s',r)->WO E caught r s' Q->WO E caught ops s Q
 | [],s,h,k=>by simp only[zC]at h;cases h;exact k
 | o::l,s,h,k=>by
  simp only[zC]at h
  split at h
  .rename_i s1 h1;exact NG h1 (rP h k)
  grind
theorem NI{x:vy}{s:vd}{Q:FX->vd->Prop}{b:Bool}(hx:ev s.tm x=some (.bool b))(h1:b=true->W E caught rnd rest s Q)(h2:b=false->Q (.exit id) s):W E caught rnd (.seq (.cond x .skip (.exit id)) rest) s Q:=by
 refine vj (rQ hx (fun h=>wY (h1 h)) fun h=>eE (h2 h))
theorem lF{x:vy}{s:vd}{Q:FX->vd->Prop}(h:W E caught rnd (.seq (.region ops) (.seq (.cond x .skip (.exit id)) rest)) s Q):W E caught rnd (.seq (.seq (.region ops) (.cond x .skip (.exit id))) rest) s Q:=fun B c t a b e=>by
 obtain⟨f,g,y,s',c',⟨K,i⟩,h2⟩:=h B c t a b e;refine⟨f,g,y,s',c',⟨K,fun N j d hd=>?_⟩,h2⟩;have:=i N j d hd;rw[<- this];simp only[vE]
 cases k:rp (aL ops) (kc (y7 (EN E N) d) caught ops t)with
 | none=>rfl
 | some r =>
  grind
variable {E:vC}{caught:LE}{rnd:LB}
def Cx.lazy(c:Cx)(n:Nat):Cx:=⟨c.S,c.ρ,fun i=>c.L i\/i=n⟩
theorem HR.lazy(k:HR B c H h)(e z:Nat):Mo c (c.lazy H.length) h h/\HR B (c.lazy H.length) (H++[.row e z 0 0 []]) h:=by
 have l:c.ρ H.length=none:=by
  cases n:c.ρ H.length with
  | none=>rfl
  | some y=>have:=(k.own _ _ n).2.2;omega
 have m:Mo c (c.lazy H.length) h h:=⟨fun _ _ h=>h,fun _ _ h=>h,fun _ h=>.inl h,fun _ _ _ _ _ _ _ h=>h⟩
 refine⟨m,⟨k.le,k.keep,k.old,fun p b g=>⟨(k.S p b g).1,fun i x d e=>by have:=(k.S p b g).2 i x d e;grind⟩,fun id x d=>?_,fun id f=>?_,k.inj,fun id o a=>?_⟩⟩
 .obtain⟨h1,h2,h3⟩:=k.own id x d
  grind
 .rcases f with f|rfl
  .obtain⟨h1,h2⟩:=k.lz id f;exact⟨by grind,h2⟩
  .exact⟨by simp,fun x d=>by have:c.ρ H.length=some x:=d;grind⟩
 .by_cases q:id<H.length
  .rw[YP q]at a;exact(k.obj id o a).move m rfl (fun h=>.inl h) fun _ _=>rfl
  .rw[YN zo]at a;have j:id-H.length=0:=by grind
   rw[j]at a;simp at a;subst a;obtain rfl:id=H.length:=zo;exact .inl ⟨rfl,rfl,l,.inr rfl⟩
def ya(H:LQ)(z:Nat):PV:=.sl H.length 0 0 0 0 z
variable {G:Nat}{code:vw}{e0:Nat}{v':PV}{z0:Nat}(e z:Nat)
theorem kp{s:vd}{Q:FX->vd->Prop}{i:Nat}(hi:s.tm i=.nilsl)(k:W E caught rnd code ⟨zb s.tm i (ya s.H z),s.df,s.H++[.row e z 0 0 []]⟩ Q):W E caught rnd code s Q:=fun B c t f a l=>by
 obtain⟨m,n⟩:=a.hr.lazy e z;have g:uV (c.lazy s.H.length) t.h (zb s.tm i (ya s.H z)) t.tm:=fun j=>by
  unfold zb
  by_cases d:j=i
  .rw[if_pos d];subst d;rcases a.tm j with h1|⟨u,o,b⟩
   .grind
   .rw[hi]at b;obtain rfl:u=.nilsl:=by cases b with|pure b=>cases b;rfl
    exact .inr ⟨_,o,.slnil _ (.inr rfl)⟩
  .rw[if_neg d];exact(a.tm.mono m) j
 obtain⟨p,q,x,s',c',r,v,w,y,A⟩:=k B _ t f ⟨n,g,a.df.mono m⟩ (l.mono m);exact⟨p,q,x,s',c',r,v,w,m.trans y,A⟩
theorem HR.lazyBox(k:HR B c H h)(e z:Nat){M:Nat}(hH:H[id]?=some (.row e0 z0 G M [v]))(hl:v'.cells.length=v.cells.length)(hc:∀(i:Nat) (x y:PV),v.cells[i]?=some x->v'.cells[i]?=some y->y=x\/(x=.nilsl/\y=ya H z)):
  Mo c (c.lazy H.length) h h/\HR B (c.lazy H.length) (H.set id (.row e0 z0 G M [v'])++[.row e z 0 0 []]) h:=by
 obtain⟨m,a⟩:=k.lazy e z;have hid:id<H.length:=(Yl.1 hH).1;refine⟨m,⟨a.le,a.keep,a.old,fun p b r=>⟨(a.S p b r).1,fun i x f e=>?_⟩,fun i x f=>?_,fun i w=>?_,a.inj,fun i o s=>?_⟩⟩
 .have g:=(a.S p b r).2 i x f e
  grind
 .have:=a.own i x f;grind
 .have:=a.lz i w;grind
 .by_cases A:i=id
  .subst A;rw[YP (by grind),Yz hid]at s
   cases s
   have u:=a.obj i (.row e0 z0 G M [v]) (by grind);rcases u with⟨h1,_⟩|⟨b,d,C,D,cells,cs,h1,h2,h3,h4,I,t⟩
   .cases h1
   .refine .inr ⟨b,d,C,D,cells,cs,h1,h2,h3,h4,I,ER.one' (by rw[hl];exact t.one v (by simp)) ?_⟩;have n:LR (VR (c.lazy H.length) h) v.cells cs:=by have:=t.all;simpa using this
    refine⟨by rw[hl];exact n.1,fun j x y f J=>?_⟩;obtain⟨l,q⟩:∃l,v.cells[j]?=some l:=⟨_,Yk (by grind)⟩
    have g:=n.2 j l y q J;rcases hc j l x q f with rfl|⟨rfl,rfl⟩
    .exact g
    .obtain rfl:y=.nilsl:=by cases g with|pure g=>cases g;rfl
     exact .slnil _ (.inr rfl)
  .refine a.obj i o ?_
   grind
theorem eI{s:vd}{Q:FX->vd->Prop}{M:Nat}(hH:s.H[id]?=some (.row e0 z0 G M [v]))(hl:v'.cells.length=v.cells.length)(hc:∀(i:Nat) (x y:PV),v.cells[i]?=some x->v'.cells[i]?=some y->y=x\/(x=.nilsl/\y=ya s.H z))(k:W E caught rnd code ⟨s.tm,s.df,s.H.set id (.row e0 z0 G M [v'])++[.row e z 0 0 []]⟩ Q):W E caught rnd code s Q:=fun B c t b a d=>by
 obtain⟨m,f⟩:=a.hr.lazyBox e z hH hl hc;obtain⟨g,h,x,s',c',j,l,n,o,p⟩:=k B _ t b ⟨f,a.tm.mono m,a.df.mono m⟩ (d.mono m);exact⟨g,h,x,s',c',j,l,n,m.trans o,p⟩
theorem By{s:vd}{Q:FX->vd->Prop}{M:Nat}(hH:s.H[id]?=some (.row e0 z0 G M [.nilsl]))(k:W E caught rnd code ⟨s.tm,s.df,s.H.set id (.row e0 z0 G M [ya s.H z])++[.row e z 0 0 []]⟩ Q):W E caught rnd code s Q :=
 eI (v:=.nilsl) (v':=ya s.H z) e z hH rfl (fun i x y a b=>by
  cases i with
  | zero=>simp[PV.cells,ya]at a b;subst a;subst b;exact .inr ⟨rfl,rfl⟩
  | succ i=>simp[PV.cells]at a) k
theorem zd(G:List α)(x y:α):(G++[x]).set G.length y=G++[y]:=by grind
theorem zc(G:List α)(x:α):(G++[x])[G.length]?=some x:=by simp
theorem lE{aS:LJ}{nm':Nat->PV}(hc:zL s.K g.chk)(hx:z6 tm g.exe s=some s1)(ha:g.act=some o)(hk:o.kind=.call)(hw:zZ tm s1.nm o.guard=some true)(hv:qa tm s1.nm o.args=some (.fn f caps::vs))(k:FN E f aS (.ret v))(hl:LF s1.H 1 (vs++caps) aS)(hn:zY s1.nm o.dst v=some nm')(hQ:WD E caught tm l ⟨nm',s1.df,s1.H,s1.K⟩ Q):WD E caught tm (g::l) s Q :=
 Bu hc hx ha hk hw hv ((FN.FO k hl).mono fun e b a=>by obtain⟨rfl,rfl⟩:=a;exact⟨nm',hn,hQ⟩)
theorem ND{aS:LJ}(hc:zL s.K g.chk)(hx:z6 tm g.exe s=some s1)(ha:g.act=some o)(hk:o.kind=.call)(hw:zZ tm s1.nm o.guard=some true)(hv:qa tm s1.nm o.args=some (.fn f caps::vs))(k:FN E f aS (.panic v))(hl:LF s1.H 1 (vs++caps) aS)(hQ:Q (.panic v) s1):WD E caught tm (g::l) s Q :=
 Bu hc hx ha hk hw hv ((FN.FO k hl).mono fun e b a=>by obtain⟨rfl,rfl⟩:=a;exact hQ)
variable {E:vC}
inductive NR(n:Nat):PV->Prop
 | bool (b:Bool):NR n (.bool b)
 | int (k:IntKind) (m:Int):NR n (.int k m)
 | str (s:LN):NR n (.str s)
 | nilptr:NR n .nilptr
 | nilsl:NR n .nilsl
 | nilmap:NR n .nilmap
 | nilfn:NR n .nilfn
 | niliface:NR n .niliface
 | list (p z:Nat) (l:LJ):NR n (.list p z l)
 | elem (l:LJ):NR n (.elem l)
 | sl {id:Nat} (g o m q z:Nat):id<n->NR n (.sl id g o m q z)
 | ptr {id:Nat} (g i o m:Nat):id<n->NR n (.ptr id g i o m)
 | map {id:Nat}:id<n->NR n (.map id)
 | yield {id:Nat}:id<n->NR n (.yield id)
 | iface {t:Nat} {v:PV}:NR n v->NR n (.iface t v)
 | fn {f:Nat} {l:LJ}:(∀x∈l,NR n x)->NR n (.fn f l)
 | agg {l:LJ}:(∀x∈l,NR n x)->NR n (.agg l)
 | tuple {l:LJ}:(∀x∈l,NR n x)->NR n (.tuple l)
def Nj(n:Nat):FX->Prop
 | .panic v=>NR n v
 | _=>True
def xa(n:Nat):za->Prop
 | .row _ _ _ _ l=>∀x∈l.flatMap PV.cells,NR n x
 | .mapI _ m=>∀x v,m x=some v->NR n v
 | .mapS m=>∀x v,m x=some v->NR n v
 | .loop _ pe tm _ _ _ m=>m<n/\(∀i,tm i=.bad\/NR n (tm i))/\Nj n pe
 | _=>True
def EV(n:Nat):FE->Prop
 | .ret v=>NR n v
 | .panic v=>NR n v
def Cx.cut(c:Cx)(n:Nat):Cx:=⟨c.S,fun i=>if i<n then c.ρ i else none,fun i=>c.L i/\i<n⟩
section
variable {c:Cx}{h:TH}{n:Nat}
variable {o:za}{u:TV}
theorem mg(hi:id<n){x}(hx:c.ρ id=some x):(c.cut n).ρ id=some x:=by
 show (if id<n then c.ρ id else none)=_
 grind
theorem eY{x}(hx:(c.cut n).ρ id=some x):id<n/\c.ρ id=some x:=by
 have hx:(if id<n then c.ρ id else none)=some x:=hx
 grind
theorem VR.cut(k:VR c h v u):NR n v->VR (c.cut n) h v u:=by
 induction k with
 | pure k=>intro _;exact .pure k
 | sl e=>intro a;cases a with|sl _ _ _ _ _ b=>exact .sl (mg b e)
 | slnil z j=>intro a;cases a with|sl _ _ _ _ _ b=>exact .slnil z ⟨j,b⟩
 | ptr e=>intro a;cases a with|ptr _ _ _ _ b=>exact .ptr (mg b e)
 | map e=>intro a;cases a with|map b=>exact .map (mg b e)
 | yield e=>intro a;cases a with|yield b=>exact .yield (mg b e)
 | iface _ f=>intro a;cases a with|iface a=>exact .iface (f a)
 | fn h1 _ f=>intro a;cases a with|fn a=>exact .fn h1 fun i x y d g=>f i x y d g (a x (Yt d))
 | agg h1 _ f=>intro a;cases a with|agg a=>exact .agg h1 fun i x y d g=>f i x y d g (a x (Yt d))
 | tuple h1 _ f=>intro a;cases a with|tuple a=>exact .tuple h1 fun i x y d g=>f i x y d g (a x (Yt d))
theorem PR.nr{S:xF}(k:PR S h v u):NR n v:=by
 induction k with
 | bool b=>exact .bool b
 | int k n=>exact .int k n
 | str s=>exact .str s
 | nilptr=>exact .nilptr
 | nilsl=>exact .nilsl
 | nilmap=>exact .nilmap
 | nilfn=>exact .nilfn
 | niliface=>exact .niliface
 | iface _ a=>exact .iface a
 | listnil p z=>exact .list p z _
 | list _ _ _ _ _ _ _=>exact .list _ _ _
 | elem _ _ _ _ _=>exact .elem _
 | fn h1 _ a =>
  refine .fn fun x c=>?_;obtain⟨i,d,rfl⟩:=YU.1 c;exact a i _ _ (Yk d) (Yk (by omega))
 | agg h1 _ a =>
  refine .agg fun x c=>?_;obtain⟨i,d,rfl⟩:=YU.1 c;exact a i _ _ (Yk d) (Yk (by omega))
 | tuple h1 _ a =>
  refine .tuple fun x c=>?_;obtain⟨i,d,rfl⟩:=YU.1 c;exact a i _ _ (Yk d) (Yk (by omega))
theorem VR.nr(k:HR B c H h)(x:VR c h v u):NR H.length v:=by
 induction x with
 | pure x=>exact x.nr
 | sl a=>exact .sl _ _ _ _ _ (k.own _ _ a).2.2
 | slnil z f=>exact .sl _ _ _ _ _ (k.lz _ f).1
 | ptr a=>exact .ptr _ _ _ _ (k.own _ _ a).2.2
 | map a=>exact .map (k.own _ _ a).2.2
 | yield a=>exact .yield (k.own _ _ a).2.2
 | iface _ b=>exact .iface b
 | fn h1 _ b =>
  refine .fn fun x d=>?_;obtain⟨i,e,rfl⟩:=YU.1 d;exact b i _ _ (Yk e) (Yk (by omega))
 | agg h1 _ b =>
  refine .agg fun x d=>?_;obtain⟨i,e,rfl⟩:=YU.1 d;exact b i _ _ (Yk e) (Yk (by omega))
 | tuple h1 _ b =>
  refine .tuple fun x d=>?_;obtain⟨i,e,rfl⟩:=YU.1 d;exact b i _ _ (Yk e) (Yk (by omega))
theorem OR.nr(k:HR B c H h)(hH:H[id]?=some o):xa H.length o:=by
 have g:=k.obj _ _ hH
 cases o with
 | row e z G M l =>
  rcases g with⟨rfl,_⟩|⟨b,d,s,w,cells,cs,_,_,_,_,_,j⟩
  .intro x a;simp at a
  .intro x a;obtain⟨i,n,rfl⟩:=YU.1 a;exact(j.all.2 i _ _ (Yk n) (Yk (by rw[<- j.all.1];exact n))).nr k
 | mapI y m =>
  obtain⟨b,d,z,es,clock,_,_,h3⟩:=g;intro x v a;obtain⟨u,_,f⟩:=h3.some x v a;exact f.nr k
 | mapS m =>
  obtain⟨b,d,z,es,clock,_,_,h3⟩:=g;intro x v a;obtain⟨u,_,f⟩:=h3.some x v a;exact f.nr k
 | loop st pe tm ps aS bo m =>
  obtain⟨b,d,z,A,C,D,t,r,_,h2,_,h4,p⟩:=g;refine⟨(k.own _ _ h2).2.2,fun i=>?_,?_⟩
  .rcases h4 i with h4|⟨u,_,f⟩
   .grind
   .exact .inr (f.nr k)
  .cases p with
   | panic q=>exact q.nr k
   | _=>trivial
 | _=>trivial
theorem OR.cut(hi:id<n)(ho:OR c h id o)(hn:xa n o):OR (c.cut n) h id o:=by
 cases o with
 | row e z G M l =>
  rcases ho with⟨h1,h2,h3,h4⟩|⟨b,d,q,r,cells,cs,h1,h2,h3,h4,j,k⟩
  .exact .inl ⟨h1,h2,by show (if id<n then c.ρ id else none)=none;grind,h4,hi⟩
  .exact .inr ⟨b,d,q,r,cells,cs,mg hi h1,h2,h3,h4,j,k.one,k.all.1,fun i x y a s=>(k.all.2 i x y a s).cut (hn x (Yt a))⟩
 | map0=>obtain⟨b,d,z,clock,h1,h2⟩:=ho;exact⟨b,d,z,clock,mg hi h1,h2⟩
 | mapI I m =>
  obtain⟨b,d,z,es,clock,h1,h2,h3⟩:=ho;exact⟨b,d,z,es,clock,mg hi h1,h2,h3.keys,fun x v a=>by obtain⟨u,f,g⟩:=h3.some x v a;exact⟨u,f,g.cut (hn x v a)⟩,h3.none⟩
 | mapS m =>
  obtain⟨b,d,z,es,clock,h1,h2,h3⟩:=ho;exact⟨b,d,z,es,clock,mg hi h1,h2,h3.keys,fun x v a=>by obtain⟨u,f,g⟩:=h3.some x v a;exact⟨u,f,g.cut (hn x v a)⟩,h3.none⟩
 | dfr D=>obtain⟨b,d,z,h1,h2⟩:=ho;exact⟨b,d,z,mg hi h1,h2⟩
 | loop st pe tm ps aS bo m =>
  obtain⟨b,d,z,w,A,B,t,p,h1,h2,h3,h4,j⟩:=ho;refine⟨b,d,z,w,A,B,t,p,mg hi h1,mg hn.1 h2,h3,fun i=>?_,?_⟩
  .rcases h4 i with h4|⟨u,f,g⟩
   .grind
   .rcases hn.2.1 i with hb|hb
    .grind
    .exact .inr ⟨u,f,g.cut hb⟩
  .cases j with
   | norm=>exact .norm
   | exit id=>exact .exit id
   | goto l=>exact .goto l
   | ret=>exact .ret
   | panic C=>exact .panic (C.cut hn.2.2)
 | void=>trivial
theorem HR.cut{G:LQ}(k:HR B c (H++G) h)(hn:∀(id:Nat) (o:za),H[id]?=some o->xa H.length o):HR B (c.cut H.length) H h :=
 ⟨k.le,k.keep,k.old,fun p b d=>⟨(k.S p b d).1,fun id x a e=>by have:=(k.S p b d).2 id x (eY a).2 e;rw[YP (eY a).1]at this;omega⟩,fun id x a=>by
  obtain⟨h1,h2⟩:=eY a;obtain⟨m,n,_⟩:=k.own id x h2;omega,fun id f=>⟨f.2,fun x a=>(k.lz id f.1).2 x (eY a).2⟩,fun id l x q a i=>k.inj _ _ _ _ (eY a).2 (eY i).2,fun id o g=>by
  have j:=(Yl.1 g).1;exact(k.obj id o (by grind)).cut j (hn id o g)⟩
theorem Mo.cut{c':Cx}{h':TH}(m:Mo c c' h h')(hρ:∀id x,c.ρ id=some x->id<n)(hL:∀id,c.L id->id<n):Mo c (c'.cut n) h h' :=
 ⟨m.S,fun id x a=>mg (hρ _ _ a) (m.ρ _ _ a),fun id a=>⟨m.L _ a,hL _ a⟩,m.rd⟩
end
def mJ(H:LQ)(H' H'' G:LQ):Prop:=H'=H''++G/\H''.length=H.length/\∀(id:Nat) (o:za),H''[id]?=some o->H[id]?=some o\/xa H.length o
variable {n:Nat}
theorem mJ.cut{B':Ba}{c':Cx}{H' H'' G:LQ}{h':TH}(k:mJ H H' H'' G)(hr:HR B c H h)(hr':HR B' c' H' h')(m:Mo c c' h h'):Mo c (c'.cut H.length) h h'/\HR B' (c'.cut H.length) H'' h':=by
 obtain⟨rfl,a,b⟩:=k;refine⟨m.cut (fun id x d=>(hr.own _ _ d).2.2) (fun id e=>(hr.lz _ e).1),?_⟩;have:=hr'.cut (H:=H'') fun id o f=>by
  rw[a];rcases b id o f with h1|h1
  .exact OR.nr hr h1
  .exact h1
 grind
theorem FO.gc{f:Nat}{b:Bool}{Q:FE->LQ->Prop}(k:FO E f args H b fun e H'=>∃H'' G,mJ H H' H'' G/\EV H.length e/\Q e H''):FO E f args H b Q:=fun B c h us a g=>by
 obtain⟨r,h',e,H',c',i,⟨H'',G,j,l,m⟩,n,o,d,p⟩:=k B c h us a g;obtain⟨q,s⟩:=j.cut a o n;refine⟨r,h',e,H'',_,i,m,q,s,?_,p⟩
 cases e<;>cases r<;>first|exact d.elim|exact VR.cut d l
theorem FY.gc{Q:Bool->LQ->Prop}(k:FY E id args H fun r H'=>∃H'' G,mJ H H' H'' G/\Q r H''):FY E id args H Q:=fun B c h us b d z a e f=>by
 obtain⟨r,h',H',c',l,⟨H'',G,g,m⟩,i,j⟩:=k B c h us b d z a e f;obtain⟨n,o⟩:=g.cut a j i
 grind
theorem FY.mono{Q Q':Bool->LQ->Prop}(k:FY E id args H Q)(hQ:∀r H,Q r H->Q' r H):FY E id args H Q':=fun B c h us b d z a e f=>by
 obtain⟨r,h',g,c',i,q,j⟩:=k B c h us b d z a e f
 grind
theorem dC{d:Nat}(h:∀i,tm i=.bad\/NR n (tm i))(hv:NR n v):∀i,zb tm d v i=.bad\/NR n (zb tm d v i):=fun i=>by
 unfold zb
 grind
theorem Uu{l:LJ}(h:∀v∈l,NR n v):∀i,zr l i=.bad\/NR n (zr l i):=fun i=>by
 unfold zr
 grind
theorem jQ(G:List α)(x y:α):(G++[x]++[y])[G.length]?=some x:=by grind
def ez:LJ->Prop
 | []=>True
 | x::l=>vL x/\ez l
variable {A A' C H0:LQ}{args:List vy}{d:LB}{e:Nat}{g:Option (vy×Bool)}{l:LJ}{z:Nat}
theorem ez.all:∀{l:LJ},ez l->∀x∈l,vL x
 | x::l,h,y,a=>by
  rcases YA.1 a with rfl|a
  .exact h.1
  .exact ez.all h.2 y a
theorem NE{s:vd}{Q:FX->vd->Prop}{aS:LJ}(hg:zX s.tm g=some true)(ha:zV s.tm args=some (.fn f caps::vs))(k:FP E f aS (.ret v))(he:vs++caps=aS)(hl:ez aS)(hQ:WO E caught ops (s.put d v) Q):WO E caught (⟨d,.call,args,g⟩::ops) s Q :=
 rO hg ha ((FP.FO (he ▸ k) (he ▸ hl).all).mono fun e a he=>by obtain⟨rfl,rfl⟩:=he;exact hQ)
theorem vL.frz(h:vL v):zf H lab v v:=by
 induction h with
 | bool b=>exact .bool b
 | int k n=>exact .int k n
 | str s=>exact .str s
 | nilptr=>exact .nilptr
 | nilsl=>exact .nilsl
 | nilmap=>exact .nilmap
 | nilfn=>exact .nilfn
 | niliface=>exact .niliface
 | list p z l=>exact .list p z l
 | elem l=>exact .elem l
 | iface _ d=>exact .iface d
 | fn _ d=>exact .fn rfl fun i x y a c=>by rw[a]at c;cases c;exact d x (Yt a)
 | agg _ d=>exact .agg rfl fun i x y a c=>by rw[a]at c;cases c;exact d x (Yt a)
 | tuple _ d=>exact .tuple rfl fun i x y a c=>by rw[a]at c;cases c;exact d x (Yt a)
theorem zf.wh{z' o q:Nat}(hH:H[id]?=some (.row e z' G 0 l))(ho:o=0)(hl:n=l.length)(hq:2*l.length<=q)(hz:∀v∈l,v.cells.length=z)(hs:∀v∈l.flatMap PV.cells,vL v):
  zf H lab (.sl id G o n q z) (.list lab z l):=by
 subst ho hl;refine .sl hH (Yv _) (Ym _) zo hq rfl hz (by simp) fun i x y b a=>?_;have:x=y:=by grind
 subst this;exact(hs _ (Yt a)).frz
theorem mu{cs:LJ}(hH:H[id]?=some (.row e z 0 0 [.agg cs]))(hn:n=cs.length)(hc:∀v∈cs,vL v):zf H lab (.ptr id 0 0 0 n) (.elem cs):=by
 refine .ptr (w:=.agg cs) ?_ (by simp[PV.cells,hn]) hn fun j x y a b=>?_
 .simp[zA,hH]
 .have:x=y:=by
   simp[PV.cells,hn]at a
   grind
  subst this;exact(hc _ (Yt b)).frz
theorem Cs{l:LN}:∀v∈(l.map uv).flatMap PV.cells,vL v:=fun v a=>by
 obtain⟨x,b,a⟩:=YG.1 a;obtain⟨n,_,rfl⟩:=Yx.1 b;simp[PV.cells]at a;subst a;exact .int _ _
theorem Hg{l:LH}:∀v∈(l.map iv).flatMap PV.cells,vL v:=fun v a=>by
 obtain⟨x,b,a⟩:=YG.1 a;obtain⟨n,_,rfl⟩:=Yx.1 b;simp[PV.cells]at a;subst a;exact .int _ _
theorem Cn(hm:H[id]?=some (.dfr false))(h:zj tm (H.set id (.dfr true)) F.res=some vs)(k:R (.ret (bf vs)) (H.set id (.dfr true))):ye E F R .ret ⟨tm,[.mark id],H⟩:=⟨hm,vs,h,k⟩
theorem QI(hm:H[id]?=some (.dfr false))(h:zj tm (H.set id (.dfr true)) F.res=some vs)(k:R (.ret (bf vs)) (H.set id (.dfr true))):ye E F R .norm ⟨tm,[.mark id],H⟩:=⟨hm,vs,h,k⟩
theorem vL.nr(h:vL v):NR n v:=by
 induction h with
 | bool b=>exact .bool b
 | int k n=>exact .int k n
 | str s=>exact .str s
 | nilptr=>exact .nilptr
 | nilsl=>exact .nilsl
 | nilmap=>exact .nilmap
 | nilfn=>exact .nilfn
 | niliface=>exact .niliface
 | list p z l=>exact .list p z l
 | elem l=>exact .elem l
 | iface _ a=>exact .iface a
 | fn _ a=>exact .fn a
 | agg _ a=>exact .agg a
 | tuple _ a=>exact .tuple a
theorem Ux{M:Nat}(h:∀v∈l.flatMap PV.cells,vL v):xa n (.row e z G M l):=fun x a=>(h x a).nr
theorem NR.mono(hm:n<=m)(h:NR n v):NR m v:=by
 induction h with
 | bool b=>exact .bool b
 | int k n=>exact .int k n
 | str s=>exact .str s
 | nilptr=>exact .nilptr
 | nilsl=>exact .nilsl
 | nilmap=>exact .nilmap
 | nilfn=>exact .nilfn
 | niliface=>exact .niliface
 | list p z l=>exact .list p z l
 | elem l=>exact .elem l
 | sl g o m q z h=>exact .sl g o m q z zo
 | ptr g i o m h=>exact .ptr g i o m zo
 | map h=>exact .map zo
 | yield h=>exact .yield zo
 | iface _ a=>exact .iface a
 | fn _ a=>exact .fn a
 | agg _ a=>exact .agg a
 | tuple _ a=>exact .tuple a
theorem Ss{G:LQ}(hl:A'.length=A.length)(h:∀(id:Nat) (o:za),A'[id]?=some o->xa A.length o)(hm:∀(n m:Nat) (o:za),n<=m->xa n o->xa m o):mJ (A++C) (A'++C++G) (A'++C) G:=by
 refine⟨rfl,by simp[hl],fun id o a=>?_⟩
 grind
theorem xa.mono(hm:n<=m){o:za}(h:xa n o):xa m o:=by
 cases o with
 | row e z G M l=>exact fun x a=>NR.mono hm (h x a)
 | mapI k f=>exact fun x v a=>NR.mono hm (h x v a)
 | mapS f=>exact fun x v a=>NR.mono hm (h x v a)
 | loop st pe tm ps aS bo q =>
  refine⟨by have:=h.1;omega,fun i=>?_,?_⟩
  .rcases h.2.1 i with h|h
   .grind
   .exact .inr (h.mono hm)
  .have:=h.2.2
   cases pe<;>first|trivial|exact NR.mono hm this
 | _=>trivial
theorem mJ.front{G:LQ}(hl:A'.length=A.length)(h:∀(id:Nat) (o:za),A'[id]?=some o->xa A.length o):mJ (A++C) (A'++C++G) (A'++C) G:=Ss hl h fun _ _ _ h k=>k.mono h
theorem jT(n m:Nat):(n+1==m+1)=(n==m):=by simp
theorem jR(n:Nat):(n+1==0)=false:=by simp
theorem jS(n:Nat):(0==n+1)=false:=by simp
theorem E3{g:uX}{l:List uX}{s1:DF}{o:vl}{aS:LJ}{same:Bool}(hc:zL s.K g.chk)(hx:z6 tm g.exe s=some s1)(ha:g.act=some o)(hk:o.kind=.call)(hw:zZ tm s1.nm o.guard=some true)(hv:qa tm s1.nm o.args=some (.fn f caps::vs))(k:FO E f aS H0 same R)(he:vs++caps=aS)(hH:s1.H=H0)(hQ:∀e H',R e H'->rX E caught tm l s1 o.dst same Q e H'):WD E caught tm (g::l) s Q:=by
 subst he hH;exact Bu hc hx ha hk hw hv (k.mono hQ)
theorem Bv{s:vd}{Q:FX->vd->Prop}{aS:LJ}{b:Bool}(hg:zX s.tm g=some true)(ha:zV s.tm args=some (.fn f caps::vs))(k:FO E f aS H0 b R)(he:vs++caps=aS)(hH:s.H=H0)(hQ:∀e H',R e H'->BD E caught ops s d Q e H'):WO E caught (⟨d,.call,args,g⟩::ops) s Q:=by
 subst he hH;exact rO hg ha (k.mono hQ)
variable {E:vC}{caught:LE}{rnd:LB}
def gL(n:Nat)(H:LQ):LQ:=H.mapIdx fun i o=>if i=n then o else .void
theorem Du{o:za}(h:H[n]?=some o):(gL n H)[n]?=some o:=by
 unfold gL
 grind
theorem UH{e z G M:Nat}{l:LJ}(h:(gL n H)[id]?=some (.row e z G M l)):id=n:=by
 unfold gL at h
 grind
theorem UI(h:H[id]?=some .void):(gL n H)[id]?=some .void:=by
 unfold gL
 grind
theorem JH:(gL n H).length=H.length:=by unfold gL;simp
def CF(n:Nat)(H:LQ)(v w:PV):Prop:=w=v\/zf (gL n H) 0 v w
inductive CO(n:Nat)(H:LQ)(id:Nat):za->za->Prop
 | void (o:za):CO n H id o .void
 | same (o:za):id≠n->CO n H id o o
 | row {e z G M:Nat} {l l':LJ}:id≠n->l'.length=l.length->(∀v∈l',v.cells.length=z)->(l.flatMap PV.cells).length=(l'.flatMap PV.cells).length->(∀(i:Nat) (x y:PV),(l.flatMap PV.cells)[i]?=some x->(l'.flatMap PV.cells)[i]?=some y->CF n H x y)->CO n H id (.row e z G M l) (.row e z G M l')
variable {k':IntKind}{y:Int}(a:LN)(n:Nat)(b:LN)
def Cx.frz(c:Cx)(n:Nat):Cx:=⟨fun p b=>c.S p b\/(p=0/\∃x,c.ρ n=some x/\x.1=b),c.ρ,c.L⟩
theorem HR.frz{H':LQ}(k:HR B c H h){n:Nat}(hl:H'.length=H.length)(hv:H'[n]?=some .void)(hH:∀id o o',H[id]?=some o->H'[id]?=some o'->CO n H id o o'):
  Mo c (c.frz n) h h/\HR B (c.frz n) H' h/\∀v w u,VR c h v u->CF n H v w->VR (c.frz n) h w u:=by
 have m:Mo c (c.frz n) h h:=⟨fun _ _ h=>.inl h,fun _ _ h=>h,fun _ h=>h,fun _ _ _ _ _ _ _ h=>h⟩
 have K:HR B c (gL n H) h:=⟨k.le,k.keep,k.old,fun p b g=>⟨(k.S p b g).1,fun id x a e=>UI ((k.S p b g).2 id x a e)⟩,fun id x a=>by rw[JH];exact k.own id x a,fun id a=>by rw[JH];exact k.lz id a,k.inj,fun id o f=>by
  by_cases C:id=n
  .subst C;unfold gL at f;rw[zBW9]at f
   cases hH:H[id]? with
   | none=>rw[hH]at f;cases f
   | some o' =>
    rw[hH]at f;simp at f;subst f;exact k.obj id _ hH
  .unfold gL at f;rw[zBW9]at f
   cases hH:H[id]? with
   | none=>rw[hH]at f;cases f
   | some o'=>rw[hH]at f;simp[C]at f;subst f;trivial⟩
 have s:∀v w u,VR c h v u->CF n H v w->VR (c.frz n) h w u:=fun v w u hv q=>by
  rcases q with rfl|q
  .exact hv.mono m
  .exact .pure (q.ok' K (fun _ _ h=>.inl h) (fun id x e z G M l L a=>by
    obtain rfl:=UH L;exact .inr ⟨rfl,x,a,rfl⟩) hv)
 refine⟨m,⟨k.le,k.keep,fun p b g=>?_,fun p b g=>?_,fun id x a=>by rw[hl];exact k.own id x a,fun id a=>by rw[hl];exact k.lz id a,k.inj,fun id o' t=>?_⟩,s⟩
 .rcases g with g|⟨rfl,x,a,rfl⟩
  .exact k.old p b g
  .exact .inr ⟨rfl,(k.own _ _ a).1⟩
 .rcases g with g|⟨rfl,x,a,rfl⟩
  .obtain⟨h1,h2⟩:=k.S p b g;refine⟨h1,fun id x a e=>?_⟩;have h3:=h2 id x a e;have hid:id<H'.length:=by rw[hl];exact(Yl.1 h3).1
   have h4:=hH id _ _ h3 (Yk hid);rw[Yk hid];generalize H'[id]=o' at h4
   cases h4<;>rfl
  .refine⟨(k.own _ _ a).2.1,fun id y r e=>?_⟩;obtain rfl:=k.inj _ _ _ _ r a e;exact hv
 .have hid:id<H.length:=by rw[<- hl];exact(Yl.1 t).1
  have j:=k.obj id _ (Yk hid);have D:=hH id _ _ (Yk hid) t;generalize H[id]=o at j D
  cases D with
  | void=>trivial
  | same _ N=>exact j.move m rfl (fun h=>h) fun _ _=>rfl
  | @row e z G M l Y N h1 h2 h3 h4 =>
   rcases j with⟨rfl,O,P,Q⟩|⟨b,d,R,T,cells,cs,U,Z,V,X,r5,I⟩
   .obtain rfl:=Zg.1 h1;exact .inl ⟨rfl,O,P,Q⟩
   .refine .inr ⟨b,d,R,T,cells,cs,U,by grind,V,X,by grind,h2,?_⟩;refine⟨by rw[<- h3];exact I.all.1,fun i x y a r=>?_⟩;obtain⟨J,A⟩:∃J,(l.flatMap PV.cells)[i]?=some J:=⟨_,Yk (by grind)⟩
    exact s _ _ _ (I.all.2 i _ _ A r) (h4 i _ _ A a)
theorem NH{s:vd}{Q:FX->vd->Prop}(tm':Nat->PV)(H':LQ)(ht:∀i,tm' i=.bad\/CF n s.H (s.tm i) (tm' i))(hl:H'.length=s.H.length)(hv:H'[n]?=some .void)(hH:∀id o o',s.H[id]?=some o->H'[id]?=some o'->CO n s.H id o o')(k:W E caught rnd code ⟨tm',s.df,H'⟩ Q):W E caught rnd code s Q:=fun B c t b a d=>by
 obtain⟨m,e,r⟩:=a.hr.frz hl hv hH;obtain⟨f,g,x,s',c',h,j,l,p,q⟩:=k B _ t b ⟨e,fun i=>by
  rcases ht i with h1|h1
  .grind
  .rcases a.tm i with h2|⟨u,u1,u2⟩
   .rcases h1 with h1|h1
    .grind
    .rw[h2]at h1;cases h1
   grind,a.df.mono m⟩ (d.mono m)
 exact⟨f,g,x,s',c',h,j,l,m.trans p,q⟩
theorem Bx{s:vd}{Q:FX->vd->Prop}(i n:Nat){w:PV}{o:za}(hn:s.H[n]?=some o)(hw:zf (gL n s.H) 0 (s.tm i) w)(k:W E caught rnd code ⟨zb s.tm i w,s.df,s.H.set n .void⟩ Q):W E caught rnd code s Q:=by
 have d:=(Yl.1 hn).1;refine NH n _ _ (fun j=>.inr ?_) (by simp) (by grind) (fun id o f e a=>?_) k
 .unfold zb
  by_cases c:j=i
  .subst c;rw[if_pos rfl];exact .inr hw
  .rw[if_neg c];exact .inl rfl
 .by_cases b:n=id
  .subst b;simp[d]at a;subst a;exact .void _
  .rw[YD b,e]at a;injection a with a;subst a;exact .same _ (Ne.symm b)
theorem IV:∀{l:LH} {cs:LK},LR (VR c h) (l.map fun(n:Int)=>(PV.int .i64 n)) cs->cs=kx l
 | [],cs,k=>k.oN
 | a::l,cs,k=>by
  obtain⟨y,b,rfl,h1,h2⟩:=LR.oc k;rw[IV h2,h1.int_inv];rfl
theorem HT:∀l:LH,LR (VR c h) (l.map fun(n:Int)=>(PV.int .i64 n)) (kx l)
 | []=>LR.nil
 | a::l=>LR.cons (.pure (.int _ _)) (HT l)
theorem M6{f e0:Nat}(hf:E.funcs.get f=none)(hg:E.spec f=some (cD e0)){id g M:Nat}{xs:LH}(hH:H[id]?=some (.row e0 1 g M (xs.map iv)))(hM:M<=g)(hx:0<xs.length)(hx2:xs.length<=1000000)(q:Nat):
  FO E f [.sl id g 0 xs.length q 1] H false fun e H'=>e=.ret (.tuple [])/\H'=H.set id (.row e0 1 g g ((yV xs).map iv)):=by
 intro B c h us k r;obtain⟨y,K,rfl,h1,h2⟩:=r.oc;obtain rfl:=h2.oN;rcases sl_inv h1 with⟨_,_,h3,_⟩|⟨b,d,j,m,L,rfl⟩
 .omega
 obtain⟨_,A,O,cells,cs,t,C,P,u,D⟩:=bc k hH m;obtain rfl:j=A:=by omega
 have s:∀l:LH,(l.map iv).flatMap PV.cells=l.map fun(n:Int)=>(PV.int .i64 n):=fun l=>by
  induction l with
  | nil=>rfl
  | cons a l G=>rw[YL,YT,G];rfl
 have w:=D.all;rw[s]at w;have z:=IV w;rw[Yw,zBM9]at t u;obtain⟨I,J⟩:=k.set (o:=.row e0 1 g g ((yV xs).map iv)) (x:=.row e0 j j xs.length (Tr.putL .nil 0 (kx (yV xs)))) m (fun e=>by rw[hH]at e;cases e) fun Q =>
  .inr ⟨b,d,j,j,Tr.putL .nil 0 (kx (yV xs)),kx (yV xs),m,by rw[TH.get_set _ _ _ _ (k.own _ _ m).2.1,if_pos rfl,Yw,rc,zBM9],C,by omega,by
   rw[Yw,rc,zBM9];have:=sP (kx (yV xs));unfold kx at this;rw[Yw,rc]at this;exact this,⟨fun v r=>by obtain⟨a,_,rfl⟩:=Yx.1 r;rfl,by rw[s];exact HT _⟩⟩
 refine⟨.ret (.tuple []),_,.ret (.tuple []),_,c,⟨1,fun N R p hd=>?_⟩,⟨rfl,rfl⟩,I,J,?_,fun h=>by cases h⟩
 .obtain⟨p,rfl⟩:∃i,p=i+1:=⟨p-1,by omega⟩
  show Tw.zC (EN E N) (y7 (EN E N) p) f _ h=_;unfold Tw.zC;rw[show (EN E N).funcs.get f=none from hf];dsimp only;rw[show (EN E N).spec f=some (cD e0)from hg];show cD e0 [.sl b j (0*1) xs.length q 1] h=_;rw[zBT9];show (match h.get b with
   | some o=>Bb h b j xs.length e0 o
   | none=>none)=_
  rw[t];unfold Bb;dsimp only;rw[wx rfl,wx rfl,wx rfl,wS zo,wS hx2,u,z];simp only[cond_true];rw[HS]
 .exact VR.tL LR.nil
theorem BP{f:Nat->Nat->Nat}{op:BinOp}(ho:∀x y,ku op .u64 .u64 x y=aF f .u64 x y)(h1:0<=x)(h2:x<18446744073709551616)(h3:0<=y)(h4:y<18446744073709551616):wm (wO op) [.int .u64 x,.int .u64 y]=some (.int .u64 (f x.toNat y.toNat:Nat)):=by
 obtain⟨a,rfl⟩:=Zs h1;obtain⟨b,rfl⟩:=Zs h3;simp only[wm,PV.toT,wO,kv,ho];show (match(bif Nat.blt a (2 ^ 64)then bif Nat.blt b (2 ^ 64)then some (TV.int .u64 (.ofNat (f a b)))else none else none)with|some w=>yb w|none=>none)=_;rw[show Nat.blt a (2 ^ 64)=true by simp;omega,show Nat.blt b (2 ^ 64)=true by simp;omega];rfl
theorem jt(h1:0<=x)(h2:x<18446744073709551616)(h3:0<=y)(h4:y<18446744073709551616):wm (wO .and) [.int .u64 x,.int .u64 y]=some (.int .u64 (Nat.land x.toNat y.toNat:Nat)):=BP (fun _ _=>rfl) h1 h2 h3 h4
theorem qY(h1:0<=x)(h2:x<18446744073709551616)(h3:0<=y)(h4:y<18446744073709551616):wm (wO .or) [.int .u64 x,.int .u64 y]=some (.int .u64 (Nat.lor x.toNat y.toNat:Nat)):=BP (fun _ _=>rfl) h1 h2 h3 h4
theorem qZ(h1:0<=x)(h2:x<18446744073709551616)(h3:0<=y)(h4:y<18446744073709551616):wm (wO .xor) [.int .u64 x,.int .u64 y]=some (.int .u64 (Nat.xor x.toNat y.toNat:Nat)):=BP (fun _ _=>rfl) h1 h2 h3 h4
theorem EH:IntKind.u64.wrap (n:Int)=((n%18446744073709551616:Nat):Int):=by
 have h:((n%18446744073709551616:Nat):Int)=(n:Int)%18446744073709551616:=by simp
 rw[h];simp[IntKind.wrap,IntKind.bits,IntKind.signed]
theorem jN(h1:0<=x)(h3:0<=y)(h4:y<=64):wm (wO .shl) [.int .u64 x,.int k' y]=some (.int .u64 (x.toNat*2 ^ y.toNat%18446744073709551616:Nat)):=by
 obtain⟨a,rfl⟩:=Zs h1;obtain⟨b,rfl⟩:=Zs h3;simp only[wm,PV.toT,wO,kv];show (match(bif Nat.ble b 64 then some (TV.int .u64 (IntKind.u64.wrap ((a:Int)*2 ^ (min b 64))))else none)with|some w=>yb w|none=>none)=_;rw[wS zo,ZK zo];simp only[cond_true,yb,Zz];rw[show (a:Int)*2 ^ b=((a*2 ^ b:Nat):Int) by simp,EH]
theorem jO(h1:0<=x)(h3:0<=y)(h4:y<=64):wm (wO .shr) [.int .u64 x,.int k' y]=some (.int .u64 (x.toNat/2 ^ y.toNat:Nat)):=by
 obtain⟨a,rfl⟩:=Zs h1;obtain⟨b,rfl⟩:=Zs h3;simp only[wm,PV.toT,wO,kv];show (match(bif Nat.ble b 64 then some (TV.int .u64 (.ofNat (a/2 ^ (min b 64))))else none)with|some w=>yb w|none=>none)=_;rw[wS zo,ZK zo];rfl
theorem Dm:xO a b=decide (a=b):=by
 by_cases h:a=b
 .rw[(oL a b).2 h];simp[h]
 .rw[zCV9.2 fun e=>h ((oL a b).1 e)];simp[h]
theorem jw:wm (wO .eql) [.str a,.str b]=some (.bool (decide (a=b))):=by
 rw[<- Dm];rfl
theorem jH:wm (wO .neq) [.str a,.str b]=some (.bool (!decide (a=b))):=by
 rw[<- Dm];rfl
theorem jA(s:LN):kX tg [.str s]=some (.int .i64 s.length):=rfl
theorem oN:∀(l:LN) (n:Nat),aW l n=l[n]?
 | [],n=>by simp[aW]
 | x::l,0=>rfl
 | x::l,n+1=>by simp only[aW,Y2];exact oN l n
theorem Qz{k:IntKind}{s:LN}{j:Int}{x:Nat}(h0:0<=j)(h:s[j.toNat]?=some x):wm oS [.str s,.int k j]=some (.int .u8 x):=by
 obtain⟨n,rfl⟩:=Zs h0;rw[Zz,<- oN]at h;simp only[wm,PV.toT];show (match(match aW s n with|some c=>some (TV.int .u8 (.ofNat c))|none=>none)with|some w=>yb w|none=>none)=_;rw[h];rfl
section
variable (n:Nat)
variable (a:Nat)(l:LJ)(b:Nat)
theorem jf(k:IntKind)(m:Int):ue (n+1) (.int k m)=true:=rfl
theorem jb(b:Bool):ue (n+1) (.bool b)=true:=rfl
theorem jp(s:LN):ue (n+1) (.str s)=true:=rfl
theorem jg(p z:Nat)(l:LJ):ue (n+1) (.list p z l)=true:=rfl
theorem jc:ue (n+1) (.elem l)=true:=rfl
theorem jo(c d e f:Nat):ue (n+1) (.sl a b c d e f)=true:=rfl
theorem jn(c d e:Nat):ue (n+1) (.ptr a b c d e)=true:=rfl
theorem jh:ue (n+1) (.map a)=true:=rfl
theorem jr:ue (n+1) (.yield a)=true:=rfl
theorem jm:ue (n+1) .nilsl=true:=rfl
theorem jl:ue (n+1) .nilptr=true:=rfl
theorem jk:ue (n+1) .nilmap=true:=rfl
theorem ji:ue (n+1) .nilfn=true:=rfl
theorem jj:ue (n+1) .niliface=true:=rfl
theorem je(t:Nat)(v:PV):ue (n+1) (.iface t v)=ue n v:=rfl
theorem jd(f:Nat)(l:LJ):ue (n+1) (.fn f l)=l.all (ue n):=rfl
theorem ja:ue (n+1) (.agg l)=l.all (ue n):=rfl
theorem jq:ue (n+1) (.tuple l)=l.all (ue n):=rfl
end
attribute [go_sem] zC qD zX qi zV ev zq qT zh.cls qc qg qm jV jU zb zr js jP jF jM jx jJ jC jB jz jy ju jK jI jv jG jD jE zD zA zF qL qN qO PV.cells zR qe qh zW okF qs qj qB qP zn qS qV qW z7 qr qk qb qR qH qo qp qF lenP zc zd qJ qd PV.toT qC jQ Nat.mul_mod_right Int.reduceOfNat Int.reduceToNat Int.cast_ofNat_Int Int.reduceLE Int.reduceLT Int.reduceAdd Int.reduceSub Int.reduceMul Int.reduceNegSucc Nat.reduceEqDiff if_true if_false ite_true ite_false decide_true decide_false Bool.not_true Bool.not_false and_true true_and and_self false_and and_false or_false false_or or_true true_or or_self List.length_cons List.length_nil List.length_map List.getElem?_cons_zero List.getElem?_cons_succ List.getElem?_map List.getElem?_nil Option.map_some Option.map_none Option.getD_some List.append_nil List.nil_append List.cons_append List.take_succ_cons List.take_zero List.drop_zero List.drop_succ_cons List.set_cons_zero List.set_cons_succ Int.toNat_natCast Int.natCast_nonneg Nat.le_refl Nat.zero_le Nat.reduceAdd Nat.reduceSub Nat.reduceMul Nat.reduceLeDiff Nat.reduceLT Bool.false_eq_true Bool.true_eq_false Nat.add_zero Nat.zero_add List.all_cons List.all_nil Bool.and_true Bool.and_self Bool.true_and Nat.reduceMod Nat.reduceDiv eq_self z6 qK zZ qa qz zY qU qq qf zL qA qt List.filter_cons List.filter_nil List.contains_cons List.contains_nil Nat.reduceBEq jT jR jS Option.some.injEq Option.isSome_some wrap_i64 wrap_u64 jL Bool.or_self Bool.or_false Bool.false_or List.isEmpty_nil List.isEmpty_cons qE ql qy qG qQ jt qY qZ jN jO jf jb jp jg jc jo jn jh jr jm jl jk ji jj je jd ja jq qM cond_true cond_false jw jH jA
attribute [go_sem ↓] reduceIte
theorem cG{p:Prop}(h:p:=by(repeat(first|exact trivial|refine And.intro ?_ ?_|exact .int _ _|exact .bool _|exact .list _ _ _|exact .elem _|exact .nilsl|exact .nil _ _|exact .str _|refine zf.aggL ?_|refine zf.fnL ?_|refine zf.tL ?_|refine .iface ?_|exact mu rfl rfl (by assumption)))):p:=h
section
variable {E:vC}{caught:LE}{rnd:LB}{ops:List vl}{rest:vw}{s s':vd}{r:List vl}{Q:FX->vd->Prop}
theorem wX(k:W E caught rnd rest s' Q)(h:zC ops s=(s',[]):=by simp(disch:=omega)only[go_sem]<;>rfl):W E caught rnd (.region ops) s (gQ (fun s'=>W E caught rnd rest s' Q) Q):=vX (rP h (ug k))
theorem ay(k:WO E caught r s' (iU ops Q))(h:zC ops s=(s',r):=by simp(disch:=omega)only[go_sem]<;>rfl):W E caught rnd (.region ops) s Q:=vX (rP h k)
theorem wg(k:WO E caught r s' Q)(h:zC ops s=(s',r):=by simp(disch:=omega)only[go_sem]<;>rfl):WO E caught ops s Q:=rP h k
theorem wA{x:vy}{b:Bool}{p q:vw}(h1:b=true->W E caught rnd p s Q)(h2:b=false->W E caught rnd q s Q)(hx:ev s.tm x=some (.bool b):=by simp only[go_sem]<;>rfl):W E caught rnd (.cond x p q) s Q:=rQ hx h1 h2
theorem vi{aS:LJ}(k:FN E f aS (.ret v))(hQ:WO E caught ops (s.put d v) Q)(hg:zX s.tm g=some true:=by first|rfl|(simp only[go_sem]<;>rfl))(ha:zV s.tm args=some (.fn f caps::vs):=by simp only[go_sem]<;>rfl)(hl:LF s.H 1 (vs++caps) aS:=by exact cG):WO E caught (⟨d,.call,args,g⟩::ops) s Q:=pc hg ha k hl hQ
theorem gV{aS:LJ}(k:FN E f aS (.ret v))(hl:LF s.H 1 (vs++caps) aS)(hQ:WO E caught ops (s.put d v) Q)(hg:zX s.tm g=some true:=by first|rfl|(simp only[go_sem]<;>rfl))(ha:zV s.tm args=some (.fn f caps::vs):=by simp only[go_sem]<;>rfl):WO E caught (⟨d,.call,args,g⟩::ops) s Q:=pc hg ha k hl hQ
theorem vB{aS:LJ}(k:FN E f aS (.panic v))(hQ:Q (.panic v) s)(hg:zX s.tm g=some true:=by first|rfl|(simp only[go_sem]<;>rfl))(ha:zV s.tm args=some (.fn f caps::vs):=by simp only[go_sem]<;>rfl)(hl:LF s.H 1 (vs++caps) aS:=by exact cG):WO E caught (⟨d,.call,args,g⟩::ops) s Q:=NF hg ha k hl hQ
theorem bj{aS:LJ}(k:FP E f aS (.ret v))(hQ:WO E caught ops (s.put d v) Q)(hg:zX s.tm g=some true:=by first|rfl|(simp only[go_sem]<;>rfl))(ha:zV s.tm args=some (.fn f caps::vs):=by simp only[go_sem]<;>rfl)(he:vs++caps=aS:=by rfl)(hl:ez aS:=by(repeat(first|exact trivial|refine And.intro ?_ ?_|exact vL.int _ _|exact vL.bool _|exact vL.list _ _ _|exact vL.elem _|exact vL.nilsl|exact vL.str _|exact Ry _ _ _))):WO E caught (⟨d,.call,args,g⟩::ops) s Q:=NE hg ha k he hl hQ
end
section
variable {E:vC}{caught:LE}{tm:Nat->PV}{s:DF}{Q:FX->DF->Prop}{g:uX}{l:List uX}{s1:DF}{o:vl}
theorem ek(k:WD E caught tm l s1 Q)(hx:z6 tm g.exe s=some s1:=by simp(disch:=omega)only[go_sem]<;>rfl)(hc:zL s.K g.chk:=by first|exact trivial|simp only[go_sem])(ha:g.act=none:=by rfl):WD E caught tm (g::l) s Q:=E4 hc hx ha k
def qI(tm:Nat->PV)(g:uX)(s:DF):Option (DF×AR):=match z6 tm g.exe s with
 | none=>none
 | some s1=>match g.act with
  | none=>none
  | some o=>match qa tm s1.nm o.args with
   | none=>none
   | some vs=>match qm s1.H o.kind vs with
    | none=>none
    | some a=>some (s1,a)
def qn(tm:Nat->PV)(g:uX)(s:DF):Option (DF×LJ):=match z6 tm g.exe s with
 | none=>none
 | some s1=>match g.act with
  | none=>none
  | some o=>match qa tm s1.nm o.args with
   | none=>none
   | some vs=>some (s1,vs)
theorem ei{a:AR}(k:WD E caught tm l ⟨nm',s1.df,a.H,qt a.W s1.K⟩ Q)(h:qI tm g s=some (s1,a))(hc:zL s.K g.chk:=by first|exact trivial|simp only[go_sem])(ha:g.act=some o:=by rfl)(hw:zZ tm s1.nm o.guard=some true:=by first|rfl|(simp only[go_sem]<;>rfl))(hn:zY s1.nm o.dst a.v=some nm':=by simp only[go_sem]<;>rfl):WD E caught tm (g::l) s Q:=by
 unfold qI at h
 split at h
 .cases h
 rename_i e b;rw[ha]at h;dsimp only at h
 split at h
 .cases h
 rename_i vs c
 split at h
 .cases h
 rename_i f d;injection h with h;injection h with h1 h2;subst h1 h2;exact NC hc b ha hw c d hn k
theorem bL(h:qn tm g s=some (s1,vs))(ha:g.act=some o):z6 tm g.exe s=some s1/\qa tm s1.nm o.args=some vs:=by
 unfold qn at h
 grind
theorem eo{aS:LJ}(k:FN E f aS (.ret v))(hQ:WD E caught tm l ⟨nm',s1.df,s1.H,s1.K⟩ Q)(h:qn tm g s=some (s1,.fn f caps::vs))(hc:zL s.K g.chk:=by first|exact trivial|simp only[go_sem])(ha:g.act=some o:=by rfl)(hk:o.kind=.call:=by rfl)(hw:zZ tm s1.nm o.guard=some true:=by first|rfl|(simp only[go_sem]<;>rfl))(hl:LF s1.H 1 (vs++caps) aS:=by exact cG)(hn:zY s1.nm o.dst v=some nm':=by simp only[go_sem]<;>rfl):WD E caught tm (g::l) s Q :=
 lE hc (bL h ha).1 ha hk hw (bL h ha).2 k hl hn hQ
theorem Yi{aS:LJ}(k:FN E f aS (.panic v))(hQ:Q (.panic v) s1)(h:qn tm g s=some (s1,.fn f caps::vs))(hc:zL s.K g.chk:=by first|exact trivial|simp only[go_sem])(ha:g.act=some o:=by rfl)(hk:o.kind=.call:=by rfl)(hw:zZ tm s1.nm o.guard=some true:=by first|rfl|(simp only[go_sem]<;>rfl))(hl:LF s1.H 1 (vs++caps) aS:=by exact cG):WD E caught tm (g::l) s Q :=
 ND hc (bL h ha).1 ha hk hw (bL h ha).2 k hl hQ
theorem Yh{aS:LJ}(k:FN E f aS (.ret v))(hl:LF s1.H 1 (vs++caps) aS)(hQ:WD E caught tm l ⟨nm',s1.df,s1.H,s1.K⟩ Q)(h:qn tm g s=some (s1,.fn f caps::vs))(hc:zL s.K g.chk:=by first|exact trivial|simp only[go_sem])(ha:g.act=some o:=by rfl)(hk:o.kind=.call:=by rfl)(hw:zZ tm s1.nm o.guard=some true:=by first|rfl|(simp only[go_sem]<;>rfl))(hn:zY s1.nm o.dst v=some nm':=by simp only[go_sem]<;>rfl):WD E caught tm (g::l) s Q :=
 lE hc (bL h ha).1 ha hk hw (bL h ha).2 k hl hn hQ
end
section
variable {E:vC}{f:Nat}{F:ze}{args:LJ}{c:vw}
variable {e:FE}
theorem qv(hF:E.funcs.get f=some F)(hl:kI e)(hW:W E E.caught none c ⟨zr args,[],[]⟩ (ye E F fun e' H=>va H 0 e' e))(hc:F.body=c:=by simp only[go_sem]<;>rfl)(hn:args.length<=F.N:=by exact YB rfl):FN E f args e:=EO hF hn hl (by rw[hc];exact hW)
theorem lq(hF:E.funcs.get f=some F)(hW:W E E.caught none c ⟨zr args,[],[]⟩ (ye E F fun e' H=>va H 0 e' e))(hc:F.body=c:=by simp only[go_sem]<;>rfl)(hn:args.length<=F.N:=by exact YB rfl):FP E f args e:=EQ hF hn (by rw[hc];exact hW)
theorem wF(hF:E.funcs.get f=some F){R:FE->LQ->Prop}(hW:W E E.caught none c ⟨zr args,[],H⟩ (ye E F R))(hc:F.body=c:=by simp only[go_sem]<;>rfl)(hn:args.length<=F.N:=by exact YB rfl):FO E f args H false R:=Eh hF hn (by rw[hc];exact hW)
end
variable {p:Prop}
theorem zt(h:p:=by first|exact trivial|rfl|simp[zb,zr]):p:=h
theorem zu{q:Prop}(h:q)(k:q->p:=by intro h;first|exact h|simp[zb,h]):p:=k h
theorem yw(h:x=y/\-9223372036854775808<=x/\x<9223372036854775808:=by omega):IntKind.i64.wrap x=y:=by rw[wrap_i64 h.2.1 h.2.2];exact h.1
theorem ep(h:x=y/\0<=x/\x<18446744073709551616:=by omega):IntKind.u64.wrap x=y:=by rw[wrap_u64 h.2.1 h.2.2];exact h.1
theorem lu{x:vy}{id:Nat}{rest:vw}{s:vd}{Q:FX->vd->Prop}{b:Bool}(h1:b=true->W E caught rnd rest s Q)(h2:b=false->Q (.exit id) s)(hx:ev s.tm x=some (.bool b):=by simp only[go_sem]<;>rfl):W E caught rnd (.seq (.cond x .skip (.exit id)) rest) s Q:=NI hx h1 h2
section
variable {p1 p10 p11 p2 p3 p4 p5 p6 p7 p8 p9:Prop}
theorem jX(a1:p1)(a2:p2):p1/\p2:=⟨a1,a2⟩
theorem vn(a1:p1)(a2:p2)(a3:p3):p1/\p2/\p3:=⟨a1,a2,a3⟩
theorem wd(a1:p1)(a2:p2)(a3:p3)(a4:p4):p1/\p2/\p3/\p4:=⟨a1,a2,a3,a4⟩
theorem wc(a1:p1)(a2:p2)(a3:p3)(a4:p4)(a5:p5):p1/\p2/\p3/\p4/\p5:=⟨a1,a2,a3,a4,a5⟩
theorem uN(a1:p1)(a2:p2)(a3:p3)(a4:p4)(a5:p5)(a6:p6):p1/\p2/\p3/\p4/\p5/\p6:=⟨a1,a2,a3,a4,a5,a6⟩
theorem uc(a1:p1)(a2:p2)(a3:p3)(a4:p4)(a5:p5)(a6:p6)(a7:p7):p1/\p2/\p3/\p4/\p5/\p6/\p7:=⟨a1,a2,a3,a4,a5,a6,a7⟩
theorem ax(a1:p1)(a2:p2)(a3:p3)(a4:p4)(a5:p5)(a6:p6)(a7:p7)(a8:p8):p1/\p2/\p3/\p4/\p5/\p6/\p7/\p8:=⟨a1,a2,a3,a4,a5,a6,a7,a8⟩
theorem bq(a1:p1)(a2:p2)(a3:p3)(a4:p4)(a5:p5)(a6:p6)(a7:p7)(a8:p8)(a9:p9):p1/\p2/\p3/\p4/\p5/\p6/\p7/\p8/\p9:=⟨a1,a2,a3,a4,a5,a6,a7,a8,a9⟩
theorem mG(a1:p1)(a2:p2)(a3:p3)(a4:p4)(a5:p5)(a6:p6)(a7:p7)(a8:p8)(a9:p9)(a10:p10):p1/\p2/\p3/\p4/\p5/\p6/\p7/\p8/\p9/\p10:=⟨a1,a2,a3,a4,a5,a6,a7,a8,a9,a10⟩
theorem nH(a1:p1)(a2:p2)(a3:p3)(a4:p4)(a5:p5)(a6:p6)(a7:p7)(a8:p8)(a9:p9)(a10:p10)(a11:p11):p1/\p2/\p3/\p4/\p5/\p6/\p7/\p8/\p9/\p10/\p11:=⟨a1,a2,a3,a4,a5,a6,a7,a8,a9,a10,a11⟩
theorem xB{p12:Prop}(a1:p1)(a2:p2)(a3:p3)(a4:p4)(a5:p5)(a6:p6)(a7:p7)(a8:p8)(a9:p9)(a10:p10)(a11:p11)(a12:p12):p1/\p2/\p3/\p4/\p5/\p6/\p7/\p8/\p9/\p10/\p11/\p12:=⟨a1,a2,a3,a4,a5,a6,a7,a8,a9,a10,a11,a12⟩
end
section
variable {E:vC}{caught:LE}{rnd:LB}{ops:List vl}{rest:vw}{s s':vd}{r:List vl}{Q:FX->vd->Prop}{p:Prop}
variable {q:vw}{x:vy}
theorem vF(hF:p)(k:W E caught rnd rest s' Q)(h:p->zC ops s=(s',[]):=by intro hF;simp(disch:=omega)only[go_sem,hF]<;>rfl):W E caught rnd (.region ops) s (gQ (fun s'=>W E caught rnd rest s' Q) Q):=wX k (h hF)
theorem gW(hF:p)(k:WO E caught r s' (iU ops Q))(h:p->zC ops s=(s',r):=by intro hF;simp(disch:=omega)only[go_sem,hF]<;>rfl):W E caught rnd (.region ops) s Q:=ay k (h hF)
theorem vU(hF:p)(k:WO E caught r s' Q)(h:p->zC ops s=(s',r):=by intro hF;simp(disch:=omega)only[go_sem,hF]<;>rfl):WO E caught ops s Q:=wg k (h hF)
theorem we{F:ze}(k:R (.ret (bf vs)) H)(h:zj tm H F.res=some vs:=by simp only[go_sem]<;>rfl):ye E F R .ret ⟨tm,[],H⟩:=pK h k
theorem wI{d:LB}{args:List vy}{g:Option (vy×Bool)}{f:Nat}{caps aS:LJ}{b:Bool}{H0:LQ}(k:FO E f aS H0 b R)(hQ:∀e H',R e H'->BD E caught ops s d Q e H')(hg:zX s.tm g=some true:=by first|rfl|(simp only[go_sem]<;>rfl))(ha:zV s.tm args=some (.fn f caps::vs):=by simp only[go_sem]<;>rfl)(he:vs++caps=aS:=by rfl)(hH:s.H=H0:=by rfl):WO E caught (⟨d,.call,args,g⟩::ops) s Q:=Bv hg ha k he hH hQ
theorem uF{p:vw}(h1:W E caught rnd p s Q)(hx:ev s.tm x=some (.bool true):=by simp only[go_sem]<;>rfl):W E caught rnd (.cond x p q) s Q:=rQ hx (fun _=>h1) (fun h=>by cases h)
theorem yO{p:vw}(h1:W E caught rnd q s Q)(hx:ev s.tm x=some (.bool false):=by simp only[go_sem]<;>rfl):W E caught rnd (.cond x p q) s Q:=rQ hx (fun h=>by cases h) (fun _=>h1)
end
section
variable {E:vC}{caught:LE}{tm:Nat->PV}{s:DF}{Q:FX->DF->Prop}{g:uX}{l:List uX}{s1:DF}{o:vl}{p:Prop}
variable {a:AR}
theorem MN(hF:p)(k:WD E caught tm l s1 Q)(hx:p->z6 tm g.exe s=some s1:=by intro hF;simp(disch:=omega)only[go_sem,hF]<;>rfl)(hc:zL s.K g.chk:=by first|exact trivial|simp only[go_sem])(ha:g.act=none:=by rfl):WD E caught tm (g::l) s Q:=ek k (hx hF) hc ha
theorem rE(hF:p)(k:WD E caught tm l s1 Q)(hx:p->z6 tm g.exe s=some s1:=by intro hF;simp(disch:=omega)only[go_sem,hF]<;>rfl)(hc:p->zL s.K g.chk:=by intro hF;first|exact trivial|simp only[go_sem,hF])(ha:g.act=none:=by rfl):WD E caught tm (g::l) s Q:=ek k (hx hF) (hc hF) ha
theorem vS(hF:p)(k:WD E caught tm l ⟨nm',s1.df,a.H,qt a.W s1.K⟩ Q)(h:p->qI tm g s=some (s1,a):=by intro hF;simp(disch:=omega)only[go_sem,hF]<;>rfl)(hc:zL s.K g.chk:=by first|exact trivial|simp only[go_sem])(ha:g.act=some o:=by rfl)(hw:zZ tm s1.nm o.guard=some true:=by first|rfl|(simp only[go_sem]<;>rfl))(hn:zY s1.nm o.dst a.v=some nm':=by simp only[go_sem]<;>rfl):WD E caught tm (g::l) s Q:=ei k (h hF) hc ha hw hn
theorem ki(hF:p)(k:WD E caught tm l ⟨nm',s1.df,a.H,qt a.W s1.K⟩ Q)(h:p->qI tm g s=some (s1,a):=by intro hF;simp(disch:=omega)only[go_sem,hF]<;>rfl)(hc:p->zL s.K g.chk:=by intro hF;first|exact trivial|simp only[go_sem,hF])(ha:g.act=some o:=by rfl)(hw:zZ tm s1.nm o.guard=some true:=by first|rfl|(simp only[go_sem]<;>rfl))(hn:zY s1.nm o.dst a.v=some nm':=by simp only[go_sem]<;>rfl):WD E caught tm (g::l) s Q:=ei k (h hF) (hc hF) ha hw hn
theorem MO{aS:LJ}{same:Bool}(k:FO E f aS H0 same R)(hQ:∀e H',R e H'->rX E caught tm l s1 o.dst same Q e H')(h:qn tm g s=some (s1,.fn f caps::vs))(hc:zL s.K g.chk:=by first|exact trivial|simp only[go_sem])(ha:g.act=some o:=by rfl)(hk:o.kind=.call:=by rfl)(hw:zZ tm s1.nm o.guard=some true:=by first|rfl|(simp only[go_sem]<;>rfl))(he:vs++caps=aS:=by rfl)(hH:s1.H=H0:=by rfl):WD E caught tm (g::l) s Q:=E3 hc (bL h ha).1 ha hk hw (bL h ha).2 k he hH hQ
theorem bk{aS:LJ}{same:Bool}(hF:p)(k:FO E f aS H0 same R)(hQ:∀e H',R e H'->rX E caught tm l s1 o.dst same Q e H')(h:p->qn tm g s=some (s1,.fn f caps::vs):=by intro hF;simp(disch:=omega)only[go_sem,hF]<;>rfl)(hc:zL s.K g.chk:=by first|exact trivial|simp only[go_sem])(ha:g.act=some o:=by rfl)(hk:o.kind=.call:=by rfl)(hw:zZ tm s1.nm o.guard=some true:=by first|rfl|(simp only[go_sem]<;>rfl))(he:vs++caps=aS:=by rfl)(hH:s1.H=H0:=by rfl):WD E caught tm (g::l) s Q:=MO k hQ (h hF) hc ha hk hw he hH
theorem wD{aS:LJ}(hF:p)(k:FN E f aS (.ret v))(hQ:WD E caught tm l ⟨nm',s1.df,s1.H,s1.K⟩ Q)(h:p->qn tm g s=some (s1,.fn f caps::vs):=by intro hF;simp(disch:=omega)only[go_sem,hF]<;>rfl)(hc:zL s.K g.chk:=by first|exact trivial|simp only[go_sem])(ha:g.act=some o:=by rfl)(hk:o.kind=.call:=by rfl)(hw:zZ tm s1.nm o.guard=some true:=by first|rfl|(simp only[go_sem]<;>rfl))(hl:LF s1.H 1 (vs++caps) aS:=by exact cG)(hn:zY s1.nm o.dst v=some nm':=by simp only[go_sem]<;>rfl):WD E caught tm (g::l) s Q:=eo k hQ (h hF) hc ha hk hw hl hn
end
section
variable {p P R:Prop}
variable {q r:Prop}
theorem zG(k:R)(h:R->P:=by intro hk;(repeat(first|refine vj ?_|refine wX ?_));exact hk):P:=h k
theorem vI(hF:p)(k:R)(h:p->R->P:=by intro hF hk;(repeat(first|refine vj ?_|refine vF hF ?_));exact hk):P:=h hF k
theorem zI(k:R)(h:R->P:=by intro hk;(repeat refine vj ?_);refine ay ?_;exact hk):P:=h k
theorem vp(hF:p)(k:R)(h:p->R->P:=by intro hF hk;(repeat refine vj ?_);refine gW hF ?_;exact hk):P:=h hF k
theorem zJ(k:R)(h:R->P:=by intro hk;(repeat refine vj ?_);refine ay ?_;refine km ?_;exact hk):P:=h k
theorem vu(hF:p)(k:R)(h:p->R->P:=by intro hF hk;(repeat refine vj ?_);refine gW hF ?_;refine km ?_;exact hk):P:=h hF k
theorem zK(k:R)(h:R->P:=by intro hk;refine wg ?_;refine km ?_;exact hk):P:=h k
theorem w9(hF:p)(k:R)(h:p->R->P:=by intro hF hk;refine vU hF ?_;refine km ?_;exact hk):P:=h hF k
theorem zN(k:R)(h:R->P:=by intro hk;refine wg ?_;refine ug ?_;exact hk):P:=h k
theorem uy(hF:p)(k:R)(h:p->R->P:=by intro hF hk;refine vU hF ?_;refine ug ?_;exact hk):P:=h hF k
theorem zO(k:R)(h:R->P:=by intro hk;(repeat(first|refine vj ?_|refine wX ?_));refine vt (we ?_);exact hk):P:=h k
theorem uf(hF:p)(k:R)(h:p->R->P:=by intro hF hk;(repeat(first|refine vj ?_|refine vF hF ?_));refine vt (we ?_);exact hk):P:=h hF k
theorem zP(k:R)(h:R->P:=by intro hk;refine wg ?_;refine ug ?_;refine vt (we ?_);exact hk):P:=h k
theorem kE(hF:p)(k:R)(h:p->R->P:=by intro hF hk;refine vU hF ?_;refine ug ?_;refine vt (we ?_);exact hk):P:=h hF k
theorem zQ(k:R)(h:R->P:=by intro hk;refine ek ?_;refine gm ?_;simp only[go_sem];exact hk):P:=h k
theorem vq(hF:p)(k:R)(h:p->R->P:=by intro hF hk;refine MN hF ?_;refine gm ?_;simp only[go_sem];exact hk):P:=h hF k
theorem zS(k:R)(h:R->P:=by intro hk;(repeat(first|refine vj ?_|refine wX ?_));refine uF ?_;exact hk):P:=h k
theorem yv(hF:p)(k:R)(h:p->R->P:=by intro hF hk;(repeat(first|refine vj ?_|refine vF hF ?_));refine uF ?_;exact hk):P:=h hF k
theorem zT(k:R)(h:R->P:=by intro hk;(repeat(first|refine vj ?_|refine wX ?_));refine yO ?_;exact hk):P:=h k
theorem cH(hF:p)(k:R)(h:p->R->P:=by intro hF hk;(repeat(first|refine vj ?_|refine vF hF ?_));refine yO ?_;exact hk):P:=h hF k
theorem zU(k:R)(h:R->P:=by intro hk;refine uF ?_;(repeat(first|refine vj ?_|refine wX ?_));refine vt (we ?_);exact hk):P:=h k
theorem zB(k:R)(h:R->P:=by intro hk;(repeat refine vj ?_);exact hk):P:=h k
theorem zM(c:q)(k:R)(h:q->R->P:=by intro hc hk;(repeat refine vj ?_);refine ay ?_;refine vi hc ?_;refine wg ?_;refine ug ?_;exact hk):P:=h c k
theorem wN(c:q)(k:R)(h:q->R->P:=by intro hc hk;(repeat(first|refine vj ?_|refine wX ?_));refine ay ?_;refine vi hc ?_;refine wg ?_;refine ug ?_;exact hk):P:=h c k
theorem wj(c:q)(k:R)(h:q->R->P:=by intro hc hk;refine vi hc ?_;refine wg ?_;refine ug ?_;exact hk):P:=h c k
theorem vP(k:R)(h:R->P:=by intro hk;(repeat refine vj ?_);refine vo ?_;exact hk):P:=h k
theorem wH(k:R)(h:R->P:=by intro hk;(repeat refine vj ?_);refine ua ?_;exact hk):P:=h k
theorem pC(k:R)(h:R->P:=by intro hk;(repeat refine vj ?_);refine vX ?_;exact hk):P:=h k
theorem zH(k:R)(h:R->P:=by intro hk;refine yO ?_;refine wY ?_;exact hk):P:=h k
theorem bi(k:R)(h:R->P:=by intro hk;(repeat(first|refine vj ?_|refine wX ?_));refine yO ?_;refine wY ?_;exact hk):P:=h k
theorem pD(hF:p)(k:R)(h:p->R->P:=by intro hF hk;(repeat(first|refine vj ?_|refine vF hF ?_));refine yO ?_;refine wY ?_;exact hk):P:=h hF k
theorem wa[Decidable q](h:decide q=true)(k:q->r:=by intro h;omega):r:=k (of_decide_eq_true h)
theorem vZ[Decidable q](h:decide q=false)(k:¬q->r:=by intro h;omega):r:=k (of_decide_eq_false h)
end
theorem wq(h:p:=by(repeat(first|exact trivial|refine And.intro ?_ ?_|refine zf.tL ?_|refine zf.aggL ?_|exact zf.int _ _|exact zf.bool _|exact zf.list _ _ _|exact zf.elem _|exact zf.nilsl|exact zf.nil _ _|exact zf.str _))):p:=h
def zyB:=And.intro (@YI za) (And.intro (@YI PV) (And.intro (@Yn za) (@Yn PV)))
def zyC:=And.intro (@ZU Nat PV) (And.intro (@ZU Int PV) (@ZU (Nat×Nat) PV))
theorem vJ{a b P:Prop}(hF:p)(ha:a)(hb:b)(h:p->a->b->P:=by intro hF ha hb;(try refine lF ?_);refine vj (vF hF ?_);refine lu ?_ ?_;exact ha;exact hb):P:=h hF ha hb
section
variable {E:vC}{caught:LE}{rnd:LB}{c:vw}{s:vd}{Q:FX->vd->Prop}{p P:Prop}
theorem uL(k:W E caught rnd c s Q)(h:W E caught rnd c s Q->P:=by intro hk;refine wY ?_;exact hk):P:=h k
end
section
variable {E:vC}{caught:LE}{rnd:LB}{s:vd}{Q:FX->vd->Prop}{x:vy}{u v:vw}{p:Prop}
theorem MM(hF:p)(h1:W E caught rnd u s Q)(hx:p->ev s.tm x=some (.bool true):=by intro hF;simp only[go_sem,hF]<;>rfl):W E caught rnd (.cond x u v) s Q:=uF h1 (hx hF)
theorem ML(hF:p)(h1:W E caught rnd v s Q)(hx:p->ev s.tm x=some (.bool false):=by intro hF;simp only[go_sem,hF]<;>rfl):W E caught rnd (.cond x u v) s Q:=yO h1 (hx hF)
theorem bn(hF:p){b:Bool}(h1:b=true->W E caught rnd u s Q)(h2:b=false->W E caught rnd v s Q)(hx:p->ev s.tm x=some (.bool b):=by intro hF;simp only[go_sem,hF]<;>rfl):W E caught rnd (.cond x u v) s Q:=wA h1 h2 (hx hF)
end
variable {l:List α}{x:α}
theorem Yg{c:vw}{s:vd}{Q:FX->vd->Prop}{p P:Prop}(hF:p)(k:W E caught rnd c s Q)(h:p->W E caught rnd c s Q->P:=by intro hF hk;refine yO ?_ (by simp only[go_sem,hF]<;>rfl);refine wY ?_;exact hk):P:=h hF k
theorem wu{P R:Prop}(k:R)(h:R->P:=by intro hk;(repeat(first|refine vj ?_|refine wX ?_));refine ay ?_;exact hk):P:=h k
theorem uM(h:i<l.length):∃x,l[i]?=some x:=⟨_,Yk h⟩
theorem wB{β:Type}{f:α->β}(h:l[i]?=some x):(l.map f)[i]?=some (f x):=by rw[YH,h];rfl
theorem uo{f:α->PV}{z:Nat}(h:∀x,(f x).cells.length=z:=by intro _;rfl):∀v∈l.map f,v.cells.length=z:=fun v a=>by
 obtain⟨x,_,rfl⟩:=Yx.1 a;exact h x
theorem aw(h:l[i]?=some x):l.drop i=x::l.drop (i+1):=by
 obtain⟨h1,e⟩:=Yl.1 h;rw[YE h1,e]
end Fv
end Go.Proofs.YtkeknmgnoceogaaGreat
