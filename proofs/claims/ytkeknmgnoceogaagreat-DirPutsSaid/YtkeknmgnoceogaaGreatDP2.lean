/- part 2 of the proof of dir_puts. -/
import Derived.Test.YtkeknmgnoceogaaGreatDP1
import Derived.WalkKit
import Derived.WalkSpells
import Derived.WalkLawsBesides
import Derived.Lib.Hide
import Derived.Maps.AppendAt
import Derived.Maps.OwnOps
import Derived.Maps.Views
import Derived.Deep.AppendLies
import Derived.Deep.Draws
import Derived.Deep.RegionHeld3
import Derived.Deep.QuietTactic
import Derived.BigQuiet
import Derived.Deep.RegionWith
import Derived.Test.YtkeknmgnoceogaaGreatProg
import Derived.Laws.MakeOwn
import Derived.Laws.OwnMore
import Derived.RangeFuncNested
import Derived.RangeFuncBound
import Derived.RangeFuncCalls
import Derived.RangeFuncLeaves
import Derived.Shelf.RegionOpen
import Derived.OwnWalkIn
import Derived.TacticsInMore
import Derived.LoopNIn
import Derived.LoopIn
import Derived.Scope
import Derived.Shelf.Abstract
import Derived.OrdersHeld
import Derived.OrdersIn
import Derived.Maps.OwnIn
import Derived.RangeFuncOwn
import Derived.WalkArith
import Derived.Laws.CopyOwn
import Derived.Lib.AppendZerosOnto
import Derived.Lib.Overlaps
import Derived.Laws.Externs
import Derived.Shelf.RegionOpenPlain
import Derived.Lib.JoinLaws
import Derived.Lib.SliceRun
import Derived.Shelf.SortM.Plain
import Derived.KernelRfl
import Derived.Sort.OwnSortedInts
import Derived.IntWalk
set_option linter.unusedSimpArgs false
set_option linter.unusedVariables false
set_option maxRecDepth 100000
set_option maxHeartbeats 4000000
namespace Go.Proofs.YtkeknmgnoceogaaGreat
open Tryz
open Go.RowKit
namespace Tw
variable {P:Program}{ρ ρ':zh}{Z:Nat}{h h':TH}{w:World}
variable {l:Nat}{loc:yP}{tm:LL}{tmps:LM}
theorem Mg{N:Nat}:∀(ps:LN) (vs:LK) (vs':LE) (tm:LL) (tmps:LM),ps.length=vs.length->VL ρ vs vs'->(∀p∈ps,p<N)->N<=tmps.size->yX ρ tm tmps ->
  yX ρ (cp ps vs tm) ((ps.zip vs').foldl (fun tmps (t,a)=>tmps.setIfInBounds t a) tmps)/\((ps.zip vs').foldl (fun tmps (t,a)=>tmps.setIfInBounds t a) tmps).size=tmps.size
 | [],vs,vs',tm,tmps,b,d,c,f,k=>by exact⟨k,rfl⟩
 | p::ps,[],vs',tm,tmps,b,d,c,f,k=>by simp at b
 | p::ps,v::vs,vs',tm,tmps,b,d,c,f,k=>by
  obtain⟨v',cs,rfl,h1,h2⟩:=d.oc;simp only[cp,List.zip_cons_cons,zDH9];have j:=c p Zr;have h:yX ρ (tm.set p (some v)) (tmps.setIfInBounds p v'):=fun t u g=>by
   rw[Tr.get_set]at g
   by_cases e:t=p
   .grind
   .rw[if_neg e]at g;obtain⟨l,m,n⟩:=k t u g
    grind
  obtain⟨o,r⟩:=Mg ps vs cs _ _ (by simpa using b) h2 (fun q i=>c q (Zo _ i)) (by simpa using f) h
  grind
theorem Ns(ps:Array Nat)(vs:LE)(tmps:LM):(ps.zip vs.toArray).foldl (fun tmps (t,a)=>tmps.setIfInBounds t a) tmps=(ps.toList.zip vs).foldl (fun tmps (t,a)=>tmps.setIfInBounds t a) tmps:=by
 obtain⟨ps⟩:=ps;simp
theorem DI(k:WR P Z ρ h w)(hl:ρ l 0=some loc){st st':LoopState}{pe pe':TX}{ps:LN}{aS bo:vP}{d:Nat}(ho:h.get l=some (.loop st pe tm ps aS bo d)){pd:Option Code}(hpd:sG pe' pd):
  ∃rec,w.heap[loc.r]?=some (.loop rec)/\rec.state=st/\sG pe rec.pending/\WR P Z ρ (h.set l (.loop st' pe' tm ps aS bo d)) (w.putObj loc.r (.loop { rec with state:=st',pending:=pd }))/\Below Z w (w.putObj loc.r (.loop { rec with state:=st',pending:=pd })):=by
 obtain⟨T,i,s⟩:=k.obj _ _ _ hl;rw[ho]at i;injection i with i;subst i;obtain⟨Q,rec,o,B,C,D,j,G,I,J,K,L,M,N,O,t,u,v⟩:=s;rw[hl]at j;injection j with j;subst j;have n:∀b m,ρ l b=some m->Z<=m.r:=fun b m a=>k.own a ho (fun cs h=>by cases h);have x:=k.dom _ _ _ hl;have y:=n _ _ hl;have p:(w.putObj loc.r (.loop { rec with state:=st',pending:=pd })).heap[loc.r]?=some (.loop { rec with state:=st',pending:=pd }):=World.putObj_heap_same x.2.2;have z:∀c b f,c≠l->ρ c b=some f->f.r≠loc.r:=fun c b f g a e=>g (k.sep _ _ _ _ _ _ a hl e zo);exact⟨rec,I,J,K,k.change (ρ':=ρ) (x':=.loop st' pe' tm ps aS bo d) (fun _ _ _ h=>h) (fun _ _ _=>rfl) hl (w':=w.putObj loc.r (.loop { rec with state:=st',pending:=pd })) (by simp) (fun c b f g a=>World.putObj_heap_other (z c b f g a))
  ⟨loc,_,o,B,C,D,hl,G,p,rfl,hpd,L,M,N,O,t,u,v⟩ (fun b f a=>by
   have A:=k.dom _ _ _ a;exact⟨n _ _ a,by simp;exact A.2.2⟩) (fun b f a c R S g q e=>g (k.sep _ _ _ _ _ _ a q e (n _ _ a)).symm),Cs y _⟩
theorem Xq{E:vZ}{C:ua}(hC:gf P C)(hR:nJ P C)(hmix:P.follows .mixedOrders=true){args:LK}{b:Bool}(hr:lZ E C l args h=some (b,h')){args':LE}(k:WR P Z ρ h w)(hZ:Z<=w.heap.size)(hl:ρ l 0=some loc)(hv:VL ρ args args'):
  ∃fn tmps assign body,(Instr.yield loc.r args'.toArray).run P w=.ok (.round loc.r fn tmps assign body) w/\RoundIn (Fr none) 0 P loc.r fn tmps assign body w (kR P Z ρ h h' w (.ret (.bool b))):=by
 unfold lZ at hr;obtain⟨o,ho,ab⟩:=k.obj _ _ _ hl;rw[ho]at hr;dsimp only at hr
 cases o with
 | row=>cases hr
 | map=>cases hr
 | dfr=>cases hr
 | ro=>cases hr
 | loop st pe tm ps aS bo d =>
  simp only[EQ]at hr;obtain⟨s,c⟩:=vt hr;have s:=Zk s;obtain⟨bm,f,bp,N,n,m,z,q2,q3,q4,q5,q6,Q,q8,q9,ad,ah,bx⟩:=ab;rw[hl]at z;injection z with z;subst z;subst q8;refine⟨f.fn,_,f.assign,f.body,run_yield q3 (by rw[zBZ9,<- hv.1,<- s];simp),?_⟩;refine roundIn_of_wpIn trivial ?_;obtain⟨t1,t2⟩:=Mg f.params.toList args args' tm f.tmps s hv q9 Q q6
  cases B:we C .nil E.N (some l) aS ⟨cp f.params.toList args tm,[],h⟩with
  | none=>rw[B]at c;cases c
  | some r1 =>
   obtain⟨R,s1⟩:=r1;rw[B]at c;have av:yx P Z ρ N .nil ⟨cp f.params.toList args tm,[],h⟩ { tmps:=(f.params.zip args'.toArray).foldl (fun tmps (t,a)=>tmps.setIfInBounds t a) f.tmps,defers:=[] } w :=
    ⟨k,by rw[Ns];exact t1,by dsimp only;rw[Ns,t2];exact Q,.nil,hZ⟩
   refine wpIn_mono (CN hC hR hmix (ca:=.nil) (rnd:=some loc.r) (trnd:=some l) (.inr fun _=>rfl) n f.assign aS ad ρ _ _ w R s1 ⟨loc,hl,rfl⟩ av B) ?_;intro e a1 w1 hc;obtain⟨S,T,g2,U,J,p⟩:=hc;simp only[DP]at c
   cases R<;>try cases c
   have J:e=.normal:=J;subst J
   cases u:s1.h.get l with
   | none=>rw[u]at c;cases c
   | some o1 =>
    rw[u]at c;dsimp only at c
    cases o1 with
    | row=>cases c
    | map=>cases c
    | dfr=>cases c
    | ro=>cases c
    | loop a0 D ar K L M d1 =>
     simp only[Cr]at c
     cases a0<;>try cases c
     have y:=T.more _ _ _ hl;obtain⟨A,V,p2,p3,_,_⟩:=DI (st':=.busy) (pe':=.norm) (pd:=none) p.wr y u rfl;obtain⟨bs,j,b0,b1,p4,X⟩:=DI (st':=.busy) (pe':=D) (pd:=A.pending) p.wr y u p3;rw[V]at j;injection j with j;injection j with j;subst j;refine⟨w1.putObj loc.r (.loop { A with state:=.busy }),run_beginRound V p2,?_⟩
     cases G:we C .nil E.N (some l) bo ⟨s1.tm,s1.df,s1.h.set l (.loop .busy D ar K L M d1)⟩with
     | none=>rw[G]at c;cases c
     | some r2 =>
      obtain⟨Y,q⟩:=r2;rw[G]at c;have k2:yx P Z S N .nil ⟨s1.tm,s1.df,s1.h.set l (.loop .busy D ar K L M d1)⟩ a1 (w1.putObj loc.r (.loop { A with state:=.busy })):=⟨p4,p.tm,p.sz,p.df,Z0 p.hZ X.size⟩
      refine wpIn_mono (CN hC hR hmix (ca:=.nil) (rnd:=some loc.r) (trnd:=some l) (.inr fun _=>rfl) m f.body bo ah S _ _ _ Y q ⟨loc,y,rfl⟩ k2 G) ?_;intro e a2 w2 a3;obtain⟨ρ2,f1,f2,f3,f4,f5⟩:=a3;simp only[BC]at c
      cases O:q.df with
      | cons _ _=>rw[O]at c;cases c
      | nil =>
       rw[O]at c;dsimp only at c
       cases I:q.h.get l with
       | none=>rw[I]at c;cases c
       | some o2 =>
        rw[I]at c;dsimp only at c
        cases o2 with
        | row=>cases c
        | map=>cases c
        | dfr=>cases c
        | ro=>cases c
        | loop b2 b3 yW a4 a5 a6 d2 =>
         have a7:=f1.more _ _ _ y;have a8:zh.le h.next ρ ρ2:=T.trans f1 (by rw[TH.next_set];exact U);have a9:Below Z w w2:=(g2.trans X).trans f2;have bb:h.next<=q.h.next:=Z0 U (by have:=f3;rw[TH.next_set]at this;exact this);have fin:∀(x:TX) (pd:Option Code),sG x pd->h'=q.h.set l (.loop (if pd.isNone then .ready else .done) x yW a4 a5 a6 d2)->b=pd.isNone->∃v w',(Instr.endRound loc.r pd).run P w2=.ok v w'/\kR P Z ρ h h' w (.ret (.bool b)) (.returned v) w':=fun x pd hx hh hb=>by
          obtain⟨bw,z1,z2,z3,z4,z5⟩:=DI (st':=if pd.isNone then .ready else .done) (pe':=x) (pd:=pd) f5.wr a7 I hx;refine⟨_,_,run_endRound pd z1,ρ2,a8,by rw[hh];exact z4,a9.trans z5,by rw[hh,TH.next_set];exact bb,_,rfl,by rw[hb];exact .bool _⟩
         simp only[Dt]at c
         cases Y with
         | norm =>
          have f4:e=.normal:=f4;subst f4;injection c with c;injection c with g i;exact fin .norm none rfl i.symm g.symm
         | exit id =>
          have f4:e=.exit id:=f4;subst f4;injection c with c;injection c with g i;exact fin (.exit id) (some (.exit id)) rfl i.symm g.symm
         | goto t =>
          have f4:e=.goto t:=f4;subst f4;injection c with c;injection c with g i;exact fin (.goto t) (some (.goto t)) rfl i.symm g.symm
         | ret =>
          have f4:e=.ret:=f4;subst f4;injection c with c;injection c with g i;exact fin .ret (some .ret) rfl i.symm g.symm
         | panic v=>cases c
theorem Ld(k:WR P Z ρ h w)(kt:yX ρ tm tmps):∀(rs:List ResultVar) (ts:List dV) (vs:LK),yf (lW P) rs=some ts->ap tm h ts=some vs ->
  ∃vs',(rs.mapM fun(x:ResultVar)=>(match x with
  | .tmp t=>pure (tmps.getD t undef)
  | .cell a t=>do loadVar t (<- asAddr (tmps.getD a undef)):Sem Value)).run P w=.ok vs' w/\VL ρ vs vs'
 | [],ts,vs,b,c=>by
  simp only[yf]at b;injection b with b;subst b;simp only[ap]at c;injection c with c;subst c;exact⟨[],by simp,VL.nil ρ⟩
 | r::rs,ts,vs,b,c=>by
  unfold yf at b
  split at b
  .cases b
  .rename_i t d
   split at b
   .cases b
   .rename_i ts' hts;injection b with b;subst b;simp only[ap]at c
    split at c
    .cases c
    .rename_i v hv
     split at c
     .cases c
     .rename_i us hus;injection c with c;subst c;obtain⟨o,A,s⟩:=Ld k kt rs ts' us hts hus;have m:∃v',((match r with
       | .tmp t=>pure (tmps.getD t undef)
       | .cell a t=>do loadVar t (<- asAddr (tmps.getD a undef)):Sem Value)).run P w=.ok v' w/\VR ρ v v':=by
       cases r with
       | tmp t0 =>
        simp only[lW]at d;injection d with d;subst d;obtain⟨v',i,e⟩:=kt _ _ hv;exact⟨v',by simp[zBG9,i],e⟩
       | cell t0 B =>
        simp only[lW]at d
        split at d
        .rename_i g n hg hn;injection d with d;subst d;dsimp only at hv
         split at hv
         .rename_i p hp;obtain⟨u,i,e⟩:=kt _ _ hp;obtain⟨v',j,y⟩:=Kr k hg hn e hv;refine⟨v',?_,y⟩;have q:∃l,u=.pointer (some l):=by
           have f:ag g n h p=some v:=hv;unfold ag at f
           split at f
           .cases e;exact⟨_,rfl⟩
           .cases f
          obtain⟨l,rfl⟩:=q;simp only[Instr.loadAt,Instr.sureAddr,Sem.run_bind,Sem.run_pure,Result.andThen_ok]at j;simp only[zBG9,i,zDR9,asAddr,Sem.run_bind,Sem.run_pure,Result.andThen_ok];exact j
         .cases hv
        .cases d
      obtain⟨v',C,z⟩:=m;refine⟨v'::o,?_,.cons z s⟩
      simp_all
theorem W8(k:WR P Z ρ h w){fn:Func}(kt:yX ρ tm tmps){ts:List dV}{vs:LK}(hm:yf (lW P) fn.results.toList=some ts)(hr:ap tm h ts=some vs):∃v',(results fn tmps).run P w=.ok v' w/\VR ρ (sk vs) v':=by
 obtain⟨d,f,a⟩:=Ld k kt _ _ _ hm hr;unfold results;rw[Array.mapM_eq_mapM_toList];simp only[Sem.run_bind,map_eq_pure_bind,bind_assoc];generalize g:Sem.run P (List.mapM _ fn.results.toList) w=X;have e:X=.ok d w:=g.symm.trans f;rw[e];simp only[Result.andThen_ok,pure_bind,Sem.run_pure]
 cases vs with
 | nil =>
  have:=a.oN;subst this;exact⟨_,rfl,VR.tL (VL.nil ρ)⟩
 | cons v vs =>
  obtain⟨v',cs,rfl,b,c⟩:=a.oc
  cases vs with
  | nil =>
   have:=c.oN;subst this;exact⟨_,rfl,b⟩
  | cons u us =>
   obtain⟨i,ds,rfl,j,l⟩:=c.oc;refine⟨.tuple (v'::i::ds).toArray,?_,VR.tL (.cons b (.cons j l))⟩;simp
theorem GW(k:WR P Z ρ h w){b g:Nat}(hρ:ρ b g=some loc){x:TV}(hw:az h b g 0 [x]=some h'):(∃v,w.cell? ⟨loc.r,0,none⟩=some v)/\w.frozen? ⟨loc.r,0,none⟩=false:=by
 unfold az at hw
 split at hw
 .rename_i y hy;unfold sq at hw
  split at hw
  .rename_i e G M len cells;obtain⟨i,n⟩:=vt hw;obtain⟨j,A⟩:=vt n;have i:=Zk i;have j:=Zy j;subst i;obtain⟨o,c,l⟩:=k.obj _ _ _ hρ;rw[hy]at c;injection c with c;subst c;obtain⟨u,p,d,a,B,C,D,q,s⟩:=l.2.2 g l.1 (Zi _);rw[hρ]at d;injection d with d;subst d;have z:=q rfl;obtain⟨_,v,_,m,_,_⟩:=s 0 (by simp at j;omega);obtain⟨t,a,f⟩:=a;have I:0<p.size:=(zAC9.1 m).1;refine⟨⟨v,by simp[World.cell?,a,m]⟩,?_⟩;rcases f with rfl|⟨_,f⟩
   .simp[World.frozen?,a]
   .obtain⟨lo,hi⟩:=t;simp only[World.frozen?,a,Bool.and_eq_false_iff,decide_eq_false_iff_not]
    left
    dsimp only at f;omega
  .cases hw
 .cases hw
theorem Fe(n:Int){r:Nat}{v:Value}(hc:w.cell? ⟨r,0,none⟩=some v)(hf:w.frozen? ⟨r,0,none⟩=false):(storeCells ⟨r,0,none⟩ [.int .i64 n]).run P w=.ok () (w.setCell ⟨r,0,none⟩ (.int .i64 n)):=by
 have a:(⟨r,0,none⟩:Addr).add 0=⟨r,0,none⟩:=by simp[gi]
 simp[storeCells,a,go_sem,hc,hf]
structure fF(P:Program)(errno f:Nat):Prop where
 ent:∀(args:LM) w,(callFunc f args).run P w=.ok (.enter f args) w
 idle:∀p' c' w,CallsDIn (Fr none) 0 P f #[p',c'] .returning w fun e u' w'=>(∃v,e=.returned v)/\u'=.returning/\w'=w
 hit:∀(n:Int) (eb gid:Nat) (cap:LM) (w:World) (R:World->Prop),(∀w,(callFunc gid cap).run P w=.ok (.enter gid cap) w)->CallsIn (Fr none) 0 P gid cap w (fun e w'=>e=.returned (.tuple #[])/\R w') ->
  (∀w1,R w1->(∃v,w1.cell? ⟨eb,0,none⟩=some v)/\w1.frozen? ⟨eb,0,none⟩=false) ->
  CallsDIn (Fr none) 0 P f #[.pointer (some ⟨eb,0,none⟩),.func (.func gid) #[] cap] (.panicking [{ v:=.iface errno (.int .i64 n),recovered:=false }]) w fun e u' w' =>
   (∃v,e=.returned v)/\u'=.panicking [{ v:=.iface errno (.int .i64 n),recovered:=true }]/\∃w1,R w1/\w'=w1.setCell ⟨eb,0,none⟩ (.int .i64 n)
def MR(ρ:zh):TM->FrameMode->Prop
 | .returning,u=>u=.returning
 | .panicking v,u=>∃v',u=.panicking [{ v:=v',recovered:=false }]/\VR ρ v v'
variable {u:FrameMode}
theorem MR.mono(hρ:∀b g loc,ρ b g=some loc->ρ' b g=some loc){m:TM}(k:MR ρ m u):MR ρ' m u:=by
 cases m with
 | returning=>exact k
 | panicking v=>obtain⟨v',a,b⟩:=k;exact⟨v',a,b.mono hρ⟩
theorem MR.ne{m:TM}(k:MR ρ m u):u ≠ .run:=by
 cases m with
 | returning=>simp only[MR]at k;subst k;simp
 | panicking v=>obtain⟨v',rfl,_⟩:=k;simp
theorem Ua{E:vZ}{C:ua}(hC:gf P C)(hca:∀f,E.caught.get f=some ()->fF P E.errno f){fn:Func}{tmps:LM}{R:Ending->World->Prop} :
  ∀(td:LZ) (ds:List Deferred) (m:TM) (u:FrameMode) (h:TH) (w:World) (ρ:zh) (m':TM) (h':TH),WR P Z ρ h w->Z<=w.heap.size->pI ρ E.caught td ds->MR ρ m u->yk E C td m h=some (m',h') ->
  (∀ρ' w' u',zh.le h.next ρ ρ'->WR P Z ρ' h' w'->Below Z w w'->h.next<=h'.next->MR ρ' m' u'->LeavesIn (Fr none) 0 P fn tmps R [] u' w')->LeavesInM (Fr none) 0 P fn tmps R ds u w:=by
 intro td
 induction td with
 | nil =>
  intro ds m u h w ρ m' h' k I J q a G
  cases J
  simp only[yk]at a;injection a with a;injection a with h1 h2;subst h1;subst h2;exact G ρ w u (.refl _ _) k (.refl _ _) (Zi _) q
 | cons t td V =>
  intro ds m u h w ρ m' h' k I J q a G
  cases J with
  | mark x L =>
   rename_i b loc ds;simp only[yk]at a
   split at a
   .rename_i hg;obtain⟨o,M,a7⟩:=k.obj _ _ _ x;rw[hg]at M;injection M with M;subst M;obtain⟨bw,D,X⟩:=a7;rw[x]at D;injection D with D;subst D;have S:∀i Q,ρ b i=some Q->Z<=Q.r:=fun i Q d=>k.own d hg (fun cs h=>by cases h);have a8:=k.dom _ _ _ x;have a9:=S _ _ x;have ah:(w.putObj loc.r (.deferred none)).heap[loc.r]?=some (.deferred none):=World.putObj_heap_same a8.2.2;have bb:∀c i y,c≠b->ρ c i=some y->y.r≠loc.r:=fun c i y z d e=>z (k.sep _ _ _ _ _ _ d x e zo);have k2:=k.change (ρ':=ρ) (x':=.dfr true) (fun _ _ _ h=>h) (fun _ _ _=>rfl) x (w':=w.putObj loc.r (.deferred none)) (by simp) (fun c i y z d=>World.putObj_heap_other (bb c i y z d))
     ⟨loc,x,ah⟩ (fun i y d=>by
      have bm:=k.dom _ _ _ d;exact⟨S _ _ d,by simp;exact bm.2.2⟩) (fun i y d c bx b5 z av e=>z (k.sep _ _ _ _ _ _ d av e (S _ _ d)).symm)
    have ab:=Cs (w:=w) a9 (.deferred none);refine⟨q.ne,.inl ⟨loc.r,_,rfl,run_takeDeferred X,?_⟩⟩;exact V _ m u _ _ ρ m' h' k2 (Z0 I ab.size) L q a fun ρ' w' u' j s A B N=>G ρ' w' u' j s (ab.trans A) B N
   .cases a
  | caught hf hp z L =>
   rename_i f p c O c' ds;have T:=hca f hf;have a0:(invoke (.fn (.func f) #[]) #[O,c']).run P w=.ok (.enter f #[O,c']) w:=by
    simp only[invoke,Array.append_empty];exact T.ent _ w
   refine⟨q.ne,.inr ⟨fun J=>by simp[Fr,Fence.wide]at J,_,_,f,#[O,c'],rfl,a0,fun _ _=>trivial,?_⟩⟩
   cases m with
   | returning =>
    have q:u=.returning:=q;subst q;simp only[yk]at a;refine(T.idle O c' w).mono ?_;rintro e u' w' ⟨⟨v,rfl⟩,rfl,rfl⟩;exact V _ .returning .returning _ _ ρ m' h' k I L rfl a G
   | panicking v =>
    obtain⟨v',rfl,Y⟩:=q;simp only[yk]at a
    split at a
    .rename_i heq
     cases heq
    .rename_i t n heq
     cases heq
     obtain⟨ht,l⟩:=vt a;have ht:=Zk ht
     split at l
     .rename_i g cap
      split at l
      .rename_i h1 hcall
       split at l
       .rename_i b i e0
        split at l
        .rename_i h2 hw
         cases hp with
         | ptr U b6 =>
          rename_i loc
          cases z with
          | fn bo bp =>
           rename_i caps;obtain⟨a6,ad⟩:=hC g _ _ _ h1 hcall Z ρ w caps k I ⟨bo,bp⟩
           cases Y with
           | iface Y =>
            cases Y
            subst ht;refine(T.hit n loc.r g caps.toArray w (fun w1=>∃ρ1,zh.le h.next ρ ρ1/\WR P Z ρ1 h1 w1/\Below Z w w1/\h.next<=h1.next) a6 (ad.mono ?_) ?_).mono ?_
            .rintro e w1 ⟨ρ1,j,s,A,B,v',rfl,N⟩;refine⟨?_,ρ1,j,s,A,B⟩;generalize b7:v'=vv at N
             cases N with
             | tuple bs ca =>
              rename_i cs;have:cs=[]:=by cases cs;rfl;simp at bs
              subst this;rfl
            .rintro w1 ⟨ρ1,j,s,A,B⟩;exact GW s (j.more _ _ _ U) hw
            .rintro e u' w' ⟨⟨v,rfl⟩,rfl,w1,⟨ρ1,j,s,A,B⟩,b0⟩;obtain⟨w2,K,b2,b3,b4⟩:=Ft s (j.more _ _ _ U) (VL.one (.int .i64 n)) (by simp[TV.one]) hw;obtain⟨⟨v0,D⟩,X⟩:=GW s (j.more _ _ _ U) hw;rw[Fe n D X]at K;injection K with _ K;rw[<- b0]at K;subst K;exact V _ .returning .returning _ _ ρ1 m' h' b2 (Z0 I (A.trans b3).size) (L.mono j.more) rfl l fun ρ' w3 u' c1 c2 c3 c4 c5=>G ρ' w3 u' (j.trans c1 (by rw[b4];exact B)) c2 ((A.trans b3).trans c3) (by rw[b4]at c4;exact Z0 B c4) c5
        .cases l
       .cases l
      .cases l
     .cases l
    .cases a
structure nF(P:Program)(E:vZ):Prop where
 mix:P.follows .mixedOrders=true
 fn:∀f F,E.funcs.get f=some F->∃fn,P.funcs[f]?=some fn/\eC P fn=some F/\∀(args:LM) w,(callFunc f args).run P w=.ok (.enter f args) w
 spec:∀f g,E.spec f=some g->∀(Z:Nat) (ρ:zh) (w:World) (args:LK) (args':LE) (h:TH) (r:TE) (h':TH),g args h=some (r,h')->WR P Z ρ h w->Z<=w.heap.size->VL ρ args args' ->
  (∀w,(callFunc f args'.toArray).run P w=.ok (.enter f args'.toArray) w)/\CallsIn (Fr none) 0 P f args'.toArray w (kR P Z ρ h h' w r)
 caught:∀f,E.caught.get f=some ()->fF P E.errno f
variable {E:vZ}
theorem Rn{fn:Func}{F:zd}(hF:eC P fn=some F):∃c,fn.body=some c/\uT P fn.ntmps 1000 c=some F.body/\yf (lW P) fn.results.toList=some F.res/\F.N=fn.ntmps:=by
 unfold eC at hF
 grind
theorem Q8(hE:nF P E){C:ua}(hC:gf P C)(hR:nJ P C):gf P ⟨zV E C,lZ E C⟩:=by
 intro f args h r h' i Z ρ w p k O Q;simp only[zV]at i
 split at i
 .rename_i F hF;obtain⟨L,b⟩:=vt i;have L:=Zy L;obtain⟨D,p1,p2,p3⟩:=hE.fn f F hF;obtain⟨c,c1,c2,c3,c4⟩:=Rn p2;refine⟨fun w=>p3 _ w,callsIn_of_wp_marks p1 c1 trivial ?_⟩
  cases z:we C E.caught E.N none F.body ⟨Tr.putL .nil 0 args,[],h⟩with
  | none=>rw[z]at b;cases b
  | some r1 =>
   obtain⟨x,s⟩:=r1;rw[z]at b;have ab:yx P Z ρ D.ntmps E.caught ⟨Tr.putL .nil 0 args,[],h⟩ { tmps:=p.toArray++Array.replicate (D.ntmps-p.toArray.size) undef,defers:=[] } w:=by
    refine⟨k,fun t v j=>?_,by simp;omega,.nil,O⟩;dsimp only at j;rw[Tr.get_putL]at j
    split at j
    .rename_i hlt;obtain⟨y,y1,y2⟩:=Q.at j
     grind
    .rw[Tr.get_nil]at j;cases j
   refine wpIn_mono (CN hC hR hE.mix (rnd:=none) (trnd:=none) (.inl rfl) 1000 c F.body c2 ρ _ _ w x s trivial ab z) ?_;intro e G w1 hc;obtain⟨R,g1,g2,S,d,n⟩:=hc;have A:∀(m:TM) (u:FrameMode),MR R m u->gJ E F s.tm (yk E C s.df m s.h)=some (r,h')->LeavesInM (Fr none) 0 P D G.tmps (kR P Z ρ h h' w r) G.defers u w1:=fun m u hm a=>by
    cases B:yk E C s.df m s.h with
    | none=>rw[B]at a;cases a
    | some q =>
     obtain⟨T,h2⟩:=q;rw[B]at a;refine Ua hC hE.caught s.df G.defers m u s.h w1 R T h2 n.wr n.hZ n.df hm B fun U w2 u2 V I b3 b4 o=>?_;have M:=g1.trans V S;have X:=g2.trans b3;have Y:=Z0 S b4
     cases T with
     | returning =>
      have o:u2=.returning:=o;subst o;simp only[gJ]at a
      split at a
      .rename_i vs hvs;injection a with a;injection a with J K;subst J;subst K;obtain⟨v',d1,d2⟩:=W8 I (n.tm.mono V.more) c3 hvs;exact⟨v',d1,U,M,I,X,Y,v',rfl,d2⟩
      .cases a
     | panicking v =>
      obtain⟨v',rfl,d2⟩:=o;simp only[gJ]at a;injection a with a;injection a with J K;subst J;subst K;exact⟨U,M,I,X,Y,v',rfl,d2⟩
   simp only[CW]at b
   cases x with
   | norm =>
    have d:e=.normal:=d;subst d;exact A .returning .returning rfl b
   | ret =>
    have d:e=.ret:=d;subst d;exact A .returning .returning rfl b
   | panic v =>
    obtain⟨v',rfl,ad⟩:=d;exact A (.panicking v) _ ⟨v',rfl,ad⟩ b
   | exit id=>cases b
   | goto l=>cases b
 .split at i
  .rename_i g hg;exact hE.spec f g hg Z ρ w args p h r h' i k O Q
  .cases i
theorem CJ(hE:nF P E):∀d,gf P (xy E d)/\nJ P (xy E d)
 | 0=>⟨fun f args h r h' a=>(by cases a),fun l args h b h' a=>(by cases a)⟩
 | d+1=>by
  obtain⟨c,e⟩:=CJ hE d;exact⟨Q8 hE c e,fun l args h b h' a Z ρ w m loc k g i j=>Xq c e hE.mix a k g i j⟩
theorem WR.start(w:World):WR P w.heap.size (fun _ _=>none) ⟨0,.nil⟩ w:=⟨fun _ _ _ h=>(by cases h),fun _ _ _ h=>(by cases h),fun _ _ _ _ _ _ h=>(by cases h)⟩
theorem P2(hE:nF P E){d f:Nat}{r:TE}(hr:(xy E d).fn f [] ⟨0,.nil⟩=some (r,h'))(w:World):
  (∀w,(callFunc f #[]).run P w=.ok (.enter f #[]) w)/\CallsIn (Fr none) 0 P f #[] w fun e w'=>Below w.heap.size w w'/\match r with
   | .ret v=>∃ρ v',e=.returned v'/\VR ρ v v'
   | .panic v=>∃ρ v',e=.panicked [{ v:=v',recovered:=false }]/\VR ρ v v':=by
 obtain⟨h1,h2⟩:=(CJ hE d).1 f [] ⟨0,.nil⟩ r h' hr w.heap.size _ w [] (WR.start w) (Zi _) (VL.nil _);refine⟨h1,h2.mono ?_⟩;rintro e w' ⟨ρ',_,_,a,_,b⟩
 grind
end Tw
variable {Z:Nat}
def uc(w w':World):Prop:=Below w.heap.size w w'
variable {p:Addr}{w w1 w2:World}
theorem uc.refl(w:World):uc w w:=Below.refl _ w
theorem uc.trans(h:uc w w1)(k:uc w1 w2):uc w w2:=Below.trans h (Below.mono k (Below.size h))
theorem uc.drew(h:uc w w1):uc w w1.drew:=Below.drew h
theorem uc.alloc(h:uc w w1)(o:Obj):uc w (w1.alloc o):=Below.alloc h (Below.size h) o
theorem uc.setCell(h:uc w w1)(hp:w.heap.size<=p.block)(u:Value):uc w (w1.setCell p u):=Below.setCell h hp u
theorem uc.grown{row:LA}(h:uc w w1)(hg:w1.grownBy w2 row)(hr:∀k,row=some k->w.heap.size<=k):uc w w2:=Below.grown h hg (Below.size h) hr
theorem uc.size(h:uc w w1):w.heap.size<=w1.heap.size:=Below.size h
theorem uc.below(h:uc w w1):Below w.heap.size w w1:=h
theorem uc.cells{W:World}(hb:uc W w1):(∀b o,b<W.heap.size->w1.cell? ⟨b,o,none⟩=W.cell? ⟨b,o,none⟩)/\(∀b o,b<W.heap.size->w1.frozen? ⟨b,o,none⟩=W.frozen? ⟨b,o,none⟩) :=
 ⟨fun b o h=>Below.cell hb (p:=⟨b,o,none⟩) h,fun b o h=>Below.frozen hb (p:=⟨b,o,none⟩) h⟩
theorem uc.cell(h:uc w w1){v:Value}(hc:w.cell? p=some v):w1.cell? p=some v:=(Below.cell h (World.block_lt_of_cell? w _ hc)).trans hc
theorem uc.block(h:uc w w1){b:Nat}{o:Obj}(hc:w.heap[b]?=some o):w1.heap[b]?=some o:=(Below.block h b (zAC9.1 hc).1).trans hc
theorem QP(w:World)(o1:Obj):uc w (w.alloc o1):=(uc.refl w).alloc o1
theorem uc.grownBy(h:uc w w1)(row:LA):w.grownBy w1 row:=⟨h.os,h.tape,h.output,h.size,fun k a _=>Below.block h k a⟩
theorem fP(b o j:Nat):(⟨b,o,none⟩:Addr).add j=⟨b,o+j,none⟩:=by unfold Addr.add;split<;>simp_all
def xK(w:World)(b:Nat)(t:TypeId):Prop:=∃cs fr,w.heap[b]?=some (.cells cs t fr)
variable {b:Nat}{t:TypeId}{w':World}
theorem xK.lt(h:xK w b t):b<w.heap.size:=by obtain⟨_,_,h⟩:=h;exact(zAC9.1 h).1
theorem xK.ext(h:xK w b t)(hb:uc w w'):xK w' b t:=by obtain⟨cs,a,h⟩:=h;exact⟨cs,a,hb.block h⟩
theorem xK.set(h:xK w b t)(p:Addr)(v:Value):xK (w.setCell p v) b t:=by
 obtain⟨cs,a,h⟩:=h
 by_cases e:p.block=b
 .subst e;exact⟨_,_,by simp[World.setCell,zDU9,h];exact⟨rfl,rfl⟩⟩
 .exact⟨cs,a,(Below.heap_setCell w p v b (fun x=>e x.symm)).trans h⟩
theorem xK.same(h:xK w b t)(he:w'.heap[b]?=w.heap[b]?):xK w' b t:=by obtain⟨cs,a,h⟩:=h;exact⟨cs,a,he.trans h⟩
theorem xK.one{t':TypeId}(h:xK w b t)(h':xK w b t'):t=t':=by
 obtain⟨cs,d,h⟩:=h;obtain⟨a,c,h'⟩:=h'
 grind
theorem Vz{base:Nat}{e:TypeId}{size n:Nat}{v:Value}{xs:LE}(h:w.ownsRow base e size v n xs)(hb:v.ownBlock=some b):xK w b e:=by
 rcases h.2 with⟨rfl,_⟩|⟨g,c,d,rfl,_,a,_⟩
 .simp[Value.ownBlock]at hb
 .simp[Value.ownBlock]at hb;subst hb;exact⟨_,_,a⟩
def nI(t:TypeId)(Z:Nat)(w:World)(b:Nat):Prop:=b<Z\/xK w b t
theorem nI.same{w':World}(h:nI t Z w b)(he:w'.heap[b]?=w.heap[b]?):nI t Z w' b:=h.imp id fun h=>h.same he
theorem nI.ne{X:Nat}{t':TypeId}(h:nI t Z w b)(hX:Z<=X)(ht:xK w X t')(hne:t'≠t):b≠X:=by
 rintro rfl;rcases h with h|h
 .omega
 .exact hne (ht.one h)
def RT(t:TypeId)(Z:Nat)(w:World)(A:Option Addr)(xs:LE):Prop :=
 xs ≠ []->∃b o,A=some ⟨b,o,none⟩/\nI t Z w b/\∀(j:Nat) u,xs[j]?=some u->w.cell? ⟨b,o+j,none⟩=some u
variable {t:TypeId}
variable {base:Nat}{e:TypeId}{n o:Nat}{v:Value}{xs:LE}
theorem RT.nil(w:World)(A:Option Addr):RT t Z w A []:=fun h=>(h rfl).elim
theorem RT.move{A xs}(h:RT t Z w A xs)(hb:∀b o,A=some ⟨b,o,none⟩->nI t Z w b->b<w.heap.size->w'.heap[b]?=w.heap[b]?):RT t Z w' A xs:=fun c=>by
 obtain⟨b,o,d,e,f⟩:=h c;have i:b<w.heap.size:=by
  obtain⟨u,l,rfl⟩:=List.exists_cons_of_ne_nil c;exact World.block_lt_of_cell? w _ (f 0 u rfl)
 have g:=hb b o d e i;exact⟨b,o,d,e.same g,fun j u k=>(World.cell?_of_block (a:=⟨b,o+j,none⟩) g).trans (f j u k)⟩
theorem RT.ext{A xs}(h:RT t Z w A xs)(hb:uc w w'):RT t Z w' A xs:=h.move fun b _ _ _ a=>Below.block hb b a
theorem RT.drew{A xs}(h:RT t Z w A xs):RT t Z w.drew A xs:=h.ext (uc.refl _).drew
theorem RT.alloc{A xs}(h:RT t Z w A xs)(o:Obj):RT t Z (w.alloc o) A xs:=h.ext (QP _ _)
theorem RT.grown{A xs}(h:RT t Z w A xs){size:Nat}{ys:LE}(hown:w.ownsRow base e size v n ys)(he:e≠t)(hb:Z<=base)(hg:w.grownBy w' v.ownBlock):RT t Z w' A xs :=
 h.move fun b _ _ c d=>hg.block b d fun a=>c.ne (Z0 hb (hown.lt b a.symm).1) (Vz hown a.symm) he rfl
theorem RT.set{A xs}(h:RT t Z w A xs){p:Addr}(hp:Z<=p.block)(ht:xK w p.block e)(he:e≠t)(v:Value):RT t Z (w.setCell p v) A xs :=
 h.move fun b _ _ a _=>Below.heap_setCell w p v b (a.ne hp ht he)
theorem RT.lt{A xs}(h:RT t Z w A xs)(hA:A=some ⟨b,o,none⟩)(hl:xs ≠ []):b<w.heap.size:=by
 obtain⟨e,f,a,_,d⟩:=h hl;rw[hA]at a;injection a with a;injection a with a c;subst a;subst c;obtain⟨u,l,rfl⟩:=List.exists_cons_of_ne_nil hl;exact World.block_lt_of_cell? w _ (d 0 u rfl)
theorem RT.mono{A xs}(h:RT t Z w A xs){Z':Nat}(hz:Z<=Z'):RT t Z' w A xs:=fun a=>by
 obtain⟨b,o,c,d,e⟩:=h a;exact⟨b,o,c,d.imp (fun h=>ZR h hz) id,e⟩
theorem RT.sub{xs}(h:RT t Z w (some ⟨b,o,none⟩) xs)(k n:Nat):RT t Z w (some ⟨b,o+k,none⟩) ((xs.drop k).take n):=fun d=>by
 have c:xs ≠ []:=by rintro rfl;simp at d
 obtain⟨e,f,a,g,i⟩:=h c;injection a with a;injection a with h1 h2;subst h1;subst h2
 grind
theorem RT.drop{xs}(h:RT t Z w (some ⟨b,o,none⟩) xs)(k:Nat):RT t Z w (some ⟨b,o+k,none⟩) (xs.drop k):=by
 have:=h.sub k (xs.drop k).length
 grind
theorem RT.take{A xs}(h:RT t Z w A xs)(n:Nat):RT t Z w A (xs.take n):=fun c=>by
 have a:xs ≠ []:=by rintro rfl;simp at c
 obtain⟨b,o,d,e,f⟩:=h a
 grind
theorem Vy{size:Nat}(h:w.ownsRow base e size v n xs):
  ∃A c,v=.slice A n c/\n<=c/\c<=maxLen/\RT e Z w A xs/\∀b o,A=some ⟨b,o,none⟩->base<=b/\b<w.heap.size/\o=0/\v.ownBlock=some b:=by
 rcases h.2 with⟨rfl,rfl⟩|⟨g,p,q,rfl,d,a,f,i,_⟩
 .have:xs=[]:=Z6 (by simpa using h.1);subst this;exact⟨none,0,rfl,Zi _,Zn _,RT.nil _ _,fun _ _ h=>by cases h⟩
 .refine⟨_,_,rfl,f,i,fun _=>⟨g,0,rfl,.inr ⟨_,_,a⟩,fun j u k=>?_⟩,fun b o e=>?_⟩
  .have:=h.cells (g:=g) rfl j u k
   rwa [fP]at this
  .injection e with e;injection e with l m;subst l;subst m;exact⟨d,(zAC9.1 a).1,rfl,rfl⟩
theorem Vx{size:Nat}(h:w.ownsRow base e size v n xs)(hx:uc w w'):w'.ownsRow base e size v n xs:=by
 refine World.ownsRow.kept h (row:=none) (hx.grownBy none) ?_
 grind
section
variable {P:Program}(w:World)
end
structure uZ(α:Type) where
 t:TypeId
 size:Nat
 bytes:Nat
 enc:α->LE
 len:∀a,(enc a).length=size
 one:∀a,∀u∈enc a,u.oneCell'=true
 pos:0<size
 z:Value
 info:(prog.info? t).map (fun i=>(i.zero,i.size,i.bytes))=some (some z,size,bytes)
 zs:z.cells.size=size
variable {α:Type}{L:uZ α}
def uZ.all(L:uZ α)(l:List α):LE:=l.flatMap L.enc
theorem uZ.all_cons(L:uZ α)(a:α)(l:List α):L.all (a::l)=L.enc a++L.all l:=rfl
theorem uZ.all_one(L:uZ α)(a:α):L.all [a]=L.enc a:=by simp[uZ.all]
theorem uZ.all_len(L:uZ α)(l:List α):(L.all l).length=l.length*L.size:=by
 induction l with
 | nil=>simp[uZ.all]
 | cons a l b=>rw[L.all_cons,Zl,L.len,b,Zp,zBK9,zBJ9]
theorem uZ.all_oneCell(L:uZ α)(l:List α):∀u∈L.all l,u.oneCell'=true:=by
 intro u b;obtain⟨a,_,c⟩:=ZF.1 b;exact L.one a u c
theorem uZ.all_at(L:uZ α):∀(l:List α) (j:Nat) (a:α),l[j]?=some a->∀i u,(L.enc a)[i]?=some u->(L.all l)[j*L.size+i]?=some u
 | [],_,_,h,_,_,_=>by simp at h
 | x::l,0,a,h,i,u,b=>by
  simp at h;subst h;have c:i<(L.enc x).length:=(Zh.1 b).1;rw[L.all_cons,Nat.zero_mul,ZT,ZM c];exact b
 | x::l,j+1,a,h,i,u,b=>by
  have c:i<L.size:=by rw[<- L.len a];exact(Zh.1 b).1
  rw[L.all_cons,ZH (by rw[L.len];rw[zBK9];omega),L.len];have:=L.all_at l j a (by simpa using h) i u b
  grind
theorem uZ.all_drop(L:uZ α):∀(k:Nat) (l:List α),L.all (l.drop k)=(L.all l).drop (k*L.size)
 | 0,l=>by simp
 | k+1,[]=>by simp[uZ.all]
 | k+1,x::l=>by
  have e:(k+1)*L.size=L.size+k*L.size:=by rw[zBK9,zBJ9]
  rw[zDF9,L.all_drop k l,L.all_cons,e,<- zBU9];have a:List.drop L.size (L.enc x++L.all l)=L.all l:=by
   have:=zDL9 (l₁:=L.enc x) (l₂:=L.all l)
   rwa [L.len]at this
  rw[a]
theorem uZ.all_take(L:uZ α):∀(k:Nat) (l:List α),L.all (l.take k)=(L.all l).take (k*L.size)
 | 0,l=>by simp[uZ.all]
 | k+1,[]=>by simp[uZ.all]
 | k+1,x::l=>by
  have e:(k+1)*L.size=(L.enc x).length+k*L.size:=by rw[zBK9,zBJ9,L.len]
  rw[zED9,L.all_cons,L.all_take k l,L.all_cons,e,List.take_length_add_append]
theorem uZ.all_ne(L:uZ α){l:List α}(h:l ≠ []):L.all l ≠ []:=by
 intro e;have:=L.all_len l;rw[e]at this;have a:=Nat.mul_pos (zAI9.2 h) L.pos
 grind
def RL(L:uZ α)(Z:Nat)(w:World)(A:Option Addr)(l:List α):Prop:=RT L.t Z w A (L.all l)
variable {l:List α}
theorem RL.nil(w:World)(A:Option Addr):RL L Z w A []:=RT.nil w A
theorem RL.ext{w':World}{A}(h:RL L Z w A l)(hb:uc w w'):RL L Z w' A l:=RT.ext h hb
theorem RL.alloc{A}(h:RL L Z w A l)(o:Obj):RL L Z (w.alloc o) A l:=RT.alloc h o
theorem RL.drew{A}(h:RL L Z w A l):RL L Z w.drew A l:=RT.drew h
theorem RL.at{A}(h:RL L Z w A l)(hl:l ≠ []):∃b o,A=some ⟨b,o,none⟩/\b<w.heap.size/\nI L.t Z w b/\∀j a,l[j]?=some a->∀i u,(L.enc a)[i]?=some u->w.cell? ⟨b,o+(j*L.size+i),none⟩=some u:=by
 obtain⟨b,o,c,d,e⟩:=h (L.all_ne hl);exact⟨b,o,c,RT.lt h c (L.all_ne hl),d,fun j a f i u g=>e _ u (L.all_at l j a f i u g)⟩
theorem RL.sub{b o:Nat}(h:RL L Z w (some ⟨b,o,none⟩) l)(k n:Nat):RL L Z w (some ⟨b,o+k*L.size,none⟩) ((l.drop k).take n):=by
 unfold RL;rw[L.all_take,L.all_drop];exact RT.sub h (k*L.size) (n*L.size)
theorem RL.take{A}(h:RL L Z w A l)(n:Nat):RL L Z w A (l.take n):=by
 unfold RL;rw[L.all_take];exact RT.take h _
def OL(L:uZ α)(w:World)(base:Nat)(v:Value)(l:List α):Prop:=w.ownsRow base L.t L.size v l.length (L.all l)
theorem OL.nil(L:uZ α)(w:World)(base:Nat):OL L w base (.slice none 0 0) []:=World.ownsRow_nil w base _ _
theorem OL.rl{base v}(h:OL L w base v l):∃A c,v=.slice A l.length c/\l.length<=c/\c<=maxLen/\RL L Z w A l/\∀b o,A=some ⟨b,o,none⟩->base<=b/\b<w.heap.size/\o=0/\v.ownBlock=some b:=Vy h
theorem OL.alloc{base v}(h:OL L w base v l)(o:Obj):OL L (w.alloc o) base v l:=World.ownsRow.alloc h o
theorem OL.ext{w':World}{base v}(h:OL L w base v l)(hx:uc w w'):OL L w' base v l:=Vx h hx
def LU:uZ Nat:=⟨29,1,8,fun x=>[.int .u64 x],fun _=>rfl,fun _ u hu=>(by simp only[ZD,zAX9,or_false]at hu;subst hu;rfl),by decide,.int .u64 0,by kernel_rfl,rfl⟩
def LI:uZ Int:=⟨3,1,8,fun x=>[.int .i64 x],fun _=>rfl,fun _ u hu=>(by simp only[ZD,zAX9,or_false]at hu;subst hu;rfl),by decide,.int .i64 0,by kernel_rfl,rfl⟩
def LT:uZ (Int×Nat):=⟨120,2,16,fun x=>[.int .i64 x.1,.int .u64 x.2],fun _=>rfl,fun _ u hu=>(by simp only[ZD,zAX9,or_false]at hu;rcases hu with rfl|rfl<;>rfl),by decide,.agg #[.int .i64 0,.int .u64 0],by kernel_rfl,rfl⟩
theorem RL.u64{A}{l:LN}(h:RL LU Z w A l)(hl:l ≠ []):∃b o,A=some ⟨b,o,none⟩/\b<w.heap.size/\nI 29 Z w b/\∀j (hj:j<l.length),w.cell? ⟨b,o+j,none⟩=some (.int .u64 (l[j]:Nat)):=by
 obtain⟨b,o,a,c,d,e⟩:=h.at hl;refine⟨b,o,a,c,d,fun j hj=>?_⟩;have:=e j l[j] (Zg hj) 0 (.int .u64 (l[j]:Nat)) rfl;simpa[LU]using this
theorem RL.int{A}{l:LG}(h:RL LI Z w A l)(hl:l ≠ []):∃b o,A=some ⟨b,o,none⟩/\b<w.heap.size/\nI 3 Z w b/\∀j (hj:j<l.length),w.cell? ⟨b,o+j,none⟩=some (.int .i64 l[j]):=by
 obtain⟨b,o,a,c,d,e⟩:=h.at hl;refine⟨b,o,a,c,d,fun j hj=>?_⟩;have:=e j l[j] (Zg hj) 0 (.int .i64 l[j]) rfl;simpa[LI]using this
theorem RL.put{A}{l:List (Int×Nat)}(h:RL LT Z w A l)(hl:l ≠ []):∃b o,A=some ⟨b,o,none⟩/\b<w.heap.size/\nI 120 Z w b/\∀j (hj:j<l.length),w.cell? ⟨b,o+j*2,none⟩=some (.int .i64 l[j].1)/\w.cell? ⟨b,o+j*2+1,none⟩=some (.int .u64 (l[j].2:Nat)):=by
 obtain⟨b,o,c,d,e,a⟩:=h.at hl;refine⟨b,o,c,d,e,fun j hj=>⟨?_,?_⟩⟩
 .have:=a j l[j] (Zg hj) 0 (.int .i64 l[j].1) rfl;simpa[LT]using this
 .have:=a j l[j] (Zg hj) 1 (.int .u64 (l[j].2:Nat)) rfl;simpa[LT,zCI9]using this
theorem uc.frozen{w1:World}(h:uc w w1){o:Nat}{u:Bool}(hc:w.frozen? ⟨b,o,none⟩=u)(hb:b<w.heap.size):w1.frozen? ⟨b,o,none⟩=u:=(h.cells.2 b o hb).trans hc
attribute [go_sem] Oper.semAt_some
theorem xK.cells(h:xK w b t):∃o,w.heap[b]?=some o/\o.isCells=true:=by
 obtain⟨cs,a,h⟩:=h;exact⟨_,h,rfl⟩
open Go.RowKit Go.Maps
structure NJ where
 t:TypeId
 k:TypeId
 q:IntKind
 hk:prog.underlying k=some (.int q)
 ht:prog.underlying t=some (.map k 3)
variable {M:NJ}{B:Nat}{S:LG}
theorem RT.map{w w':World}{A xs}(h:RT t Z w A xs){o:Obj}(ho:w.heap[B]?=some o)(hc:o.isCells=false)(hB:Z<=B)(hg:w.grownBy w' (some B)):RT t Z w' A xs :=
 h.move fun b _ _ a c=>hg.block b c fun e=>by
  injection e with e;subst e;rcases a with a|⟨cs,d,a⟩
  .omega
  .rw[ho]at a;injection a with a;subst a;cases hc
namespace Tw
variable {ρ:zh}
theorem VR.sl_inv{b g o n q z:Nat}{v:Value}(h:VR ρ (.sl b g o n q z) v):∃loc o' c,v=.slice (some ⟨loc.r,o',none⟩) n c/\ρ b g=some loc/\n<=q/2/\q/2<=c/\o+q/2*z<=loc.L/\(o'=o\/n=0/\c=0/\o≠0)/\(q%2=0->o+c*z=loc.S)/\c<=maxLen:=by
 cases h
 grind
def pS(l:LG):LG:=l.mergeSort fun x y=>decide (x<=y)
theorem Yp(l:LG):(pS l).length=l.length:=List.length_mergeSort _
def Ac:LK->Option (LG)
 | []=>some []
 | .int .i64 a::l=>(match Ac l with
  | some r=>some (a::r)
  | none=>none)
 | _=>none
def dc(l:LG):LK:=l.map fun a=>.int .i64 a
theorem IR:∀{l:LK} {r:LG},Ac l=some r->l=dc r
 | [],r,h=>by injection h with h;subst h;rfl
 | x::l,r,h=>by
  unfold Ac at h
  split at h
  .grind
  .rename_i a l' e;injection e with b c;subst b;subst c
   split at h
   .rename_i r' hr;injection h with h;subst h;rw[IR hr];rfl
   .cases h
  .cases h
noncomputable def Mp (h:TH)(b g n e0:Nat):TO->Option (TE×TH)
 | .row e G M len cells=>bif Nat.beq e e0 then bif Nat.beq g G then bif Nat.beq n len then bif Nat.ble M G then bif Nat.ble n 1000000 then(match cells.getL 0 len with
  | some l=>(match Ac l with
   | some r=>some (.ret (.tuple []),h.set b (.row e G G len (Tr.putL .nil 0 (dc (pS r)))))
   | none=>none)
  | none=>none)else none else none else none else none else none
 | _=>none
noncomputable def BS (e0:Nat)(vs:LK)(h:TH):Option (TE×TH):=match vs with
 | [.sl b g 0 n _ 1]=>(match h.get b with
  | some o=>Mp h b g n e0 o
  | none=>none)
 | _=>none
end Tw
variable {Z:Nat}
variable {Q:Exit->Act->World->Prop}{a:Act}{o:Oper}{ops:LX}(l:List (Int×Nat))(w:World)(x:Int×Nat)(base g:Nat)
theorem Lq{P:Program}(dT sT ty elem:TypeId)(size g o dLen dCap:Nat)(a:Addr)(sLen sCap:Nat)(cur:LE)(t:TypeId)(cs:LE)(hu:P.underlying dT=some (.slice elem))(hs:(P.info? elem).map (·.size)=some size)(hg:w.heap[g]?=some (.cells cur.toArray t (0,0)))(hn:cs.length=Nat.min sLen dLen*size)(hsrc:∀j v,cs[j]?=some v->w.cell? (a.add j)=some v)(hfit:o+cs.length<=cur.length)(h1:∀v∈cs,v.oneCell'=true):
  (Builtin.copy_ #[dT,sT] ty #[.slice (some ⟨g,o,none⟩) dLen dCap,.slice (some a) sLen sCap]).run P w =
   .ok (goInt (Nat.min sLen dLen:Nat)) (w.setRow g (splice cur o cs).toArray):=by
 have d:=run_loadCells_list (P:=P) w a cs hsrc;have c:=run_storeCells_at P g o t cs 0 cur.toArray w hg (by simpa using hfit) h1
 cases b:P.info? elem with
 | none=>simp[b]at hs
 | some i =>
  have e:i.size=size:=by simpa[b]using hs
  simp only[zBA9,ZK]at c;simp[Builtin.copy_,run_underlying hu,Builtin.lenOf,Builtin.firstCells,sizeOf,typeInfo,b,e,<- hn,d,c,splice]
theorem Yf(R X S:List α)(hX:X.length=2):splice (splice R 0 X) 2 S=X++(S++R.drop (2+S.length)):=by
 have a:splice R 0 X=X++R.drop 2:=by unfold splice;simp[hX]
 rw[a];unfold splice;rw[zAT9 zo,ZO zo,List.drop_append,zDO9 zo,zBU9,ZA]
 grind
theorem Yg(C X S:List α)(hX:X.length=2)(hC:2<=C.length):splice (splice C 2 S) 0 X=X++(S++C.drop (2+S.length)):=by
 unfold splice
 grind
theorem IA(cs:LM):w.grownBy (w.setRow g cs) (some g) :=
 ⟨rfl,rfl,rfl,by simp[World.setRow],fun k _ a=>setRow_other w g k cs (fun e=>a (by rw[e]))⟩
theorem pp{w:World}{rest:AA}(hgd:o.guard=none)(d s:Operand)(dT sT:TypeId)(ho:o.op=.call { callee:=.builtin .copy,args:=#[d,s],argTypes:=#[dT,sT] })(elem:TypeId)(hu:prog.underlying dT=some (.slice elem))(size:Nat)(hsz:(prog.info? elem).map (·.size)=some size)(g off dLen dCap:Nat)(ad:Addr)(sLen sCap:Nat)(hd:a.eval d=.slice (some ⟨g,off,none⟩) dLen dCap)(hs:a.eval s=.slice (some ad) sLen sCap)(cur:LE)(t:TypeId)(hg:w.heap[g]?=some (.cells cur.toArray t (0,0)))(cs:LE)(hn:cs.length=Nat.min sLen dLen*size)(hsrc:∀j v,cs[j]?=some v->w.cell? (ad.add j)=some v)(hfit:off+cs.length<=cur.length)(h1:∀v∈cs,v.oneCell'=true)(h:∀w',Hid (w'.heap[g]?=some (.cells (splice cur off cs).toArray t (0,0)))->Hid (w.grownBy w' (some g))->wpList prog ops Q rest (a.put o.dst (goInt (Nat.min sLen dLen:Nat))) w'):wpList prog ops Q (o::rest) a w:=by
 refine wpList_plain hgd fun K c=>?_;have b:=Lq (P:=prog) w dT sT o.type elem size g off dLen dCap ad sLen sCap cur t cs hu hsz hg hn hsrc hfit h1;unfold Oper.wp;simp[execOp,ho,resolve,invoke,builtin,hd,hs,b,Result.andThen];exact c _ _ (h _ (Lib.hid (setRow_heap w g _ _ t _ hg)) (Lib.hid (IA _ _ _)))
theorem MD{w:World}{K:Act->World->Prop}{E:Prop}(hgd:o.guard=none)(d s:Operand)(dT sT:TypeId)(ho:o.op=.call { callee:=.builtin .copy,args:=#[d,s],argTypes:=#[dT,sT] })(elem:TypeId)(hu:prog.underlying dT=some (.slice elem))(size:Nat)(hsz:(prog.info? elem).map (·.size)=some size)(g off dLen dCap:Nat)(ad:Addr)(sLen sCap:Nat)(hd:a.eval d=.slice (some ⟨g,off,none⟩) dLen dCap)(hs:a.eval s=.slice (some ad) sLen sCap)(cur:LE)(t:TypeId)(hg:w.heap[g]?=some (.cells cur.toArray t (0,0)))(cs:LE)(hn:cs.length=Nat.min sLen dLen*size)(hsrc:∀j v,cs[j]?=some v->w.cell? (ad.add j)=some v)(hfit:off+cs.length<=cur.length)(h1:∀v∈cs,v.oneCell'=true)(h:∀w',Hid (w'.heap[g]?=some (.cells (splice cur off cs).toArray t (0,0)))->Hid (w.grownBy w' (some g))->K (a.put o.dst (goInt (Nat.min sLen dLen:Nat))) w'):
  if Region.wanted o (yielded ops a.tmps)=true then Oper.wp prog o a w K Q else E:=by
 have c:Region.wanted o (yielded ops a.tmps)=true:=by simp[Region.wanted,hgd]
 rw[if_pos c];have b:=Lq (P:=prog) w dT sT o.type elem size g off dLen dCap ad sLen sCap cur t cs hu hsz hg hn hsrc hfit h1;unfold Oper.wp;simp[execOp,ho,resolve,invoke,builtin,hd,hs,b,Result.andThen];exact h _ (Lib.hid (setRow_heap w g _ _ t _ hg)) (Lib.hid (IA _ _ _))
theorem kj:(prog.info? 120).map (·.size)=some 2:=by
 obtain⟨e,a,c,b,d⟩:=info_parts LT.info;rw[show 120=LT.t from rfl,a];simp[b,LT]
theorem Sl(c vb vc:Nat)(w:World)(hl:l ≠ [])(hn:l.length<=100000)(hroom:¬l.length+1<=c)(h:OL LT w base (.slice (some ⟨g,0,none⟩) l.length c) l)(hv:RL LT Z w (some ⟨vb,0,none⟩) [x])(hb:base<=w.heap.size):
  Calls prog 200 #[.slice (some ⟨g,0,none⟩) l.length c,.int .i64 0,.slice (some ⟨vb,0,none⟩) 1 vc] w fun e w'=>∃v,e=.returned v/\OL LT w' base v (x::l)/\Below base w w'/\(∃g' c',v=.slice (some ⟨g',0,none⟩) (l.length+1) c'/\(g'=g\/w.heap.size<=g'))/\∀k,k≠g->k<w.heap.size->w'.heap[k]?=w.heap[k]?:=by
 obtain⟨A,c',a5,a6,a7,a8,O⟩:=OL.rl (Z:=0) h;injection a5 with D e2 e3;subst D;subst e3;have q:=O g 0 rfl;have b6:0<l.length:=zAI9.2 hl;obtain rfl:c=l.length:=by omega
 obtain⟨bb,oo,r,cb,_,P⟩:=RL.at hv (by simp);injection r with r;injection r with a3 a4;subst a3;subst a4;obtain⟨i0,Q,R,S,s⟩:=info_parts LT.info;have T:(LT.all l).length=l.length*2:=LT.all_len l;have U:∀j u,(LT.all [x])[j]?=some u->w.cell? ((⟨vb,0,none⟩:Addr).add j)=some u:=fun j u d=>by
  rw[fP];have:=P 0 x rfl j u (by rwa [LT.all_one]at d);simpa using this
 have V:∀j u,(LT.all l)[j]?=some u->w.cell? ((⟨g,0,none⟩:Addr).add j)=some u:=World.ownsRow.cells h rfl;have X:∀u∈LT.all l,u.oneCell'=true:=LT.all_oneCell l;have Y:∀u∈LT.all [x],u.oneCell'=true:=LT.all_oneCell [x];have M:(LT.all [x]).length=2:=LT.all_len [x];have N:(Builtin.firstCells i0.size 0 (.slice (some ⟨g,0,none⟩) 0 l.length)).run prog w.drew=.ok ([]:LE).toArray w.drew :=
  run_firstCells_some w.drew _ 0 ⟨g,0,none⟩ 0 l.length [] (by simp) (fun j v d=>by simp at d)
 have m:∀I,(Builtin.append_ #[57,3] I #[.slice (some ⟨g,0,none⟩) 0 l.length,.int .i64 ((l.length:Int)+1)]).run prog w =
   .ok (.slice (some ⟨w.heap.size,0,none⟩) (l.length+1) (grownCap w (l.length+1) l.length 120)) (w.drew.alloc (.cells (([]:LE).toArray++Builtin.zeroCells LT.z.cells (l.length+1)++Builtin.zeroCells LT.z.cells (grownCap w (l.length+1) l.length 120-(l.length+1))) 120)):=fun I=>by
  have h:=Lib.run_append_grow_zeros w 57 3 I 120 i0 _ .i64 .i64 underlying57 underlying3 Q R (some ⟨g,0,none⟩) 0 l.length [] N (l.length+1) zo (by rw[S];exact LT.pos) zo zo (by rw[s];simp only[LT];omega) (by rw[s];exact growslice_fits zo (by simp only[LT];omega));simp only[ZT]at h;exact h
 have ab:=grownCap_ge w (l.length+1) l.length 120;have t:=grownCap_le_maxLen w (l.length+1) l.length 120 (by simp only[maxLen];omega);obtain⟨G,hG⟩:∃G,G=grownCap w (l.length+1) l.length 120:=⟨_,rfl⟩
 rw[<- hG]at m ab t;obtain⟨a,p⟩:∃a:LE,a.toArray=([]:LE).toArray++Builtin.zeroCells LT.z.cells (l.length+1)++Builtin.zeroCells LT.z.cells (G-(l.length+1)):=⟨_,Array.toArray_toList⟩
 rw[<- p]at m;have ad:a.length=G*2:=by
  have:=congrArg Array.size p;simp only[zBZ9,zCK9,size_zeroCells,Zz]at this;rw[show LT.z.cells.size=2 from rfl]at this;omega
 have n:(w.drew.alloc (.cells a.toArray 120)).heap[w.heap.size]?=some (.cells a.toArray 120 (0,0)):=heap_alloc_new w.drew _;have y:uc w (w.drew.alloc (.cells a.toArray 120)):=((uc.refl w).drew).alloc _;obtain⟨i,ah⟩:∃i,i=w.drew.alloc (.cells a.toArray 120):=⟨_,rfl⟩
 rw[<- ah]at m n y;clear ah p hG N;have b7:w.heap.size+1<=i.heap.size:=(zAC9.1 n).1;have ca:G<=9223372036854775807:=by simp only[maxLen]at t;omega
 have k1:¬((l.length:Int)=0):=by omega
 have cc:¬((0:Int)=(l.length:Int)):=by omega
 have k2:¬G=0:=by omega
 have k3:¬G=1:=by omega
 have k4:¬l.length=0:=by omega
 have k5:(l.length:Int)<(l.length:Int)+1:=by omega
 have k6:(0:Int)<=(l.length:Int):=by omega
 have b5:prog.follows Departure.mixedOrders=true:=by kernel_rfl
 have k7:IntKind.i64.wrap 1=1:=by rw[IntKind.wrap_i64];omega
 have k8:(1:Int)<=(l.length:Int)+1:=by omega
 have k9:(1:Int).toNat=1:=rfl;have a9:=Lib.hid n;have bm:=Lib.hid U;have bo:=Lib.hid V;have bp:=Lib.hid X;have bs:=Lib.hid Y;have J:=Lib.hid T;have o:=Lib.hid M;have B:=Lib.hid ad;have b:=Lib.hid y;have HO:=Lib.hid h;have bw:=Lib.hid (And.intro q.1 q.2.1);clear n U V X Y T M ad y a8 O q P e2 a6 a7 h hv Q R S s
 go_enter func200,Tryz.ntmps200
 iterate 137 go_step
 refine Lib.wpList_append_run _ rfl _ _ _ _ rfl _ _ rfl rfl _ _ (m _) ?_
 iterate 20 go_step
 refine pp rfl _ _ 57 57 rfl 120 underlying57 2 kj w.heap.size 0 _ _ ⟨vb,0,none⟩ 1 _ rfl rfl a 120 a9.out (LT.all [x]) (by show _=min _ _*2;rw[o.out];omega) (fun j u d=>b.out.cell (bm.out j u d)) (by rw[o.out,B.out];omega) bs.out ?_;intro w2 bx f
 iterate 4 go_step
 have av:∀j u,(LT.all l)[j]?=some u->(w2.drew).cell? ((⟨g,0,none⟩:Addr).add j)=some u:=fun j u d=>by
  have h1:=b.out.cell (bo.out j u d);rw[fP]at h1⊢;exact f.out.cell h1 (fun e=>by injection e with e;have:=bw.out.2;dsimp only at e;omega)
 have a0:(splice a 0 (LT.all [x])).length=G*2:=by rw[length_splice _ _ _ (by rw[o.out,B.out];omega)];exact B.out
 have b0:=Lib.hid av;have C:=Lib.hid a0;clear av a0
 go_region_law_o (refine MD rfl _ _ 57 57 rfl 120 underlying57 2 kj w.heap.size 2 l.length (G-1) ⟨g,0,none⟩ l.length l.length (by simp[Act.eval,Act.put]) (by simp[Act.eval,Act.put]) (splice a 0 (LT.all [x])) 120 bx.out (LT.all l) (by show _=min _ _*2;rw[J.out];omega) b0.out (by rw[J.out,C.out];omega) bp.out ?_;intro w4 b4 a1)
 go_wp2
 go_ret
 refine⟨_,rfl,⟨?_,.inr ⟨w.heap.size,G,_,rfl,by omega,b4.out,ab,t,?_,?_⟩⟩,?_,?_,?_⟩
 .rw[LT.all_len]
 .rw[zBZ9,length_splice _ _ _ (by rw[J.out,C.out];omega),C.out];rfl
 .have D:splice (splice a 0 (LT.all [x])) 2 (LT.all l)=LT.all (x::l)++a.drop (2+(LT.all l).length):=by
   rw[Yf _ _ _ o.out,LT.all_cons x l,<- LT.all_one x,ZK]
  rw[show (splice (splice a 0 (LT.all [x])) 2 (LT.all l)).toArray.toList=splice (splice a 0 (LT.all [x])) 2 (LT.all l)from rfl,D];rw[zAT9 (by rw[LT.all_len];simp[LT]),ZO (by rw[LT.all_len];simp[LT])]
 .have K:Below base w i:=b.out.below.mono hb;have L:=(K.grown f.out (by have:=b.out.size;omega) (fun k e=>by injection e with e;omega)).drew;exact L.grown a1.out (by have:=f.out.size;have:=b.out.size;show base<=w2.heap.size;omega) (fun k e=>by injection e with e;omega)
 .have a2:=Zi w.heap.size
  first|exact⟨_,_,rfl,.inr a2⟩|exact⟨_,⟨_,rfl⟩,.inr a2⟩
 .have K:Below w.heap.size w i:=b.out.below;have L:=(K.grown f.out (by have:=b.out.size;omega) (fun k e=>by injection e with e;omega)).drew;have b3:=L.grown a1.out (by have:=f.out.size;have:=b.out.size;show w.heap.size<=w2.heap.size;omega) (fun k e=>by injection e with e;omega);exact fun k _ hk=>b3.block k hk
theorem Sm(c vb vc:Nat)(w:World)(hl:l ≠ [])(hn:l.length<=100000)(hroom:l.length+1<=c)(h:OL LT w base (.slice (some ⟨g,0,none⟩) l.length c) l)(hv:RL LT Z w (some ⟨vb,0,none⟩) [x])(hvg:vb≠g)(tA:TypeId)(kA:Nat)(hsa:w.shape? vb=some (tA,kA))(hfa:w.frozen? ⟨vb,0,none⟩=false)(hfe:w.frozen? ⟨vb,kA,none⟩=false)(hb:base<=w.heap.size):
  Calls prog 200 #[.slice (some ⟨g,0,none⟩) l.length c,.int .i64 0,.slice (some ⟨vb,0,none⟩) 1 vc] w fun e w'=>∃v,e=.returned v/\OL LT w' base v (x::l)/\Below base w w'/\(∃g' c',v=.slice (some ⟨g',0,none⟩) (l.length+1) c'/\(g'=g\/w.heap.size<=g'))/\∀k,k≠g->k<w.heap.size->w'.heap[k]?=w.heap[k]?:=by
 rcases h with⟨s,⟨h1,_⟩|⟨g',a6,o,h1,J,r,Y,y,z,K⟩⟩
 .cases h1
 injection h1 with n _ e3;injection n with n;injection n with n;subst n;subst e3;have a4:0<l.length:=zAI9.2 hl;obtain⟨bb,oo,A,a7,_,L⟩:=RL.at hv (by simp);injection A with A;injection A with V X;subst V;subst X;have s:(LT.all l).length=l.length*2:=LT.all_len l;have M:∀j u,(LT.all [x])[j]?=some u->w.cell? ((⟨vb,0,none⟩:Addr).add j)=some u:=fun j u m=>by
  rw[fP];have:=L 0 x rfl j u (by rwa [LT.all_one]at m);simpa using this
 have N:o.toList.length=c*2:=by rw[zCC9];exact z
 have O:∀j u,(LT.all l)[j]?=some u->w.cell? ((⟨g,0,none⟩:Addr).add j)=some u:=fun j u m=>by
  rw[fP,ZT];rw[<- K,ZY]at m
  split at m
  .simp only[World.cell?,r];rw[<- Z7];exact m
  .cases m
 have P:∀u∈LT.all l,u.oneCell'=true:=LT.all_oneCell l;have Q:∀u∈LT.all [x],u.oneCell'=true:=LT.all_oneCell [x];have I:(LT.all [x]).length=2:=LT.all_len [x];have R:w.shape? g=some (120,o.size):=by show _=some (LT.t,_);simp[World.shape?,r]
 have ab:∀C D,(callFunc 255 #[.slice (some ⟨vb,0,none⟩) 1 vc,.slice (some ⟨g,2,none⟩) C D]).run prog w=.ok (.value (.bool false)) w:=fun C D=>by
  obtain⟨i0,a8,a9,bm,bo⟩:=info_parts LT.info;rw[run_callFunc_extern func255 (by kernel_rfl) (by kernel_rfl) (by kernel_rfl) (e:=Extern.SlicesOverlaps.overlaps #[57,57] #[4]) (by kernel_rfl),
   Lib.run_overlaps_apart w 57 4 120 underlying57 2 (fun w=>by kernel_rfl) ⟨vb,0,none⟩ ⟨g,2,none⟩ 1 vc C D hvg tA 120 kA o.size hsa R (by rw[z];simp only[LT];omega) hfa hfe]
  rfl
 have a3:prog.follows Departure.mixedOrders=true:=by kernel_rfl
 have a5:c<=9223372036854775807:=by simp only[maxLen]at y;omega
 have k1:¬((l.length:Int)=0):=by omega
 have bp:¬((0:Int)=(l.length:Int)):=by omega
 have k2:¬c=0:=by omega
 have k3:¬c=1:=by omega
 have k5:¬(c:Int)<(l.length:Int)+1:=by omega
 have k6:(0:Int)<=(l.length:Int):=by omega
 have k7:IntKind.i64.wrap 1=1:=by rw[IntKind.wrap_i64];omega
 have k8:(1:Int)<=(l.length:Int)+1:=by omega
 have k9:(1:Int).toNat=1:=rfl;have bs:(0:Int)<=(l.length:Int)+1:=by omega
 have ad:Hid (w.drew.heap[g]?=some (.cells o.toList.toArray 120 (0,0))):=Lib.hid r;have ah:=Lib.hid M;have av:Hid (∀j u,(LT.all l)[j]?=some u->w.drew.cell? ((⟨g,0,none⟩:Addr).add j)=some u):=Lib.hid O;have a0:=Lib.hid P;have d:=Lib.hid Q;have G:=Lib.hid s;have a:=Lib.hid I;have p:=Lib.hid N;have B:=Lib.hid J;have a1:=Lib.hid y;clear M O P Q s I N J y hv L r z K R hsa hfa hfe Y;generalize o.toList=CUR at *
 go_enter func200,Tryz.ntmps200
 go_wp2_with (simp only[ab])
 go_region_law_o (refine MD rfl _ _ 57 57 rfl 120 underlying57 2 kj g 2 l.length (c-1) ⟨g,0,none⟩ (l.length+1) c (by simp[Act.eval,Act.put]) (by simp[Act.eval,Act.put]) CUR 120 ad.out (LT.all l) (by show _=min _ _*2;rw[G.out];omega) av.out (by rw[G.out,p.out];omega) a0.out ?_;intro w4 f q)
 have S:∀j u,(LT.all [x])[j]?=some u->w4.cell? ((⟨vb,0,none⟩:Addr).add j)=some u:=fun j u m=>by
  have h1:=ah.out j u m;rw[fP]at h1⊢;exact q.out.cell h1 (fun e=>by injection e with e;exact hvg e)
 have T:(splice CUR 2 (LT.all l)).length=c*2:=by rw[length_splice _ _ _ (by rw[G.out,p.out];omega)];exact p.out
 have i:=Lib.hid S;have b:=Lib.hid T;clear S T
 first
 | ((iterate 10 (go_step));refine pp rfl _ _ 57 57 rfl 120 underlying57 2 kj g 0 _ _ ⟨vb,0,none⟩ 1 _ rfl rfl (splice CUR 2 (LT.all l)) 120 f.out (LT.all [x]) (by show _=min _ _*2;rw[a.out];omega) i.out (by rw[a.out,b.out];omega) d.out ?_)
 | ((iterate 11 (go_step));refine pp rfl _ _ 57 57 rfl 120 underlying57 2 kj g 0 _ _ ⟨vb,0,none⟩ 1 _ rfl rfl (splice CUR 2 (LT.all l)) 120 f.out (LT.all [x]) (by show _=min _ _*2;rw[a.out];omega) i.out (by rw[a.out,b.out];omega) d.out ?_)
 | ((iterate 12 (go_step));refine pp rfl _ _ 57 57 rfl 120 underlying57 2 kj g 0 _ _ ⟨vb,0,none⟩ 1 _ rfl rfl (splice CUR 2 (LT.all l)) 120 f.out (LT.all [x]) (by show _=min _ _*2;rw[a.out];omega) i.out (by rw[a.out,b.out];omega) d.out ?_)
 | ((iterate 13 (go_step));refine pp rfl _ _ 57 57 rfl 120 underlying57 2 kj g 0 _ _ ⟨vb,0,none⟩ 1 _ rfl rfl (splice CUR 2 (LT.all l)) 120 f.out (LT.all [x]) (by show _=min _ _*2;rw[a.out];omega) i.out (by rw[a.out,b.out];omega) d.out ?_)
 | ((iterate 14 (go_step));refine pp rfl _ _ 57 57 rfl 120 underlying57 2 kj g 0 _ _ ⟨vb,0,none⟩ 1 _ rfl rfl (splice CUR 2 (LT.all l)) 120 f.out (LT.all [x]) (by show _=min _ _*2;rw[a.out];omega) i.out (by rw[a.out,b.out];omega) d.out ?_)
 | ((iterate 15 (go_step));refine pp rfl _ _ 57 57 rfl 120 underlying57 2 kj g 0 _ _ ⟨vb,0,none⟩ 1 _ rfl rfl (splice CUR 2 (LT.all l)) 120 f.out (LT.all [x]) (by show _=min _ _*2;rw[a.out];omega) i.out (by rw[a.out,b.out];omega) d.out ?_)
 | ((iterate 16 (go_step));refine pp rfl _ _ 57 57 rfl 120 underlying57 2 kj g 0 _ _ ⟨vb,0,none⟩ 1 _ rfl rfl (splice CUR 2 (LT.all l)) 120 f.out (LT.all [x]) (by show _=min _ _*2;rw[a.out];omega) i.out (by rw[a.out,b.out];omega) d.out ?_)
 | ((iterate 17 (go_step));refine pp rfl _ _ 57 57 rfl 120 underlying57 2 kj g 0 _ _ ⟨vb,0,none⟩ 1 _ rfl rfl (splice CUR 2 (LT.all l)) 120 f.out (LT.all [x]) (by show _=min _ _*2;rw[a.out];omega) i.out (by rw[a.out,b.out];omega) d.out ?_)
 | ((iterate 18 (go_step));refine pp rfl _ _ 57 57 rfl 120 underlying57 2 kj g 0 _ _ ⟨vb,0,none⟩ 1 _ rfl rfl (splice CUR 2 (LT.all l)) 120 f.out (LT.all [x]) (by show _=min _ _*2;rw[a.out];omega) i.out (by rw[a.out,b.out];omega) d.out ?_)
 | ((iterate 19 (go_step));refine pp rfl _ _ 57 57 rfl 120 underlying57 2 kj g 0 _ _ ⟨vb,0,none⟩ 1 _ rfl rfl (splice CUR 2 (LT.all l)) 120 f.out (LT.all [x]) (by show _=min _ _*2;rw[a.out];omega) i.out (by rw[a.out,b.out];omega) d.out ?_)
 | ((iterate 20 (go_step));refine pp rfl _ _ 57 57 rfl 120 underlying57 2 kj g 0 _ _ ⟨vb,0,none⟩ 1 _ rfl rfl (splice CUR 2 (LT.all l)) 120 f.out (LT.all [x]) (by show _=min _ _*2;rw[a.out];omega) i.out (by rw[a.out,b.out];omega) d.out ?_)
 | ((iterate 21 (go_step));refine pp rfl _ _ 57 57 rfl 120 underlying57 2 kj g 0 _ _ ⟨vb,0,none⟩ 1 _ rfl rfl (splice CUR 2 (LT.all l)) 120 f.out (LT.all [x]) (by show _=min _ _*2;rw[a.out];omega) i.out (by rw[a.out,b.out];omega) d.out ?_)
 | ((iterate 22 (go_step));refine pp rfl _ _ 57 57 rfl 120 underlying57 2 kj g 0 _ _ ⟨vb,0,none⟩ 1 _ rfl rfl (splice CUR 2 (LT.all l)) 120 f.out (LT.all [x]) (by show _=min _ _*2;rw[a.out];omega) i.out (by rw[a.out,b.out];omega) d.out ?_)
 | ((iterate 23 (go_step));refine pp rfl _ _ 57 57 rfl 120 underlying57 2 kj g 0 _ _ ⟨vb,0,none⟩ 1 _ rfl rfl (splice CUR 2 (LT.all l)) 120 f.out (LT.all [x]) (by show _=min _ _*2;rw[a.out];omega) i.out (by rw[a.out,b.out];omega) d.out ?_)
 | ((iterate 24 (go_step));refine pp rfl _ _ 57 57 rfl 120 underlying57 2 kj g 0 _ _ ⟨vb,0,none⟩ 1 _ rfl rfl (splice CUR 2 (LT.all l)) 120 f.out (LT.all [x]) (by show _=min _ _*2;rw[a.out];omega) i.out (by rw[a.out,b.out];omega) d.out ?_)
 | ((iterate 25 (go_step));refine pp rfl _ _ 57 57 rfl 120 underlying57 2 kj g 0 _ _ ⟨vb,0,none⟩ 1 _ rfl rfl (splice CUR 2 (LT.all l)) 120 f.out (LT.all [x]) (by show _=min _ _*2;rw[a.out];omega) i.out (by rw[a.out,b.out];omega) d.out ?_)
 intro w5 a2 U
 go_wp2
 go_ret
 refine⟨_,rfl,⟨?_,.inr ⟨g,c,_,rfl,B.out,a2.out,hroom,a1.out,?_,?_⟩⟩,?_,⟨_,_,rfl,.inl rfl⟩,?_⟩
 .rw[LT.all_len]
 .rw[zBZ9,length_splice _ _ _ (by rw[a.out,b.out];omega),b.out];rfl
 .have n:splice (splice CUR 2 (LT.all l)) 0 (LT.all [x])=LT.all (x::l)++CUR.drop (2+(LT.all l).length):=by
   rw[Yg _ _ _ a.out (by rw[p.out];omega),LT.all_cons x l,<- LT.all_one x,ZK]
  rw[show (splice (splice CUR 2 (LT.all l)) 0 (LT.all [x])).toArray.toList=splice (splice CUR 2 (LT.all l)) 0 (LT.all [x])from rfl,n];rw[zAT9 (by rw[LT.all_len];simp[LT]),ZO (by rw[LT.all_len];simp[LT])]
 .have b2:=(Below.refl base w).drew.grown q.out hb (fun k e=>by injection e with e;have:=B.out;omega);exact b2.grown U.out (by have:=q.out.size;exact Z0 hb this) (fun k e=>by injection e with e;have:=B.out;omega)
 .intro k hk hlt;obtain⟨_,_,_,s4,f4⟩:=q.out;obtain⟨_,_,_,s5,f5⟩:=U.out;exact(f5 k (ZR hlt s4) (fun e=>hk (by injection e))).trans (f4 k hlt (fun e=>hk (by injection e)))
def X8:Go.Shelf.Ren:=⟨fun|5=>172|8=>230|7=>229|19=>299|20=>300|10=>290|11=>291|12=>292|13=>293|14=>294|15=>295|16=>296|17=>297|18=>298|30=>329|31=>330|32=>331|33=>332|34=>333|35=>334|40=>349|n=>n,fun|23=>33|25=>3|3=>3|32=>227|22=>33|0=>0|44=>381|46=>29|4=>4|36=>375|35=>374|41=>318|5=>5|9=>9|53=>397|57=>400|63=>418|64=>244|n=>n,fun|n=>n⟩
theorem X7:Go.Proofs.SlLaysM.n5 prog X8 where
 mixed:=by kernel_rfl
 f5 := ⟨"slices.Sort[[]int,int]", by decide, func172.trans (congrArg some (by kernel_rfl))⟩
 f7 := ⟨"slices.pdqsortOrdered[int]", by decide, func229.trans (congrArg some (by kernel_rfl))⟩
 f8:=func230.trans (congrArg some (by kernel_rfl))
 f10 := ⟨"slices.insertionSortOrdered[int]", by decide, func290.trans (congrArg some (by kernel_rfl))⟩
 f11 := ⟨"slices.heapSortOrdered[int]", by decide, func291.trans (congrArg some (by kernel_rfl))⟩
 f12 := ⟨"slices.breakPatternsOrdered[int]", by decide, func292.trans (congrArg some (by kernel_rfl))⟩
 f13 := ⟨"slices.choosePivotOrdered[int]", by decide, func293.trans (congrArg some (by kernel_rfl))⟩
 f14 := ⟨"slices.reverseRangeOrdered[int]", by decide, func294.trans (congrArg some (by kernel_rfl))⟩
 f15 := ⟨"slices.partialInsertionSortOrdered[int]", by decide, func295.trans (congrArg some (by kernel_rfl))⟩
 f16 := ⟨"cmp.Less[int]", by decide, func296.trans (congrArg some (by kernel_rfl))⟩
 f17 := ⟨"slices.partitionEqualOrdered[int]", by decide, func297.trans (congrArg some (by kernel_rfl))⟩
 f18 := ⟨"slices.partitionOrdered[int]", by decide, func298.trans (congrArg some (by kernel_rfl))⟩
 f19:=func299.trans (congrArg some (by kernel_rfl))
 f20:=func300.trans (congrArg some (by kernel_rfl))
 f30 := ⟨"slices.siftDownOrdered[int]", by decide, func329.trans (congrArg some (by kernel_rfl))⟩
 f31:=func330.trans (congrArg some (by kernel_rfl))
 f32:=func331.trans (congrArg some (by kernel_rfl))
 f33 := ⟨"slices.medianAdjacentOrdered[int]", by decide, func332.trans (congrArg some (by kernel_rfl))⟩
 f34 := ⟨"slices.medianOrdered[int]", by decide, func333.trans (congrArg some (by kernel_rfl))⟩
 f35 := ⟨"cmp.isNaN[int]", by decide, func334.trans (congrArg some (by kernel_rfl))⟩
 f40 := ⟨"slices.order2Ordered[int]", by decide, func349.trans (congrArg some (by kernel_rfl))⟩
 t0:=underlying0
 a0:=Tryz.isAgg0
 z0:=Tryz.sizeOf0
 v0:=Tryz.zeroValue0
 t3:=underlying3
 a3:=Tryz.isAgg3
 z3:=Tryz.sizeOf3
 v3:=Tryz.zeroValue3
 t4:=underlying4
 a4:=Tryz.isAgg4
 z4:=Tryz.sizeOf4
 v4:=Tryz.zeroValue4
 t5:=underlying5
 a5:=Tryz.isAgg5
 z5:=Tryz.sizeOf5
 v5:=Tryz.zeroValue5
 t9:=underlying9
 a9:=Tryz.isAgg9
 z9:=Tryz.sizeOf9
 v9:=Tryz.zeroValue9
 t22:=underlying33
 a22:=Tryz.isAgg33
 z22:=Tryz.sizeOf33
 v22:=Tryz.zeroValue33
 t23:=underlying33
 a23:=Tryz.isAgg33
 z23:=Tryz.sizeOf33
 v23:=Tryz.zeroValue33
 t25:=underlying3
 a25:=Tryz.isAgg3
 z25:=Tryz.sizeOf3
 v25:=Tryz.zeroValue3
 t32:=underlying227
 a32:=Tryz.isAgg227
 z32:=Tryz.sizeOf227
 v32:=Tryz.zeroValue227
 t35:=underlying374
 a35:=Tryz.isAgg374
 z35:=Tryz.sizeOf374
 v35:=Tryz.zeroValue374
 t36:=underlying375
 a36:=Tryz.isAgg375
 z36:=Tryz.sizeOf375
 v36:=Tryz.zeroValue375
 t41:=underlying318
 a41:=Tryz.isAgg318
 z41:=Tryz.sizeOf318
 v41:=Tryz.zeroValue318
 t44:=underlying381
 a44:=Tryz.isAgg381
 z44:=Tryz.sizeOf381
 v44:=Tryz.zeroValue381
 t46:=underlying29
 a46:=Tryz.isAgg29
 z46:=Tryz.sizeOf29
 v46:=Tryz.zeroValue29
 t53:=underlying397
 a53:=Tryz.isAgg397
 z53:=Tryz.sizeOf397
 v53:=Tryz.zeroValue397
 t57:=underlying400
 a57:=Tryz.isAgg400
 z57:=Tryz.sizeOf400
 v57:=Tryz.zeroValue400
 t63:=underlying418
 a63:=Tryz.isAgg418
 z63:=Tryz.sizeOf418
 v63:=Tryz.zeroValue418
 t64:=underlying244
 a64:=Tryz.isAgg244
 z64:=Tryz.sizeOf244
 v64:=Tryz.zeroValue244
open Go.Sort Go.RowKit
namespace Tw
variable {ρ ρ':zh}{Z:Nat}{h h':TH}{w:World}
theorem X9(k:WR prog Z ρ h w)(hZ:Z<=w.heap.size){args:LK}{args':LE}(hv:VL ρ args args'){r:TE}(hr:BS 3 args h=some (r,h')) :
  CallsIn (Fr none) 0 prog 172 args'.toArray w (kR prog Z ρ h h' w r):=by
 unfold BS at hr
 split at hr
 .rename_i b g n q
  split at hr
  .rename_i o ho;unfold Mp at hr
   split at hr
   .rename_i e G M len cells;obtain⟨L,hr⟩:=vt hr;obtain⟨N,hr⟩:=vt hr;obtain⟨O,hr⟩:=vt hr;obtain⟨U,hr⟩:=vt hr;obtain⟨V,hr⟩:=vt hr;have L:=Zk L;have N:=Zk N;have O:=Zk O;have U:=Zy U;have V:=Zy V;subst L;subst N;subst O
    split at hr
    .rename_i l hl
     split at hr
     .rename_i xs hxs;injection hr with hr;injection hr with hr ah;subst hr;subst ah;obtain⟨v,t1,rfl,v1,hv⟩:=hv.oc;obtain rfl:=hv.oN;have ab:∃loc c,v=.slice (some ⟨loc.r,0,none⟩) n c/\ρ b g=some loc/\n<=c/\c<=maxLen:=by
       obtain⟨loc,o',c,e,a1,a2,a3,a4,a5,a6,a7⟩:=v1.sl_inv;refine⟨loc,c,?_,a1,by omega,a7⟩;rcases a5 with rfl|⟨_,_,a8⟩
       .exact e
       .exact absurd rfl a8
      obtain⟨loc,c,rfl,f,bo,bp⟩:=ab;obtain⟨ob,s,D⟩:=k.obj _ _ _ f;rw[ho]at s;injection s with s;subst s;obtain⟨bm,d,t,u,q3,q4,q5,X,q7⟩:=D.2.2 g D.1 (Zi _);rw[f]at t;injection t with t;subst t;have u:=u.plain (by kernel_rfl);have hL:=X rfl;obtain rfl:=IR hxs;obtain⟨av,a0⟩:=Tr.getL_some hl;have I:xs.length=n:=by rw[<- av];unfold dc;simp
      have ad:∀i,i<n->d[i]?=(xs.map (Value.int .i64))[i]?:=fun i z=>by
       obtain⟨x,v,z1,z2,_,z4⟩:=q7 i zo;have h1:=a0 i z;rw[ZT,z1]at h1;rw[z2,Zt];unfold dc at h1;rw[Zt]at h1
       cases Y:xs[i]? with
       | none=>rw[Y]at h1;cases h1
       | some a=>rw[Y]at h1;injection h1 with h1;subst h1;cases z4;rfl
      have bs:n<=d.size:=by omega
      have ht:d.toList.take xs.length=xs.map (Value.int .i64):=zBD9 fun i=>by
       rw[ZY,I]
       split
       .rename_i z;rw[Z7];exact ad i z
       .rw[zAB9 (by simp;omega)]
      have R:=k.own f ho (fun cs e=>by cases e);have a9:=(k.dom _ _ _ f).2.2;have Q:=AnyM.slices_Sort_int X7 loc.r 0 c xs w (holds_of_blockI u ht) a9 zo;rw[I]at Q;refine callsIn_wide.2 (Calls.mono Q ?_);rintro e w' ⟨rfl,m,os,rfl⟩;have bw:(pS xs).length=n:=by rw[Yp,I]
      have A:=heap_sortedI (n:=m) (os:=os) (pS xs).toArray u;have B:=grownBy_sortedI (w:=w) (g:=loc.r) (n:=m) (os:=os) (pS xs).toArray;have j:Below Z w _:=(Below.refl Z w).grown B hZ fun k e=>by injection e with e;subst e;exact R
      change w.grownBy (grow (putRow (Value.int .i64) (Sort.ahead w m) loc.r 0 (xs.mergeSort fun x y=>decide (x<=y)).toArray) os) _ at B;change (grow (putRow (Value.int .i64) (Sort.ahead w m) loc.r 0 (xs.mergeSort fun x y=>decide (x<=y)).toArray) os).heap[loc.r]?=_ at A;change Below Z w (grow (putRow (Value.int .i64) (Sort.ahead w m) loc.r 0 (xs.mergeSort fun x y=>decide (x<=y)).toArray) os)at j;generalize grow (putRow (Value.int .i64) (Sort.ahead w m) loc.r 0 (xs.mergeSort fun x y=>decide (x<=y)).toArray) os=w' at B A j⊢;have S:=take_putCellsI d (pS xs) zo;have J:(putCells (Value.int .i64) 0 (pS xs).toArray d).size=d.size:=by simp[putCells]
      generalize putCells (Value.int .i64) 0 (pS xs).toArray d=cur2 at A S J;have k2:=k.change (b:=b) (ρ':=ρ) (x':=.row 3 g g n (Tr.putL .nil 0 (dc (pS xs)))) (fun _ _ _ h=>h) (fun _ _ _=>rfl) f (w':=w') j.size
       (fun c C l0 P T=>B.block _ (k.dom _ _ _ T).2.2 fun e=>P (k.sep _ _ _ _ _ _ T f (by injection e with e) (by injection e with e;rw[e];exact R)))
       ⟨Zi _,D.2.1,fun C ha bx=>by
        have:C=g:=by omega
        subst this;refine⟨loc,cur2,f,.of A,fun e=>by rw[J];exact q3 e,q4,by rw[J];exact q5,X,fun i z=>?_⟩;have K:i<(pS xs).length:=by omega
        have b0:i<(dc (pS xs)).length:=by unfold dc;rw[ZB];exact K
        refine⟨.int .i64 ((pS xs)[i]),.int .i64 ((pS xs)[i]),?_,?_,rfl,.int _ _⟩
        .rw[Tr.get_putL,if_pos zo];unfold dc;simp
        .have:(cur2.toList.take (pS xs).length)[i]?=((pS xs).map (Value.int .i64))[i]?:=by rw[S]
         rw[ZY,if_pos K,Z7]at this;rw[this];simp[K]⟩
       (fun C l0 p=>⟨k.own p ho (fun cs e=>by cases e),ZR (k.dom _ _ _ p).2.2 j.size⟩)
       (fun C l0 p c g1 l1 P bb e=>P (k.sep _ _ _ _ _ _ bb p e.symm (by rw[<- e];exact k.own p ho (fun cs e=>by cases e))))
      exact⟨ρ,zh.le.refl _ _,k2,j,Zi _,_,rfl,VR.tL (VL.nil ρ)⟩
     .cases hr
    .cases hr
   .cases hr
  .cases hr
 .cases hr
end Tw
namespace Fv
open Tw
inductive PV where
 | bad
 | bool (b:Bool)
 | int (k:IntKind) (n:Int)
 | str (s:LN)
 | nilptr
 | nilsl
 | nilmap
 | nilfn
 | niliface
 | iface (t:Nat) (v:PV)
 | list (p z:Nat) (l:List PV)
 | elem (cs:List PV)
 | sl (id g o n q z:Nat)
 | ptr (id g i o n:Nat)
 | map (id:Nat)
 | fn (f:Nat) (cap:List PV)
 | yield (id:Nat)
 | agg (vs:List PV)
 | tuple (vs:List PV)
 deriving Inhabited
abbrev LQ:=List PV
abbrev LO:=Option PV
def PV.cells:PV->LQ
 | .agg l=>l
 | .tuple _=>[]
 | v=>[v]
inductive FX where
 | norm|exit (id:Nat)|goto (l:Nat)|ret|panic (v:PV)
inductive za where
 | row (e z G M:Nat) (l:LQ)
 | map0
 | mapI (k:IntKind) (m:Int->LO)
 | mapS (m:LN->LO)
 | dfr (shut:Bool)
 | loop (st:LoopState) (pe:FX) (tm:Nat->PV) (ps:LN) (aS bo:vP) (m:Nat)
 | void
abbrev LP:=List za
abbrev x7:=Nat->Nat->Prop
inductive PR(S:x7)(h:TH):PV->TV->Prop
 | bool (b:Bool):PR S h (.bool b) (.bool b)
 | int (k:IntKind) (n:Int):PR S h (.int k n) (.int k n)
 | str (s:LN):PR S h (.str s) (.str s)
 | nilptr:PR S h .nilptr .nilptr
 | nilsl:PR S h .nilsl .nilsl
 | nilmap:PR S h .nilmap .nilmap
 | nilfn:PR S h .nilfn .nilfn
 | niliface:PR S h .niliface .niliface
 | iface {t:Nat} {v:PV} {u:TV}:PR S h v u->PR S h (.iface t v) (.iface t u)
 | listnil (p z:Nat):PR S h (.list p z []) .nilsl
 | list {p z:Nat} {l:LQ} {b g o q:Nat} {cs:LK}:S p b->ue h b g o (l.length*z)=some cs->2*l.length<=q->(∀v∈l,v.cells.length=z)->(l.flatMap PV.cells).length=cs.length ->
   (∀(i:Nat) (x:PV) (y:TV),(l.flatMap PV.cells)[i]?=some x->cs[i]?=some y->PR S h x y)->PR S h (.list p z l) (.sl b g o l.length q z)
 | elem {vs:LQ} {p b g o:Nat} {cs:LK}:S p b->ue h b g o vs.length=some cs->vs.length=cs.length->(∀(i:Nat) (x:PV) (y:TV),vs[i]?=some x->cs[i]?=some y->PR S h x y)->PR S h (.elem vs) (.ptr b g o vs.length)
 | fn {f:Nat} {vs:LQ} {cs:LK}:vs.length=cs.length->(∀(i:Nat) (x:PV) (y:TV),vs[i]?=some x->cs[i]?=some y->PR S h x y)->PR S h (.fn f vs) (.fn f cs)
 | agg {vs:LQ} {cs:LK}:vs.length=cs.length->(∀(i:Nat) (x:PV) (y:TV),vs[i]?=some x->cs[i]?=some y->PR S h x y)->PR S h (.agg vs) (.agg cs)
 | tuple {vs:LQ} {cs:LK}:vs.length=cs.length->(∀(i:Nat) (x:PV) (y:TV),vs[i]?=some x->cs[i]?=some y->PR S h x y)->PR S h (.tuple vs) (.tuple cs)
structure Cx where
 S:x7
 ρ:Nat->Option (Nat×Nat×Nat)
 L:Nat->Prop
inductive VR(c:Cx)(h:TH):PV->TV->Prop
 | pure {v:PV} {u:TV}:PR c.S h v u->VR c h v u
 | sl {id b d z g o n q:Nat}:c.ρ id=some (b,d,z)->VR c h (.sl id (g+d) o n q z) (.sl b g (o*z) n q z)
 | slnil {id:Nat} (z:Nat):c.L id->VR c h (.sl id 0 0 0 0 z) .nilsl
 | ptr {id b d z g i o n:Nat}:c.ρ id=some (b,d,z)->VR c h (.ptr id (g+d) i o n) (.ptr b g (i*z+o) n)
 | map {id b d z:Nat}:c.ρ id=some (b,d,z)->VR c h (.map id) (.map b)
 | yield {id b d z:Nat}:c.ρ id=some (b,d,z)->VR c h (.yield id) (.yield b)
 | iface {t:Nat} {v:PV} {u:TV}:VR c h v u->VR c h (.iface t v) (.iface t u)
 | fn {f:Nat} {vs:LQ} {cs:LK}:vs.length=cs.length->(∀(i:Nat) (x:PV) (y:TV),vs[i]?=some x->cs[i]?=some y->VR c h x y)->VR c h (.fn f vs) (.fn f cs)
 | agg {vs:LQ} {cs:LK}:vs.length=cs.length->(∀(i:Nat) (x:PV) (y:TV),vs[i]?=some x->cs[i]?=some y->VR c h x y)->VR c h (.agg vs) (.agg cs)
 | tuple {vs:LQ} {cs:LK}:vs.length=cs.length->(∀(i:Nat) (x:PV) (y:TV),vs[i]?=some x->cs[i]?=some y->VR c h x y)->VR c h (.tuple vs) (.tuple cs)
def LR(R:PV->TV->Prop)(l:LQ)(cs:LK):Prop:=l.length=cs.length/\∀(i:Nat) (x:PV) (y:TV),l[i]?=some x->cs[i]?=some y->R x y
section lists
variable {R R':PV->TV->Prop}
variable {cs:LK}{l:LQ}{x:PV}
theorem LR.nil:LR R [] []:=⟨rfl,fun i x y h=>by simp at h⟩
theorem LR.cons{y:TV}(h:R x y)(hl:LR R l cs):LR R (x::l) (y::cs) :=
 ⟨by simp[hl.1],fun i a b c d=>by
  cases i with
  | zero=>simp at c d;subst c;subst d;exact h
  | succ i=>simp at c d;exact hl.2 i a b c d⟩
theorem LR.oc(h:LR R (x::l) cs):∃y cs',cs=y::cs'/\R x y/\LR R l cs':=by
 cases cs with
 | nil=>have:=h.1;grind
 | cons y cs=>exact⟨y,cs,rfl,h.2 0 x y rfl rfl,by have:=h.1;grind,fun i a b c d=>h.2 (i+1) a b (by grind) (by grind)⟩
theorem LR.oN(h:LR R [] cs):cs=[]:=by
 cases cs with
 | nil=>rfl
 | cons y cs=>have:=h.1;grind
theorem LR.mono(hR:∀x y,R x y->R' x y)(h:LR R l cs):LR R' l cs:=⟨h.1,fun i x y a b=>hR _ _ (h.2 i x y a b)⟩
theorem LR.app{m:LQ}{ds:LK}(h:LR R l cs)(k:LR R m ds):LR R (l++m) (cs++ds):=by
 refine⟨by simp[h.1,k.1],fun i x y a b=>?_⟩
 by_cases c:i<l.length
 .rw[ZM c]at a;rw[ZM (by rw[<- h.1];exact c)]at b;exact h.2 i x y a b
 .rw[ZH zo]at a;rw[ZH (by rw[<- h.1];omega),<- h.1]at b;exact k.2 _ x y a b
theorem LR.drop(h:LR R l cs)(k:Nat):LR R (l.drop k) (cs.drop k) :=
 ⟨by simp[h.1],fun i x y a b=>by rw[zAA9]at a b;exact h.2 _ x y a b⟩
theorem LR.take(h:LR R l cs)(k:Nat):LR R (l.take k) (cs.take k):=by
 refine⟨by simp[h.1],fun i x y a b=>?_⟩;rw[ZY]at a b
 split at a
 .rename_i hi;rw[if_pos hi]at b;exact h.2 _ x y a b
 .cases a
theorem LR.at(h:LR R l cs){i:Nat}(hx:l[i]?=some x):∃y,cs[i]?=some y/\R x y:=by
 have b:i<l.length:=(Zh.1 hx).1;have a:i<cs.length:=by rw[<- h.1];exact b
 exact⟨cs[i],Zg a,h.2 i x _ hx (Zg a)⟩
end lists
variable {z:Nat}
structure ER(R:PV->TV->Prop)(z:Nat)(l:LQ)(cs:LK):Prop where
 one:∀v∈l,v.cells.length=z
 all:LR R (l.flatMap PV.cells) cs
theorem Dc:∀{l:LQ},(∀v∈l,v.cells.length=z)->(l.flatMap PV.cells).length=l.length*z
 | [],_=>by simp
 | v::l,h=>by
  rw[ZZ,Zl,h v (by simp),Dc (fun x a=>h x (by simp[a])),Zp,zBK9,zBJ9]
theorem Ic:∀{l:LQ},(∀v∈l,v.cells.length=z)->∀k,(l.drop k).flatMap PV.cells=(l.flatMap PV.cells).drop (k*z)
 | [],_,k=>by simp
 | v::l,h,0=>by simp
 | v::l,h,k+1=>by
  rw[zDF9,Ic (fun x a=>h x (by simp[a])) k,ZZ,zBK9,zBJ9,<- zBU9,<- h v (by simp),zDL9]
theorem Ig:∀{l:LQ},(∀v∈l,v.cells.length=z)->∀k,(l.take k).flatMap PV.cells=(l.flatMap PV.cells).take (k*z)
 | [],_,k=>by simp
 | v::l,h,0=>by simp
 | v::l,h,k+1=>by
  rw[zED9,ZZ,Ig (fun x a=>h x (by simp[a])) k,ZZ,zBK9,zBJ9,<- h v (by simp),List.take_length_add_append]
section elems
variable {R R':PV->TV->Prop}{z:Nat}
variable {cs ds:LK}{i:Nat}{l:LQ}{v:PV}
theorem ER.len(h:ER R z l cs):cs.length=l.length*z:=by rw[<- h.all.1,Dc h.one]
theorem ER.nil:ER R z [] []:=⟨fun v h=>by simp at h,LR.nil⟩
theorem ER.drop(h:ER R z l cs)(k:Nat):ER R z (l.drop k) (cs.drop (k*z)) :=
 ⟨fun v a=>h.one v (ZQ a),by rw[Ic h.one];exact h.all.drop _⟩
theorem ER.take(h:ER R z l cs)(k:Nat):ER R z (l.take k) (cs.take (k*z)) :=
 ⟨fun v a=>h.one v (ZU a),by rw[Ig h.one];exact h.all.take _⟩
theorem ER.app{m:LQ}(h:ER R z l cs)(k:ER R z m ds):ER R z (l++m) (cs++ds) :=
 ⟨fun v a=>by rcases ZW.1 a with a|a;exact h.one v a;exact k.one v a,by rw[zBC9];exact h.all.app k.all⟩
theorem ER.mono(hR:∀x y,R x y->R' x y)(h:ER R z l cs):ER R' z l cs:=⟨h.one,h.all.mono hR⟩
theorem ER.at(h:ER R z l cs)(hv:l[i]?=some v):LR R v.cells ((cs.drop (i*z)).take z):=by
 have h1:=(h.drop i).take 1;have a:(l.drop i).take 1=[v]:=by
  have b:i<l.length:=(Zh.1 hv).1;rw[Zs b]
  grind
 rw[a,Nat.one_mul]at h1;have h2:=h1.all
 grind
theorem ER.one'(h1:v.cells.length=z)(h:LR R v.cells cs):ER R z [v] cs:=⟨fun x a=>by grind,by simpa using h⟩
theorem ER.set(h:ER R z l cs)(hi:i<l.length)(hv:v.cells.length=z)(hd:LR R v.cells ds):ER R z (l.set i v) (cs.take (i*z)++ds++cs.drop ((i+1)*z)):=by
 rw[List.set_eq_take_append_cons_drop,if_pos hi];have h1:=h.take i;have h2:=h.drop (i+1);rw[ZK];exact h1.app ((ER.one' hv hd).app h2)
end elems
variable {a:Nat}{cs:LK}{g:Nat}{h:TH}{i k m o:Nat}{x:TO}
theorem Iy{t:Tr α}:∀{n i m:Nat} {a b:List α},t.getL i n=some a->t.getL (i+n) m=some b->t.getL i (n+m)=some (a++b)
 | 0,i,m,a,b,h,k=>by simp[Tr.getL]at h;grind
 | n+1,i,m,a,b,h,k=>by
  rw[show n+1+m=(n+m)+1 by omega];unfold Tr.getL at h
  split at h
  .cases h
  .rename_i x hx
   split at h
   .cases h
   .rename_i l hl
    cases h
    have:=Iy hl (by rw[show i+1+n=i+(n+1) by omega];exact k);simp only[Tr.getL,hx,this];rfl
theorem Dl{t:Tr α}:∀{n i m:Nat} {a:List α},t.getL i (n+m)=some a->t.getL i n=some (a.take n)/\t.getL (i+n) m=some (a.drop n)
 | 0,i,m,a,h=>by simp[Tr.getL];grind
 | n+1,i,m,a,h=>by
  rw[show n+1+m=(n+m)+1 by omega]at h;unfold Tr.getL at h
  split at h
  .cases h
  .rename_i x hx
   split at h
   .cases h
   .rename_i l hl
    cases h
    obtain⟨h1,h2⟩:=Dl hl;refine⟨?_,?_⟩
    .simp only[Tr.getL,hx,h1];rfl
    grind
theorem oU{t:Tr α}{a:List α}(h:t.getL i n=some a)(hk:k+m<=n):t.getL (i+k) m=some ((a.drop k).take m):=by
 obtain⟨r,rfl⟩:=Nat.le.dest hk;rw[zCI9]at h;obtain⟨_,h2⟩:=Dl h;exact(Dl h2).1
theorem im{t:Tr α}:∀{a:List α} {i:Nat},(∀j,j<a.length->t.get (i+j)=a[j]?)->t.getL i a.length=some a
 | [],i,_=>rfl
 | x::a,i,h=>by
  have b:=h 0 (by simp);have h1:=im (t:=t) (a:=a) (i:=i+1) fun j c=>by
   have:=h (j+1) (by grind)
   grind
  rw[Zp];unfold Tr.getL
  grind
theorem Rx{t t':Tr α}(h:∀j,i<=j->j<i+n->t'.get j=t.get j){a:List α}(ha:t.getL i n=some a):t'.getL i n=some a:=by
 obtain⟨h1,h2⟩:=Tr.getL_some ha;subst h1;exact im fun j b=>by grind
theorem ux(h:a<=b):Nat.ble a b=true:=Nat.ble_eq_true_of_le h
theorem wZ(h:a=b):Nat.beq a b=true:=by simp_all
theorem Pc(h:Nat.beq a b=true):a=b:=Zk h
theorem oA(h:¬a=b):Nat.beq a b=false:=by
 cases c:Nat.beq a b
 all_goals simp_all
theorem EE{e G M len:Nat}{cells:LL}(hg:h.get b=some (.row e G M len cells))(h1:M<=g)(h2:g<=G)(hc:cells.getL o n=some cs):ue h b g o n=some cs:=by
 unfold ue;rw[hg];unfold ny;dsimp only;rw[ux h1,ux h2];exact hc
theorem Bs(hr:ue h b g o n=some cs):∃x,h.get b=some x/\ny g o n x=some cs:=by
 unfold ue at hr
 grind
theorem rR(hx:h.get b=some x)(hr:ny g o n x=some cs):ue h b g o n=some cs:=by
 unfold ue
 grind
theorem WQ(hr:ny g o n x=some cs)(hk:k+m<=n):ny g (o+k) m x=some ((cs.drop k).take m):=by
 unfold ny at hr⊢
 split at hr
 .rename_i e G M len cells
  cases h1:Nat.ble M g
  .grind
  .cases h2:Nat.ble g G
   .grind
   .rw[h1,h2]at hr;exact oU hr hk
 .rename_i cells
  cases h1:Nat.beq g 0
  .grind
  .rw[h1]at hr;exact oU hr hk
 grind
theorem lU(hr:ue h b g o n=some cs)(hk:k+m<=n):ue h b g (o+k) m=some ((cs.drop k).take m):=by
 obtain⟨x,h1,h2⟩:=Bs hr;exact rR h1 (WQ h2 hk)
theorem PR.mono{S S':x7}{h':TH}(hS:∀p b,S p b->S' p b)(hr:∀p b,S p b->∀g o n cs,ue h b g o n=some cs->ue h' b g o n=some cs){v:PV}{u:TV}(k:PR S h v u):PR S' h' v u:=by
 induction k with
 | bool b=>exact .bool b
 | int k n=>exact .int k n
 | str s=>exact .str s
 | nilptr=>exact .nilptr
 | nilsl=>exact .nilsl
 | nilmap=>exact .nilmap
 | nilfn=>exact .nilfn
 | niliface=>exact .niliface
 | iface _ a=>exact .iface a
 | listnil p z=>exact .listnil p z
 | list h1 h2 h3 h4 c _ a=>exact .list (hS _ _ h1) (hr _ _ h1 _ _ _ _ h2) h3 h4 c a
 | elem h1 h2 h3 _ a=>exact .elem (hS _ _ h1) (hr _ _ h1 _ _ _ _ h2) h3 a
 | fn h1 _ a=>exact .fn h1 a
 | agg h1 _ a=>exact .agg h1 a
 | tuple h1 _ a=>exact .tuple h1 a
structure Mo(c c':Cx)(h h':TH):Prop where
 S:∀p b,c.S p b->c'.S p b
 ρ:∀id x,c.ρ id=some x->c'.ρ id=some x
 L:∀id,c.L id->c'.L id
 rd:∀p b,c.S p b->∀g o n cs,ue h b g o n=some cs->ue h' b g o n=some cs
variable {c:Cx}{f:Nat}{l:LQ}{u:TV}{v:PV}
theorem Mo.refl(c:Cx)(h:TH):Mo c c h h:=⟨fun _ _ h=>h,fun _ _ h=>h,fun _ h=>h,fun _ _ _ _ _ _ _ h=>h⟩
theorem Mo.trans{c' c'':Cx}{h' h'':TH}(a:Mo c c' h h')(b:Mo c' c'' h' h''):Mo c c'' h h'' :=
 ⟨fun p x d=>b.S _ _ (a.S _ _ d),fun id x d=>b.ρ _ _ (a.ρ _ _ d),fun id d=>b.L _ (a.L _ d),fun p x d g o n cs e=>b.rd _ _ (a.S _ _ d) _ _ _ _ (a.rd _ _ d _ _ _ _ e)⟩
theorem VR.mono{c':Cx}{h':TH}(m:Mo c c' h h')(k:VR c h v u):VR c' h' v u:=by
 induction k with
 | pure k=>exact .pure (k.mono m.S m.rd)
 | sl h=>exact .sl (m.ρ _ _ h)
 | slnil z h=>exact .slnil z (m.L _ h)
 | ptr h=>exact .ptr (m.ρ _ _ h)
 | map h=>exact .map (m.ρ _ _ h)
 | yield h=>exact .yield (m.ρ _ _ h)
 | iface _ a=>exact .iface a
 | fn h1 _ a=>exact .fn h1 a
 | agg h1 _ a=>exact .agg h1 a
 | tuple h1 _ a=>exact .tuple h1 a
theorem PR.aggL{S:x7}(k:LR (PR S h) l cs):PR S h (.agg l) (.agg cs):=.agg k.1 k.2
theorem VR.aggL(k:LR (VR c h) l cs):VR c h (.agg l) (.agg cs):=.agg k.1 k.2
theorem VR.tL(k:LR (VR c h) l cs):VR c h (.tuple l) (.tuple cs):=.tuple k.1 k.2
theorem VR.fnL(k:LR (VR c h) l cs):VR c h (.fn f l) (.fn f cs):=.fn k.1 k.2
theorem LR.pure(k:LR (PR c.S h) l cs):LR (VR c h) l cs:=k.mono fun _ _=>.pure
theorem VR.agg_inv(k:VR c h (.agg l) u):∃cs,u=.agg cs/\LR (VR c h) l cs:=by
 cases k with
 | pure k=>cases k with|agg h1 h2=>exact⟨_,rfl,LR.pure ⟨h1,h2⟩⟩
 | agg h1 h2=>exact⟨_,rfl,h1,h2⟩
theorem VR.tuple_inv(k:VR c h (.tuple l) u):∃cs,u=.tuple cs/\LR (VR c h) l cs:=by
 cases k with
 | pure k=>cases k with|tuple h1 h2=>exact⟨_,rfl,LR.pure ⟨h1,h2⟩⟩
 | tuple h1 h2=>exact⟨_,rfl,h1,h2⟩
theorem VR.fn_inv(k:VR c h (.fn f l) u):∃cs,u=.fn f cs/\LR (VR c h) l cs:=by
 cases k with
 | pure k=>cases k with|fn h1 h2=>exact⟨_,rfl,LR.pure ⟨h1,h2⟩⟩
 | fn h1 h2=>exact⟨_,rfl,h1,h2⟩
theorem VR.iface_inv{t:Nat}(k:VR c h (.iface t v) u):∃u',u=.iface t u'/\VR c h v u':=by
 cases k with
 | pure k=>cases k with|iface h1=>exact⟨_,rfl,.pure h1⟩
 | iface h1=>grind
theorem VR.int_inv{k:IntKind}{n:Int}(x:VR c h (.int k n) u):u=.int k n:=by
 cases x with|pure x=>cases x;rfl
theorem VR.bool_inv{b:Bool}(x:VR c h (.bool b) u):u=.bool b:=by
 cases x with|pure x=>cases x;rfl
theorem VR.str_inv{s:LN}(x:VR c h (.str s) u):u=.str s:=by
 cases x with|pure x=>cases x;rfl
theorem VR.bad_inv(x:VR c h .bad u):False:=by
 cases x with|pure x=>cases x
theorem VR.cells(k:VR c h v u):LR (VR c h) v.cells u.cells:=by
 cases k with
 | pure k =>
  cases k with
  | bool b=>exact LR.cons (.pure (.bool b)) LR.nil
  | int a n=>exact LR.cons (.pure (.int a n)) LR.nil
  | str s=>exact LR.cons (.pure (.str s)) LR.nil
  | nilptr=>exact LR.cons (.pure .nilptr) LR.nil
  | nilsl=>exact LR.cons (.pure .nilsl) LR.nil
  | nilmap=>exact LR.cons (.pure .nilmap) LR.nil
  | nilfn=>exact LR.cons (.pure .nilfn) LR.nil
  | niliface=>exact LR.cons (.pure .niliface) LR.nil
  | iface h1=>exact LR.cons (.pure (.iface h1)) LR.nil
  | listnil p z=>exact LR.cons (.pure (.listnil p z)) LR.nil
  | list h1 h2 h3 h4 d e=>exact LR.cons (.pure (.list h1 h2 h3 h4 d e)) LR.nil
  | elem h1 h2 h3 h4=>exact LR.cons (.pure (.elem h1 h2 h3 h4)) LR.nil
  | fn h1 h2=>exact LR.cons (.pure (.fn h1 h2)) LR.nil
  | agg h1 h2=>exact LR.pure ⟨h1,h2⟩
  | tuple h1 h2=>exact LR.nil
 | sl h1=>exact LR.cons (.sl h1) LR.nil
 | slnil z h1=>exact LR.cons (.slnil z h1) LR.nil
 | ptr h1=>exact LR.cons (.ptr h1) LR.nil
 | map h1=>exact LR.cons (.map h1) LR.nil
 | yield h1=>exact LR.cons (.yield h1) LR.nil
 | iface h1=>exact LR.cons (.iface h1) LR.nil
 | fn h1 h2=>exact LR.cons (.fn h1 h2) LR.nil
 | agg h1 h2=>exact⟨h1,h2⟩
 | tuple h1 h2=>exact LR.nil
def cG{K:Type}(κ:K->TV):Prop:=∀x y,(x=y->aR (κ x) (κ y)=some true)/\(¬x=y->aR (κ x) (κ y)=some false)
open Classical in
noncomputable def lk {K:Type}(κ:K->TV)(x:K):List uC->LC
 | []=>none
 | e::l=>if e.k=κ x then some e.v else lk κ x l
structure MR{K:Type}(R:PV->TV->Prop)(κ:K->TV)(m:K->LO)(es:List uC):Prop where
 keys:∀e∈es,∃n,e.k=κ n
 some:∀x v,m x=some v->∃u,lk κ x es=some u/\R v u
 none:∀x,m x=none->lk κ x es=none
def yu(c:Cx)(h:TH)(tm:Nat->PV)(t:LL):Prop:=∀i,tm i=.bad\/∃u,t.get i=some u/\VR c h (tm i) u
inductive XR(c:Cx)(h:TH):FX->TX->Prop
 | norm:XR c h .norm .norm
 | exit (id:Nat):XR c h (.exit id) (.exit id)
 | goto (l:Nat):XR c h (.goto l) (.goto l)
 | ret:XR c h .ret .ret
 | panic {v:PV} {u:TV}:VR c h v u->XR c h (.panic v) (.panic u)
def OR(c:Cx)(h:TH)(id:Nat):za->Prop
 | .row e z G M l=>(l=[]/\G=0/\c.ρ id=none/\c.L id)\/∃b d G' M' cells cs,c.ρ id=some (b,d,z)/\h.get b=some (.row e G' M' (l.length*z) cells)/\G=G'+d/\M'<=M-d/\cells.getL 0 (l.length*z)=some cs/\ER (VR c h) z l cs
 | .map0=>∃b d z clock,c.ρ id=some (b,d,z)/\h.get b=some (.map [] clock)
 | .mapI k m=>∃b d z es clock,c.ρ id=some (b,d,z)/\h.get b=some (.map es clock)/\MR (VR c h) (TV.int k) m es
 | .mapS m=>∃b d z es clock,c.ρ id=some (b,d,z)/\h.get b=some (.map es clock)/\MR (VR c h) TV.str m es
 | .dfr shut=>∃b d z,c.ρ id=some (b,d,z)/\h.get b=some (.dfr shut)
 | .loop st pe tm ps aS bo m=>∃b d z bm dm zm t pe',c.ρ id=some (b,d,z)/\c.ρ m=some (bm,dm,zm)/\h.get b=some (.loop st pe' t ps aS bo bm)/\yu c h tm t/\XR c h pe pe'
 | .void=>True
structure Ba where
 β:Nat
 h0:TH
 S:x7
structure HR(B:Ba)(c:Cx)(H:LP)(h:TH):Prop where
 le:B.β<=h.next
 keep:∀b,b<B.β->h.get b=B.h0.get b
 old:∀p b,c.S p b->B.S p b\/(p=0/\B.β<=b)
 S:∀p b,c.S p b->b<h.next/\∀id x,c.ρ id=some x->x.1=b->H[id]?=some .void
 own:∀id x,c.ρ id=some x->B.β<=x.1/\x.1<h.next/\id<H.length
 lz:∀id,c.L id->id<H.length/\∀x,c.ρ id=some x->x.2.1=1
 inj:∀id id' x x',c.ρ id=some x->c.ρ id'=some x'->x.1=x'.1->id=id'
 obj:∀id o,H[id]?=some o->OR c h id o
def PV.toT:PV->LC
 | .bool b=>some (.bool b)
 | .int k n=>some (.int k n)
 | .str s=>some (.str s)
 | _=>none
def yB:TV->LO
 | .bool b=>some (.bool b)
 | .int k n=>some (.int k n)
 | .str s=>some (.str s)
 | _=>none
theorem BY{c:Cx}{h:TH}{u':TV}(k:VR c h v u)(ht:v.toT=some u'):u=u':=by
 cases v<;>simp[PV.toT]at ht<;>subst ht
 .exact k.bool_inv
 .exact k.int_inv
 .exact k.str_inv
theorem D8{c:Cx}{h:TH}(ht:yB u=some v):VR c h v u:=by
 cases u<;>simp[yB]at ht<;>subst ht
 .exact .pure (.bool _)
 .exact .pure (.int _ _)
 .exact .pure (.str _)
def kG(f:TV->LC):LQ->LO
 | [x]=>match x.toT with
  | some u=>(match f u with|some w=>yB w|none=>none)
  | none=>none
 | _=>none
def wH(f:TV->TV->LC):LQ->LO
 | [x,y]=>match x.toT with
  | some u=>(match y.toT with
   | some t=>(match f u t with|some w=>yB w|none=>none)
   | none=>none)
  | none=>none
 | _=>none
def qj:LQ->Option (LK)
 | []=>some []
 | x::l=>match x.toT with
  | some u=>(match qj l with|some us=>some (u::us)|none=>none)
  | none=>none
def E4(f:LK->LC)(l:LQ):LO:=match qj l with
 | some us=>(match f us with|some w=>yB w|none=>none)
 | none=>none
section plain
variable {c:Cx}{h:TH}
variable {us:LK}{vs:LQ}
theorem BL{f:TV->LC}(hv:LR (VR c h) vs us)(hp:kG f vs=some v):∃u,uN us f=some u/\VR c h v u:=by
 unfold kG at hp
 split at hp
 .rename_i x;obtain⟨y,cs,rfl,h1,h2⟩:=hv.oc;obtain rfl:=h2.oN
  split at hp
  .rename_i u hu;obtain rfl:=BY h1 hu
   split at hp
   .rename_i w hw;exact⟨w,hw,D8 hp⟩
   grind
  grind
 grind
theorem rX{f:TV->TV->LC}(hv:LR (VR c h) vs us)(hp:wH f vs=some v):∃u,uX us f=some u/\VR c h v u:=by
 unfold wH at hp
 split at hp
 .rename_i x x';obtain⟨y,cs,rfl,h1,h2⟩:=hv.oc;obtain⟨b,a,rfl,h3,h4⟩:=h2.oc;obtain rfl:=h4.oN
  split at hp
  .rename_i u hu;obtain rfl:=BY h1 hu
   split at hp
   .rename_i u' hu';obtain rfl:=BY h3 hu'
    split at hp
    .rename_i w hw;exact⟨w,hw,D8 hp⟩
    grind
   grind
  grind
 grind
theorem ou:∀{vs:LQ} {us us':LK},LR (VR c h) vs us->qj vs=some us'->us=us'
 | [],us,us',b,a=>by simp[qj]at a;subst a;exact b.oN
 | x::l,us,us',b,a=>by
  obtain⟨y,cs,rfl,h1,h2⟩:=b.oc;unfold qj at a
  split at a
  .rename_i u hu;obtain rfl:=BY h1 hu
   split at a
   .rename_i ws hws
    cases a
    rw[ou h2 hws]
   grind
  grind
theorem XK{f:LK->LC}(hv:LR (VR c h) vs us)(hp:E4 f vs=some v):∃u,f us=some u/\VR c h v u:=by
 unfold E4 at hp
 split at hp
 .rename_i ws hws;obtain rfl:=ou hv hws
  split at hp
  .rename_i w hw;exact⟨w,hw,D8 hp⟩
  grind
 grind
end plain
def qk(f:TV->LO):LK->Option (LQ)
 | []=>some []
 | x::l=>match f x with
  | some v=>(match qk f l with|some vs=>some (v::vs)|none=>none)
  | none=>none
def zX:Nat->TV->LO
 | 0,_=>none
 | n+1,u=>match u with
  | .bool b=>some (.bool b)
  | .int k m=>some (.int k m)
  | .str s=>some (.str s)
  | .nilptr=>some .nilptr
  | .nilsl=>some .nilsl
  | .nilmap=>some .nilmap
  | .nilfn=>some .nilfn
  | .niliface=>some .niliface
  | .fn f []=>some (.fn f [])
  | .iface t v=>(match zX n v with|some v=>some (.iface t v)|none=>none)
  | .agg l=>(match qk (zX n) l with|some l=>some (.agg l)|none=>none)
  | .tuple l=>(match qk (zX n) l with|some l=>some (.tuple l)|none=>none)
  | _=>none
theorem dt{f:TV->LO}{S:x7}{h:TH}(hf:∀u v,f u=some v->PR S h v u):∀{us:LK} {vs:LQ},qk f us=some vs->LR (PR S h) vs us
 | [],vs,a=>by simp[qk]at a;subst a;exact LR.nil
 | u::us,vs,a=>by
  unfold qk at a
  split at a
  .rename_i v hv
   split at a
   .rename_i ws hws
    cases a
    exact LR.cons (hf _ _ hv) (dt hf hws)
   .cases a
  .cases a
theorem cg{S:x7}{h:TH}:∀{n:Nat} {u:TV} {v:PV},zX n u=some v->PR S h v u
 | 0,u,v,a=>by cases a
 | n+1,u,v,a=>by
  unfold zX at a
  split at a<;>first|(cases a;constructor;done)|skip
  .cases a;exact .fn rfl (fun i x y b=>by simp at b)
  .split at a
   .rename_i w hw;cases a;exact .iface (cg hw)
   .cases a
  .split at a
   .rename_i w hw;cases a
    have:=dt (fun u v=>cg (S:=S) (h:=h)) hw;exact .agg this.1 this.2
   .cases a
  .split at a
   .rename_i w hw;cases a
    have:=dt (fun u v=>cg (S:=S) (h:=h)) hw;exact .tuple this.1 this.2
   .cases a
  .cases a
def qd:PV->Bool
 | .agg _=>false
 | .tuple _=>false
 | .bad=>false
 | _=>true
theorem PA{v:PV}(h:qd v=true):v.cells=[v]:=by cases v<;>first|rfl|cases h
def zW(agg:Bool)(l:LQ):LO:=if agg then some (.agg l)else match l with
 | [x]=>some x
 | _=>none
def zF(H:LP)(id g i:Nat):LO:=match H[id]? with
 | some (.row _ _ G M l)=>if M<=g/\g<=G then l[i]? else none
 | _=>none
def zR(H:LP)(agg:Bool)(n:Nat):LQ->LO
 | [.elem cs]=>if n<=cs.length then zW agg (cs.take n)else none
 | [.ptr id g i o m]=>if n<=m then(match zF H id g i with
  | some v=>if o+n<=v.cells.length then zW agg ((v.cells.drop o).take n)else none
  | none=>none)else none
 | _=>none
def qQ(off size:Nat):LQ->LO
 | [.elem cs]=>if off+size<=cs.length then some (.elem ((cs.drop off).take size))else none
 | [.ptr id g i o m]=>if off+size<=m then some (.ptr id g i (o+off) size)else none
 | _=>none
def qS(esz:Nat):LQ->LO
 | [.list _ z l,.int _ j]=>if esz=z/\0<=j then(match l[j.toNat]? with
  | some v=>some (.elem v.cells)
  | none=>none)else none
 | [.sl id g o n _ z,.int _ j]=>if esz=z/\0<=j/\j.toNat<n then some (.ptr id g (o+j.toNat) 0 z)else none
 | _=>none
def qR(len esz:Nat):LQ->LO
 | [.elem cs,.int _ j]=>if 0<=j/\j.toNat<len/\len*esz<=cs.length then some (.elem ((cs.drop (j.toNat*esz)).take esz))else none
 | [.ptr id g i o m,.int _ j]=>if 0<=j/\j.toNat<len/\len*esz<=m then some (.ptr id g i (o+j.toNat*esz) esz)else none
 | _=>none
def zD(m:Nat):PV->LA
 | .int _ j=>if 0<=j/\j.toNat<=m then some j.toNat else none
 | _=>none
def ja(lo hi mx:Bool)(p z:Nat)(l:LQ):LQ->LO
 | []=>if lo=false/\hi=false/\mx=false then some (.list p z l)else none
 | [x]=>if mx=true\/lo=hi then none else(match zD l.length x with
  | some a=>some (.list p z (if lo then l.drop a else l.take a))
  | none=>none)
 | [x,y]=>if lo=true/\hi=true/\mx=false/\0<l.length then(match zD l.length y with
  | some b=>(match zD b x with
   | some a=>some (.list p z ((l.take b).drop a))
   | none=>none)
  | none=>none)else none
 | [x,y,w]=>if lo=true/\hi=true/\mx=true/\0<l.length then(match zD l.length w with
  | some m=>(match zD m y with
   | some b=>(match zD b x with
    | some a=>some (.list p z ((l.take b).drop a))
    | none=>none)
   | none=>none)
  | none=>none)else none
 | _=>none
def jb(lo hi mx:Bool)(id g o n q z:Nat):LQ->LO
 | []=>if lo=false/\hi=false/\mx=false then some (.sl id g o n q z)else none
 | [x]=>if mx=true\/lo=hi\/q=0 then none else if lo then(match zD n x with
   | some a=>some (.sl id g (o+a) (n-a) (q-2*a) z)
   | none=>none)else(match zD (q/2) x with
   | some a=>some (.sl id g o a q z)
   | none=>none)
 | [x,y]=>if lo=true/\hi=true/\mx=false/\0<q then(match zD (q/2) y with
  | some b=>(match zD b x with
   | some a=>some (.sl id g (o+a) (b-a) (q-2*a) z)
   | none=>none)
  | none=>none)else none
 | [x,y,m]=>if lo=true/\hi=true/\mx=true/\0<q then(match zD (q/2) m with
  | some m=>(match zD m y with
   | some b=>(match zD b x with
    | some a=>some (.sl id g (o+a) (b-a) (2*m+1-2*a) z)
    | none=>none)
   | none=>none)
  | none=>none)else none
 | _=>none
def qX(esz:Nat)(lo hi mx:Bool):LQ->LO
 | .list p z l::bs=>if esz=z then ja lo hi mx p z l bs else none
 | .sl id g o n q z::bs=>if esz=z then jb lo hi mx id g o n q z bs else none
 | _=>none
def qT(f:Nat)(vs:LQ):LO:=match f with
 | 1=>(match vs with
  | [.nilsl]=>some (.int .i64 0)
  | [.list _ _ l]=>some (.int .i64 l.length)
  | [.sl _ _ _ n _ _]=>some (.int .i64 n)
  | _=>none)
 | 3=>kG An vs
 | _=>none
def qg(ok:Bool)(v:PV)(b:Bool):PV:=if ok then .tuple [v,.bool b]else v
def qG(H:LP)(kf:Nat)(zero:TV)(ok:Bool):LQ->LO
 | [.map id,.int k x]=>if kf=1 then(match H[id]? with
  | some .map0=>(match zX 3 zero with|some z=>some (qg ok z false)|none=>none)
  | some (.mapI k' m)=>if k=k' then(match m x with
   | some v=>some (qg ok v true)
   | none=>(match zX 3 zero with|some z=>some (qg ok z false)|none=>none))else none
  | _=>none)else none
 | [.map id,.str x]=>if kf=2 then(match H[id]? with
  | some .map0=>(match zX 3 zero with|some z=>some (qg ok z false)|none=>none)
  | some (.mapS m)=>(match m x with
   | some v=>some (qg ok v true)
   | none=>(match zX 3 zero with|some z=>some (qg ok z false)|none=>none))
  | _=>none)else none
 | [.nilmap,.int _ _]=>if kf=1 then(match zX 3 zero with|some z=>some (qg ok z false)|none=>none)else none
 | _=>none
def qf(f:Nat)(v:PV):LS:=match f,v with
 | 1,.nilptr=>some true
 | 1,.ptr ..=>some false
 | 1,.elem _=>some false
 | 2,.nilsl=>some true
 | 2,.list _ _ (_::_)=>some false
 | 3,.nilmap=>some true
 | 3,.map _=>some false
 | 4,.nilfn=>some true
 | 4,.fn ..=>some false
 | 5,.niliface=>some true
 | 5,.iface ..=>some false
 | _,_=>none
def qz(neg:Bool):LS->LO
 | some b=>some (.bool (if neg then !b else b))
 | none=>none
def qO(neg:Bool)(ks:LN):LQ->LO
 | [.agg l,.agg m]=>(match qj l with
  | some l=>(match qj m with
   | some m=>bif Nat.beq l.length ks.length then bif Nat.beq m.length ks.length then qz neg (yS ks l m)else none else none
   | none=>none)
  | none=>none)
 | _=>none
def qh(cells:LQ):List (Nat×Nat)->LQ->Option (LQ)
 | [],[]=>some cells
 | (off,size)::ps,v::vs=>if v.cells.length=size/\off+size<=cells.length then qh (cells.take off++v.cells++cells.drop (off+size)) ps vs else none
 | _,_=>none
def qW(agg:Bool)(off size:Nat)(l:LQ):LO :=
 if agg then(if off+size<=l.length then some (.agg ((l.drop off).take size))else none)else l[off]?
def qv(H:LP)(esz:Nat):PV->Option (LQ)
 | .nilsl=>some []
 | .list _ z l=>if esz=z then some l else none
 | .sl id g o n _ z=>if esz=z then(match H[id]? with
  | some (.row _ _ G M l)=>if M<=g/\g<=G/\o+n<=l.length then some ((l.drop o).take n)else none
  | _=>none)else none
 | _=>none
def qJ(H:LP):LQ->LO
 | [x]=>(match qv H 1 x with
  | some l=>(match qj l with
   | some l=>(match qs l with
    | some s=>some (.str s)
    | none=>none)
   | none=>none)
  | none=>none)
 | _=>none
def qi(H:LP)(k:zA)(vs:LQ):LO :=
 match k with
 | .mov=>(match vs with | [v]=>some v|_=>none)
 | .pick=>(match vs with | [.bool c,a,b]=>some (if c then a else b)|_=>none)
 | .load agg n=>zR H agg n vs
 | .nilchk=>(match vs with
  | [.elem cs]=>some (.elem cs)
  | [.ptr id g i o n]=>some (.ptr id g i o n)
  | [.fn f c]=>some (.fn f c)
  | _=>none)
 | .bin op=>wH (uj op) vs
 | .eqnil neg f=>(match vs with
  | [x,y]=>qz neg (qq (qf f x) (qf f y))
  | _=>none)
 | .eqB neg=>wH (lL neg) vs
 | .cstr=>kG Bj vs
 | .eqagg neg ks=>qO neg ks vs
 | .un op=>kG (nt op) vs
 | .conv k=>kG (lK k) vs
 | .mkif t=>(match vs with | [v]=>some (.iface t v)|_=>none)
 | .mkfn f=>some (.fn f vs)
 | .slice esz lo hi mx=>qX esz lo hi mx vs
 | .slstr lo hi=>E4 (rO lo hi) vs
 | .faddr off size=>qQ off size vs
 | .fld agg off size=>(match vs with | [.agg l]=>qW agg off size l|_=>none)
 | .iaddr esz=>qS esz vs
 | .iaddrA len esz=>qR len esz vs
 | .idxstr=>wH rN vs
 | .look kf zero ok=>qG H kf zero ok vs
 | .tassert t zero ok=>(match vs with
  | [.iface t' v]=>if t=t' then some (qg ok v true)else if ok then(match zX 3 zero with|some z=>some (.tuple [z,.bool false])|none=>none)else none
  | [.niliface]=>if ok then(match zX 3 zero with|some z=>some (.tuple [z,.bool false])|none=>none)else none
  | _=>none)
 | .extr i=>(match vs with | [.tuple l]=>l[i]? | _=>none)
 | .len f=>qT f vs
 | .tostr=>qJ H vs
 | .maxI=>wH (bg true) vs
 | .minI=>wH (bg false) vs
 | .build zero places=>(match qk (zX 3) zero with
  | some z=>(match qh z places vs with
   | some l=>some (.agg l)
   | none=>none)
  | none=>none)
 | _=>none
variable {B:Ba}{h:TH}{c:Cx}{H:LP}{vs:LQ}{us:LK}{v:PV}
variable {K:Type}{R:PV->TV->Prop}{agg:Bool}{clock d:Nat}{ds:LK}{e:Nat}{es:List uC}{esz id:Nat}{m:K->LO}{neg:Bool}{off p q:Nat}{w:PV}{zero:TV}{κ:K->TV}
theorem Bf(hl:LR (VR c h) l cs)(hp:zW agg l=some v):∃u,fe agg cs=some u/\VR c h v u:=by
 unfold zW at hp;unfold fe
 cases agg
 .simp only[zAM9,if_false]at hp
  split at hp
  .rename_i x
   cases hp
   obtain⟨y,a,rfl,h1,h2⟩:=hl.oc;obtain rfl:=h2.oN
   grind
  grind
 .simp only[if_true]at hp
  cases hp
  exact⟨_,rfl,VR.aggL hl⟩
theorem A4(h:i<n):i*z+z<=n*z:=by
 have:=zAD9 z (Nat.succ_le_of_lt h)
 grind
theorem Qt(cs:List α)(hz:o+n<=z):((((cs.drop a).take z).drop o).take n)=(cs.drop (a+o)).take n:=by
 rw[zBL9,zCD9,zBU9,zBE9 zo]
theorem Lp(k:HR B c H h)(hr:zF H id (g+d) i=some v)(hρ:c.ρ id=some (b,d,z)):v.cells.length=z/\∀o n,o+n<=z->∃ds,ue h b g (i*z+o) n=some ds/\LR (VR c h) ((v.cells.drop o).take n) ds:=by
 unfold zF at hr
 split at hr
 .rename_i e z' G M l hH
  split at hr
  .rename_i hg;rcases k.obj _ _ hH with⟨rfl,_⟩|⟨t,u,w,x,cells,cs,h1,h2,h3,h4,q,f⟩
   .grind
   .rw[hρ]at h1;injection h1 with h1;injection h1 with h1 a;injection a with a r;subst h1;subst a;subst r;subst h3;have s:i<l.length:=(Zh.1 hr).1;have y:=A4 (z:=z) s;have j:=f.one v (Zj hr);refine⟨j,fun o n p=>?_⟩;refine⟨(cs.drop (i*z+o)).take n,EE h2 zo zo ?_,?_⟩
    .have:=oU q (k:=i*z+o) (m:=n) zo
     grind
    .rw[<- Qt cs p];exact((f.at hr).drop o).take n
  grind
 grind
theorem bh(x:VR c h (.ptr id g i o n) u):∃b d z g',c.ρ id=some (b,d,z)/\g=g'+d/\u=.ptr b g' (i*z+o) n:=by
 cases x with
 | pure x=>cases x
 | ptr a=>grind
theorem ei{cs:LQ}(x:VR c h (.elem cs) u):∃p b g o ds,c.S p b/\u=.ptr b g o cs.length/\ue h b g o cs.length=some ds/\LR (PR c.S h) cs ds:=by
 cases x with
 | pure x=>cases x with|elem h1 h2 h3 h4=>exact⟨_,_,_,_,_,h1,rfl,h2,h3,h4⟩
theorem Hu{cs:LQ}(hS:c.S p b)(hr:ue h b g o cs.length=some ds)(hl:LR (PR c.S h) cs ds)(ha:a+n<=cs.length):VR c h (.elem ((cs.drop a).take n)) (.ptr b g (o+a) n):=by
 have d:((cs.drop a).take n).length=n:=by simp;omega
 have h1:=lU hr ha;have h2:=(hl.drop a).take n;have:=PR.elem (S:=c.S) (h:=h) hS (by rw[d];exact h1) h2.1 h2.2;rw[d]at this;exact .pure this
theorem Jt(k:HR B c H h)(hv:LR (VR c h) vs us)(hp:zR H agg n vs=some v):∃u,uN us (ag agg n h)=some u/\VR c h v u:=by
 unfold zR at hp
 split at hp
 .rename_i cs;obtain⟨y,q,rfl,h1,h2⟩:=hv.oc;obtain rfl:=h2.oN
  split at hp
  .rename_i hn;obtain⟨p,b,g,o,ds,s1,rfl,l,e⟩:=ei h1;have a:=lU l (k:=0) (m:=n) zo;rw[zBA9]at a;obtain⟨u,f,j⟩:=Bf (LR.pure (e.take n)) hp;refine⟨u,?_,j⟩;simp only[uN,ag];rw[ux hn,a];exact f
  grind
 .rename_i id g i o m;obtain⟨y,q,rfl,h1,h2⟩:=hv.oc;obtain rfl:=h2.oN
  split at hp
  .rename_i hn
   split at hp
   .rename_i w hw
    split at hp
    .rename_i ho;obtain⟨b,d,z,s,s1,rfl,rfl⟩:=bh h1;obtain⟨l,e⟩:=Lp k hw s1;obtain⟨ds,a,r⟩:=e o n (by omega);obtain⟨u,f,j⟩:=Bf r hp;refine⟨u,?_,j⟩;simp only[uN,ag];rw[ux hn,a];exact f
    grind
   grind
  grind
 grind
theorem QT{size:Nat}(hv:LR (VR c h) vs us)(hp:qQ off size vs=some v):∃u,uN us (lM off size)=some u/\VR c h v u:=by
 unfold qQ at hp
 split at hp
 .rename_i cs;obtain⟨y,a,rfl,h1,h2⟩:=hv.oc;obtain rfl:=h2.oN
  split at hp
  .rename_i hn
   cases hp
   obtain⟨p,b,g,o,ds,s1,rfl,e,f⟩:=ei h1;refine⟨.ptr b g (o+off) size,?_,Hu s1 e f hn⟩;simp only[uN,lM];rw[ux hn];rfl
  grind
 .rename_i id g i o m;obtain⟨y,a,rfl,h1,h2⟩:=hv.oc;obtain rfl:=h2.oN
  split at hp
  .rename_i hn
   cases hp
   obtain⟨b,d,z,j,s1,rfl,rfl⟩:=bh h1;refine⟨.ptr b j (i*z+o+off) size,?_,?_⟩
   .simp only[uN,lM];rw[ux hn];rfl
   .rw[zCI9];exact .ptr s1
  grind
 grind
theorem eS{j:Int}(h:0<=j):D3 j=some j.toNat:=by
 obtain⟨n,rfl⟩:=zAS9 h;rfl
theorem aY(x:VR c h (.list p z l) u):(l=[]/\u=.nilsl)\/∃b g o q ds,u=.sl b g o l.length q z/\c.S p b/\ue h b g o (l.length*z)=some ds/\2*l.length<=q/\ER (PR c.S h) z l ds:=by
 cases x with
 | pure x=>cases x with
  | listnil=>grind
  | list h1 h2 h3 h4 a d=>exact .inr ⟨_,_,_,_,_,rfl,h1,h2,h3,h4,a,d⟩
theorem sl_inv(x:VR c h (.sl id g o n q z) u):(g=0/\o=0/\n=0/\q=0/\u=.nilsl/\c.L id)\/∃b d g',c.ρ id=some (b,d,z)/\g=g'+d/\u=.sl b g' (o*z) n q z:=by
 cases x with
 | pure x=>cases x
 | sl a=>grind
 | slnil _ e=>grind
theorem R7(hv:LR (VR c h) vs us)(hp:qS esz vs=some v):∃u,uX us (lN esz)=some u/\VR c h v u:=by
 unfold qS at hp
 split at hp
 .rename_i p z l k j;obtain⟨y,A,rfl,h1,h2⟩:=hv.oc;obtain⟨B,x,rfl,h3,h4⟩:=h2.oc;obtain rfl:=h4.oN;obtain rfl:=h3.int_inv
  split at hp
  .rename_i hc;obtain⟨rfl,e⟩:=hc
   split at hp
   .rename_i w hw
    cases hp
    have a:j.toNat<l.length:=(Zh.1 hw).1;rcases aY h1 with⟨rfl,_⟩|⟨b,g,o,q,ds,rfl,s1,C,I,r⟩
    .grind
    .have D:=A4 (z:=esz) a;have f:=r.one w (Zj hw);refine⟨.ptr b g (o+j.toNat*esz) esz,?_,?_⟩
     .simp only[uX,lN,kh,eS e];rw[wZ rfl,cQ a];rfl
     .have G:=lU C (k:=j.toNat*esz) (m:=esz) D;have s:=r.at hw;have:=PR.elem (S:=c.S) (h:=h) s1 (by rw[f];exact G) s.1 s.2;rw[f]at this;exact .pure this
   grind
  grind
 .rename_i id g o n q z k j;obtain⟨y,A,rfl,h1,h2⟩:=hv.oc;obtain⟨B,x,rfl,h3,h4⟩:=h2.oc;obtain rfl:=h4.oN;obtain rfl:=h3.int_inv
  split at hp
  .rename_i hc;obtain⟨rfl,e,a⟩:=hc
   cases hp
   rcases sl_inv h1 with⟨_,_,rfl,_⟩|⟨b,d,t,s1,rfl,rfl⟩
   .omega
   .refine⟨.ptr b t (o*esz+j.toNat*esz) esz,?_,?_⟩
    .simp only[uX,lN,kh,eS e];rw[wZ rfl,cQ a];rfl
    .have:=VR.ptr (h:=h) (g:=t) (i:=o+j.toNat) (o:=0) (n:=esz) s1
     grind
  grind
 grind
theorem R6{len:Nat}(hv:LR (VR c h) vs us)(hp:qR len esz vs=some v):∃u,uX us (lO len esz)=some u/\VR c h v u:=by
 unfold qR at hp
 split at hp
 .rename_i cs k j;obtain⟨y,n,rfl,h1,h2⟩:=hv.oc;obtain⟨q,l,rfl,h3,h4⟩:=h2.oc;obtain rfl:=h4.oN;obtain rfl:=h3.int_inv
  split at hp
  .rename_i hc;obtain⟨e,a,f⟩:=hc
   cases hp
   obtain⟨p,b,g,o,ds,s1,rfl,r,s⟩:=ei h1;have w:=A4 (z:=esz) a;refine⟨.ptr b g (o+j.toNat*esz) esz,?_,Hu s1 r s zo⟩;simp only[uX,lO,kh,eS e];rw[cQ a,ux f];rfl
  grind
 .rename_i id g i o m k j;obtain⟨y,n,rfl,h1,h2⟩:=hv.oc;obtain⟨q,l,rfl,h3,h4⟩:=h2.oc;obtain rfl:=h4.oN;obtain rfl:=h3.int_inv
  split at hp
  .rename_i hc;obtain⟨e,a,f⟩:=hc
   cases hp
   obtain⟨b,d,z,t,s1,rfl,rfl⟩:=bh h1;refine⟨.ptr b t (i*z+o+j.toNat*esz) esz,?_,?_⟩
   .simp only[uX,lO,kh,eS e];rw[cQ a,ux f];rfl
   .rw[zCI9];exact .ptr s1
  grind
 grind
theorem gZ{m:Nat}{x:PV}(hx:VR c h x u)(hb:zD m x=some a):xO u m=some a/\a<=m:=by
 unfold zD at hb
 split at hb
 .rename_i k j;obtain rfl:=hx.int_inv
  split at hb
  .rename_i hc
   cases hb
   refine⟨?_,hc.2⟩;unfold xO;simp only[kh,eS hc.1];rw[ux hc.2];rfl
  grind
 grind
theorem As(s1:c.S p b)(s2:ue h b g o (l.length*z)=some ds)(s4:ER (PR c.S h) z l ds)(ha:a<=e)(he:e<=l.length)(hq:2*(e-a)<=q):VR c h (.list p z ((l.take e).drop a)) (.sl b g (o+a*z) (e-a) q z):=by
 have f:((l.take e).drop a).length=e-a:=by simp;omega
 have i:a*z+(e-a)*z<=l.length*z:=by
  rw[<- zAR9,Nat.add_sub_cancel' ha];exact zAD9 z he
 have j:=lU s2 (k:=a*z) (m:=(e-a)*z) i;have d:=(s4.take e).drop a;have n:(ds.take (e*z)).drop (a*z)=(ds.drop (a*z)).take ((e-a)*z):=by
  rw[zBL9,Nat.sub_mul]
 rw[n]at d;have:=PR.list (S:=c.S) (h:=h) (q:=q) s1 (by rw[f];exact j) (by omega) d.one d.all.1 d.all.2;rw[f]at this;exact .pure this
theorem X0{lo hi mx:Bool}(hv:LR (VR c h) vs us)(hp:qX esz lo hi mx vs=some v):∃u,ff esz lo hi mx us=some u/\VR c h v u:=by
 unfold qX at hp
 split at hp
 .rename_i p z l bs;obtain⟨y,U,rfl,h1,h2⟩:=hv.oc
  split at hp
  .rename_i he;subst he;simp only[ff];unfold ja at hp
   split at hp
   .obtain rfl:=h2.oN
    split at hp
    .rename_i hc;obtain⟨rfl,rfl,rfl⟩:=hc
     cases hp
     rcases aY h1 with⟨rfl,rfl⟩|⟨b,g,o,q,ds,rfl,_⟩
     .exact⟨_,rfl,.pure (.listnil _ _)⟩
     .refine⟨_,?_,h1⟩;simp only[ai];rw[wZ rfl];rfl
    grind
   .rename_i x;obtain⟨k,D,rfl,h3,h4⟩:=h2.oc;obtain rfl:=h4.oN
    split at hp
    .cases hp
    .rename_i hc;simp only[not_or,zDS9]at hc;obtain⟨rfl,L⟩:=hc
     split at hp
     .rename_i a hb
      cases hp
      obtain⟨f,i⟩:=gZ h3 hb;rcases aY h1 with⟨rfl,rfl⟩|⟨b,g,o,q,ds,rfl,s1,t,R,A⟩
      .simp at i;subst i;simp only[ai,Ei]
       grind
      .simp only[ai];rw[wZ rfl];simp only[cond_true,dy,cond_false]
       cases lo<;>cases hi<;>first|exact absurd rfl L|skip
       .simp only[cond_true,cond_false,BP];have j:xO k (q/2)=some a:=by
         revert f;unfold xO;cases kh k<;>intro f<;>first|(cases f;done)|skip
         rename_i w;dsimp only at f⊢
         cases G:Nat.ble w l.length
         .grind
         .rw[G]at f;cases f
          rw[ux zo];rfl
        rw[j];refine⟨_,rfl,?_⟩;have:=As (a:=0) (e:=a) (q:=q) s1 t A (Zn _) i zo
        grind
       .simp only[cond_true,cond_false,bu];rw[f];refine⟨_,rfl,?_⟩;have:=As (a:=a) (e:=l.length) (q:=q-2*a) s1 t A i (Zi _) zo
        grind
     grind
   .rename_i x y0;obtain⟨k,D,rfl,h3,h4⟩:=h2.oc;obtain⟨I,M,rfl,r,s⟩:=h4.oc;obtain rfl:=s.oN
    split at hp
    .rename_i hc;obtain⟨rfl,rfl,rfl,T⟩:=hc
     split at hp
     .rename_i e hb;obtain⟨f,i⟩:=gZ r hb
      split at hp
      .rename_i a hb';obtain⟨j,J⟩:=gZ h3 hb'
       cases hp
       rcases aY h1 with⟨rfl,rfl⟩|⟨b,g,o,q,ds,rfl,s1,t,R,A⟩
       .grind
       .simp only[ai];rw[wZ rfl];simp only[cond_true,dy,cond_false,BQ,bu];have N:xO I (q/2)=some e:=by
         revert f;unfold xO;cases kh I<;>intro f<;>first|(cases f;done)|skip
         rename_i w;dsimp only at f⊢
         cases G:Nat.ble w l.length
         .grind
         .rw[G]at f;cases f
          rw[ux zo];rfl
        rw[N];dsimp only;rw[j];exact⟨_,rfl,As s1 t A J i zo⟩
      grind
     grind
    grind
   .rename_i x y0 w0;obtain⟨k,D,rfl,h3,h4⟩:=h2.oc;obtain⟨I,M,rfl,r,s⟩:=h4.oc;obtain⟨O,V,rfl,P,Q⟩:=s.oc;obtain rfl:=Q.oN
    split at hp
    .rename_i hc;obtain⟨rfl,rfl,rfl,T⟩:=hc
     split at hp
     .rename_i m hbm;obtain⟨B,Y⟩:=gZ P hbm
      split at hp
      .rename_i e hb;obtain⟨f,i⟩:=gZ r hb
       split at hp
       .rename_i a hb';obtain⟨j,J⟩:=gZ h3 hb'
        cases hp
        rcases aY h1 with⟨rfl,rfl⟩|⟨b,g,o,q,ds,rfl,s1,t,R,A⟩
        .grind
        .simp only[ai];rw[wZ rfl];simp only[cond_true,dy,BR];have N:xO O (q/2)=some m:=by
          revert B;unfold xO;cases kh O<;>intro B<;>first|(cases B;done)|skip
          rename_i w;dsimp only at B⊢
          cases G:Nat.ble w l.length
          .grind
          .rw[G]at B;cases B
           rw[ux zo];rfl
         rw[N];dsimp only;rw[f];simp only[bu];rw[j];exact⟨_,rfl,As s1 t A J zo zo⟩
       grind
      grind
     grind
    grind
   grind
  grind
 .rename_i id g o n q z bs;obtain⟨y,U,rfl,h1,h2⟩:=hv.oc
  split at hp
  .rename_i he;subst he;simp only[ff];unfold jb at hp
   split at hp
   .obtain rfl:=h2.oN
    split at hp
    .rename_i hc;obtain⟨rfl,rfl,rfl⟩:=hc
     cases hp
     rcases sl_inv h1 with⟨rfl,rfl,rfl,rfl,rfl,K⟩|⟨b,d,C,s1,rfl,rfl⟩
     .exact⟨_,rfl,.slnil _ K⟩
     .refine⟨_,?_,h1⟩;simp only[ai];rw[wZ rfl];rfl
    .cases hp
   .rename_i x;obtain⟨k,D,rfl,h3,h4⟩:=h2.oc;obtain rfl:=h4.oN
    split at hp
    .cases hp
    .rename_i hc;simp only[not_or,zDS9]at hc;obtain⟨rfl,L,S⟩:=hc;rcases sl_inv h1 with⟨rfl,rfl,rfl,rfl,rfl,K⟩|⟨b,d,C,s1,rfl,rfl⟩
     .omega
     .simp only[ai];rw[wZ rfl];simp only[cond_true,dy,cond_false]
      cases lo<;>cases hi<;>first|exact absurd rfl L|skip
      .simp only[zAM9,if_false]at hp
       split at hp
       .rename_i a hb
        cases hp
        obtain⟨f,i⟩:=gZ h3 hb;simp only[cond_true,cond_false,BP];rw[f];exact⟨_,rfl,.sl s1⟩
       .cases hp
      .simp only[if_true]at hp
       split at hp
       .rename_i a hb
        cases hp
        obtain⟨f,i⟩:=gZ h3 hb;simp only[cond_true,cond_false,bu];rw[f];refine⟨_,rfl,?_⟩;have:=VR.sl (h:=h) (g:=C) (o:=o+a) (n:=n-a) (q:=q-2*a) s1
        grind
       .cases hp
   .rename_i x y0;obtain⟨k,D,rfl,h3,h4⟩:=h2.oc;obtain⟨I,M,rfl,r,s⟩:=h4.oc;obtain rfl:=s.oN
    split at hp
    .rename_i hc;obtain⟨rfl,rfl,rfl,S⟩:=hc;rcases sl_inv h1 with⟨rfl,rfl,rfl,rfl,rfl,K⟩|⟨b,d,C,s1,rfl,rfl⟩
     .omega
     .split at hp
      .rename_i e hb;obtain⟨f,i⟩:=gZ r hb
       split at hp
       .rename_i a hb';obtain⟨j,J⟩:=gZ h3 hb'
        cases hp
        simp only[ai];rw[wZ rfl];simp only[cond_true,dy,cond_false,BQ,bu];rw[f];dsimp only;rw[j];refine⟨_,rfl,?_⟩;have:=VR.sl (h:=h) (g:=C) (o:=o+a) (n:=e-a) (q:=q-2*a) s1
        grind
       .cases hp
      .cases hp
    .cases hp
   .rename_i x y0 m0;obtain⟨k,D,rfl,h3,h4⟩:=h2.oc;obtain⟨I,M,rfl,r,s⟩:=h4.oc;obtain⟨O,V,rfl,P,Q⟩:=s.oc;obtain rfl:=Q.oN
    split at hp
    .rename_i hc;obtain⟨rfl,rfl,rfl,S⟩:=hc;rcases sl_inv h1 with⟨rfl,rfl,rfl,rfl,rfl,K⟩|⟨b,d,C,s1,rfl,rfl⟩
     .omega
     .split at hp
      .rename_i m hbm;obtain⟨X,Z⟩:=gZ P hbm
       split at hp
       .rename_i e hb;obtain⟨f,i⟩:=gZ r hb
        split at hp
        .rename_i a hb';obtain⟨j,J⟩:=gZ h3 hb'
         cases hp
         simp only[ai];rw[wZ rfl];simp only[cond_true,dy,cond_false,BR,bu];rw[X];dsimp only;rw[f];dsimp only;rw[j];refine⟨_,rfl,?_⟩;have:=VR.sl (h:=h) (g:=C) (o:=o+a) (n:=e-a) (q:=2*m+1-2*a) s1
         grind
        .cases hp
       .cases hp
      .cases hp
    .cases hp
   .cases hp
  grind
 grind
theorem fd(hp:zX n u=some w):VR c h w u:=.pure (cg hp)
theorem IW(k:IntKind):cG (TV.int k):=fun x y=>by
 unfold aR;dsimp only;rw[wZ rfl,cond_true,kB]
 grind
theorem rF:∀a b:LN,ki a b=true↔a=b
 | [],[]=>by simp[ki]
 | [],_::_=>by simp[ki]
 | _::_,[]=>by simp[ki]
 | x::a,y::b=>by
  unfold ki
  by_cases h:x=y
  .rw[wZ h,cond_true,rF a b];simp[h]
  simp_all
theorem IX:cG TV.str:=fun x y=>by
 unfold aR;dsimp only;exact⟨fun h=>by rw[(rF x y).2 h],fun h=>by rw[zET9.2 fun e=>h ((rF x y).1 e)]⟩
theorem cG.inj(hκ:cG κ){x y:K}(h:κ x=κ y):x=y:=by
 apply Classical.byContradiction
 intro e;have h1:=(hκ x y).2 e;have h2:=(hκ x x).1 rfl
 grind
theorem Au(hκ:cG κ){x:K}:∀{es:List uC} {i:Nat},(∀e∈es,∃n,e.k=κ n)->(gz (κ x) es i=some none/\lk κ x es=none)\/∃j e,gz (κ x) es i=some (some (j,e))/\lk κ x es=some e.v
 | [],i,_=>.inl ⟨rfl,rfl⟩
 | e::l,i,b=>by
  obtain⟨n,c⟩:=b e (by simp);have f:=fun g d=>b g (Zo _ d);unfold gz lk
  by_cases a:x=n
  .rw[c,(hκ x n).1 a,if_pos (by rw[a])]
   grind
  .rw[c,(hκ x n).2 a,if_neg (fun e=>a (hκ.inj e.symm))];exact Au hκ f
theorem rL{ok:Bool}{b:Bool}(k:VR c h w u):VR c h (qg ok w b) (ae ok u b):=by
 unfold qg ae
 cases ok
 .exact k
 .exact VR.tL (LR.cons k (LR.cons (.pure (.bool b)) LR.nil))
theorem dk(x:VR c h (.map id) u):∃b d z,c.ρ id=some (b,d,z)/\u=.map b:=by
 cases x with
 | pure x=>cases x
 | map h=>grind
theorem Ju(hκ:cG κ)(s4:MR (VR c h) κ m es){ok:Bool}{x:K}(hp:(match m x with
   | some v=>some (qg ok v true)
   | none=>(match zX 3 zero with|some z=>some (qg ok z false)|none=>none))=some w):∃u,mA zero ok (κ x) (.map es clock)=some u/\VR c h w u:=by
 simp only[mA]
 split at hp
 .rename_i w hw
  cases hp
  obtain⟨u,a,b⟩:=s4.some _ _ hw;rcases Au hκ (x:=x) (i:=0) s4.keys with⟨f1,f2⟩|⟨j,e,f1,f2⟩
  .grind
  .rw[f2]at a;cases a
   exact⟨ae ok e.v true,by rw[f1],rL b⟩
 .rename_i hw
  split at hp
  .rename_i w hw'
   cases hp
   have a:=s4.none _ hw;rcases Au hκ (x:=x) (i:=0) s4.keys with⟨f1,f2⟩|⟨j,e,f1,f2⟩
   .exact⟨ae ok zero false,by rw[f1],rL (fd hw')⟩
   .grind
  grind
theorem Jv(κ:K->TV){ok:Bool}{x:K}(hp:(match zX 3 zero with|some z=>some (qg ok z false)|none=>none)=some w):∃u,mA zero ok (κ x) (.map [] clock)=some u/\VR c h w u:=by
 split at hp
 .rename_i w hw
  cases hp
  exact⟨ae ok zero false,rfl,rL (fd hw)⟩
 grind
theorem Um(k:HR B c H h){kf:Nat}{ok:Bool}(hv:LR (VR c h) vs us)(hp:qG H kf zero ok vs=some v):∃u,uX us (ci kf zero ok h)=some u/\VR c h v u:=by
 unfold qG at hp
 split at hp
 .rename_i id kk x;obtain⟨y,n,rfl,h1,h2⟩:=hv.oc;obtain⟨o,l,rfl,h3,h4⟩:=h2.oc;obtain rfl:=h4.oN;obtain rfl:=h3.int_inv;obtain⟨b,d,z,s1,rfl⟩:=dk h1
  split at hp
  .rename_i hkf;subst hkf;simp only[uX,ci,mv,oZ,cond_true]
   split at hp
   .rename_i hH;obtain⟨f,g,i,clock,a,e⟩:=k.obj _ _ hH;rw[s1]at a;injection a with a;injection a with a _;subst a;rw[e];exact Jv (TV.int kk) hp
   .rename_i k' m hH;obtain⟨f,g,i,es,clock,a,e,j⟩:=k.obj _ _ hH;rw[s1]at a;injection a with a;injection a with a _;subst a
    split at hp
    .rename_i hk;subst hk;rw[e];exact Ju (IW kk) j hp
    grind
   grind
  grind
 .rename_i id x;obtain⟨y,n,rfl,h1,h2⟩:=hv.oc;obtain⟨o,l,rfl,h3,h4⟩:=h2.oc;obtain rfl:=h4.oN;obtain rfl:=h3.str_inv;obtain⟨b,d,z,s1,rfl⟩:=dk h1
  split at hp
  .rename_i hkf;subst hkf;simp only[uX,ci,mv,o0,cond_true]
   split at hp
   .rename_i hH;obtain⟨f,g,i,clock,a,e⟩:=k.obj _ _ hH;rw[s1]at a;injection a with a;injection a with a _;subst a;rw[e];exact Jv TV.str hp
   .rename_i m hH;obtain⟨f,g,i,es,clock,a,e,j⟩:=k.obj _ _ hH;rw[s1]at a;injection a with a;injection a with a _;subst a;rw[e];exact Ju IX j hp
   grind
  grind
 .rename_i kk x;obtain⟨y,n,rfl,h1,h2⟩:=hv.oc;obtain⟨o,l,rfl,h3,h4⟩:=h2.oc;obtain rfl:=h4.oN;obtain rfl:=h3.int_inv;obtain rfl:y=.nilmap:=by cases h1 with|pure h1=>cases h1;rfl
  split at hp
  .rename_i hkf;subst hkf
   split at hp
   .rename_i w hw
    cases hp
    exact⟨ae ok zero false,rfl,rL (fd hw)⟩
   grind
  grind
 grind
theorem JX{x:PV}{b:Bool}(hx:VR c h x u)(hn:qf f x=some b):o6 f u=some b:=by
 unfold qf at hn
 split at hn<;>first|(cases hn;done)|(cases hn)
 .cases hx with|pure hx=>cases hx;rfl
 .obtain⟨_,_,_,_,_,_,rfl⟩:=bh hx;rfl
 .obtain⟨_,_,_,_,_,_,rfl,_⟩:=ei hx;rfl
 .cases hx with|pure hx=>cases hx;rfl
 .rcases aY hx with⟨h1,_⟩|⟨_,_,_,_,_,rfl,_⟩
  .cases h1
  .rfl
 .cases hx with|pure hx=>cases hx;rfl
 .obtain⟨_,_,_,_,rfl⟩:=dk hx;rfl
 .cases hx with|pure hx=>cases hx;rfl
 .obtain⟨_,rfl,_⟩:=hx.fn_inv;rfl
 .cases hx with|pure hx=>cases hx;rfl
 .obtain⟨_,rfl,_⟩:=hx.iface_inv;rfl
theorem J7{x:LS}(hp:qz neg x=some v):∃u,rH neg x=some u/\VR c h v u:=by
 unfold qz at hp
 split at hp
 .cases hp
  refine⟨_,rfl,?_⟩
  cases neg<;>exact .pure (.bool _)
 grind
theorem QJ{ks:LN}(hv:LR (VR c h) vs us)(hp:qO neg ks vs=some v):∃u,uX us (rM neg ks)=some u/\VR c h v u:=by
 unfold qO at hp
 split at hp
 .obtain⟨y,cs',rfl,h1,h2⟩:=hv.oc;obtain⟨i,g,rfl,h3,h4⟩:=h2.oc;obtain rfl:=h4.oN;obtain⟨a,rfl,b⟩:=h1.agg_inv;obtain⟨j,rfl,d⟩:=h3.agg_inv
  split at hp
  .rename_i l' hl';obtain rfl:=ou b hl'
   split at hp
   .rename_i m' hm';obtain rfl:=ou d hm';obtain⟨e,hp⟩:=vt hp;obtain⟨f,hp⟩:=vt hp;obtain⟨u,h1,h2⟩:=J7 hp;exact⟨u,by simp only[uX,rM,e,f,cond_true];exact h1,h2⟩
   grind
  grind
 grind
theorem C6:∀{places:List (Nat×Nat)} {vs:LQ} {us:LK} {l m:LQ} {cs:LK},LR (VR c h) l cs->LR (VR c h) vs us->qh l places vs=some m->∃ds,cZ cs places us=some ds/\LR (VR c h) m ds
 | [],[],us,l,m,cs,b,d,a=>by
  obtain rfl:=d.oN;simp only[qh]at a
  cases a
  exact⟨cs,rfl,b⟩
 | [],_::_,us,l,m,cs,b,d,a=>by simp[qh]at a
 | _::_,[],us,l,m,cs,b,d,a=>by simp[qh]at a
 | (off,size)::ps,v::vs,us,l,m,cs,b,d,a=>by
  obtain⟨y,e,rfl,h1,h2⟩:=d.oc;unfold qh at a
  split at a
  .rename_i hc;have h3:=h1.cells;obtain⟨ds,d1,d2⟩:=C6 (((b.take off).app h3).app (b.drop (off+size))) h2 a;refine⟨ds,?_,d2⟩;unfold cZ;dsimp only;rw[wZ (by rw[<- h3.1];omega),ux (by rw[<- b.1];omega)];exact d1
  grind
theorem eZ:∀(l:LK) (n:Nat),ce l n=l[n]?
 | [],n=>by simp[ce]
 | x::l,0=>rfl
 | x::l,n+1=>by simp only[ce,ZJ];exact eZ l n
theorem VV{size:Nat}(hl:LR (VR c h) l cs)(hp:qW agg off size l=some v):∃u,lR agg off size cs=some u/\VR c h v u:=by
 unfold qW at hp;unfold lR
 cases agg
 .simp only[zAM9,if_false]at hp;obtain⟨y,a,b⟩:=hl.at hp;exact⟨y,by simp only[cond_false];rw[eZ];exact a,b⟩
 .simp only[if_true]at hp
  split at hp
  .rename_i hc
   cases hp
   refine⟨_,?_,VR.aggL ((hl.drop off).take size)⟩;simp only[cond_true];rw[ux (by rw[<- hl.1];exact hc)];rfl
  grind
theorem QL(hv:LR (VR c h) vs us)(hp:qi H (.eqnil neg f) vs=some v):∃u,yb (.eqnil neg f) us h=some u/\VR c h v u:=by
 simp only[qi]at hp
 split at hp
 .rename_i x x';obtain⟨y,j,rfl,h1,h2⟩:=hv.oc;obtain⟨d,i,rfl,h3,h4⟩:=h2.oc;obtain rfl:=h4.oN;simp only[yb,uX,cV];have e:qq (o6 f y) (o6 f d)=qq (qf f x) (qf f x'):=by
   revert hp
   cases g:qf f x with
   | none=>intro hp;simp[qq,qz]at hp
   | some b =>
    cases a:qf f x' with
    | none=>intro hp;simp[qq,qz]at hp
    | some k=>intro _;rw[JX h1 g,JX h3 a]
  rw[e];exact J7 hp
 grind
theorem Yx{t:Nat}{ok:Bool}(hv:LR (VR c h) vs us)(hp:qi H (.tassert t zero ok) vs=some v):∃u,yb (.tassert t zero ok) us h=some u/\VR c h v u:=by
 simp only[qi]at hp
 split at hp
 .rename_i t' w;obtain⟨y,a,rfl,h1,h2⟩:=hv.oc;obtain rfl:=h2.oN;obtain⟨b,rfl,h3⟩:=h1.iface_inv;simp only[yb,uN,Bk]
  split at hp
  .rename_i ht;subst ht
   cases hp
   rw[wZ rfl];exact⟨_,rfl,rL h3⟩
  .rename_i ht
   split at hp
   .rename_i hok;subst hok
    split at hp
    .rename_i z hz
     cases hp
     rw[oA ht];exact⟨_,rfl,VR.tL (LR.cons (fd hz) (LR.cons (.pure (.bool _)) LR.nil))⟩
    grind
   grind
 .obtain⟨y,a,rfl,h1,h2⟩:=hv.oc;obtain rfl:=h2.oN;obtain rfl:y=.niliface:=by cases h1 with|pure h1=>cases h1;rfl
  split at hp
  .rename_i hok;subst hok
   split at hp
   .rename_i z hz
    cases hp
    exact⟨_,rfl,VR.tL (LR.cons (fd hz) (LR.cons (.pure (.bool _)) LR.nil))⟩
   grind
  grind
 grind
def lenP:PV->Nat
 | .list _ _ l=>l.length
 | .sl _ _ _ n _ _=>n
 | _=>0
theorem dF(k:HR B c H h){G M:Nat}(hH:H[id]?=some (.row e z G M l)){z':Nat}(hρ:c.ρ id=some (b,d,z')):
  z'=z/\∃G' M' cells cs,h.get b=some (.row e G' M' (l.length*z) cells)/\G=G'+d/\M'<=M-d/\cells.getL 0 (l.length*z)=some cs/\ER (VR c h) z l cs:=by
 rcases k.obj _ _ hH with⟨_,_,h1,_⟩|⟨a,f,G',M',cells,cs,h1,h2⟩
 all_goals grind
theorem BU(k:HR B c H h){x:PV}(hx:VR c h x u)(hp:qv H esz x=some l):l.length=lenP x/\lenV u=l.length/\∀m,m<=l.length->∃cs,cr h esz u m=some cs/\ER (VR c h) esz (l.take m) cs:=by
 unfold qv at hp
 split at hp
 .cases hp
  obtain rfl:u=.nilsl:=by cases hx with|pure hx=>cases hx;rfl
  exact⟨rfl,rfl,fun m a=>⟨[],rfl,by simpa using ER.nil⟩⟩
 .split at hp
  .rename_i he
   cases hp;subst he
   rcases aY hx with⟨rfl,rfl⟩|⟨b,g,o,q,ds,rfl,s1,i,r,j⟩
   .exact⟨rfl,rfl,fun m a=>⟨[],rfl,by simpa using ER.nil⟩⟩
   .refine⟨rfl,rfl,fun m a=>⟨ds.take (m*esz),?_,(j.take m).mono fun _ _=>.pure⟩⟩;unfold cr;dsimp only;rw[wZ rfl];have:=lU i (k:=0) (m:=m*esz) (by rw[ZT];exact zAD9 esz a)
    grind
  grind
 .rename_i id g o n q z
  split at hp
  .rename_i he;subst he
   split at hp
   .rename_i e z' G M l' hH
    split at hp
    .rename_i hc;obtain⟨s,t,v⟩:=hc
     cases hp
     have f:((l'.drop o).take n).length=n:=by simp;omega
     rcases sl_inv hx with⟨rfl,rfl,rfl,rfl,rfl,w⟩|⟨b,d,y,s1,rfl,rfl⟩
     .exact⟨by simp[lenP],by simp[lenV],fun m a=>⟨[],rfl,by simpa using ER.nil⟩⟩
     .obtain⟨rfl,G',M',cells,cs,r1,r2,r3,r4,r5⟩:=dF k hH s1;refine⟨f,by rw[f];rfl,fun m a=>⟨((cs.drop (o*esz)).take (n*esz)).take (m*esz),?_,((r5.drop o).take n).take m⟩⟩;rw[f]at a;unfold cr;dsimp only;rw[wZ rfl,zCD9,zBE9 (zAD9 esz a)];refine EE r1 zo zo ?_;have p:o*esz+m*esz<=l'.length*esz:=by rw[<- zAR9];exact zAD9 _ zo
      have:=oU r4 p
      grind
    grind
   grind
  grind
 grind
theorem Gf:∀{l:LQ} {us:LK},qj l=some us->l.flatMap PV.cells=l
 | [],_,_=>rfl
 | x::l,us,h=>by
  unfold qj at h
  split at h
  .rename_i u hu
   split at h
   .rename_i ws hws;rw[ZZ,Gf hws]
    cases x<;>first|rfl|cases hu
   grind
  grind
theorem YE(k:HR B c H h)(hv:LR (VR c h) vs us)(hp:qJ H vs=some v):∃u,uN us (cj h)=some u/\VR c h v u:=by
 unfold qJ at hp
 split at hp
 .obtain⟨y,cs',rfl,h1,h2⟩:=hv.oc;obtain rfl:=h2.oN
  split at hp
  .rename_i l hl
   split at hp
   .rename_i l' hl'
    split at hp
    .rename_i s hs
     cases hp
     obtain⟨_,t2,t3⟩:=BU k h1 hl;obtain⟨cs,t4,t5⟩:=t3 _ (Zi _);rw[ZL]at t5;have t6:=t5.all;rw[Gf hl']at t6;obtain rfl:=ou t6 hl';rw[<- t2]at t4;refine⟨.str s,?_,.pure (.str s)⟩
     cases y<;>first|(cases t4;done)|skip
     .cases t4;cases hs;rfl
     .rename_i b g o n q z;simp only[cr]at t4;obtain⟨d,a⟩:=vt t4;obtain rfl:=Pc d;rw[Nat.mul_one]at a;simp only[lenV]at a;simp only[uN,cj]
      grind
    grind
   grind
  grind
 grind
theorem Bm(k:HR B c H h){kind:zA}(hv:LR (VR c h) vs us)(hp:qi H kind vs=some v):∃u,yb kind us h=some u/\VR c h v u:=by
 unfold qi at hp
 split at hp
 .split at hp
  .obtain⟨y,a,rfl,h1,h2⟩:=hv.oc;obtain rfl:=h2.oN
   cases hp
   exact⟨y,rfl,h1⟩
  grind
 .split at hp
  .rename_i b x x';obtain⟨y,a,rfl,h1,h2⟩:=hv.oc;obtain⟨e,q,rfl,h3,h4⟩:=h2.oc;obtain⟨f,r,rfl,i,j⟩:=h4.oc;obtain rfl:=j.oN;obtain rfl:=h1.bool_inv
   cases hp
   cases b
   .exact⟨f,rfl,i⟩
   .exact⟨e,rfl,h3⟩
  grind
 .exact Jt k hv hp
 .split at hp
  .obtain⟨y,a,rfl,h1,h2⟩:=hv.oc;obtain rfl:=h2.oN
   cases hp
   obtain⟨p,b,g,o,ds,s1,rfl,s,t⟩:=ei h1;exact⟨_,rfl,h1⟩
  .obtain⟨y,a,rfl,h1,h2⟩:=hv.oc;obtain rfl:=h2.oN
   cases hp
   obtain⟨b,d,z,w,s1,rfl,rfl⟩:=bh h1;exact⟨_,rfl,h1⟩
  .obtain⟨y,a,rfl,h1,h2⟩:=hv.oc;obtain rfl:=h2.oN
   cases hp
   obtain⟨cs,rfl,_⟩:=h1.fn_inv;exact⟨_,rfl,h1⟩
  grind
 .exact rX hv hp
 .exact QL (H:=H) hv hp
 .exact rX hv hp
 .exact BL hv hp
 .exact QJ hv hp
 .exact BL hv hp
 .exact BL hv hp
 .split at hp
  .obtain⟨y,a,rfl,h1,h2⟩:=hv.oc;obtain rfl:=h2.oN
   cases hp
   exact⟨_,rfl,.iface h1⟩
  grind
 .cases hp
  exact⟨_,rfl,VR.fnL hv⟩
 .exact X0 hv hp
 .exact XK hv hp
 .exact QT hv hp
 .split at hp
  .obtain⟨y,a,rfl,h1,h2⟩:=hv.oc;obtain rfl:=h2.oN;obtain⟨cs,rfl,h3⟩:=h1.agg_inv;exact VV h3 hp
  grind
 .exact R7 hv hp
 .exact R6 hv hp
 .exact rX hv hp
 .exact Um k hv hp
 .exact Yx (H:=H) hv hp
 .split at hp
  .obtain⟨y,a,rfl,h1,h2⟩:=hv.oc;obtain rfl:=h2.oN;obtain⟨cs,rfl,h3⟩:=h1.tuple_inv;obtain⟨u,m,n⟩:=h3.at hp;exact⟨u,by simp only[yb,uN,Bh,eZ];exact m,n⟩
  grind
 .unfold qT at hp
  split at hp
  .split at hp
   .obtain⟨y,a,rfl,h1,h2⟩:=hv.oc;obtain rfl:=h2.oN
    cases hp
    obtain rfl:y=.nilsl:=by cases h1 with|pure h1=>cases h1;rfl
    exact⟨_,rfl,.pure (.int _ _)⟩
   .obtain⟨y,a,rfl,h1,h2⟩:=hv.oc;obtain rfl:=h2.oN
    cases hp
    rcases aY h1 with⟨rfl,rfl⟩|⟨_,_,_,_,_,rfl,_⟩
    .exact⟨_,rfl,.pure (.int _ _)⟩
    .exact⟨_,rfl,.pure (.int _ _)⟩
   .obtain⟨y,a,rfl,h1,h2⟩:=hv.oc;obtain rfl:=h2.oN
    cases hp
    rcases sl_inv h1 with⟨rfl,rfl,rfl,rfl,rfl,_⟩|⟨_,_,_,_,_,rfl⟩
    .exact⟨_,rfl,.pure (.int _ _)⟩
    .exact⟨_,rfl,.pure (.int _ _)⟩
   grind
  .exact BL hv hp
  grind
 .exact YE k hv hp
 .exact rX hv hp
 .exact rX hv hp
 .split at hp
  .rename_i z hz
   split at hp
   .rename_i l hl
    cases hp
    obtain⟨ds,d1,d2⟩:=C6 (LR.pure (c:=c) (dt (fun u v=>cg) hz)) hv hl;exact⟨.agg ds,by simp only[yb,Bg];rw[d1],VR.aggL d2⟩
   grind
  grind
 grind
def Cx.add(c:Cx)(id b d z:Nat):Cx:=⟨c.S,fun i=>if i=id then some (b,d,z)else c.ρ i,c.L⟩
theorem KW(x:TO)(hr:ue h b g o n=some cs):ue (h.push x) b g o n=some cs:=by
 obtain⟨y,h1,h2⟩:=Bs hr;refine rR (x:=y) ?_ h2;rw[TH.gP,if_neg (by have:=TH.get_lt h1;omega)];exact h1
theorem MR.mono{R':PV->TV->Prop}(hR:∀x y,R x y->R' x y)(a:MR R κ m es):MR R' κ m es :=
 ⟨a.keys,fun x v b=>by obtain⟨u,c,d⟩:=a.some x v b;grind,a.none⟩
theorem OR.move{c':Cx}{h':TH}(m:Mo c c' h h'){o:za}(hρ:c'.ρ id=c.ρ id)(hL:c.L id->c'.L id)(hb:∀x,c.ρ id=some x->h'.get x.1=h.get x.1)(k:OR c h id o):OR c' h' id o:=by
 cases o with
 | row e z G M l =>
  rcases k with⟨h1,h2,h3,h4⟩|⟨b,d,g,j,cells,cs,h1,h2,h3,h4,a,n⟩
  .exact .inl ⟨h1,h2,by grind,hL h4⟩
  .exact .inr ⟨b,d,g,j,cells,cs,by grind,by grind,h3,h4,a,n.mono fun _ _=>VR.mono m⟩
 | map0 =>
  obtain⟨b,d,z,clock,h1,h2⟩:=k;exact⟨b,d,z,clock,by grind,by grind⟩
 | mapI k p =>
  obtain⟨b,d,z,es,clock,h1,h2,h3⟩:=k;exact⟨b,d,z,es,clock,by grind,by grind,h3.mono fun _ _=>VR.mono m⟩
 | mapS p =>
  obtain⟨b,d,z,es,clock,h1,h2,h3⟩:=k;exact⟨b,d,z,es,clock,by grind,by grind,h3.mono fun _ _=>VR.mono m⟩
 | dfr v =>
  obtain⟨b,d,z,h1,h2⟩:=k;exact⟨b,d,z,by grind,by grind⟩
 | loop st pe tm ps aS bo mk =>
  obtain⟨b,d,z,q,r,s,t,f,h1,h2,h3,h4,a⟩:=k;refine⟨b,d,z,q,r,s,t,f,by grind,m.ρ _ _ h2,by grind,fun i=>?_,?_⟩
  .rcases h4 i with h4|⟨u,u1,u2⟩
   .grind
   .exact .inr ⟨u,u1,u2.mono m⟩
  .cases a with
   | norm=>exact .norm
   | exit id=>exact .exit id
   | goto l=>exact .goto l
   | ret=>exact .ret
   | panic k=>exact .panic (k.mono m)
 | void=>trivial
theorem HR.push(k:HR B c H h){o:za}{x:TO}(ho:Mo c (c.add H.length h.next 0 z) h (h.push x)->OR (c.add H.length h.next 0 z) (h.push x) H.length o):
  Mo c (c.add H.length h.next 0 z) h (h.push x)/\HR B (c.add H.length h.next 0 z) (H++[o]) (h.push x):=by
 have v:c.ρ H.length=none:=by
  cases n:c.ρ H.length with
  | none=>rfl
  | some y=>have:=(k.own _ _ n).2.2;omega
 have m:Mo c (c.add H.length h.next 0 z) h (h.push x):=⟨fun _ _ h=>h,fun id y a=>by
  show (if id=H.length then _ else _)=_
  grind,fun _ h=>h,fun _ _ _ _ _ _ _ q=>KW x q⟩
 have i:∀b,b<h.next->(h.push x).get b=h.get b:=fun b d=>by rw[TH.gP,if_neg zo]
 have g:∀id y,(c.add H.length h.next 0 z).ρ id=some y->(id=H.length/\y=(h.next,0,z))\/c.ρ id=some y:=fun id y a=>by
  have a:(if id=H.length then some (h.next,0,z)else c.ρ id)=some y:=a
  grind
 refine⟨m,⟨?_,fun b d=>?_,k.old,fun p b d=>?_,fun id y a=>?_,fun id r=>?_,fun id l y s a f e=>?_,fun id t j=>?_⟩⟩
 .rw[TH.nP];exact Nat.le_succ_of_le k.le
 .rw[i b (ZR d k.le)];exact k.keep b d
 .obtain⟨h1,h2⟩:=k.S p b d;refine⟨by rw[TH.nP];omega,fun id y a e=>?_⟩
  grind
 .rw[TH.nP,Zl];rcases g id y a with⟨rfl,rfl⟩|a
  .exact⟨k.le,Z5 _,by simp⟩
  .obtain⟨h1,h2,h3⟩:=k.own id y a;omega
 .obtain⟨h1,h2⟩:=k.lz id r
  grind
 .rcases g id y a with⟨rfl,rfl⟩|a<;>rcases g l s f with⟨rfl,rfl⟩|f
  .rfl
  .have:=(k.own _ _ f).2.1;omega
  .have:=(k.own _ _ a).2.1;omega
  .exact k.inj _ _ _ _ a f e
 .by_cases u:id<H.length
  .rw[ZM u]at j;have h1:=k.obj id t j;refine h1.move m (by show (if id=H.length then _ else _)=_;grind) (fun h=>h) fun y a=>i _ (k.own _ _ a).2.1
  grind
theorem WS{b':Nat}(x:TO)(hb:b'<h.next)(hne:b≠b')(hr:ue h b g o n=some cs):ue (h.set b' x) b g o n=some cs:=by
 obtain⟨y,h1,h2⟩:=Bs hr;refine rR (x:=y) ?_ h2;rw[TH.get_set _ _ _ _ hb,if_neg hne];exact h1
theorem HR.set(k:HR B c H h)(hρ:c.ρ id=some (b,d,z))(hv:¬H[id]?=some .void){o:za}{x:TO}(ho:Mo c c h (h.set b x)->OR c (h.set b x) id o):
  Mo c c h (h.set b x)/\HR B c (H.set id o) (h.set b x):=by
 obtain⟨w,s,hid⟩:=k.own _ _ hρ;have r:∀a,a≠b->(h.set b x).get a=h.get a:=fun a f=>by rw[TH.get_set _ _ _ _ s,if_neg f]
 have m:Mo c c h (h.set b x):=⟨fun _ _ h=>h,fun _ _ h=>h,fun _ h=>h,fun p a f g o n cs t=>WS x s (fun e=>hv ((k.S p a f).2 _ _ hρ e.symm)) t⟩
 refine⟨m,⟨by rw[TH.next_set];omega,fun a f=>?_,k.old,fun p a f=>?_,fun l y j=>?_,fun l u=>?_,k.inj,fun l v q=>?_⟩⟩
 .rw[r a (by omega)];exact k.keep a f
 .rw[TH.next_set];refine⟨(k.S p a f).1,fun i y j e=>?_⟩;have:=(k.S p a f).2 i y j e
  grind
 .rw[TH.next_set,Z2];exact k.own _ _ j
 .rw[Z2];exact k.lz l u
 .rw[zDN9]at q
  split at q
  .grind
  .rename_i hne;exact(k.obj l v q).move m rfl (fun h=>h) fun y j=>r _ fun e=>hne (k.inj _ _ _ _ hρ j e.symm)
def qn(l:LQ):PV:=match l with
 | [x]=>x
 | l=>.agg l
theorem du(h:l.all qd=true):(qn l).cells=l:=by
 unfold qn
 split
 .rename_i x;simp at h;exact PA h
 .rfl
def qM(esz:Nat):Nat->LQ->LQ
 | 0,_=>[]
 | n+1,l=>qn (l.take esz)::qM esz n (l.drop esz)
theorem Hd{esz:Nat}:∀{n:Nat} {l:LQ} {cs:LK},l.all qd=true->l.length=n*esz->LR R l cs->ER R esz (qM esz n l) cs
 | 0,l,cs,d,b,a=>by
  obtain rfl:l=[]:=zBH9.1 (by omega);obtain rfl:=a.oN;exact ER.nil
 | n+1,l,cs,d,b,a=>by
  have c:(l.take esz).all qd=true:=by grind
  have e:(l.drop esz).all qd=true:=by grind
  have f:esz<=l.length:=by rw[b,zBK9];omega
  have h1:ER R esz [qn (l.take esz)] (cs.take esz):=ER.one' (by rw[du c];grind) (by rw[du c];exact a.take esz);have h2:=Hd (esz:=esz) (n:=n) e (by grind) (a.drop esz);have:=h1.app h2;rw[zBV9]at this;exact this
def qu(l:LQ):Nat->LQ
 | 0=>[]
 | n+1=>l++qu l n
theorem Bx(h:LR R l cs):∀n,LR R (qu l n) (xc cs n)
 | 0=>LR.nil
 | n+1=>h.app (Bx h n)
theorem La(l:LQ):∀n,(qu l n).length=n*l.length
 | 0=>by simp[qu]
 | n+1=>by rw[qu,Zl,La l n,zBK9,zBJ9]
theorem HP:∀{places:List (Nat×Nat)} {vs l m:LQ},qh l places vs=some m->m.length=l.length
 | [],[],l,m,a=>by simp only[qh]at a;grind
 | [],_::_,l,m,a=>by simp[qh]at a
 | _::_,[],l,m,a=>by simp[qh]at a
 | (off,size)::ps,v::vs,l,m,a=>by
  unfold qh at a
  split at a
  .rename_i hc;rw[HP a]
   grind
  grind
def qm(id:Nat)(k:zA)(vs:LQ):Option (za×PV) :=
 match k with
 | .box e n=>(match vs with
  | [v]=>if v.cells.length=n then some (.row e n 0 0 [v],.ptr id 0 0 0 n)else none
  | _=>none)
 | .alloc e zero=>(match vs,qk (zX 3) zero with
  | [],some zs=>if zs.all qd=true then some (.row e zero.length 0 0 [qn zs],.ptr id 0 0 0 zero.length)else none
  | _,_=>none)
 | .bslice e esz len zero places=>(match qk (zX 3) zero with
  | some zs=>if len*esz<=16777216/\zero.length=esz then(match qh (qu zs len) places vs with
   | some l=>if l.all qd=true then some (.row e esz 0 0 (qM esz len l),.sl id 0 0 len (2*len) esz)else none
   | none=>none)else none
  | none=>none)
 | .mkslice e esz bytes zero=>(match vs,qk (zX 3) zero with
  | [.int _ n,.int _ m],some zs=>if 0<=n/\n<=m/\m<=1000000/\m*bytes<=140737488355328/\zs.all qd=true/\zero.length=esz then some (.row e esz 0 0 (List.replicate n.toNat (qn zs)),.sl id 0 0 n.toNat (2*n.toNat) esz)else none
  | _,_=>none)
 | .mkmap=>(match vs with
  | []=>some (.map0,.map id)
  | [.int _ _]=>some (.map0,.map id)
  | _=>none)
 | .tobytes e=>(match vs with
  | [.str s]=>if s.length<=1000000 then some (.row e 1 0 0 (s.map fun n:Nat=>.int .u8 n),.sl id 0 0 s.length (2*s.length) 1)else none
  | _=>none)
 | _=>none
variable {cs u:List α}
theorem add_same(c:Cx)(id b d z:Nat):(c.add id b d z).ρ id=some (b,d,z):=by simp[Cx.add]
theorem Dk(l:List α):(Tr.putL .nil 0 l).getL 0 l.length=some l:=im fun j a=>by
 rw[Tr.get_putL,if_pos zo];simp
theorem Dd(v:PV):∀n,(List.replicate n v).flatMap PV.cells=qu v.cells n
 | 0=>rfl
 | n+1=>by rw[zAY9,ZZ,Dd v n];rfl
theorem fg(k:HR B c H h){e z:Nat}{l:LQ}{cs:LK}(hl:ER (VR c h) z l cs) :
  Mo c (c.add H.length h.next 0 z) h (h.push (uL e cs))/\HR B (c.add H.length h.next 0 z) (H++[.row e z 0 0 l]) (h.push (uL e cs)) :=
 k.push fun m=>.inr ⟨h.next,0,0,0,Tr.putL .nil 0 cs,cs,add_same ..,by rw[TH.gP,if_pos rfl,uL,hl.len],rfl,Zn _,by rw[<- hl.len];exact Dk cs,hl.mono fun _ _=>VR.mono m⟩
theorem Ag(k:HR B c H h){kind:zA}{o:za}(hv:LR (VR c h) vs us)(hp:qm H.length kind vs=some (o,v)) :
  ∃x c',lay kind us h.next=some x/\Mo c c' h (h.push x.o)/\HR B c' (H++[o]) (h.push x.o)/\VR c' (h.push x.o) v x.v/\(∃z,c'.ρ H.length=some (h.next,0,z))/\nT x.v=some h.next:=by
 cases kind with
 | box e n =>
  simp only[qm]at hp
  split at hp
  .rename_i w;obtain⟨y,f,rfl,h1,h2⟩:=hv.oc;obtain rfl:=h2.oN
   split at hp
   .rename_i hn
    cases hp
    have b:=h1.cells;obtain⟨m,k'⟩:=fg k (e:=e) (ER.one' hn b);refine⟨⟨uL e y.cells,.ptr h.next 0 0 n⟩,_,?_,m,k',?_,⟨_,add_same ..⟩,rfl⟩
    .simp only[lay,iu];rw[wZ (by rw[<- b.1];exact hn)];rfl
    .have:=VR.ptr (h:=h.push (uL e y.cells)) (g:=0) (i:=0) (o:=0) (n:=n) (add_same c H.length h.next 0 n);simpa using this
   grind
  grind
 | alloc e zero =>
  simp only[qm]at hp
  split at hp
  .rename_i zs hz;obtain rfl:=hv.oN
   split at hp
   .rename_i ha
    cases hp
    have b:=dt (S:=c.S) (h:=h) (fun u v=>cg) hz;have d:(qn zs).cells.length=zero.length:=by rw[du ha];exact b.1
    obtain⟨m,k'⟩:=fg k (e:=e) (ER.one' (R:=VR c h) d (by rw[du ha];exact LR.pure b));refine⟨⟨uL e zero,.ptr h.next 0 0 zero.length⟩,_,rfl,m,k',?_,⟨_,add_same ..⟩,rfl⟩;have:=VR.ptr (h:=h.push (uL e zero)) (g:=0) (i:=0) (o:=0) (n:=zero.length) (add_same c H.length h.next 0 zero.length);simpa using this
   grind
  grind
 | bslice e esz len zero L =>
  simp only[qm]at hp
  split at hp
  .rename_i zs hz
   split at hp
   .rename_i hcond
    split at hp
    .rename_i l hl
     split at hp
     .rename_i ha
      cases hp
      have b:=dt (S:=c.S) (h:=h) (fun u v=>cg) hz;obtain⟨ds,d1,d2⟩:=C6 (Bx (LR.pure (c:=c) b) len) hv hl;have d:l.length=len*esz:=by rw[HP hl,La,b.1,hcond.2]
      obtain⟨m,k'⟩:=fg k (e:=e) (Hd ha d d2);refine⟨⟨uL e ds,.sl h.next 0 0 len (2*len) esz⟩,_,?_,m,k',?_,⟨_,add_same ..⟩,rfl⟩
      .simp only[lay,iy];rw[ux hcond.1,d1];rfl
      .have:=VR.sl (h:=h.push (uL e ds)) (g:=0) (o:=0) (n:=len) (q:=2*len) (add_same c H.length h.next 0 esz);simpa using this
     grind
    grind
   grind
  grind
 | mkslice e esz bytes zero =>
  simp only[qm]at hp
  split at hp
  .rename_i k1 n k2 mm zs hz;obtain⟨y,f,rfl,h1,h2⟩:=hv.oc;obtain⟨N,M,rfl,h3,h4⟩:=h2.oc;obtain rfl:=h4.oN;obtain rfl:=h1.int_inv;obtain rfl:=h3.int_inv
   split at hp
   .rename_i hcond;obtain⟨t,D,O,P,A,G⟩:=hcond
    cases hp
    have b:=dt (S:=c.S) (h:=h) (fun u v=>cg) hz;have j:ER (VR c h) esz (List.replicate n.toNat (qn zs)) (xc zero n.toNat):=by
     refine⟨fun w I=>?_,?_⟩
     .rw[zBO9 I,du A,b.1,G]
     .rw[Dd,du A];exact Bx (LR.pure b) _
    obtain⟨m,k'⟩:=fg k (e:=e) j;refine⟨⟨uL e (xc zero n.toNat),.sl h.next 0 0 n.toNat (2*n.toNat) esz⟩,_,?_,m,k',?_,⟨_,add_same ..⟩,rfl⟩
    .simp only[lay,iz,kh,eS t,eS (Int.le_trans t D)];have J:mm.toNat*bytes<=140737488355328:=by grind
     rw[ux (show n.toNat<=mm.toNat by omega),ux (show mm.toNat<=1000000 by omega),ux J];rfl
    .have:=VR.sl (h:=h.push (uL e (xc zero n.toNat))) (g:=0) (o:=0) (n:=n.toNat) (q:=2*n.toNat) (add_same c H.length h.next 0 esz);simpa using this
   .cases hp
  grind
 | tobytes e =>
  simp only[qm]at hp
  split at hp
  .rename_i s;obtain⟨y,f,rfl,h1,h2⟩:=hv.oc;obtain rfl:=h2.oN;obtain rfl:=h1.str_inv
   split at hp
   .rename_i hs
    cases hp
    have j:∀s:LN,ER (VR c h) 1 (s.map fun n:Nat=>PV.int .u8 n) (s.map fun n=>TV.int .u8 (.ofNat n)):=by
     intro s
     induction s with
     | nil=>exact ER.nil
     | cons a l K=>exact(ER.one' (R:=VR c h) (v:=.int .u8 a) rfl (LR.cons (.pure (.int _ _)) LR.nil)).app K
    obtain⟨m,k'⟩:=fg k (e:=e) (j s);refine⟨⟨uL e (s.map fun n=>TV.int .u8 (.ofNat n)),.sl h.next 0 0 s.length (2*s.length) 1⟩,_,?_,m,k',?_,⟨_,add_same ..⟩,rfl⟩
    .simp only[lay,iA];rw[ux hs];rfl
    .have:=VR.sl (h:=h.push (uL e (s.map fun n=>TV.int .u8 (.ofNat n)))) (g:=0) (o:=0) (n:=s.length) (q:=2*s.length) (add_same c H.length h.next 0 1);simpa using this
   .cases hp
  .cases hp
 | mkmap =>
  simp only[qm]at hp;have C:∃x,lay .mkmap us h.next=some x/\x.o=.map [] 0/\x.v=.map h.next/\o=.map0/\v=.map H.length:=by
   split at hp
   .obtain rfl:=hv.oN;injection hp with hp;injection hp with p r;exact⟨_,rfl,rfl,rfl,p.symm,r.symm⟩
   .obtain⟨y,f,rfl,h1,h2⟩:=hv.oc;obtain rfl:=h2.oN;obtain rfl:=h1.int_inv;injection hp with hp;injection hp with p r;exact⟨_,rfl,rfl,rfl,p.symm,r.symm⟩
   .cases hp
  obtain⟨⟨Q,T⟩,h1,h2,h3,rfl,rfl⟩:=C;dsimp only at h2 h3;subst h2;subst h3;obtain⟨m,k'⟩:=k.push (o:=.map0) (x:=.map [] 0) (z:=0) fun m=>⟨h.next,0,0,0,add_same ..,by rw[TH.gP,if_pos rfl]⟩
  exact⟨_,_,h1,m,k',.map (add_same ..),⟨_,add_same ..⟩,rfl⟩
 | _=>simp only[qm]at hp;cases hp
theorem Iz{t:Tr α}{a:Nat}(h:t.getL 0 cs.length=some cs)(ha:a+u.length<=cs.length):(t.putL a u).getL 0 cs.length=some (cs.take a++u++cs.drop (a+u.length)):=by
 have c:(cs.take a++u++cs.drop (a+u.length)).length=cs.length:=by simp;omega
 have:=im (t:=t.putL a u) (a:=cs.take a++u++cs.drop (a+u.length)) (i:=0) fun j b=>by
  rw[c]at b;have h2:=(Tr.getL_some h).2 j b;rw[ZT]at h2⊢;rw[Tr.get_putL]
  grind
 grind
theorem Ry{t:Tr α}(h:t.getL 0 cs.length=some cs):(t.putL cs.length u).getL 0 (cs.length+u.length)=some (cs++u):=by
 refine Iy (Rx (fun j h1 h2=>?_) h) ?_
 .rw[Tr.get_putL,if_neg zo]
 .rw[ZT];exact im fun j a=>by
   rw[Tr.get_putL,if_pos zo]
   grind
def qr(old v:PV)(o n z:Nat):PV:=if n=z then v else .agg (old.cells.take o++v.cells++old.cells.drop (o+n))
structure AR where
 v:PV
 H:LP
 W:LN
abbrev AV:=Option AR
def qB(H:LP)(n:Nat):LQ->AV
 | [.ptr id g i o m,v]=>if v.cells.length=n/\n<=m then(match H[id]? with
  | some (.row e z G _ l)=>if g=G/\o+n<=z then(match l[i]? with
   | some old=>some ⟨.tuple [],H.set id (.row e z G G (l.set i (qr old v o n z))),[id]⟩
   | none=>none)else none
  | _=>none)else none
 | _=>none
def qD(H:LP)(e esz bytes:Nat)(s:PV)(news:LQ):AV:=match s with
 | .nilsl=>if news.length=0 then some ⟨.nilsl,H,[]⟩else if news.length*(bytes+1)<=140737488355328 then some ⟨.sl H.length 0 0 news.length (2*news.length) esz,H++[.row e esz 0 0 news],[]⟩else none
 | .sl id g o n q z=>if news.length=0 then some ⟨.sl id g o n q z,H,[]⟩else if o=0/\q%2=0/\esz=z then(match H[id]? with
  | some (.row e' z' G M l)=>if e=e'/\z=z'/\g=G/\n=l.length/\(n+news.length)*(bytes+1)<=140737488355328 then some ⟨.sl id (G+1) 0 (n+news.length) (2*(n+news.length)) z,H.set id (.row e z (G+1) M (l++news)),[id]⟩else none
  | _=>none)else none
 | _=>none
def qK(H:LP)(e esz bytes:Nat):LQ->AV
 | [s,x]=>(match qv H esz x with
  | none=>none
  | some news=>qD H e esz bytes s news)
 | _=>none
def qL(H:LP)(e esz bytes:Nat)(zero:LK):LQ->AV
 | [s,.int _ m]=>(match qk (zX 3) zero with
  | some zs=>if 0<=m/\m<=1000000/\m*(bytes+1)<=140737488355328/\zs.all qd=true/\zero.length=esz then qD H e esz bytes s (List.replicate m.toNat (qn zs))else none
  | none=>none)
 | _=>none
def CS(H:LP)(esz:Nat):LQ->AV
 | [.nilsl,x]=>(match qv H esz x with
  | some _=>some ⟨.int .i64 0,H,[]⟩
  | none=>none)
 | [.sl id g o n _ z,x]=>(match qv H esz x with
  | none=>none
  | some news=>if min news.length n=0 then some ⟨.int .i64 0,H,[]⟩else if esz=z then(match H[id]? with
   | some (.row e z' G _ l)=>if z=z'/\g=G/\o+min news.length n<=l.length then some ⟨.int .i64 (min news.length n:Nat),H.set id (.row e z G G (l.take o++news.take (min news.length n)++l.drop (o+min news.length n))),[id]⟩else none
   | _=>none)else none)
 | _=>none
variable {a:AR}{bytes:Nat}{cs:LK}{news:LQ}
def qU(H:LP)(kf:Nat):LQ->AV
 | [.map id,.int k x,v]=>if kf=1 then(match H[id]? with
  | some .map0=>some ⟨.tuple [],H.set id (.mapI k fun y=>if y=x then some v else none),[id]⟩
  | some (.mapI k' m)=>if k=k' then some ⟨.tuple [],H.set id (.mapI k fun y=>if y=x then some v else m y),[id]⟩else none
  | _=>none)else none
 | _=>none
def qV(H:LP)(kf:Nat):LQ->AV
 | [.map id,.str x,v]=>if kf=2 then(match H[id]? with
  | some .map0=>some ⟨.tuple [],H.set id (.mapS fun y=>if y=x then some v else none),[id]⟩
  | some (.mapS m)=>some ⟨.tuple [],H.set id (.mapS fun y=>if y=x then some v else m y),[id]⟩
  | _=>none)else none
 | l=>qU H kf l
def qt(H:LP)(k:zA)(vs:LQ):AV :=
 match k with
 | .store n=>qB H n vs
 | .append e esz bytes=>qK H e esz bytes vs
 | .copy esz=>CS H esz vs
 | .mupd kf=>qV H kf vs
 | .appz e esz bytes zero=>qL H e esz bytes zero vs
 | _=>none
structure nE(B:Ba)(c:Cx)(H:LP)(h:TH)(a:AR)(u:TV)(h':TH)(c':Cx):Prop where
 mo:Mo c c' h h'
 hr:HR B c' a.H h'
 v:VR c' h' a.v u
 W:∀id,id ∉ a.W->∀x,c.ρ id=some x->h'.get x.1=h.get x.1
theorem rZ(k:HR B c H h){d:Nat}(hρ:c.ρ id=some (b,d,z))(x:TO):∀id',id' ∉ [id]->∀y,c.ρ id'=some y->(h.set b x).get y.1=h.get y.1:=fun id' a y f=>by
 rw[TH.get_set _ _ _ _ (k.own _ _ hρ).2.1,if_neg];intro e;exact a (by rw[k.inj _ _ _ _ f hρ e];simp)
theorem Ye(cs u:List α){a o:Nat}(hon:o+n<=z)(hu:u.length=n):cs.take a++(((cs.drop a).take z).take o++u++((cs.drop a).take z).drop (o+n))++cs.drop (a+z)=cs.take (a+o)++u++cs.drop (a+o+u.length):=by
 have h1:cs.take (a+o)=cs.take a++(cs.drop a).take o:=List.take_add;have h2:cs.drop (a+o+u.length)=((cs.drop a).take z).drop (o+n)++cs.drop (a+z):=by
  rw[hu,zCI9,<- zBU9,<- zBU9 (i:=z) (j:=a)]
  by_cases b:z<=(cs.drop a).length
  .conv=>lhs;rw[<- zBV9 z (cs.drop a)]
   grind
  .rw[ZO zo,zBQ9 (l:=cs.drop a) (i:=z) zo,zAG9]
 grind
theorem MG(k:HR B c H h)(hv:LR (VR c h) vs us)(hp:qB H n vs=some a):∃u h' c',cN n h us=some (.ok u h')/\nE B c H h a u h' c':=by
 unfold qB at hp
 split at hp
 .rename_i id g i o m w;obtain⟨y,Y,rfl,h1,h2⟩:=hv.oc;obtain⟨j,V,rfl,h3,h4⟩:=h2.oc;obtain rfl:=h4.oN;obtain⟨b,d,f,p,s1,rfl,rfl⟩:=bh h1
  split at hp
  .rename_i hc;obtain⟨D,I⟩:=hc
   split at hp
   .rename_i e z G M l hH
    split at hp
    .rename_i hc;obtain⟨hg,O⟩:=hc
     split at hp
     .rename_i old hold
      cases hp
      obtain⟨rfl,P,M',cells,cs,Q,R,r3,r4,q⟩:=dF k hH s1;have J:p=P:=zo;subst J;have A:i<l.length:=(Zh.1 hold).1;have hm:=A4 (z:=f) A;have r:=h3.cells;have Z:=q.one old (Zj hold);have K:=q.len;have t:(qr old w o n f).cells=old.cells.take o++w.cells++old.cells.drop (o+n):=by
       unfold qr
       split
       .rename_i e;subst e
        grind
       .rfl
      have v:j.cells.length=n:=by rw[<- r.1];exact D
      have s:=q.at hold;have C:ER (VR c h) f (l.set i (qr old w o n f)) (cs.take (i*f+o)++j.cells++cs.drop (i*f+o+j.cells.length)):=by
       have L:(qr old w o n f).cells.length=f:=by rw[t];simp;omega
       have N:LR (VR c h) (qr old w o n f).cells (((cs.drop (i*f)).take f).take o++j.cells++((cs.drop (i*f)).take f).drop (o+n)):=by
        rw[t];exact((s.take o).app r).app (s.drop (o+n))
       have X:=q.set A L N;have e1:cs.take (i*f)++(((cs.drop (i*f)).take f).take o++j.cells++((cs.drop (i*f)).take f).drop (o+n))++cs.drop ((i+1)*f)=cs.take (i*f+o)++j.cells++cs.drop (i*f+o+j.cells.length):=by
        rw[zBK9];exact Ye cs j.cells O v
       grind
      obtain⟨S,T⟩:=k.set (o:=.row e f G G (l.set i (qr old w o n f))) (x:=.row e p p (l.length*f) (cells.putL (i*f+o) j.cells)) s1 (fun e=>by grind) fun U =>
       .inr ⟨b,d,p,p,cells.putL (i*f+o) j.cells,cs.take (i*f+o)++j.cells++cs.drop (i*f+o+j.cells.length),s1,by rw[TH.get_set _ _ _ _ (k.own _ _ s1).2.1,if_pos rfl,Z2],R,by omega,by
        rw[Z2,<- K];exact Iz (by grind) (by omega),C.mono fun _ _=>VR.mono U⟩
      refine⟨.tuple [],_,c,?_,S,T,VR.tL LR.nil,rZ k s1 _⟩;simp only[cN,az];rw[wZ v,ux I,Q];simp only[cond_true,sq];rw[wZ rfl,ux zo];rfl
     grind
    grind
   grind
  grind
 grind
theorem HR.first(k:HR B c H h){e' G M:Nat}{l:LQ}(hH:H[id]?=some (.row e' z G M l))(hρ:c.ρ id=none)(hL:c.L id)(hn:ER (VR c h) z news cs):
  Mo c (c.add id h.next 1 z) h (h.push (uL e cs))/\HR B (c.add id h.next 1 z) (H.set id (.row e z 1 M news)) (h.push (uL e cs)):=by
 have hid:id<H.length:=(Zh.1 hH).1;have m:Mo c (c.add id h.next 1 z) h (h.push (uL e cs)):=⟨fun _ _ h=>h,fun i y a=>by
  show (if i=id then _ else _)=_
  grind,fun _ h=>h,fun _ _ _ _ _ _ _ f=>KW _ f⟩
 have j:∀b,b<h.next->(h.push (uL e cs)).get b=h.get b:=fun b g=>by rw[TH.gP,if_neg zo]
 have f:∀i y,(c.add id h.next 1 z).ρ i=some y->(i=id/\y=(h.next,1,z))\/c.ρ i=some y:=fun i y a=>by
  have a:(if i=id then some (h.next,1,z)else c.ρ i)=some y:=a
  grind
 refine⟨m,⟨?_,fun b g=>?_,k.old,fun p b g=>?_,fun i y a=>?_,fun i r=>?_,fun i s y t a q e=>?_,fun i u d=>?_⟩⟩
 .rw[TH.nP];exact Nat.le_succ_of_le k.le
 .rw[j b (ZR g k.le)];exact k.keep b g
 .obtain⟨h1,h2⟩:=k.S p b g;refine⟨by rw[TH.nP];omega,fun i y a e=>?_⟩
  grind
 .rw[TH.nP,Z2];rcases f i y a with⟨rfl,rfl⟩|a
  .exact⟨k.le,Z5 _,hid⟩
  .obtain⟨h1,h2,h3⟩:=k.own i y a;omega
 .rw[Z2];obtain⟨h1,h2⟩:=k.lz i r
  grind
 .rcases f i y a with⟨a1,a2⟩|h5<;>rcases f s t q with⟨v,w⟩|o
  .omega
  .have:=(k.own _ _ o).2.1;grind
  .have:=(k.own _ _ h5).2.1;grind
  .exact k.inj _ _ _ _ h5 o e
 .by_cases n:id=i
  .subst n;rw[Zw hid]at d;injection d with d;subst d;exact .inr ⟨h.next,1,0,0,Tr.putL .nil 0 cs,cs,add_same ..,by rw[TH.gP,if_pos rfl,uL,hn.len],rfl,Zn _,by rw[<- hn.len];exact Dk cs,hn.mono fun _ _=>VR.mono m⟩
  .rw[Zx n]at d;exact(k.obj i u d).move m (by show (if i=id then _ else _)=_;grind) (fun h=>h) fun y a=>j _ (k.own _ _ a).2.1
theorem Gh(k:HR B c H h){s:PV}{y:TV}(h1:VR c h s y)(t5:ER (VR c h) esz news cs)(hp:qD H e esz bytes s news=some a):∃u h' c',mS h e esz bytes y news.length cs=some (.ok u h')/\nE B c H h a u h' c':=by
 have A:∀b,b<h.next->(h.push (uL e cs)).get b=h.get b:=fun b p=>by rw[TH.gP,if_neg zo]
 unfold qD at hp
 split at hp
 .obtain rfl:y=.nilsl:=by cases h1 with|pure h1=>cases h1;rfl
  dsimp only[mS]
  split at hp
  .rename_i hz
   cases hp
   rw[hz];exact⟨_,h,c,rfl,Mo.refl _ _,k,h1,fun _ _ _ _=>rfl⟩
  .rename_i hz
   split at hp
   .rename_i p
    cases hp
    obtain⟨j,m⟩:=fg k (e:=e) t5;refine⟨.sl h.next 0 0 news.length (2*news.length) esz,_,_,?_,j,m,?_,fun id _ y t=>A _ (k.own _ _ t).2.1⟩
    .have:Nat.beq news.length 0=false:=by
      cases p:Nat.beq news.length 0
      all_goals simp_all
     rw[this];simp only[cond_false,ov];rw[ux p];rfl
    .have:=VR.sl (h:=h.push (uL e cs)) (g:=0) (o:=0) (n:=news.length) (q:=2*news.length) (add_same c H.length h.next 0 esz)
     grind
   grind
 .rename_i id g o n q z
  split at hp
  .rename_i hz
   cases hp
   refine⟨y,h,c,?_,Mo.refl _ _,k,h1,fun _ _ _ _=>rfl⟩;rcases sl_inv h1 with⟨rfl,rfl,rfl,rfl,rfl,v⟩|⟨b,d,f,s1,rfl,rfl⟩<;>(dsimp only[mS];simp_all)
  .rename_i hz;have C:Nat.beq news.length 0=false:=by
    cases p:Nat.beq news.length 0
    .rfl
    simp_all
   split at hp
   .rename_i hc;obtain⟨rfl,N,rfl⟩:=hc
    split at hp
    .rename_i e' z' G M l hH
     split at hp
     .rename_i hc;obtain⟨rfl,rfl,rfl,rfl,I⟩:=hc
      cases hp
      rcases sl_inv h1 with⟨rfl,_,J,rfl,rfl,v⟩|⟨b,d,f,s1,R,rfl⟩
      .have O:l=[]:=zBH9.1 J;subst O;have w:c.ρ id=none:=by
        rcases k.obj _ _ hH with⟨_,_,w,_⟩|⟨b,d,D,r,cells,cs,P,S,T,_⟩
        .exact w
        .have:=(k.lz id v).2 _ P
         grind
       obtain⟨j,m⟩:=k.first (e:=e) hH w v t5;refine⟨.sl h.next 0 0 news.length (2*news.length) esz,h.push (uL e cs),_,?_,j,by simpa using m,?_,fun i U y t=>A _ (k.own _ _ t).2.1⟩
       .dsimp only[mS];rw[C];simp only[cond_false,ov];rw[ux (by grind)];rfl
       .have:=VR.sl (h:=h.push (uL e cs)) (g:=0) (o:=0) (n:=news.length) (q:=2*news.length) (add_same c id h.next 1 esz)
        grind
      .obtain⟨_,D,r,cells,ds,r1,r2,r3,r4,r5⟩:=dF k hH s1;have K:f=D:=zo;subst K;have L:=r5.len;obtain⟨j,m⟩:=k.set (o:=.row e esz (g+1) M (l++news)) (x:=.row e (f+1) r (l.length*esz+cs.length) (cells.putL (l.length*esz) cs)) s1 (fun e=>by grind) fun Q =>
        .inr ⟨b,d,f+1,r,cells.putL (l.length*esz) cs,ds++cs,s1,by rw[TH.get_set _ _ _ _ (k.own _ _ s1).2.1,if_pos rfl,Zl,zAR9,t5.len],by omega,by omega,by
         rw[Zl,zAR9,<- t5.len,<- L];exact Ry (by grind),(r5.app t5).mono fun _ _=>VR.mono Q⟩
       refine⟨.sl b (f+1) 0 (l.length+news.length) (2*(l.length+news.length)) esz,_,c,?_,j,m,?_,rZ k s1 _⟩
       .dsimp only[mS];rw[C];simp only[cond_false];rw[wZ (show 0*esz=0 by simp),wZ N,wZ (rfl:esz=esz),r1];simp only[cond_true,tb];rw[wZ rfl,wZ rfl,wZ rfl,ux I];rfl
       .have:=VR.sl (h:=h.set b (.row e (f+1) r (l.length*esz+cs.length) (cells.putL (l.length*esz) cs))) (g:=f+1) (o:=0) (n:=l.length+news.length) (q:=2*(l.length+news.length)) s1
        grind
     grind
    grind
   grind
 grind
theorem Oy(k:HR B c H h)(hv:LR (VR c h) vs us)(hp:qK H e esz bytes vs=some a):∃u h' c',cM e esz bytes h us=some (.ok u h')/\nE B c H h a u h' c':=by
 unfold qK at hp
 split at hp
 .rename_i s x;obtain⟨y,d,rfl,h1,h2⟩:=hv.oc;obtain⟨f,b,rfl,h3,h4⟩:=h2.oc;obtain rfl:=h4.oN
  split at hp
  .cases hp
  .rename_i news hs;obtain⟨_,t2,t3⟩:=BU k h3 hs;obtain⟨cs,t4,t5⟩:=t3 _ (Zi _);rw[ZL]at t5;simp only[cM,tc];rw[t2,t4];dsimp only;exact Gh k h1 t5 hp
 grind
theorem O1(k:HR B c H h){zero:LK}(hv:LR (VR c h) vs us)(hp:qL H e esz bytes zero vs=some a):∃u h' c',dX e esz bytes zero h us=some (.ok u h')/\nE B c H h a u h' c':=by
 unfold qL at hp
 split at hp
 .rename_i s kk m;obtain⟨y,x,rfl,h1,h2⟩:=hv.oc;obtain⟨z,t,rfl,h3,h4⟩:=h2.oc;obtain rfl:=h4.oN;obtain rfl:=h3.int_inv
  split at hp
  .rename_i zs hz
   split at hp
   .rename_i hc;obtain⟨i,A,j,d,l⟩:=hc;obtain⟨n,rfl⟩:=zAS9 i;have b:=dt (S:=c.S) (h:=h) (fun u v=>cg) hz;have g:ER (VR c h) esz (List.replicate n (qn zs)) (xc zero n):=by
     refine⟨fun w o=>?_,?_⟩
     .rw[zBO9 o,du d,b.1,l]
     .rw[Dd,du d];exact Bx (LR.pure b) _
    obtain⟨u,h',c',f,p⟩:=Gh k h1 g hp;rw[zAP9]at f;refine⟨u,h',c',?_,p⟩;show (bif Nat.ble n 1000000 then bif Nat.ble (n*(bytes+1)) 140737488355328 then mS h e esz bytes y n (xc zero n)else none else none)=_;have q:n*(bytes+1)<=140737488355328:=by
     have C:((n*(bytes+1):Nat):Int)<=140737488355328:=by simpa using j
     omega
    have r:n<=1000000:=zo;rw[ux r,ux q];exact f
   grind
  grind
 grind
theorem UO{a:Nat}(h:¬min a b=0):Nat.beq (min a b) 0=false:=by
 cases c:Nat.beq (min a b) 0
 all_goals simp_all
theorem Qg(k:HR B c H h)(hv:LR (VR c h) vs us)(hp:CS H esz vs=some a):∃u h' c',nQ esz h us=some (.ok u h')/\nE B c H h a u h' c':=by
 unfold CS at hp
 split at hp
 .rename_i x;obtain⟨y,s,rfl,h1,h2⟩:=hv.oc;obtain⟨C,m,rfl,h3,h4⟩:=h2.oc;obtain rfl:=h4.oN;obtain rfl:y=.nilsl:=by cases h1 with|pure h1=>cases h1;rfl
  split at hp
  .rename_i news hs
   cases hp
   obtain⟨_,t2,t3⟩:=BU k h3 hs;obtain⟨cs,t4,t5⟩:=t3 0 (Zn _);refine⟨_,h,c,?_,Mo.refl _ _,k,.pure (.int _ _),fun _ _ _ _=>rfl⟩;simp only[nQ,lenV,Nat.min_zero]
   grind
  grind
 .rename_i id g o n q z x;obtain⟨y,s,rfl,h1,h2⟩:=hv.oc;obtain⟨C,m,rfl,h3,h4⟩:=h2.oc;obtain rfl:=h4.oN
  split at hp
  .cases hp
  .rename_i news hs;obtain⟨_,t2,t3⟩:=BU k h3 hs;obtain⟨cs,t4,t5⟩:=t3 (min news.length n) (Nat.min_le_left _ _)
   split at hp
   .rename_i hz
    cases hp
    refine⟨.int .i64 (.ofNat 0),h,c,?_,Mo.refl _ _,k,.pure (.int _ _),fun _ _ _ _=>rfl⟩;rcases sl_inv h1 with⟨rfl,rfl,rfl,rfl,rfl,L⟩|⟨b,d,f,s1,rfl,rfl⟩
    .simp only[nQ,lenV,Nat.min_zero]
     grind
    .simp only[nQ];rw[t2,show lenV (.sl b f (o*z) n q z)=n from rfl,t4,hz];rfl
   .rename_i hz
    split at hp
    .rename_i he;subst he
     split at hp
     .rename_i e z' G M l hH
      split at hp
      .rename_i hc;obtain⟨rfl,rfl,t⟩:=hc
       cases hp
       rcases sl_inv h1 with⟨_,_,rfl,_⟩|⟨b,d,f,s1,K,rfl⟩
       .omega
       .obtain⟨_,G',M',cells,ds,r1,r2,r3,r4,r5⟩:=dF k hH s1;have v:f=G':=zo;subst v;have w:=r5.len;have A:(news.take (min news.length n)).length=min news.length n:=by simp
        have i:cs.length=min news.length n*esz:=by rw[t5.len,A]
        have p:o*esz+cs.length<=l.length*esz:=by rw[i,<- zAR9];exact zAD9 _ t
        have r:=((r5.take o).app t5).app (r5.drop (o+min news.length n));have j:(l.take o++news.take (min news.length n)++l.drop (o+min news.length n)).length=l.length:=by simp;omega
        obtain⟨D,I⟩:=k.set (o:=.row e esz g g (l.take o++news.take (min news.length n)++l.drop (o+min news.length n))) (x:=.row e f f (l.length*esz) (cells.putL (o*esz) cs)) s1 (fun e=>by grind) fun J =>
         .inr ⟨b,d,f,f,cells.putL (o*esz) cs,ds.take (o*esz)++cs++ds.drop (o*esz+cs.length),s1,by rw[TH.get_set _ _ _ _ (k.own _ _ s1).2.1,if_pos rfl,j],r2,by omega,by
          rw[j,<- w];exact Iz (by grind) (by omega),by
          rw[i,<- zAR9];exact r.mono fun _ _=>VR.mono J⟩
        refine⟨.int .i64 (.ofNat (min news.length n)),_,c,?_,D,I,.pure (.int _ _),rZ k s1 _⟩;simp only[nQ];rw[t2,show lenV (.sl b f (o*esz) n q esz)=n from rfl,t4];dsimp only;rw[UO hz,wZ (rfl:esz=esz)];simp only[cond_false,cond_true,az];rw[r1];simp only[sq];rw[wZ rfl,ux p];rfl
      grind
     grind
    grind
 grind
section keys
variable {K:Type}{κ:K->TV}
variable {x:K}
theorem DH:∀{es:List uC} {fs:List uC},lk κ x es=none->lk κ x (es++fs)=lk κ x fs
 | [],fs,_=>rfl
 | e::l,fs,h=>by
  unfold lk at h
  split at h
  .cases h
  .rename_i he;rw[Zv,lk,if_neg he];exact DH h
theorem Js{u:TV}:∀{es:List uC} {fs:List uC},lk κ x es=some u->lk κ x (es++fs)=some u
 | [],fs,h=>by cases h
 | e::l,fs,h=>by
  unfold lk at h;rw[Zv,lk]
  split at h
  .grind
  .rename_i he;rw[if_neg he];exact Js h
theorem HT(hκ:cG κ):∀{es:List uC} {i j:Nat} {e:uC},(∀e∈es,∃n,e.k=κ n)->gz (κ x) es i=some (some (j,e))->∃t,j=i+t/\(∀u,(∀e∈setE t (κ x) u es,∃n,e.k=κ n)/\lk κ x (setE t (κ x) u es)=some u/\∀y,y≠x->lk κ y (setE t (κ x) u es)=lk κ y es)
 | [],i,j,e,b,h=>by simp[gz]at h
 | e0::l,i,j,e,b,h=>by
  obtain⟨n,c⟩:=b e0 (by simp);have q:=fun d a=>b d (Zo _ a);unfold gz at h;rw[c]at h
  by_cases f:x=n
  .subst f;rw[(hκ x x).1 rfl]at h;injection h with h;injection h with h;injection h with h1 h2;refine⟨0,h1.symm,fun u=>⟨fun d a=>?_,?_,fun y m=>?_⟩⟩
   .simp only[setE,ZD]at a
    grind
   .simp[setE,lk]
   .have g:¬κ x=κ y:=fun e=>m (hκ.inj e.symm);have o:¬e0.k=κ y:=by rw[c];exact g
    simp only[setE,lk,if_neg g,if_neg o]
  .rw[(hκ x n).2 f]at h;dsimp only at h;obtain⟨t,rfl,r⟩:=HT hκ q h;refine⟨t+1,by omega,fun u=>?_⟩;obtain⟨t1,t2,t3⟩:=r u;have p:¬e0.k=κ x:=by rw[c];exact fun e=>f (hκ.inj e).symm
   refine⟨fun d a=>?_,?_,fun y m=>?_⟩
   .simp only[setE,ZD]at a
    grind
   .simp only[setE,lk,if_neg p];exact t2
   .simp only[setE,lk]
    grind
theorem JN[DecidableEq K](hκ:cG κ){m:K->LO}{es:List uC}{clock b:Nat}(hm:MR R κ m es)(x:K){w:PV}{y2:TV}(h5:R w y2):
  ∃es' clock',ry h b (κ x) y2 (.map es clock)=some (.ok (.tuple []) (h.set b (.map es' clock')))/\MR R κ (fun y=>if y=x then some w else m y) es':=by
 simp only[ry];rcases Au hκ (x:=x) (i:=0) hm.keys with⟨f1,f2⟩|⟨j,e,f1,f2⟩
 .rw[f1];refine⟨_,_,rfl,fun e c=>?_,fun d v' a=>?_,fun d a=>?_⟩
  .rcases ZW.1 c with c|c
   .exact hm.keys e c
   grind
  .try dsimp only at a
   split at a
   .rename_i e;subst e;injection a with a;subst a;exact⟨y2,by rw[DH f2];simp[lk],h5⟩
   .obtain⟨u,f,g⟩:=hm.some _ _ a;exact⟨u,Js f,g⟩
  .try dsimp only at a
   split at a
   .cases a
   .rename_i hne;have k:¬κ x=κ d:=fun e=>hne (hκ.inj e).symm;rw[DH (hm.none _ a)];simp only[lk,if_neg k]
 .rw[f1];obtain⟨t,rfl,l⟩:=HT hκ hm.keys f1;obtain⟨t1,t2,t3⟩:=l y2;rw[ZT];refine⟨_,_,rfl,t1,fun d v' a=>?_,fun d a=>?_⟩
  .try dsimp only at a
   split at a
   .grind
   .rename_i hne;obtain⟨u,f,g⟩:=hm.some _ _ a
    grind
  .try dsimp only at a
   split at a
   .cases a
   .rename_i hne;rw[t3 _ hne];exact hm.none _ a
theorem JM(κ:K->TV):MR R κ (fun _=>none) []:=⟨fun e a=>by grind,fun x v h=>(by cases h),fun x _=>rfl⟩
end keys
variable {kf:Nat}
theorem U0(k:HR B c H h)(hv:LR (VR c h) vs us)(hp:qU H kf vs=some a):∃u h' c',aH kf h us=some (.ok u h')/\nE B c H h a u h' c':=by
 unfold qU at hp
 split at hp
 .rename_i id kk x w;obtain⟨y,M,rfl,h1,h2⟩:=hv.oc;obtain⟨O,L,rfl,h3,h4⟩:=h2.oc;obtain⟨p,N,rfl,q,r⟩:=h4.oc;obtain rfl:=r.oN;obtain rfl:=h3.int_inv;obtain⟨b,d,z,s1,rfl⟩:=dk h1
  split at hp
  .rename_i hkf;subst hkf;have l:∀(m:Int->LO) (es:List uC) (clock:Nat),¬H[id]?=some .void->h.get b=some (.map es clock)->MR (VR c h) (TV.int kk) m es->∃u h' c',aH 1 h [.map b,.int kk x,p]=some (.ok u h')/\nE B c H h ⟨.tuple [],H.set id (.mapI kk fun y=>if y=x then some w else m y),[id]⟩ u h' c':=fun m es clock n s t=>by
    simp only[aH,mv,oZ,cond_true];rw[s];obtain⟨i,g,v,A⟩:=JN (h:=h) (b:=b) (clock:=clock) (IW kk) t x q;refine⟨_,_,c,v,?_⟩;obtain⟨C,D⟩:=k.set (o:=.mapI kk fun y=>if y=x then some w else m y) (x:=.map i g) s1 n fun G =>
     ⟨b,d,z,i,g,s1,by rw[TH.get_set _ _ _ _ (k.own _ _ s1).2.1,if_pos rfl],by
      exact A.mono fun _ _=>VR.mono G⟩
    exact⟨C,D,VR.tL LR.nil,rZ k s1 _⟩
   split at hp
   .rename_i hH
    cases hp
    obtain⟨I,J,K,clock,f,j⟩:=k.obj _ _ hH;rw[s1]at f;injection f with f;injection f with f _;subst f;exact l (fun _=>none) [] clock (fun e=>by grind) j (JM _)
   .rename_i k' m hH;obtain⟨I,J,K,es,clock,f,j,P⟩:=k.obj _ _ hH;rw[s1]at f;injection f with f;injection f with f _;subst f
    split at hp
    .rename_i hk;subst hk
     cases hp
     simp_all
    grind
   grind
  grind
 grind
theorem U1(k:HR B c H h)(hv:LR (VR c h) vs us)(hp:qV H kf vs=some a):∃u h' c',aH kf h us=some (.ok u h')/\nE B c H h a u h' c':=by
 unfold qV at hp
 split at hp
 .rename_i id x w;obtain⟨y,M,rfl,h1,h2⟩:=hv.oc;obtain⟨O,L,rfl,h3,h4⟩:=h2.oc;obtain⟨p,N,rfl,q,r⟩:=h4.oc;obtain rfl:=r.oN;obtain rfl:=h3.str_inv;obtain⟨b,d,z,s1,rfl⟩:=dk h1
  split at hp
  .rename_i hkf;subst hkf;have l:∀(m:LN->LO) (es:List uC) (clock:Nat),¬H[id]?=some .void->h.get b=some (.map es clock)->MR (VR c h) TV.str m es->∃u h' c',aH 2 h [.map b,.str x,p]=some (.ok u h')/\nE B c H h ⟨.tuple [],H.set id (.mapS fun y=>if y=x then some w else m y),[id]⟩ u h' c':=fun m es clock n s t=>by
    simp only[aH,mv,o0,cond_true];rw[s];obtain⟨i,g,v,A⟩:=JN (h:=h) (b:=b) (clock:=clock) IX t x q;refine⟨_,_,c,v,?_⟩;obtain⟨C,D⟩:=k.set (o:=.mapS fun y=>if y=x then some w else m y) (x:=.map i g) s1 n fun G =>
     ⟨b,d,z,i,g,s1,by rw[TH.get_set _ _ _ _ (k.own _ _ s1).2.1,if_pos rfl],by
      exact A.mono fun _ _=>VR.mono G⟩
    exact⟨C,D,VR.tL LR.nil,rZ k s1 _⟩
   split at hp
   .rename_i hH
    cases hp
    obtain⟨I,J,K,clock,f,j⟩:=k.obj _ _ hH;rw[s1]at f;injection f with f;injection f with f _;subst f;exact l (fun _=>none) [] clock (fun e=>by grind) j (JM _)
   .rename_i m hH;obtain⟨I,J,K,es,clock,f,j,P⟩:=k.obj _ _ hH;rw[s1]at f;injection f with f;injection f with f _;subst f
    cases hp
    simp_all
   grind
  grind
 .exact U0 k hv hp
theorem sY(k:HR B c H h){C:ua}{caught:LD}{kind:zA}(hv:LR (VR c h) vs us)(hp:qt H kind vs=some a):∃u h' c',act C caught kind us h=some (.ok u h')/\nE B c H h a u h' c':=by
 unfold qt at hp
 split at hp
 .exact MG k hv hp
 .exact Oy k hv hp
 .exact Qg k hv hp
 .exact U1 k hv hp
 .exact O1 k hv hp
 grind
def EN(E:vZ)(N:Nat):vZ:={ E with N:=N }
def Ev(E:vZ)(φ:ua->Nat->Prop):Prop:=∃K,∀N,K<=N->∀d,K<=d->φ (xy (EN E N) d) N
section ev
variable {E:vZ}{φ ψ χ:ua->Nat->Prop}
theorem Ev.all(h:∀C N,φ C N):Ev E φ:=⟨0,fun _ _ _ _=>h _ _⟩
theorem Ev.mono(hh:∀C N,φ C N->ψ C N)(h:Ev E φ):Ev E ψ:=by
 obtain⟨K,a⟩:=h;exact⟨K,fun N b d c=>hh _ _ (a N b d c)⟩
theorem Ev.and2(hh:∀C N,φ C N->ψ C N->χ C N)(h:Ev E φ)(k:Ev E ψ):Ev E χ:=by
 obtain⟨K,a⟩:=h;obtain⟨L,b⟩:=k;exact⟨max K L,fun N c d e=>hh _ _ (a N zo d zo) (b N zo d zo)⟩
end ev
inductive FD where
 | caught (p clear:PV)
 | mark (id:Nat)
abbrev AP:=List FD
structure vn where
 tm:Nat->PV
 df:AP
 H:LP
def zb(tm:Nat->PV)(d:Nat)(v:PV):Nat->PV:=fun t=>if t=d then v else tm t
def vn.put(s:vn)(d:LA)(v:PV):vn:=match d with
 | none=>s
 | some d=>⟨zb s.tm d v,s.df,s.H⟩
def DR(c:Cx)(h:TH):FD->TD->Prop
 | .caught p l,.caught p' l'=>VR c h p p'/\VR c h l l'
 | .mark id,.mark b=>∃d z,c.ρ id=some (b,d,z)
 | _,_=>False
def eg(c:Cx)(h:TH):AP->LZ->Prop
 | [],[]=>True
 | x::l,y::m=>DR c h x y/\eg c h l m
 | _,_=>False
structure SR(B:Ba)(c:Cx)(s:vn)(t:St):Prop where
 hr:HR B c s.H t.h
 tm:yu c t.h s.tm t.tm
 df:eg c t.h s.df t.df
section mono
variable {c c':Cx}{h h':TH}
variable {tm:Nat->PV}
theorem yu.mono(m:Mo c c' h h'){t:LL}(k:yu c h tm t):yu c' h' tm t:=fun i=>by
 rcases k i with k|⟨u,a,b⟩
 .grind
 .exact .inr ⟨u,a,b.mono m⟩
theorem DR.mono(m:Mo c c' h h'){x:FD}{y:TD}(k:DR c h x y):DR c' h' x y:=by
 cases x<;>cases y<;>first|exact k.elim|skip
 .exact⟨k.1.mono m,k.2.mono m⟩
 .obtain⟨d,z,k⟩:=k;exact⟨d,z,m.ρ _ _ k⟩
theorem eg.mono(m:Mo c c' h h'):∀{l:AP} {l':LZ},eg c h l l'->eg c' h' l l'
 | [],[],_=>trivial
 | _::_,_::_,k=>⟨k.1.mono m,k.2.mono m⟩
 | [],_::_,k=>k.elim
 | _::_,[],k=>k.elim
theorem yu.put{t:LL}(k:yu c h tm t){d:Nat}{u:TV}(hv:VR c h v u):yu c h (zb tm d v) (t.set d (some u)):=fun i=>by
 unfold zb;rw[Tr.get_set]
 by_cases e:i=d
 .grind
 .rw[if_neg e,if_neg e];exact k i
theorem XR.mono(m:Mo c c' h h'){x:FX}{y:TX}(k:XR c h x y):XR c' h' x y:=by
 cases k with
 | norm=>exact .norm
 | exit id=>exact .exit id
 | goto l=>exact .goto l
 | ret=>exact .ret
 | panic k=>exact .panic (k.mono m)
end mono
theorem SR.put{c':Cx}{s:vn}{t:St}(k:SR B c s t){H':LP}{h':TH}(m:Mo c c' t.h h')(hr:HR B c' H' h'){u:TV}(hv:VR c' h' v u)(d:LA):
  SR B c' (vn.put ⟨s.tm,s.df,H'⟩ d v) (St.put ⟨t.tm,t.df,h'⟩ d u):=by
 cases d with
 | none=>exact⟨hr,k.tm.mono m,k.df.mono m⟩
 | some d=>exact⟨hr,(k.tm.mono m).put hv,k.df.mono m⟩
theorem put_h(t:St)(d:LA)(u:TV):(t.put d u).h=t.h:=by cases d<;>rfl
def zC:PV->LO
 | .bad=>none
 | v=>some v
def ev(tm:Nat->PV):vQ->LO
 | .tmp t=>zC (tm t)
 | .new _=>none
 | .const u=>zX 4 u
 | .fn f=>some (.fn f [])
def zY(tm:Nat->PV):List vQ->Option (LQ)
 | []=>some []
 | x::l=>match ev tm x with
  | none=>none
  | some v=>match zY tm l with
   | none=>none
   | some vs=>some (v::vs)
def qo(b:Bool):LO->LS
 | some (.bool c)=>some (if b then c else !c)
 | some (.tuple _)=>some false
 | _=>none
def qb(tm:Nat->PV):Option (vQ×Bool)->LS
 | none=>some true
 | some (x,b)=>qo b (ev tm x)
theorem Ea{w:PV}(h:zC v=some w):v=w/\v ≠ .bad:=by
 cases v<;>first|(cases h;done)|(cases h;grind)
section operands
variable {c:Cx}{h:TH}{tm:Nat->PV}{t:LL}
theorem ek(k:yu c h tm t){x:vQ}(hx:ev tm x=some v):∃u,mX t x=some u/\VR c h v u:=by
 cases x with
 | tmp i =>
  obtain⟨h1,h2⟩:=Ea hx;rcases k i with h3|⟨u,a,b⟩
  .grind
  .exact⟨u,a,by rw[<- h1];exact b⟩
 | new i=>cases hx
 | const u=>exact⟨u,rfl,fd hx⟩
 | fn f=>cases hx;exact⟨_,rfl,VR.fnL LR.nil⟩
theorem ic(k:yu c h tm t):∀{l:List vQ} {vs:LQ},zY tm l=some vs->∃us,kV t l=some us/\LR (VR c h) vs us
 | [],vs,a=>by cases a;exact⟨[],rfl,LR.nil⟩
 | x::l,vs,a=>by
  unfold zY at a
  split at a
  .cases a
  .rename_i v hx
   split at a
   .cases a
   .rename_i ws hw
    cases a
    obtain⟨u,d,b⟩:=ek k hx;obtain⟨us,w1,w2⟩:=ic k hw;refine⟨u::us,?_,LR.cons b w2⟩;unfold kV
    grind
theorem bE(k:yu c h tm t){g:Option (vQ×Bool)}{b:Bool}(hg:qb tm g=some b):fA t g=some b:=by
 cases g with
 | none=>exact hg
 | some x =>
  obtain⟨x,a⟩:=x;change qo a (ev tm x)=some b at hg;unfold qo at hg
  split at hg
  .rename_i cc hx;obtain⟨u,e,d⟩:=ek k hx;obtain rfl:=d.bool_inv;show bD a (mX t x)=some b;unfold bD
   grind
  .rename_i hx;obtain⟨u,e,d⟩:=ek k hx;obtain⟨cs,rfl,_⟩:=d.tuple_inv;show bD a (mX t x)=some b;rw[e];exact hg
  grind
end operands
def qY(o:vB)(s:vn)(vs:LQ):Option vn :=
 match o.kind.cls with
 | 0=>(match qi s.H o.kind vs with
  | some v=>some (s.put o.dst v)
  | none=>none)
 | 1=>(match qm s.H.length o.kind vs with
  | some (ob,v)=>some (vn.put ⟨s.tm,s.df,s.H++[ob]⟩ o.dst v)
  | none=>none)
 | _=>(match qt s.H o.kind vs with
  | some a=>some (vn.put ⟨s.tm,s.df,a.H⟩ o.dst a.v)
  | none=>none)
def qI(o:vB)(s:vn):Option vn :=
 match qb s.tm o.guard with
 | none=>none
 | some false=>some (s.put o.dst (.tuple []))
 | some true=>match zY s.tm o.args with
  | none=>none
  | some vs=>qY o s vs
theorem Fc{s s':vn}{t:St}(k:SR B c s t){o:vB}(hs:qI o s=some s')(C:ua)(caught:LD):∃c' t',(∀C,pT C caught o t=some (.go t'))/\Mo c c' t.h t'.h/\SR B c' s' t':=by
 unfold qI at hs
 split at hs
 .cases hs
 .rename_i hw
  cases hs
  have j:=bE k.tm hw;refine⟨c,t.put o.dst (.tuple []),fun C=>?_,by rw[put_h];exact Mo.refl _ _,k.put (Mo.refl _ _) k.hr (VR.tL LR.nil) _⟩;unfold pT;rw[j]
 .rename_i hw;have j:=bE k.tm hw
  split at hs
  .cases hs
  .rename_i vs hvs;obtain⟨us,q,g⟩:=ic k.tm hvs;have i:∀C,pT C caught o t=nW C caught o t us:=fun C=>by unfold pT;grind
   unfold qY at hs
   split at hs
   .rename_i hcls
    split at hs
    .rename_i v hp
     cases hs
     obtain⟨u,d,b⟩:=Bm k.hr g hp;refine⟨c,t.put o.dst u,fun C=>?_,by rw[put_h];exact Mo.refl _ _,k.put (Mo.refl _ _) k.hr b _⟩;rw[i];unfold nW;rw[hcls];(try dsimp only);rw[d];rfl
    grind
   .rename_i hcls
    split at hs
    .rename_i ob v hp
     cases hs
     obtain⟨x,c',d,b,n,p,_⟩:=Ag k.hr g hp;refine⟨c',(⟨t.tm,t.df,t.h.push x.o⟩:St).put o.dst x.v,fun C=>?_,by rw[put_h];exact b,k.put b n p _⟩;rw[i];unfold nW;rw[hcls];(try dsimp only);rw[d];rfl
    grind
   .rename_i _ n0 n1
    split at hs
    .rename_i a hp
     cases hs
     have m:∀C,∃u h' c',act C caught o.kind us t.h=some (.ok u h')/\nE B c s.H t.h a u h' c':=fun C=>sY k.hr g hp;have l:∀C f,act C caught o.kind us t.h=act f caught o.kind us t.h:=fun C f=>by
      unfold qt at hp
      split at hp
      .rename_i e;rw[e];rfl
      .rename_i e;rw[e];rfl
      .rename_i e;rw[e];rfl
      .rename_i e;rw[e];rfl
      .rename_i e;rw[e];rfl
      grind
     obtain⟨u,h',c',d,b⟩:=m C;refine⟨c',(⟨t.tm,t.df,h'⟩:St).put o.dst u,fun f=>?_,by rw[put_h];exact b.mo,k.put b.mo b.hr b.v _⟩;rw[i];unfold nW
     split
     .grind
     .grind
     .rw[l f C,d];rfl
    grind
inductive FE where
 | ret (v:PV)
 | panic (v:PV)
def RE(R:PV->TV->Prop):FE->TE->Prop
 | .ret v,.ret u=>R v u
 | .panic v,.panic u=>R v u
 | _,_=>False
def S0(S:x7)(a b:Nat):x7:=fun p x=>p=0/\(S 0 x\/(a<=x/\x<b))
def S1(S:x7)(a b:Nat):x7:=fun p x=>S p x\/(p=0/\a<=x/\x<b)
def FN(E:vZ)(f:Nat)(args:LQ)(e:FE):Prop :=
 ∀S h us,(∀p b,S p b->b<h.next)->LR (PR S h) args us->∃r h',Ev E (fun C _=>C.fn f us h=some (r,h'))/\h.next<=h'.next/\(∀b,b<h.next->h'.get b=h.get b)/\RE (PR (S0 S h.next h'.next) h') e r
def FP(E:vZ)(f:Nat)(args:LQ)(e:FE):Prop :=
 ∀S h us,(∀p b,S p b->b<h.next)->LR (PR S h) args us->∃r h',Ev E (fun C _=>C.fn f us h=some (r,h'))/\h.next<=h'.next/\(∀b,b<h.next->h'.get b=h.get b)/\RE (PR (S1 S h.next h'.next) h') e r
def FO(E:vZ)(f:Nat)(args:LQ)(H:LP)(same:Bool)(Q:FE->LP->Prop):Prop :=
 ∀B c h us,HR B c H h->LR (VR c h) args us->∃r h' e H' c',Ev E (fun C _=>C.fn f us h=some (r,h'))/\Q e H'/\Mo c c' h h'/\HR B c' H' h'/\RE (VR c' h') e r/\(same=true->∀id x,c.ρ id=some x->h'.get x.1=h.get x.1)
theorem EF{h':TH}(hk:∀b,b<h.next->h'.get b=h.get b){b o n:Nat}{cs:LK}(hr:ue h b g o n=some cs):ue h' b g o n=some cs:=by
 obtain⟨y,h1,h2⟩:=Bs hr;exact rR (by rw[hk _ (TH.get_lt h1)];exact h1) h2
theorem Xr{id i:Nat}{w:PV}(h:zF H id g i=some w):∃e z G M l,H[id]?=some (.row e z G M l):=by
 unfold zF at h
 grind
inductive ze(H:LP)(lab:Nat):PV->PV->Prop
 | bool (b:Bool):ze H lab (.bool b) (.bool b)
 | int (k:IntKind) (n:Int):ze H lab (.int k n) (.int k n)
 | str (s:LN):ze H lab (.str s) (.str s)
 | nilptr:ze H lab .nilptr .nilptr
 | nilsl:ze H lab .nilsl .nilsl
 | nilmap:ze H lab .nilmap .nilmap
 | nilfn:ze H lab .nilfn .nilfn
 | niliface:ze H lab .niliface .niliface
 | nil (p z:Nat):ze H lab .nilsl (.list p z [])
 | list (p z:Nat) (l:LQ):ze H lab (.list p z l) (.list p z l)
 | elem (vs:LQ):ze H lab (.elem vs) (.elem vs)
 | iface {t:Nat} {v w:PV}:ze H lab v w->ze H lab (.iface t v) (.iface t w)
 | fn {f:Nat} {vs ws:LQ}:vs.length=ws.length->(∀(i:Nat) (x y:PV),vs[i]?=some x->ws[i]?=some y->ze H lab x y)->ze H lab (.fn f vs) (.fn f ws)
 | agg {vs ws:LQ}:vs.length=ws.length->(∀(i:Nat) (x y:PV),vs[i]?=some x->ws[i]?=some y->ze H lab x y)->ze H lab (.agg vs) (.agg ws)
 | tuple {vs ws:LQ}:vs.length=ws.length->(∀(i:Nat) (x y:PV),vs[i]?=some x->ws[i]?=some y->ze H lab x y)->ze H lab (.tuple vs) (.tuple ws)
 | sl {id g o n q z e z' G M:Nat} {l m:LQ}:H[id]?=some (.row e z' G M l)->M<=g->g<=G->o+n<=l.length->2*n<=q->m.length=n->(∀v∈m,v.cells.length=z)->(((l.drop o).take n).flatMap PV.cells).length=(m.flatMap PV.cells).length ->
   (∀(i:Nat) (x y:PV),(((l.drop o).take n).flatMap PV.cells)[i]?=some x->(m.flatMap PV.cells)[i]?=some y->ze H lab x y)->ze H lab (.sl id g o n q z) (.list lab z m)
 | ptr {id g i o n:Nat} {w:PV} {cs:LQ}:zF H id g i=some w->o+n<=w.cells.length->n=cs.length->(∀(j:Nat) (x y:PV),((w.cells.drop o).take n)[j]?=some x->cs[j]?=some y->ze H lab x y)->ze H lab (.ptr id g i o n) (.elem cs)
variable {lab:Nat}
theorem ze.ok'(k:HR B c H h){S:x7}(hS:∀p b,c.S p b->S p b)(hown:∀id x e z G M l,H[id]?=some (.row e z G M l)->c.ρ id=some x->S lab x.1)(f:ze H lab v w):∀{u:TV},VR c h v u->PR S h w u:=by
 have J:∀{v:PV} {u:TV},PR c.S h v u->PR S h v u:=fun a=>a.mono hS fun _ _ _ _ _ _ _ X=>X
 induction f with
 | bool b=>intro u a;obtain rfl:=a.bool_inv;exact .bool b
 | int Y n=>intro u a;obtain rfl:=a.int_inv;exact .int Y n
 | str s=>intro u a;obtain rfl:=a.str_inv;exact .str s
 | nilptr=>intro u a;cases a with|pure a=>exact J a
 | nilsl=>intro u a;cases a with|pure a=>exact J a
 | nilmap=>intro u a;cases a with|pure a=>exact J a
 | nilfn=>intro u a;cases a with|pure a=>exact J a
 | niliface=>intro u a;cases a with|pure a=>exact J a
 | nil p z=>intro u a;cases a with|pure a=>cases a;exact .listnil p z
 | list p z l=>intro u a;cases a with|pure a=>exact J a
 | elem vs=>intro u a;cases a with|pure a=>exact J a
 | iface _ C=>intro u a;obtain⟨u',rfl,h1⟩:=a.iface_inv;exact .iface (C h1)
 | fn I _ C =>
  intro u a;obtain⟨cs,rfl,h1⟩:=a.fn_inv;exact .fn (by rw[<- I];exact h1.1) fun i x y A D=>by
   obtain⟨t,r⟩:∃t,(_:LQ)[i]?=some t:=⟨_,Zg (by rw[I];exact(Zh.1 A).1)⟩
   exact C i _ _ r A (h1.2 i _ _ r D)
 | agg I _ C =>
  intro u a;obtain⟨cs,rfl,h1⟩:=a.agg_inv;exact .agg (by rw[<- I];exact h1.1) fun i x y A D=>by
   obtain⟨t,r⟩:∃t,(_:LQ)[i]?=some t:=⟨_,Zg (by rw[I];exact(Zh.1 A).1)⟩
   exact C i _ _ r A (h1.2 i _ _ r D)
 | tuple I _ C =>
  intro u a;obtain⟨cs,rfl,h1⟩:=a.tuple_inv;exact .tuple (by rw[<- I];exact h1.1) fun i x y A D=>by
   obtain⟨t,r⟩:∃t,(_:LQ)[i]?=some t:=⟨_,Zg (by rw[I];exact(Zh.1 A).1)⟩
   exact C i _ _ r A (h1.2 i _ _ r D)
 | @sl id g o n q z e z' G M l m K hM hG L Z N hz T _ C =>
  intro u a;rcases sl_inv a with⟨rfl,rfl,rfl,rfl,rfl,hL⟩|⟨b,d,g',s1,rfl,rfl⟩
  .obtain rfl:=zBH9.1 N;exact .listnil _ _
  .obtain⟨rfl,G',M',cells,cs,r1,r2,r3,r4,r5⟩:=dF k K s1;have h9:o*z+n*z<=l.length*z:=by rw[<- zAR9];exact zAD9 _ L
   have O:=oU r4 h9;rw[ZT]at O;have P:=(r5.drop o).take n;subst N;refine .list (hown _ _ _ _ _ _ _ K s1) (EE r1 zo zo O) Z hz (by rw[<- T];exact P.all.1) fun i x y A D=>?_;obtain⟨t,r⟩:∃t,(((l.drop o).take m.length).flatMap PV.cells)[i]?=some t:=⟨_,Zg (by grind)⟩
   exact C i _ _ r A (P.all.2 i _ _ r D)
 | @ptr id g i o n w cs Q L U _ C =>
  intro u a;obtain⟨b,d,z,g',s1,rfl,rfl⟩:=bh a;obtain⟨s2,s3⟩:=Lp k Q s1;obtain⟨ds,s4,R⟩:=s3 o n (by omega);have V:((w.cells.drop o).take n).length=n:=by simp;omega
  subst U;obtain⟨e0,z0,G0,M0,l0,K⟩:=Xr Q;refine .elem (hown _ _ _ _ _ _ _ K s1) s4 (by rw[<- R.1,V]) fun j x y A D=>?_;obtain⟨t,r⟩:∃t,((w.cells.drop o).take cs.length)[j]?=some t:=⟨_,Zg (by grind)⟩
  exact C j _ _ r A (R.2 j _ _ r D)
theorem ze.ok(k:HR B c H h){S:x7}(hS:∀p b,c.S p b->S p b)(hown:∀id x,c.ρ id=some x->S lab x.1)(f:ze H lab v w):∀{u:TV},VR c h v u->PR S h w u:=f.ok' k hS fun id x _ _ _ _ _ _ h=>hown id x h
def LF(H:LP)(lab:Nat):LQ->LQ->Prop
 | [],[]=>True
 | x::l,y::m=>ze H lab x y/\LF H lab l m
 | _,_=>False
variable {ws:LQ}
theorem LF.ok(k:HR B c H h){S:x7}(hS:∀p b,c.S p b->S p b)(hown:∀id x,c.ρ id=some x->S lab x.1):∀{l m:LQ} {us:LK},LF H lab l m->LR (VR c h) l us->LR (PR S h) m us
 | [],[],us,_,a=>by obtain rfl:=a.oN;exact LR.nil
 | x::l,y::m,us,f,a=>by
  obtain⟨u,d,rfl,h1,h2⟩:=a.oc;exact LR.cons (f.1.ok k hS hown h1) (LF.ok k hS hown f.2 h2)
 | [],_::_,us,f,_=>f.elim
 | _::_,[],us,f,_=>f.elim
theorem LF.len:∀{l m:LQ},LF H lab l m->l.length=m.length
 | [],[],_=>rfl
 | x::l,y::m,f=>by rw[Zp,Zp,LF.len f.2]
 | [],_::_,f=>f.elim
 | _::_,[],f=>f.elim
theorem LF.at:∀{l m:LQ},LF H lab l m->∀(i:Nat) (x y:PV),l[i]?=some x->m[i]?=some y->ze H lab x y
 | [],[],_,i,x,y,c,_=>by simp at c
 | x::l,y::m,f,0,a,b,c,d=>by simp at c d;subst c;subst d;exact f.1
 | x::l,y::m,f,i+1,a,b,c,d=>LF.at f.2 i a b (by grind) (by grind)
 | [],_::_,f,_,_,_,_,_=>f.elim
 | _::_,[],f,_,_,_,_,_=>f.elim
theorem ze.aggL(f:LF H lab vs ws):ze H lab (.agg vs) (.agg ws):=.agg f.len f.at
theorem ze.tL(f:LF H lab vs ws):ze H lab (.tuple vs) (.tuple ws):=.tuple f.len f.at
theorem ze.fnL{f:Nat}(k:LF H lab vs ws):ze H lab (.fn f vs) (.fn f ws):=.fn k.len k.at
inductive Lb:PV->Prop
 | bool (b:Bool):Lb (.bool b)
 | int (k:IntKind) (n:Int):Lb (.int k n)
 | str (s:LN):Lb (.str s)
 | nilptr:Lb .nilptr
 | nilsl:Lb .nilsl
 | nilmap:Lb .nilmap
 | nilfn:Lb .nilfn
 | niliface:Lb .niliface
 | list {z:Nat} {l:LQ}:(∀x∈l.flatMap PV.cells,Lb x)->Lb (.list 0 z l)
 | iface {t:Nat} {v:PV}:Lb v->Lb (.iface t v)
 | fn {f:Nat} {l:LQ}:(∀x∈l,Lb x)->Lb (.fn f l)
 | agg {l:LQ}:(∀x∈l,Lb x)->Lb (.agg l)
 | tuple {l:LQ}:(∀x∈l,Lb x)->Lb (.tuple l)
theorem Lb.ok{S S':x7}(hS:∀b,S 0 b->S' 0 b){u:TV}(k:PR S h v u):Lb v->PR S' h v u:=by
 induction k with
 | bool b=>intro _;exact .bool b
 | int k n=>intro _;exact .int k n
 | str s=>intro _;exact .str s
 | nilptr=>intro _;exact .nilptr
 | nilsl=>intro _;exact .nilsl
 | nilmap=>intro _;exact .nilmap
 | nilfn=>intro _;exact .nilfn
 | niliface=>intro _;exact .niliface
 | iface _ d=>intro a;cases a with|iface a=>exact .iface (d a)
 | listnil p z=>intro _;exact .listnil p z
 | list h1 h2 h3 h4 f _ d=>intro a;cases a with|list a=>exact .list (hS _ h1) h2 h3 h4 f fun i x y c e=>d i x y c e (a x (Zj c))
 | elem h1 h2 h3 _ d=>intro a;cases a
 | fn h1 _ d=>intro a;cases a with|fn a=>exact .fn h1 fun i x y c e=>d i x y c e (a x (Zj c))
 | agg h1 _ d=>intro a;cases a with|agg a=>exact .agg h1 fun i x y c e=>d i x y c e (a x (Zj c))
 | tuple h1 _ d=>intro a;cases a with|tuple a=>exact .tuple h1 fun i x y c e=>d i x y c e (a x (Zj c))
variable {E:vZ}{caught:LD}
def WO(E:vZ)(caught:LD)(ops:List vB)(s:vn)(Q:FX->vn->Prop):Prop :=
 ∀B c t,SR B c s t->∃r x s' c' t',Ev E (fun C _=>kJ C caught ops t=some r)/\Q x s'/\Mo c c' t.h t'.h/\SR B c' s' t'/\((x=.norm/\r=.go t')\/∃v u,x=.panic v/\r=.panic u t'/\VR c' t'.h v u)
variable {Q:FX->vn->Prop}{s:vn}
theorem cK(h:Q .norm s):WO E caught [] s Q:=fun B c t a=>⟨.go t,.norm,s,c,t,Ev.all fun _ _=>rfl,h,Mo.refl _ _,a,.inl ⟨rfl,rfl⟩⟩
theorem N8{o:vB}{ops:List vB}{s':vn}(h:qI o s=some s')(k:WO E caught ops s' Q):WO E caught (o::ops) s Q:=fun B c t a=>by
 obtain⟨b,t1,h1,d,f⟩:=Fc a h ⟨fun _ _ _=>none,fun _ _ _=>none⟩ caught;obtain⟨r,x,g,i,t2,j,l,m,n,h2⟩:=k B b t1 f;exact⟨r,x,g,i,t2,j.mono fun C N e=>by unfold kJ;grind,l,d.trans m,n,h2⟩
def Ch(E:vZ)(caught:LD)(ops:List vB)(s:vn)(d:LA)(Q:FX->vn->Prop):FE->LP->Prop
 | .ret v,H'=>WO E caught ops (vn.put ⟨s.tm,s.df,H'⟩ d v) Q
 | .panic v,H'=>Q (.panic v) ⟨s.tm,s.df,H'⟩
variable {e:FE}
theorem sN{d:LA}{args:List vQ}{g:Option (vQ×Bool)}{ops:List vB}{s:vn}{Q:FX->vn->Prop}{caps:LQ}{b:Bool}(hg:qb s.tm g=some true)(ha:zY s.tm args=some (.fn f caps::vs))(k:FO E f (vs++caps) s.H b (Ch E caught ops s d Q)):WO E caught (⟨d,.call,args,g⟩::ops) s Q:=fun B c t j=>by
 have y:=bE j.tm hg;obtain⟨us,z,A⟩:=ic j.tm ha;obtain⟨u,w,rfl,D,G⟩:=A.oc;obtain⟨cs,rfl,I⟩:=D.fn_inv;obtain⟨r,h',e,S,c',n,o,l,p,i,_⟩:=k B c t.h _ j.hr (G.app I);have m:∀C,C.fn f (w++cs) t.h=some (r,h')->pT C caught ⟨d,.call,args,g⟩ t=fO d t (ib (some (r,h'))):=fun C J=>by
  unfold pT;rw[y,z];simp only[nW,zA.cls,act,fN];rw[J]
 cases e with
 | ret v =>
  cases r with
  | panic u=>exact i.elim
  | ret u =>
   have i:VR c' h' v u:=i;obtain⟨K,x,L,M,t2,O,P,q,R,h2⟩:=o B c' ((⟨t.tm,t.df,h'⟩:St).put d u) (j.put l p i d);rw[put_h]at q;exact⟨K,x,L,M,t2,Ev.and2 (fun C N a b=>by unfold kJ;rw[m C a];exact b) n O,P,l.trans q,R,h2⟩
 | panic v =>
  cases r with
  | ret u=>exact i.elim
  | panic u =>
   have i:VR c' h' v u:=i;exact⟨.panic u ⟨t.tm,t.df,h'⟩,.panic v,_,c',⟨t.tm,t.df,h'⟩,n.mono fun C N a=>by unfold kJ;rw[m C a];rfl,o,l,⟨p,j.tm.mono l,j.df.mono l⟩,.inr ⟨v,u,rfl,rfl,i⟩⟩
theorem RE.mono{R R':PV->TV->Prop}(hR:∀v u,R v u->R' v u){r:TE}(h:RE R e r):RE R' e r:=by
 cases e<;>cases r<;>first|exact hR _ _ h|exact h.elim
def Cx.lay(c:Cx)(a b:Nat):Cx:=⟨S1 c.S a b,c.ρ,c.L⟩
theorem HR.grown{h':TH}(k:HR B c H h)(hn:h.next<=h'.next)(hk:∀b,b<h.next->h'.get b=h.get b):Mo c (c.lay h.next h'.next) h h'/\HR B (c.lay h.next h'.next) H h':=by
 have m:Mo c (c.lay h.next h'.next) h h':=⟨fun p b a=>.inl a,fun _ _ h=>h,fun _ h=>h,fun _ _ _ _ _ _ _ f=>EF hk f⟩
 refine⟨m,⟨Z0 k.le hn,fun b a=>by rw[hk b (ZR a k.le)];exact k.keep b a,fun p b a=>?_,fun p b a=>?_,fun id x d=>?_,k.lz,k.inj,fun id o g=>(k.obj id o g).move m rfl (fun h=>h) fun y i=>hk _ (k.own _ _ i).2.1⟩⟩
 .rcases a with a|⟨h1,h2,_⟩
  .exact k.old p b a
  .exact .inr ⟨h1,Z0 k.le h2⟩
 .rcases a with a|⟨h1,h2,h3⟩
  .obtain⟨a1,a2⟩:=k.S p b a;exact⟨ZR a1 hn,a2⟩
  .exact⟨h3,fun id x d e=>by have:=(k.own _ _ d).2.1;omega⟩
 .obtain⟨a1,a2,a3⟩:=k.own id x d;omega
def dQ(c:Cx):x7:=fun p b=>c.S p b\/(p=1/\∃id x,c.ρ id=some x/\x.1=b)
theorem FN.FO{args aS:LQ}(k:FN E f aS e)(hl:LF H 1 args aS):FO E f args H true (fun e' H'=>e'=e/\H'=H):=fun B c h us d l=>by
 have h1:=LF.ok d (S:=dQ c) (fun p b a=>.inl a) (fun id x g=>.inr ⟨rfl,id,x,g,rfl⟩) hl l;obtain⟨r,h',n,o,i,q⟩:=k (dQ c) h us (fun p b a=>by
  rcases a with a|⟨_,id,x,g,rfl⟩
  .exact(d.S p b a).1
  .exact(d.own _ _ g).2.1) h1
 obtain⟨m,j⟩:=d.grown o i;refine⟨r,h',e,H,c.lay h.next h'.next,n,⟨rfl,rfl⟩,m,j,q.mono fun v u s=>.pure (s.mono (fun p b a=>?_) fun _ _ _ _ _ _ _ d=>d),fun _ id x g=>i _ (d.own _ _ g).2.1⟩;obtain⟨rfl,a|a⟩:=a
 .rcases a with a|⟨h0,_⟩
  .exact .inl a
  .cases h0
 .exact .inr ⟨rfl,a⟩
inductive vg:PV->Prop
 | bool (b:Bool):vg (.bool b)
 | int (k:IntKind) (n:Int):vg (.int k n)
 | str (s:LN):vg (.str s)
 | nilptr:vg .nilptr
 | nilsl:vg .nilsl
 | nilmap:vg .nilmap
 | nilfn:vg .nilfn
 | niliface:vg .niliface
 | list (p z:Nat) (l:LQ):vg (.list p z l)
 | elem (l:LQ):vg (.elem l)
 | iface {t:Nat} {v:PV}:vg v->vg (.iface t v)
 | fn {f:Nat} {l:LQ}:(∀x∈l,vg x)->vg (.fn f l)
 | agg {l:LQ}:(∀x∈l,vg x)->vg (.agg l)
 | tuple {l:LQ}:(∀x∈l,vg x)->vg (.tuple l)
variable {args:List vQ}{caps:LQ}{d:LA}{g:Option (vQ×Bool)}{ops:List vB}
theorem vg.ok(k:vg v):∀{u:TV},VR c h v u->PR c.S h v u:=by
 induction k with
 | bool b=>intro u a;obtain rfl:=a.bool_inv;exact .bool b
 | int g n=>intro u a;obtain rfl:=a.int_inv;exact .int g n
 | str s=>intro u a;obtain rfl:=a.str_inv;exact .str s
 | nilptr=>intro u a;cases a with|pure a=>exact a
 | nilsl=>intro u a;cases a with|pure a=>exact a
 | nilmap=>intro u a;cases a with|pure a=>exact a
 | nilfn=>intro u a;cases a with|pure a=>exact a
 | niliface=>intro u a;cases a with|pure a=>exact a
 | list p z l=>intro u a;cases a with|pure a=>exact a
 | elem vs=>intro u a;cases a with|pure a=>exact a
 | iface _ e=>intro u a;obtain⟨j,rfl,h1⟩:=a.iface_inv;exact .iface (e h1)
 | fn _ e=>intro u a;obtain⟨cs,rfl,h1⟩:=a.fn_inv;exact .fn h1.1 fun i x y d f=>e x (Zj d) (h1.2 i x y d f)
 | agg _ e=>intro u a;obtain⟨cs,rfl,h1⟩:=a.agg_inv;exact .agg h1.1 fun i x y d f=>e x (Zj d) (h1.2 i x y d f)
 | tuple _ e=>intro u a;obtain⟨cs,rfl,h1⟩:=a.tuple_inv;exact .tuple h1.1 fun i x y d f=>e x (Zj d) (h1.2 i x y d f)
theorem FP.FO{args:LQ}{e:FE}(k:FP E f args e)(hl:∀x∈args,vg x):FO E f args H true (fun e' H'=>e'=e/\H'=H):=fun B c h us d g=>by
 obtain⟨r,h',n,o,j,q⟩:=k c.S h us (fun p b s=>(d.S p b s).1) ⟨g.1,fun i x y a t=>(hl x (Zj a)).ok (g.2 i x y a t)⟩;obtain⟨m,l⟩:=d.grown o j;exact⟨r,h',e,H,c.lay h.next h'.next,n,⟨rfl,rfl⟩,m,l,q.mono fun v u w=>.pure w,fun _ id x a=>j _ (d.own _ _ a).2.1⟩
theorem FO.mono{args:LQ}{b:Bool}{Q Q':FE->LP->Prop}(hQ:∀e H,Q e H->Q' e H)(k:FO E f args H b Q):FO E f args H b Q':=fun B c h us a d=>by
 obtain⟨r,h',e,g,c',i,j,h2⟩:=k B c h us a d
 grind
theorem pt{aS:LQ}(hg:qb s.tm g=some true)(ha:zY s.tm args=some (.fn f caps::vs))(k:FN E f aS (.ret v))(hl:LF s.H 1 (vs++caps) aS)(hQ:WO E caught ops (s.put d v) Q):WO E caught (⟨d,.call,args,g⟩::ops) s Q :=
 sN hg ha ((FN.FO k hl).mono fun e b a=>by obtain⟨rfl,rfl⟩:=a;exact hQ)
theorem N6{aS:LQ}(hg:qb s.tm g=some true)(ha:zY s.tm args=some (.fn f caps::vs))(k:FN E f aS (.panic v))(hl:LF s.H 1 (vs++caps) aS)(hQ:Q (.panic v) s):WO E caught (⟨d,.call,args,g⟩::ops) s Q :=
 sN hg ha ((FN.FO k hl).mono fun e b a=>by obtain⟨rfl,rfl⟩:=a;exact hQ)
theorem Cd{ty:Nat}(hg:qb s.tm g=some true)(ha:zY s.tm args=some [.iface ty v])(hQ:Q (.panic (.iface ty v)) s):WO E caught (⟨d,.panic,args,g⟩::ops) s Q:=fun B c t a=>by
 have e:=bE a.tm hg;obtain⟨us,f,h⟩:=ic a.tm ha;obtain⟨u,k,rfl,b,i⟩:=h.oc;obtain rfl:=i.oN;obtain⟨j,rfl,l⟩:=b.iface_inv;refine⟨.panic (.iface ty j) t,.panic (.iface ty v),s,c,t,Ev.all fun C N=>?_,hQ,Mo.refl _ _,a,.inr ⟨_,_,rfl,rfl,b⟩⟩;unfold kJ pT;rw[e,f];rfl
theorem fK{p cl:PV}(hg:qb s.tm g=some true)(ha:zY s.tm args=some [.fn f [],p,cl])(hc:caught.get f=some ())(k:WO E caught ops (vn.put ⟨s.tm,.caught p cl::s.df,s.H⟩ d (.tuple [])) Q):WO E caught (⟨d,.defer,args,g⟩::ops) s Q:=fun B c t a=>by
 have m:=bE a.tm hg;obtain⟨us,n,o⟩:=ic a.tm ha;obtain⟨u,b,rfl,q,r⟩:=o.oc;obtain⟨up,b,rfl,v,w⟩:=r.oc;obtain⟨i,b,rfl,y,z⟩:=w.oc;obtain rfl:=z.oN;obtain⟨cs,rfl,A⟩:=q.fn_inv;obtain rfl:=A.oN;have l:SR B c ⟨s.tm,.caught p cl::s.df,s.H⟩ ⟨t.tm,.caught up i::t.df,t.h⟩:=⟨a.hr,a.tm,⟨v,y⟩,a.df⟩
 obtain⟨D,x,G,I,t2,J,K,j,L,h2⟩:=k B c ((⟨t.tm,.caught up i::t.df,t.h⟩:St).put d (.tuple [])) (l.put (Mo.refl _ _) a.hr (VR.tL LR.nil) d);rw[put_h]at j;refine⟨D,x,G,I,t2,J.mono fun C N e=>?_,K,j,L,h2⟩;unfold kJ pT;rw[m,n];simp only[nW,zA.cls,act,Ce];rw[hc];exact e
def RN(c:Cx):LA->LA->Prop
 | none,none=>True
 | some id,some b=>∃d z,c.ρ id=some (b,d,z)
 | _,_=>False
theorem RN.mono{c':Cx}{h':TH}(m:Mo c c' h h'){a b:LA}(k:RN c a b):RN c' a b:=by
 cases a<;>cases b<;>first|exact k|(obtain⟨d,z,k⟩:=k;exact⟨d,z,m.ρ _ _ k⟩)
def W(E:vZ)(caught:LD)(rnd:LA)(code:vP)(s:vn)(Q:FX->vn->Prop):Prop :=
 ∀B c t rnd',SR B c s t->RN c rnd rnd'->∃x' t' x s' c',Ev E (fun C N=>we C caught N rnd' code t=some (x',t'))/\Q x s'/\XR c' t'.h x x'/\Mo c c' t.h t'.h/\SR B c' s' t'
variable {rnd:LA}{s:vn}{Q Q':FX->vn->Prop}
theorem ur{code:vP}(k:W E caught rnd code s Q)(hQ:∀x s,Q x s->Q' x s):W E caught rnd code s Q':=fun B c t a b d=>by
 obtain⟨e,f,x,g,c',h1,h2,h3⟩:=k B c t a b d
 grind
theorem wK(h:Q .norm s):W E caught rnd .skip s Q:=fun B c t b a d=>⟨.norm,t,.norm,s,c,Ev.all fun _ _=>rfl,h,.norm,Mo.refl _ _,a⟩
theorem bL{id:Nat}(h:Q (.exit id) s):W E caught rnd (.exit id) s Q:=fun B c t b a d=>⟨.exit id,t,.exit id,s,c,Ev.all fun _ _=>rfl,h,.exit id,Mo.refl _ _,a⟩
theorem fL{l:Nat}(h:Q (.goto l) s):W E caught rnd (.goto l) s Q:=fun B c t b a d=>⟨.goto l,t,.goto l,s,c,Ev.all fun _ _=>rfl,h,.goto l,Mo.refl _ _,a⟩
theorem vw(h:Q .ret s):W E caught rnd .ret s Q:=fun B c t b a d=>⟨.ret,t,.ret,s,c,Ev.all fun _ _=>rfl,h,.ret,Mo.refl _ _,a⟩
def aW:List vB->(Nat->PV)->(Nat->PV)
 | [],tm=>tm
 | o::l,tm=>aW l (match o.dst with|some d=>zb tm d .bad|none=>tm)
theorem In:∀{ops:List vB} {tm:Nat->PV} {t:LL},yu c h tm t->yu c h (aW ops tm) (bT ops t)
 | [],_,_,k=>k
 | o::l,tm,t,k=>by
  unfold aW bT;refine In ?_
  cases o.dst with
  | none=>exact k
  | some d =>
   intro i
   .dsimp only;unfold zb;rw[Tr.get_set]
    by_cases e:i=d
    .grind
    .rw[if_neg e,if_neg e];exact k i
@[reducible] def bk (ops:List vB) (Q:FX->vn->Prop):FX->vn->Prop
 | .norm,s=>Q .norm s
 | x,s=>Q x ⟨aW ops s.tm,s.df,s.H⟩
theorem wa{ops:List vB}(k:WO E caught ops s (bk ops Q)):W E caught rnd (.region ops) s Q:=fun B c t l h m=>by
 obtain⟨r,x,i,c',b,d,f,g,a,h2⟩:=k B c t h;rcases h2 with⟨rfl,rfl⟩|⟨v,u,rfl,rfl,j⟩
 .exact⟨.norm,b,.norm,i,c',d.mono fun C N e=>by unfold we;rw[e];rfl,f,.norm,g,a⟩
 .exact⟨.panic u,{ b with tm:=bT ops b.tm },.panic v,_,c',d.mono fun C N e=>by unfold we;rw[e];rfl,f,.panic j,g,⟨a.hr,In a.tm,a.df⟩⟩
@[reducible] def xU (K:vn->Prop) (Q:FX->vn->Prop):FX->vn->Prop
 | .norm,s=>K s
 | x,s=>Q x s
theorem vq{a b:vP}(k:W E caught rnd a s (xU (fun s'=>W E caught rnd b s' Q) Q)):W E caught rnd (.seq a b) s Q:=fun B c t j p m=>by
 obtain⟨G,f,x,s',c',g,h,q,d,i⟩:=k B c t j p m
 cases q with
 | norm =>
  obtain⟨n,t2,r,u,v,w,y,o,z,A⟩:=h B c' f j i (m.mono d);exact⟨n,t2,r,u,v,Ev.and2 (fun C N a b=>by unfold we;grind) g w,y,o,d.trans z,A⟩
 | exit id=>exact⟨_,f,_,s',c',g.mono fun C N e=>by unfold we;rw[e],h,.exit id,d,i⟩
 | goto l=>exact⟨_,f,_,s',c',g.mono fun C N e=>by unfold we;rw[e],h,.goto l,d,i⟩
 | ret=>exact⟨_,f,_,s',c',g.mono fun C N e=>by unfold we;rw[e],h,.ret,d,i⟩
 | panic D=>exact⟨_,f,_,s',c',g.mono fun C N e=>by unfold we;rw[e],h,.panic D,d,i⟩
theorem sP{x:vQ}{b:Bool}{p q:vP}(hx:ev s.tm x=some (.bool b))(h1:b=true->W E caught rnd p s Q)(h2:b=false->W E caught rnd q s Q):W E caught rnd (.cond x p q) s Q:=fun B c t j a k=>by
 obtain⟨u,m,l⟩:=ek a.tm hx;obtain rfl:=l.bool_inv
 cases b with
 | true =>
  obtain⟨d,f,x,g,c',i,h⟩:=h1 rfl B c t j a k;exact⟨d,f,x,g,c',i.mono fun C N e=>by unfold we;grind,h⟩
 | false =>
  obtain⟨d,f,x,g,c',i,h⟩:=h2 rfl B c t j a k;exact⟨d,f,x,g,c',i.mono fun C N e=>by unfold we;grind,h⟩
@[reducible] def gY (id:Nat) (Q:FX->vn->Prop):FX->vn->Prop
 | .exit j,s=>if j=id then Q .norm s else Q (.exit j) s
 | x,s=>Q x s
theorem vm{id:Nat}{b:vP}(k:W E caught rnd b s (gY id Q)):W E caught rnd (.block id b) s Q:=fun B c t n o p=>by
 obtain⟨u,f,x,d,c',g,a,q,h,i⟩:=k B c t n o p
 cases q with
 | exit j =>
  have a:if j=id then Q .norm d else Q (.exit j) d:=a
  by_cases m:j=id
  .rw[if_pos m]at a;exact⟨.norm,f,.norm,d,c',g.mono fun C N e=>by unfold we;simp_all,a,.norm,h,i⟩
  .rw[if_neg m]at a;exact⟨.exit j,f,.exit j,d,c',g.mono fun C N e=>by unfold we;rw[e];dsimp only;rw[oA m];rfl,a,.exit j,h,i⟩
 | norm=>exact⟨_,f,_,d,c',g.mono fun C N e=>by unfold we;rw[e],a,.norm,h,i⟩
 | goto l=>exact⟨_,f,_,d,c',g.mono fun C N e=>by unfold we;rw[e],a,.goto l,h,i⟩
 | ret=>exact⟨_,f,_,d,c',g.mono fun C N e=>by unfold we;rw[e],a,.ret,h,i⟩
 | panic r=>exact⟨_,f,_,d,c',g.mono fun C N e=>by unfold we;rw[e],a,.panic r,h,i⟩
@[reducible] def b8 (pq:Nat->vn->Prop) (n:Nat) (Q:FX->vn->Prop):FX->vn->Prop
 | .norm,s=>∃m,m<n/\pq m s
 | x,s=>Q x s
theorem vy{body:vP}(pq:Nat->vn->Prop){n:Nat}(h0:pq n s)(step:∀n s,pq n s->W E caught rnd body s (b8 pq n Q)):W E caught rnd (.loop body) s Q:=fun B c t p u q=>by
 have y:∀n s c t,pq n s->SR B c s t->RN c rnd p->∃f a x b c',(∃K,∀N,K<=N->∀d,K<=d->∀j,K<=j->dj (we (xy (EN E N) d) caught N p body) j t=some (f,a))/\Q x b/\XR c' a.h x f/\Mo c c' t.h a.h/\SR B c' b a:=by
  intro n
  induction n using Nat.strongRecOn with
  | _ n D =>
   intro s c t G u q;obtain⟨f,a,x,b,c',⟨K,w⟩,k,I,g,o⟩:=step n s G B c t p u q;have one:f ≠ .norm->∃K,∀N,K<=N->∀d,K<=d->∀j,K<=j->dj (we (xy (EN E N) d) caught N p body) j t=some (f,a):=fun X=>⟨K+1,fun N r d v j J=>by
    obtain⟨j,rfl⟩:∃i,j=i+1:=⟨j-1,by omega⟩
    unfold dj
    grind⟩
   cases I with
   | norm =>
    obtain⟨m,M,z⟩:=k;obtain⟨A,t2,O,P,R,⟨L,Y⟩,S,C,T,U⟩:=D m M b c' a z o (q.mono g);refine⟨A,t2,O,P,R,⟨max K L+1,fun N r d v j J=>?_⟩,S,C,g.trans T,U⟩;obtain⟨j,rfl⟩:∃i,j=i+1:=⟨j-1,by omega⟩
    unfold dj
    grind
   | exit id=>exact⟨_,a,_,b,c',one (fun e=>by cases e),k,.exit id,g,o⟩
   | goto l=>exact⟨_,a,_,b,c',one (fun e=>by cases e),k,.goto l,g,o⟩
   | ret=>exact⟨_,a,_,b,c',one (fun e=>by cases e),k,.ret,g,o⟩
   | panic V=>exact⟨_,a,_,b,c',one (fun e=>by cases e),k,.panic V,g,o⟩
 obtain⟨f,a,x,b,c',⟨K,w⟩,h⟩:=y n s c t h0 u q;exact⟨f,a,x,b,c',⟨K,fun N r d v=>by unfold we;exact w N r d v N r⟩,h⟩
@[reducible] def l5 (E:vZ) (caught:LD) (rnd:LA) (l:Nat) (rest:vP) (Q:FX->vn->Prop):FX->vn->Prop
 | .goto j,s=>j=l/\W E caught rnd rest s fun x s'=>(∀l,x ≠ .goto l)/\Q x s'
 | x,s=>Q x s
theorem sU{l:Nat}{b rest:vP}(k:W E caught rnd b s (l5 E caught rnd l rest Q)):W E caught rnd (.scope b l rest) s Q:=fun B c t n r p=>by
 obtain⟨K,g,x,m,c',h,d,u,f,i⟩:=k B c t n r p
 cases u with
 | goto j =>
  obtain⟨rfl,d⟩:=d;obtain⟨q,t2,v,w,y,z,⟨J,A⟩,o,D,G⟩:=d B c' g n i (p.mono f);refine⟨q,t2,v,w,y,Ev.and2 (fun C N a b=>?_) h z,A,o,f.trans D,G⟩;unfold we;rw[a];dsimp only;rw[wZ rfl];dsimp only[cond_true];rw[b]
  cases o<;>grind
 | exit j=>exact⟨_,g,_,m,c',h.mono fun C N e=>by unfold we;rw[e],d,.exit j,f,i⟩
 | norm=>exact⟨_,g,_,m,c',h.mono fun C N e=>by unfold we;rw[e],d,.norm,f,i⟩
 | ret=>exact⟨_,g,_,m,c',h.mono fun C N e=>by unfold we;rw[e],d,.ret,f,i⟩
 | panic I=>exact⟨_,g,_,m,c',h.mono fun C N e=>by unfold we;rw[e],d,.panic I,f,i⟩
variable {E:vZ}
inductive FM where
 | returning
 | panicking (v:PV)
def sE(c:Cx)(h:TH):FM->TM->Prop
 | .returning,.returning=>True
 | .panicking v,.panicking u=>VR c h v u
 | _,_=>False
def LV(E:vZ):AP->FM->LP->(FM->LP->Prop)->Prop
 | [],m,H,Q=>Q m H
 | .mark id::l,m,H,Q=>H[id]?=some (.dfr false)/\LV E l m (H.set id (.dfr true)) Q
 | .caught p cl::l,m,H,Q=>match m with
  | .returning=>LV E l .returning H Q
  | .panicking v=>∃n g caps b id gg mm,v=.iface E.errno (.int .i64 n)/\cl=.fn g caps/\p=.ptr id gg 0 0 mm/\FO E g caps H b fun e H1=>e=.ret (.tuple [])/\∃a,qB H1 1 [p,.int .i64 n]=some a/\LV E l .returning a.H Q
theorem DA(N:Nat)(C:ua):∀(l:LZ) (m:TM) (h:TH),yk (EN E N) C l m h=yk E C l m h
 | [],m,h=>rfl
 | .mark b::l,m,h=>by
  unfold yk;simp only[DA N C l]
 | .caught p c::l,m,h=>by
  unfold yk;simp only[DA N C l];rfl
theorem Fe{h2:TH}{b g o e:Nat}{k:IntKind}{n:Int}{u:TV}(hs:cN 1 h [.ptr b g o e,.int k n]=some (.ok u h2)):az h b g o [.int k n]=some h2:=by
 unfold cN at hs;dsimp only[TV.cells,Zp,Zz]at hs
 grind
theorem sC:∀{l:AP} {l':LZ} {m:FM} {m':TM} {H:LP} {h:TH} {B:Ba} {c:Cx} {Q:FM->LP->Prop},LV E l m H Q->HR B c H h->eg c h l l'->sE c h m m' ->
  ∃m2' h' m2 H2 c',Ev E (fun C _=>yk E C l' m' h=some (m2',h'))/\Q m2 H2/\sE c' h' m2 m2'/\Mo c c' h h'/\HR B c' H2 h'
 | [],[],m,m',H,h,B,c,Q,k,j,_,i=>⟨m',h,m,H,c,Ev.all fun _ _=>rfl,k,i,Mo.refl _ _,j⟩
 | .mark id::l,.mark b::l',m,m',H,h,B,c,Q,k,j,f,i=>by
  obtain⟨⟨d,z,t⟩,f⟩:=f;obtain⟨M,A⟩:=k;obtain⟨Z,d',z',q,e2⟩:=j.obj _ _ M;rw[t]at q;injection q with q;injection q with q e3;subst q;obtain⟨s,y⟩:=j.set (o:=.dfr true) (x:=.dfr true) t (fun e=>by grind) fun _=>⟨b,d,z,t,by rw[TH.get_set _ _ _ _ (j.own _ _ t).2.1,if_pos rfl]⟩
  have ye:sE c (h.set b (.dfr true)) m m':=by
   cases m<;>cases m'<;>first|exact i|exact VR.mono s i
  obtain⟨m2',h',m2,H2,c',f1,f2,f3,f4,f5⟩:=sC A y (f.mono s) ye;refine⟨m2',h',m2,H2,c',f1.mono fun C N e=>?_,f2,f3,s.trans f4,f5⟩;unfold yk
  grind
 | .caught p cl::l,.caught p' Y::l',m,m',H,h,B,c,Q,k,j,f,i=>by
  obtain⟨⟨D,I⟩,f⟩:=f
  cases m with
  | returning =>
   cases m' with
   | panicking u=>exact i.elim
   | returning =>
    have k:LV E l .returning H Q:=k;obtain⟨m2',h',m2,H2,c',f1,f2⟩:=sC k j f (m':=.returning) trivial;exact⟨m2',h',m2,H2,c',f1.mono fun C N e=>by unfold yk;exact e,f2⟩
  | panicking v =>
   cases m' with
   | returning=>exact i.elim
   | panicking u =>
    obtain⟨n,g,caps,bb,id,gg,mm,rfl,rfl,rfl,k⟩:=k;have i:VR c h (.iface E.errno (.int .i64 n)) u:=i;obtain⟨u',rfl,O⟩:=i.iface_inv;obtain rfl:=O.int_inv;obtain⟨cs,rfl,J⟩:=I.fn_inv;obtain⟨r,h1,e,H1,P,q,⟨rfl,a,R,A⟩,s,y,w,_⟩:=k B c h cs j J
    cases r with
    | panic u=>exact w.elim
    | ret u =>
     have w:VR P h1 (.tuple []) u:=w;obtain⟨ts,rfl,K⟩:=w.tuple_inv;obtain rfl:=K.oN;obtain⟨S,dp,T,U,q1,rfl,rfl⟩:=bh (D.mono s);have L:0*T+0=0:=by simp
     rw[L]at D⊢;obtain⟨u2,h2,c2,s1,G⟩:=MG y (LR.cons (D.mono s) (LR.cons (.pure (.int .i64 n)) LR.nil)) R;obtain⟨m2',h',m2,H2,c',f1,f2,f3,f4,f5⟩:=sC A G.hr (f.mono (s.trans G.mo)) (m':=.returning) trivial;refine⟨m2',h',m2,H2,c',Ev.and2 (fun C N V X=>?_) q f1,f2,f3,(s.trans G.mo).trans f4,f5⟩;unfold yk;dsimp only;rw[wZ rfl];dsimp only[cond_true];rw[V];show (match az h1 S U 0 [.int .i64 n]with
      | some h=>yk E C l' .returning h
      | none=>none)=_
     rw[Fe s1];exact X
 | [],_::_,_,_,_,_,_,_,_,_,_,f,_=>f.elim
 | _::_,[],_,_,_,_,_,_,_,_,_,f,_=>f.elim
 | .mark _::_,.caught _ _::_,_,_,_,_,_,_,_,_,_,f,_=>f.1.elim
 | .caught _ _::_,.mark _::_,_,_,_,_,_,_,_,_,_,f,_=>f.1.elim
def zr(tm:Nat->PV)(H:LP):List dV->Option (LQ)
 | []=>some []
 | r::l=>match(match r with
   | .tmp t=>zC (tm t)
   | .cell t agg n=>match zC (tm t)with
    | some p=>zR H agg n [p]
    | none=>none)with
  | none=>none
  | some v=>match zr tm H l with
   | none=>none
   | some vs=>some (v::vs)
theorem Le(k:HR B c H h){tm:Nat->PV}{t:LL}(kt:yu c h tm t):∀{l:List dV} {vs:LQ},zr tm H l=some vs->∃us,ap t h l=some us/\LR (VR c h) vs us
 | [],vs,a=>by cases a;exact⟨[],rfl,LR.nil⟩
 | r::l,vs,a=>by
  unfold zr at a
  split at a
  .cases a
  .rename_i v hx
   split at a
   .cases a
   .rename_i ws hw
    cases a
    obtain⟨us,w1,w2⟩:=Le k kt hw;have f:∃u,ap t h (r::l)=some (u::us)/\VR c h v u:=by
     cases r with
     | tmp i =>
      obtain⟨u,b,d⟩:=ek kt (x:=.tmp i) hx;have b:t.get i=some u:=b;refine⟨u,?_,d⟩;show (match t.get i with
       | none=>none
       | some v=>match ap t h l with
        | none=>none
        | some vs=>some (v::vs))=_
      grind
     | cell i agg n =>
      dsimp only at hx
      split at hx
      .rename_i p hp;obtain⟨u,b,d⟩:=ek kt (x:=.tmp i) hp;obtain⟨w,e,g⟩:=Jt k (LR.cons d LR.nil) hx;have b:t.get i=some u:=b;have e:yb (.load agg n) [u] h=some w:=e;refine⟨w,?_,g⟩;show (match(match t.get i with
        | some p=>yb (.load agg n) [p] h
        | none=>none)with
        | none=>none
        | some v=>match ap t h l with
         | none=>none
         | some vs=>some (v::vs))=_
       grind
      grind
    obtain⟨u,b,d⟩:=f;exact⟨u::us,b,LR.cons d w2⟩
@[reducible] def ct:LQ->PV
 | [v]=>v
 | l=>.tuple l
theorem YJ(k:LR (VR c h) vs us):VR c h (ct vs) (sk us):=by
 match vs,us,k with
 | [],us,k=>obtain rfl:=k.oN;exact VR.tL LR.nil
 | [v],us,k=>obtain⟨u,a,rfl,h1,h2⟩:=k.oc;obtain rfl:=h2.oN;exact h1
 | v::w::l,us,k =>
  obtain⟨u,a,rfl,h1,h2⟩:=k.oc;obtain⟨d,b,rfl,h3,h4⟩:=h2.oc;exact VR.tL k
def tH(F:zd)(tm:Nat->PV)(R:FE->LP->Prop):FM->LP->Prop
 | .returning,H=>∃vs,zr tm H F.res=some vs/\R (.ret (ct vs)) H
 | .panicking v,H=>R (.panic v) H
def yG(E:vZ)(F:zd)(R:FE->LP->Prop):FX->vn->Prop
 | .norm,s=>LV E s.df .returning s.H (tH F s.tm R)
 | .ret,s=>LV E s.df .returning s.H (tH F s.tm R)
 | .panic v,s=>LV E s.df (.panicking v) s.H (tH F s.tm R)
 | _,_=>False
def zq(l:LQ):Nat->PV:=fun i=>(l[i]?).getD .bad
theorem O2(k:LR (VR c h) vs us):yu c h (zq vs) (Tr.putL .nil 0 us):=fun i=>by
 unfold zq;rw[Tr.get_putL]
 by_cases a:i<vs.length
 .obtain⟨u,u1,u2⟩:=k.at (Zg a)
  grind
 grind
theorem EW{f:Nat}{F:zd}(hF:E.funcs.get f=some F){args:LQ}(hn:args.length<=F.N){R:FE->LP->Prop}(hW:W E E.caught none F.body ⟨zq args,[],H⟩ (yG E F R)):FO E f args H false R:=fun B c h us D p=>by
 obtain⟨q,a,x,k,c',G,b,I,s,n⟩:=hW B c ⟨Tr.putL .nil 0 us,[],h⟩ none ⟨D,O2 p,trivial⟩ trivial;have g:∀(m:FM) (o:TM),LV E k.df m k.H (tH F k.tm R)->sE c' a.h m o->(∀N C,CW (EN E N) C F (some (q,a))=gJ (EN E N) F a.tm (yk (EN E N) C a.df o a.h)) ->
   ∃r h' e H' c'',Ev E (fun C _=>C.fn f us h=some (r,h'))/\R e H'/\Mo c c'' h h'/\HR B c'' H' h'/\RE (VR c'' h') e r/\(false=true->∀id x,c.ρ id=some x->h'.get x.1=h.get x.1):=fun m o J M y=>by
  obtain⟨j,h2,O,t,w,f1,f2,f3,f4,f5⟩:=sC J n.hr n.df M;have fin:∀r,(∀N,gJ (EN E N) F a.tm (some (j,h2))=some (r,h2))->Ev E (fun C _=>C.fn f us h=some (r,h2)):=fun r z=>by
   obtain⟨K,P⟩:=G;obtain⟨L,Q⟩:=f1;refine⟨max K L+1,fun N V d X=>?_⟩;obtain⟨d,rfl⟩:∃i,d=i+1:=⟨d-1,by omega⟩
   show zV (EN E N) (xy (EN E N) d) f us h=_;unfold zV;rw[show (EN E N).funcs.get f=some F from hF];dsimp only;rw[ux (by rw[<- p.1];exact hn)];dsimp only[cond_true];rw[show we (xy (EN E N) d) (EN E N).caught (EN E N).N none F.body ⟨Tr.putL .nil 0 us,[],h⟩=some (q,a)from P N zo d zo,y,DA,Q N zo d zo,z]
  cases O with
  | returning =>
   cases j with
   | panicking u=>exact f3.elim
   | returning =>
    obtain⟨vs,S,T⟩:=f2;obtain⟨A,w1,w2⟩:=Le f5 (n.tm.mono f4) S;refine⟨.ret (sk A),h2,.ret (ct vs),t,w,fin _ fun N=>?_,T,s.trans f4,f5,YJ w2,fun h=>by cases h⟩;show (match ap a.tm h2 F.res with
     | some vs=>some (TE.ret (sk vs),h2)
     | none=>none)=_
    rw[w1]
  | panicking v =>
   cases j with
   | returning=>exact f3.elim
   | panicking u=>exact⟨.panic u,h2,.panic v,t,w,fin _ fun N=>rfl,f2,s.trans f4,f5,f3,fun h=>by cases h⟩
 cases I with
 | norm=>exact g .returning .returning b trivial fun N C=>rfl
 | ret=>exact g .returning .returning b trivial fun N C=>rfl
 | panic U=>exact g (.panicking _) (.panicking _) b U fun N C=>rfl
 | exit id=>exact b.elim
 | goto l=>exact b.elim
def ve(H:LP)(lab:Nat):FE->FE->Prop
 | .ret v,.ret w=>ze H lab v w
 | .panic v,.panic w=>ze H lab v w
 | _,_=>False
def gh:FE->Prop
 | .ret v=>Lb v
 | .panic v=>Lb v
variable {F:zd}{args:LQ}
theorem Wb{b:Bool}(k:FO E f args [] b fun e' H=>ve H 0 e' e):FP E f args e:=fun S h us q s=>by
 have t:HR ⟨h.next,h,S⟩ ⟨S,fun _=>none,fun _=>False⟩ [] h:=⟨Zi _,fun _ _=>rfl,fun p b d=>.inl d,fun p b d=>⟨q p b d,fun id x a=>(by cases a)⟩,fun id x a=>(by cases a),fun id a=>a.elim,fun id z x A a=>(by cases a),fun id o u=>(by simp at u)⟩
 obtain⟨r,h',e',B,c',y,i,C,g,j,_⟩:=k _ _ h us t (LR.pure (c:=⟨S,fun _=>none,fun _=>False⟩) s);have n:∀b,b<h.next->h'.get b=h.get b:=fun b d=>g.keep b d;refine⟨r,h',y,g.le,n,?_⟩;have m:∀p b,c'.S p b->S1 S h.next h'.next p b:=fun p b d=>by
  rcases g.old p b d with h1|⟨h1,h2⟩
  .exact .inl h1
  .exact .inr ⟨h1,h2,(g.S p b d).1⟩
 have l:∀id x,c'.ρ id=some x->S1 S h.next h'.next 0 x.1:=fun id x a=>by
  obtain⟨h1,h2,_⟩:=g.own id x a;exact .inr ⟨rfl,h1,h2⟩
 cases e'<;>cases r<;>first|exact j.elim|skip
 .cases e with
  | panic v=>exact i.elim
  | ret w=>exact ze.ok g m l i j
 .cases e with
  | ret v=>exact i.elim
  | panic w=>exact ze.ok g m l i j
theorem FP.stays(k:FP E f args e)(hl:gh e):FN E f args e:=fun S h us g i=>by
 obtain⟨r,h',j,h1,h2,c⟩:=k S h us g i;refine⟨r,h',j,h1,h2,?_⟩;have d:∀b,S1 S h.next h'.next 0 b->S0 S h.next h'.next 0 b:=fun b a=>by
  rcases a with a|⟨_,a⟩
  .exact⟨rfl,.inl a⟩
  .exact⟨rfl,.inr a⟩
 cases e<;>cases r<;>first|exact c.elim|exact Lb.ok d c hl
theorem FN.FP(k:FN E f args e):FP E f args e:=fun S h us c d=>by
 obtain⟨r,h',g,h1,h2,i⟩:=k S h us c d;refine⟨r,h',g,h1,h2,i.mono fun v u j=>j.mono (fun p b a=>?_) fun _ _ _ _ _ _ _ l=>l⟩;obtain⟨rfl,a|a⟩:=a
 .exact .inl a
 .exact .inr ⟨rfl,a⟩
theorem FG(hF:E.funcs.get f=some F)(hn:args.length<=F.N)(hW:W E E.caught none F.body ⟨zq args,[],[]⟩ (yG E F fun e' H=>ve H 0 e' e)):FP E f args e:=Wb (EW hF hn hW)
theorem FF(hF:E.funcs.get f=some F)(hn:args.length<=F.N)(hl:gh e)(hW:W E E.caught none F.body ⟨zq args,[],[]⟩ (yG E F fun e' H=>ve H 0 e' e)):FN E f args e:=(FG hF hn hW).stays hl
variable {E:vZ}{caught:LD}
variable {f:TV->TV->Bool}
def uD:Nat->PV->Bool
 | 0,_=>false
 | n+1,v=>match v with
  | .bad=>false
  | .iface _ v=>uD n v
  | .fn _ l=>l.all (uD n)
  | .agg l=>l.all (uD n)
  | .tuple l=>l.all (uD n)
  | _=>true
theorem JY:∀l:LN,ki l l=true
 | []=>rfl
 | a::l=>by unfold ki;rw[wZ rfl];exact JY l
theorem R8(n:Int):ml n n=true:=by rw[kB];simp
theorem Aj:∀{l:LK},(∀x∈l,f x x=true)->di f l l=true
 | [],_=>rfl
 | a::l,h=>by unfold di;rw[h a (by simp)];exact Aj fun x b=>h x (Zo _ b)
theorem tD{R:PV->TV->Prop}{p:PV->Bool}(hR:∀v u,R v u->p v=true->f u u=true){l:LQ}{cs:LK}(k:LR R l cs)(hp:l.all p=true):∀x∈cs,f x x=true:=fun x c=>by
 obtain⟨i,b,rfl⟩:=ZP.1 c;have a:i<l.length:=by rw[k.1];exact b
 exact hR _ _ (k.2 i _ _ (Zg a) (Zg b)) (ZN.1 hp _ (ZV a))
theorem eh:∀{n:Nat} {v:PV} {u:TV},VR c h v u->uD n v=true->TV.beq n u u=true
 | 0,v,u,k,a=>by cases a
 | n+1,v,u,k,a=>by
  cases v with
  | bad=>exact k.bad_inv.elim
  | bool b=>obtain rfl:=k.bool_inv;cases b<;>rfl
  | int r m=>obtain rfl:=k.int_inv;simp only[TV.beq,Cw];rw[wZ rfl];exact R8 m
  | str s=>obtain rfl:=k.str_inv;exact JY s
  | nilptr=>cases k with|pure k=>cases k;rfl
  | nilsl=>cases k with|pure k=>cases k;rfl
  | nilmap=>cases k with|pure k=>cases k;rfl
  | nilfn=>cases k with|pure k=>cases k;rfl
  | niliface=>cases k with|pure k=>cases k;rfl
  | list p z l =>
   rcases aY k with⟨_,rfl⟩|⟨b,g,o,q,ds,rfl,_⟩
   .rfl
   .simp only[TV.beq,tg];simp_all
  | elem l =>
   obtain⟨p,b,g,o,ds,_,rfl,_⟩:=ei k;simp only[TV.beq,tf];simp_all
  | sl id g o m q z =>
   rcases sl_inv k with⟨_,_,_,_,rfl,_⟩|⟨b,d,j,_,_,rfl⟩
   .rfl
   .simp only[TV.beq,tg];simp_all
  | ptr id g i o m =>
   obtain⟨b,d,z,j,_,_,rfl⟩:=bh k;simp only[TV.beq,tf];simp_all
  | map id=>obtain⟨b,d,z,_,rfl⟩:=dk k;exact wZ rfl
  | yield id=>cases k with|pure k=>cases k|yield _=>exact wZ rfl
  | iface t w =>
   obtain⟨x,rfl,h1⟩:=k.iface_inv;simp only[TV.beq,Cv];rw[wZ rfl];exact eh h1 a
  | fn f l =>
   obtain⟨cs,rfl,h1⟩:=k.fn_inv;simp only[TV.beq,Cu];rw[wZ rfl];exact Aj (tD (R:=VR c h) (f:=TV.beq n) (p:=uD n) (fun v u k e=>eh k e) h1 a)
  | agg l =>
   obtain⟨cs,rfl,h1⟩:=k.agg_inv;exact Aj (tD (R:=VR c h) (f:=TV.beq n) (p:=uD n) (fun v u k e=>eh k e) h1 a)
  | tuple l =>
   obtain⟨cs,rfl,h1⟩:=k.tuple_inv;exact Aj (tD (R:=VR c h) (f:=TV.beq n) (p:=uD n) (fun v u k e=>eh k e) h1 a)
def qE(tm nm:Nat->PV):vQ->LO
 | .tmp t=>zC (tm t)
 | .new t=>zC (nm t)
 | .const u=>zX 4 u
 | .fn f=>some (.fn f [])
def qe(tm nm:Nat->PV):List vQ->Option (LQ)
 | []=>some []
 | x::l=>match qE tm nm x with
  | none=>none
  | some v=>match qe tm nm l with
   | none=>none
   | some vs=>some (v::vs)
def zZ(tm nm:Nat->PV):Option (vQ×Bool)->LS
 | none=>some true
 | some (x,b)=>qo b (qE tm nm x)
def be(c:Cx)(h:TH)(nm:Nat->PV)(t:LL):Prop:=∀i,(nm i=.bad/\t.get i=none)\/∃u,t.get i=some u/\VR c h (nm i) u
theorem be.mono{c':Cx}{h':TH}(m:Mo c c' h h'){nm:Nat->PV}{t:LL}(k:be c h nm t):be c' h' nm t:=fun i=>by
 rcases k i with k|⟨u,a,b⟩
 .grind
 .exact .inr ⟨u,a,b.mono m⟩
def yJ(a b:LL):Prop:=∀i u,a.get i=some u->b.get i=some u
section operands
variable {c:Cx}{h:TH}{tm nm:Nat->PV}{t n:LL}
theorem C0(k:yu c h tm t)(kn:be c h nm n){x:vQ}(hx:qE tm nm x=some v):∃u,(∀n',yJ n n'->nX t n' x=some u)/\VR c h v u:=by
 cases x with
 | tmp i =>
  obtain⟨h1,h2⟩:=Ea hx;rcases k i with h3|⟨u,a,b⟩
  .grind
  .exact⟨u,fun _ _=>a,by rw[<- h1];exact b⟩
 | new i =>
  obtain⟨h1,h2⟩:=Ea hx;rcases kn i with⟨h3,_⟩|⟨u,a,b⟩
  .grind
  .exact⟨u,fun n' d=>d _ _ a,by rw[<- h1];exact b⟩
 | const u=>exact⟨u,fun _ _=>rfl,fd hx⟩
 | fn f=>cases hx;exact⟨_,fun _ _=>rfl,VR.fnL LR.nil⟩
theorem oL(k:yu c h tm t)(kn:be c h nm n):∀{l:List vQ} {vs:LQ},qe tm nm l=some vs->∃us,(∀n',yJ n n'->py t n' l=some us)/\LR (VR c h) vs us
 | [],vs,a=>by cases a;exact⟨[],fun _ _=>rfl,LR.nil⟩
 | x::l,vs,a=>by
  unfold qe at a
  split at a
  .cases a
  .rename_i v hx
   split at a
   .cases a
   .rename_i ws hw
    cases a
    obtain⟨u,d,b⟩:=C0 k kn hx;obtain⟨us,w1,w2⟩:=oL k kn hw;refine⟨u::us,fun n' e=>?_,LR.cons b w2⟩;unfold py
    grind
theorem og(k:yu c h tm t)(kn:be c h nm n){g:Option (vQ×Bool)}{b:Bool}(hg:zZ tm nm g=some b):∀n',yJ n n'->pV t n' g=some b:=fun n' f=>by
 cases g with
 | none=>exact hg
 | some x =>
  obtain⟨x,a⟩:=x;change qo a (qE tm nm x)=some b at hg;unfold qo at hg
  split at hg
  .rename_i cc hx;obtain⟨u,e,d⟩:=C0 k kn hx;obtain rfl:=d.bool_inv;show bD a (nX t n' x)=some b;unfold bD
   grind
  .rename_i hx;obtain⟨u,e,d⟩:=C0 k kn hx;obtain⟨cs,rfl,_⟩:=d.tuple_inv;show bD a (nX t n' x)=some b;rw[e n' f];exact hg
  grind
end operands
structure DF where
 nm:Nat->PV
 df:AP
 H:LP
 K:List (vB×LN)
def dO(c:Cx)(h:TH)(t n:LL)(e:vB×LN):Prop :=
 ∀c' h' n' df',Mo c c' h h'->(∀id∈e.2,∀x,c.ρ id=some x->h'.get x.1=h.get x.1)->yJ n n'->br t ⟨n',df',h'⟩ e.1=true
structure aC(B:Ba)(c:Cx)(tm:Nat->PV)(t:LL)(s:DF)(d:DS):Prop where
 hr:HR B c s.H d.h
 tm:yu c d.h tm t
 nm:be c d.h s.nm d.nm
 df:eg c d.h s.df d.df
 K:∀e∈s.K,dO c d.h t d.nm e
theorem yJ.refl(a:LL):yJ a a:=fun _ _ h=>h
theorem dO.move{c':Cx}{h':TH}{t n n':LL}{e:vB×LN}(k:dO c h t n e)(m:Mo c c' h h')(hd:∀id∈e.2,∀x,c.ρ id=some x->h'.get x.1=h.get x.1)(hn:yJ n n'):dO c' h' t n' e :=
 fun j h2 l d o f g=>k j h2 l d (m.trans o) (fun id a x b=>by rw[f id a x (m.ρ _ _ b),hd id a x b]) fun i u p=>g _ _ (hn _ _ p)
def qy(k:zA)(vs:LQ):LN:=match k,vs with
 | .load ..,[.ptr id _ _ _ _]=>[id]
 | .look ..,[.map id,_]=>[id]
 | .len _,[.map id]=>[id]
 | .tostr,[.sl id _ _ _ _ _]=>[id]
 | _,_=>[]
theorem VY{kind:zA}{u:TV}(k:HR B c H h)(hv:LR (VR c h) vs us)(hf:qi H kind vs=some v)(hp:yb kind us h=some u){c':Cx}{h':TH}(m:Mo c c' h h')(hd:∀id∈qy kind vs,∀x,c.ρ id=some x->h'.get x.1=h.get x.1):yb kind us h'=some u:=by
 cases kind<;>first|exact hp|skip
 case tostr =>
  simp only[qi,qJ]at hf
  split at hf
  .rename_i x;obtain⟨y,j,rfl,h1,h2⟩:=hv.oc;obtain rfl:=h2.oN
   cases x<;>first|(simp[qv]at hf;done)|skip
   .obtain rfl:y=.nilsl:=by cases h1 with|pure h1=>cases h1;rfl
    exact hp
   .rename_i p z l;rcases aY h1 with⟨rfl,rfl⟩|⟨b,g,o,q,ds,rfl,s1,r,D,t⟩
    .exact hp
    .by_cases G:z=1
     .subst G;rw[Nat.mul_one]at r;simp only[yb,uN,cj]at hp⊢;rw[r]at hp;rw[m.rd _ _ s1 _ _ _ _ r];exact hp
     .simp only[yb,uN,cj]at hp;grind
   .rename_i id g o n q z;rcases sl_inv h1 with⟨rfl,rfl,rfl,rfl,rfl,_⟩|⟨b,d,w,s1,rfl,rfl⟩
    .exact hp
    .have a:=hd id (by simp[qy]) _ s1;dsimp only at a;have e:∀n,ue h' b w (o*z) n=ue h b w (o*z) n:=fun n=>by simp only[ue,a]
     simp only[yb,uN,cj]at hp⊢
     split at hp
     .rename_i s;cases s
     .rename_i s;injection s with s I J K L M;subst s I J K L M;rw[e];exact hp
     .cases hp
  grind
 case load agg n =>
  simp only[qi,zR]at hf
  split at hf
  .rename_i cs;obtain⟨y,j,rfl,h1,h2⟩:=hv.oc;obtain rfl:=h2.oN;obtain⟨p,b,g,o,ds,s1,rfl,r,D⟩:=ei h1;simp only[yb,uN,ag]at hp⊢
   split at hf
   .rename_i hn;have t:=lU r (k:=0) (m:=n) zo;rw[zBA9]at t;rw[t]at hp;rw[m.rd _ _ s1 _ _ _ _ t];exact hp
   .cases hf
  .rename_i id g i o mm;obtain⟨y,j,rfl,h1,h2⟩:=hv.oc;obtain rfl:=h2.oN;obtain⟨b,d,z,w,s1,rfl,rfl⟩:=bh h1;have a:=hd id (by simp[qy]) _ s1;dsimp only at a;simp only[yb,uN,ag,ue]at hp⊢;rw[a];exact hp
  .cases hf
 case look kf zero ok =>
  simp only[qi,qG]at hf
  split at hf
  .rename_i id kk x;obtain⟨y,j,rfl,h1,h2⟩:=hv.oc;obtain⟨C,A,rfl,h3,h4⟩:=h2.oc;obtain rfl:=h4.oN;obtain⟨b,d,z,s1,rfl⟩:=dk h1;have a:=hd id (by simp[qy]) _ s1;dsimp only at a;simp only[yb,uX,ci]at hp⊢;rw[a];exact hp
  .rename_i id x;obtain⟨y,j,rfl,h1,h2⟩:=hv.oc;obtain⟨C,A,rfl,h3,h4⟩:=h2.oc;obtain rfl:=h4.oN;obtain⟨b,d,z,s1,rfl⟩:=dk h1;have a:=hd id (by simp[qy]) _ s1;dsimp only at a;simp only[yb,uX,ci]at hp⊢;rw[a];exact hp
  .obtain⟨y,j,rfl,h1,h2⟩:=hv.oc;obtain⟨C,A,rfl,h3,h4⟩:=h2.oc;obtain rfl:=h4.oN;obtain rfl:y=.nilmap:=by cases h1 with|pure h1=>cases h1;rfl
   exact hp
  .cases hf
 case len f =>
  simp only[qi,qT]at hf
  split at hf
  .exact hp
  .exact hp
  .cases hf
def qa(nm:Nat->PV)(d:LA)(v:PV):Option (Nat->PV):=match d with
 | none=>some nm
 | some d=>match nm d with
  | .bad=>some (zb nm d v)
  | _=>none
theorem Bc{nm nm':Nat->PV}{n:LL}(k:be c h nm n){d:LA}{u:TV}(hv:VR c h v u)(hs:qa nm d v=some nm'):∃n',gt n d u=some n'/\yJ n n'/\be c h nm' n'/\(∀e,d=some e->n'.get e=some u):=by
 cases d with
 | none=>simp only[qa]at hs;cases hs;exact⟨n,rfl,yJ.refl _,k,fun e a=>by cases a⟩
 | some d =>
  simp only[qa]at hs
  split at hs
  .rename_i hb
   cases hs
   have g:n.get d=none:=by
    rcases k d with⟨_,h1⟩|⟨j,_,b⟩
    .exact h1
    .rw[hb]at b;exact b.bad_inv.elim
   refine⟨n.set d (some u),by unfold gt;grind,fun i w f=>?_,fun i=>?_,fun e a=>?_⟩
   .rw[Tr.get_set,if_neg (fun e=>by grind)];exact f
   .unfold zb;rw[Tr.get_set]
    by_cases e:i=d
    .grind
    .rw[if_neg e,if_neg e];exact k i
   .cases a;rw[Tr.get_set,if_pos rfl]
  grind
def qZ:za->Bool
 | .row _ _ _ _ l=>l.all fun v=>v.cells.all (uD 4)
 | .map0=>true
 | _=>false
def qP(tm:Nat->PV)(o:vB)(s:DF):Option DF :=
 match zZ tm s.nm o.guard with
 | none=>none
 | some false=>(match qa s.nm o.dst (.tuple [])with
  | some nm=>some ⟨nm,s.df,s.H,(o,[])::s.K⟩
  | none=>none)
 | some true=>match qe tm s.nm o.args with
  | none=>none
  | some vs=>match o.kind.cls with
   | 0=>(match qi s.H o.kind vs with
    | some v=>if o.dst.isSome=true/\uD 4 v=true then(match qa s.nm o.dst v with
     | some nm=>some ⟨nm,s.df,s.H,(o,qy o.kind vs)::s.K⟩
     | none=>none)else none
    | none=>none)
   | 1=>(match qm s.H.length o.kind vs with
    | some (ob,v)=>if o.dst.isSome=true/\qZ ob=true/\uD 4 v=true then(match qa s.nm o.dst v with
     | some nm=>some ⟨nm,s.df,s.H++[ob],(o,[s.H.length])::s.K⟩
     | none=>none)else none
    | none=>none)
   | _=>none
variable {d:Nat}{df:LZ}{n:LL}{o:vB}{tm:Nat->PV}
def qc(tm:Nat->PV):List vB->DF->Option DF
 | [],s=>some s
 | o::l,s=>match qP tm o s with
  | some s=>qc tm l s
  | none=>none
theorem MX{t:LL}:∀{n i:Nat},(∀j,i<=j->j<i+n->∃y,t.get j=some y/\TV.beq 4 y y=true)->oc i n t t=true
 | 0,_,_=>rfl
 | n+1,i,h=>by
  obtain⟨y,a,b⟩:=h i (Zi _) zo;unfold oc;rw[a];dsimp only;rw[b];exact MX fun j h1 h2=>h j zo zo
theorem Vi(k:HR B c H h){id z:Nat}{ob:za}(hH:H[id]?=some ob)(hd:qZ ob=true)(hρ:c.ρ id=some (b,d,z)){x:TO}(hx:h.get b=some x):lD x x=true:=by
 cases ob with
 | row e o G M l =>
  obtain⟨rfl,A,C,cells,cs,i,D,I,q,r⟩:=dF k hH hρ;rw[hx]at i;cases i
  simp only[lD,wZ rfl,cond_true];refine MX fun j _ a=>?_;rw[ZT]at a;obtain⟨t1,t2⟩:=Tr.getL_some q;have g:j<cs.length:=by rw[t1];exact a
  have t3:=t2 j a;rw[ZT,Zg g]at t3;refine⟨cs[j],t3.symm,?_⟩;have n:(l.flatMap PV.cells).all (uD 4)=true:=by
   rw[ZN];intro y s;obtain⟨w,w1,w2⟩:=ZF.1 s;exact ZN.1 (ZN.1 hd w w1) y w2
  exact tD (R:=VR c h) (f:=TV.beq 4) (p:=uD 4) (fun v u k t=>eh k t) r.all n _ (ZV g)
 | map0 =>
  obtain⟨J,K,o,clock,s1,m⟩:=k.obj _ _ hH;rw[hρ]at s1;injection s1 with s1;injection s1 with s1 _;subst s1;rw[hx]at m;cases m
  exact wZ rfl
 | _=>cases hd
theorem XJ{t:LL}{u:TV}(hw:pV t n o.guard=some true)(hd:o.dst=some d)(ha:py t n o.args=some us)(hn:n.get d=some u)(hc:o.kind.cls=0)(hp:yb o.kind us h=some u)(hb:TV.beq 4 u u=true):br t ⟨n,df,h⟩ o=true:=by
 unfold br;dsimp only;rw[hw];dsimp only;unfold BH;rw[hd];dsimp only;rw[ha];dsimp only;rw[hn];unfold BK;dsimp only;rw[hc]
 try dsimp only
 unfold BJ
 grind
theorem XI{t:LL}{x:yH}(hw:pV t n o.guard=some true)(hd:o.dst=some d)(ha:py t n o.args=some us)(hn:n.get d=some x.v)(hc:o.kind.cls=1)(hbl:nT x.v=some b)(hp:lay o.kind us b=some x)(hg:h.get b=some x.o)(hb:TV.beq 4 x.v x.v=true)(ho:lD x.o x.o=true):br t ⟨n,df,h⟩ o=true:=by
 unfold br;dsimp only;rw[hw];dsimp only;unfold BH;rw[hd];dsimp only;rw[ha];dsimp only;rw[hn];unfold BK;dsimp only;rw[hc]
 try dsimp only
 unfold BI
 grind
theorem C1{t:LL}{s s':DF}{d:DS}(k:aC B c tm t s d)(hs:qP tm o s=some s'):∃c' d',cY t o d=some d'/\Mo c c' d.h d'.h/\aC B c' tm t s' d':=by
 unfold qP at hs
 split at hs
 .cases hs
 .rename_i hw;have l:=og k.tm k.nm hw
  split at hs
  .rename_i nm' hn
   cases hs
   obtain⟨n,p,f,q,w⟩:=Bc k.nm (VR.tL LR.nil) hn;refine⟨c,⟨n,d.df,d.h⟩,?_,Mo.refl _ _,k.hr,k.tm,q,k.df,fun e a=>?_⟩
   .unfold cY;rw[l _ (yJ.refl _)];dsimp only;rw[p];rfl
   .rcases ZD.1 a with rfl|a
    .intro c2 h2 nn df2 m2 hd2 hn2;unfold br;dsimp only;rw[l nn fun i u g=>hn2 _ _ (f _ _ g)]
    .exact(k.K e a).move (Mo.refl _ _) (fun _ _ _ _=>rfl) f
  grind
 .rename_i hw;have l:=og k.tm k.nm hw
  split at hs
  .cases hs
  .rename_i vs hvs;obtain⟨us,A,I⟩:=oL k.tm k.nm hvs;have e0:cY t o d=oM t o d:=by unfold cY;rw[l _ (yJ.refl _)]
   split at hs
   .rename_i hcls
    split at hs
    .rename_i v hp
     split at hs
     .rename_i hc;obtain⟨C,D⟩:=hc;obtain⟨Q,m⟩:=Option.isSome_iff_exists.1 C
      split at hs
      .rename_i nm' hn
       cases hs
       obtain⟨u,r,j⟩:=Bm k.hr I hp;obtain⟨n,p,f,q,w⟩:=Bc k.nm j hn;refine⟨c,⟨n,d.df,d.h⟩,?_,Mo.refl _ _,k.hr,k.tm,q,k.df,fun e a=>?_⟩
       .rw[e0];simp only[oM,A _ (yJ.refl _),hcls,r,C5,p];rfl
       .rcases ZD.1 a with rfl|a
        .intro c2 h2 nn df2 m2 hd2 hn2;exact XJ (l nn fun i u g=>hn2 _ _ (f _ _ g)) m (A nn fun i u g=>hn2 _ _ (f _ _ g)) (hn2 _ _ (w _ m)) hcls (VY k.hr I hp r m2 hd2) (eh j D)
        .exact(k.K e a).move (Mo.refl _ _) (fun _ _ _ _=>rfl) f
      grind
     grind
    grind
   .rename_i hcls
    split at hs
    .rename_i ob v hp
     split at hs
     .rename_i hc;obtain⟨C,D,P⟩:=hc;obtain⟨Q,m⟩:=Option.isSome_iff_exists.1 C
      split at hs
      .rename_i nm' hn
       cases hs
       obtain⟨x,c',r,j,L,M,⟨z,N⟩,R⟩:=Ag k.hr I hp;obtain⟨n,p,f,q,w⟩:=Bc (k.nm.mono j) M hn;have O:∀b,b<d.h.next->(d.h.push x.o).get b=d.h.get b:=fun b T=>by rw[TH.gP,if_neg zo]
       have J:(d.h.push x.o).get d.h.next=some x.o:=by rw[TH.gP,if_pos rfl]
       refine⟨c',⟨n,d.df,d.h.push x.o⟩,?_,j,L,k.tm.mono j,q,k.df.mono j,fun e a=>?_⟩
       .rw[e0];unfold oM;rw[A _ (yJ.refl _)];dsimp only;rw[hcls];(try dsimp only);rw[r];unfold C4;dsimp only;rw[p];rfl
       .rcases ZD.1 a with rfl|a
        .intro c2 h2 nn df2 m2 hd2 hn2;have G:=hd2 s.H.length (by simp) _ N;dsimp only at G;rw[J]at G;exact XI (l nn fun i u g=>hn2 _ _ (f _ _ g)) m (A nn fun i u g=>hn2 _ _ (f _ _ g)) (hn2 _ _ (w _ m)) hcls R r G (eh M P) (Vi L (List.getElem?_concat_length ..) D N J)
        .exact(k.K e a).move j (fun id _ y S=>O _ (k.hr.own _ _ S).2.1) f
      grind
     grind
    grind
   grind
theorem bQ{t:LL}:∀{ops:List vB} {c:Cx} {s s':DF} {d:DS},aC B c tm t s d->qc tm ops s=some s'->∃c' d',aT t ops d=some d'/\Mo c c' d.h d'.h/\aC B c' tm t s' d'
 | [],c,s,s',d,k,a=>by cases a;exact⟨c,d,rfl,Mo.refl _ _,k⟩
 | o::l,c,s,s',d,k,a=>by
  unfold qc at a
  split at a
  .rename_i s1 h1;obtain⟨j,d1,m,b,e⟩:=C1 k h1;obtain⟨f,d2,n,g,i⟩:=bQ e a;exact⟨f,d2,by unfold aT;grind,b.trans g,i⟩
  grind
def qF:List (vB×LN)->vB->Prop
 | [],_=>False
 | e::K,o=>if e.1.dst=o.dst then e.1=o else qF K o
def zL(K:List (vB×LN)):List vB->Prop
 | []=>True
 | o::l=>qF K o/\zL K l
theorem IE:∀{K:List (vB×LN)} {o:vB},qF K o->∃e∈K,e.1=o
 | [],_,h=>h.elim
 | e::K,o,h=>by
  unfold qF at h
  split at h
  .grind
  .obtain⟨e',h1,h2⟩:=IE h;grind
theorem fT{t:LL}{s:DF}{d:DS}(k:aC B c tm t s d):∀{l:List vB},zL s.K l->dZ t d l=true
 | [],_=>rfl
 | o::l,h=>by
  obtain⟨e,a,rfl⟩:=IE h.1;unfold dZ;rw[k.K e a c d.h d.nm d.df (Mo.refl _ _) (fun _ _ _ _=>rfl) (yJ.refl _)];exact fT k h.2
def qA(W:LN)(K:List (vB×LN)):List (vB×LN):=K.filter fun e=>e.2.all fun id=>!W.contains id
def WD(E:vZ)(caught:LD)(tm:Nat->PV)(gs:List yc)(s:DF)(Q:FX->DF->Prop):Prop :=
 ∀B c t d,aC B c tm t s d->∃r x s' c' d',Ev E (fun C _=>km C caught t gs d=some r)/\Q x s'/\Mo c c' d.h d'.h/\aC B c' tm t s' d'/\((x=.norm/\r=.go d')\/∃v u,x=.panic v/\r=.panic u d'.df d'.h/\VR c' d'.h v u)
variable {tm:Nat->PV}{s:DF}{Q:FX->DF->Prop}
variable {g:yc}{l:List yc}{nm':Nat->PV}{s1:DF}
theorem wY(h:Q .norm s):WD E caught tm [] s Q:=fun B c t d k=>⟨.go d,.norm,s,c,d,Ev.all fun _ _=>rfl,h,Mo.refl _ _,k,.inl ⟨rfl,rfl⟩⟩
theorem aC.dput{c':Cx}{t:LL}{d:DS}(k:aC B c tm t s d){H':LP}{h':TH}{K':List (vB×LN)}(m:Mo c c' d.h h')(hr:HR B c' H' h'){u:TV}(hv:VR c' h' v u){dst:LA}(hn:qa s.nm dst v=some nm')(hK:∀n',yJ d.nm n'->∀e∈K',dO c' h' t n' e):∃n',gt d.nm dst u=some n'/\aC B c' tm t ⟨nm',s.df,H',K'⟩ ⟨n',d.df,h'⟩:=by
 obtain⟨n',a,b,f,g⟩:=Bc (k.nm.mono m) hv hn;exact⟨n',a,hr,k.tm.mono m,f,k.df.mono m,hK n' b⟩
theorem FV(hc:zL s.K g.chk)(hx:qc tm g.exe s=some s1)(ha:g.act=none)(k:WD E caught tm l s1 Q):WD E caught tm (g::l) s Q:=fun B c t d a=>by
 obtain⟨b,d1,f,h,i⟩:=bQ a hx;obtain⟨r,x,j,c',m,n,o,p,q,h2⟩:=k B b t d1 i;refine⟨r,x,j,c',m,n.mono fun C N e=>?_,o,h.trans p,q,h2⟩;unfold km;rw[fT a hc,f]
 grind
theorem N3{a:AR}(hc:zL s.K g.chk)(hx:qc tm g.exe s=some s1)(ha:g.act=some o)(hw:zZ tm s1.nm o.guard=some true)(hv:qe tm s1.nm o.args=some vs)(hf:qt s1.H o.kind vs=some a)(hn:qa s1.nm o.dst a.v=some nm')(k:WD E caught tm l ⟨nm',s1.df,a.H,qA a.W s1.K⟩ Q):WD E caught tm (g::l) s Q:=fun B c t d i=>by
 obtain⟨Y,d1,p,q,b⟩:=bQ i hx;obtain⟨us,w,z⟩:=oL b.tm b.nm hv;have m:=og b.tm b.nm hw _ (yJ.refl _);obtain⟨u,h',A,D,f⟩:=sY (C:=⟨fun _ _ _=>none,fun _ _ _=>none⟩) (caught:=caught) b.hr z hf;have j:∀C,act C caught o.kind us d1.h=some (.ok u h'):=fun C=>by
  rw[<- D];unfold qt at hf
  split at hf
  .rename_i e;rw[e];rfl
  .rename_i e;rw[e];rfl
  .rename_i e;rw[e];rfl
  .rename_i e;rw[e];rfl
  .rename_i e;rw[e];rfl
  grind
 obtain⟨G,I,J⟩:=b.dput (K':=qA a.W s1.K) f.mo f.hr f.v hn fun G L e M=>by
  obtain⟨n,X⟩:=zAU9.1 M;refine(b.K e n).move f.mo (fun id Z y O=>f.W id (fun hW=>?_) y O) L
  grind
 obtain⟨r,x,P,c',R,S,T,U,V,h2⟩:=k B A t _ J;refine⟨r,x,P,c',R,S.mono fun C N e=>?_,T,(q.trans f.mo).trans U,V,h2⟩;unfold km;rw[fT i hc,p];dsimp only[cond_true];rw[ha];dsimp only;unfold cO;rw[m];dsimp only;rw[w _ (yJ.refl _)];dsimp only;rw[j C];simp only[cP,Tw.dput,I,aM];exact e
theorem nO(hc:zL s.K g.chk)(hx:qc tm g.exe s=some s1)(ha:g.act=some o)(hw:zZ tm s1.nm o.guard=some false)(hn:qa s1.nm o.dst (.tuple [])=some nm')(k:WD E caught tm l ⟨nm',s1.df,s1.H,s1.K⟩ Q):WD E caught tm (g::l) s Q:=fun B c t d b=>by
 obtain⟨h,d1,i,j,a⟩:=bQ b hx;have f:=og a.tm a.nm hw _ (yJ.refl _);obtain⟨m,n,p⟩:=a.dput (K':=s1.K) (Mo.refl _ _) a.hr (VR.tL LR.nil) hn fun m q e u=>(a.K e u).move (Mo.refl _ _) (fun _ _ _ _=>rfl) q;obtain⟨r,x,v,c',w,y,z,A,D,h2⟩:=k B h t _ p;refine⟨r,x,v,c',w,y.mono fun C N e=>?_,z,j.trans A,D,h2⟩;unfold km;rw[fT b hc,i];dsimp only[cond_true];rw[ha];dsimp only;unfold cO;rw[f];simp only[Tw.dput,n,aM];exact e
def ql(same:Bool)(K:List (vB×LN)):List (vB×LN):=if same then K else K.filter fun e=>e.2.isEmpty
def sZ(E:vZ)(caught:LD)(tm:Nat->PV)(l:List yc)(s:DF)(dst:LA)(same:Bool)(Q:FX->DF->Prop):FE->LP->Prop
 | .ret v,H'=>∃nm',qa s.nm dst v=some nm'/\WD E caught tm l ⟨nm',s.df,H',ql same s.K⟩ Q
 | .panic v,H'=>Q (.panic v) ⟨s.nm,s.df,H',ql same s.K⟩
theorem sM{g:yc}{l:List yc}{s1:DF}{o:vB}{f:Nat}{caps:LQ}{same:Bool}(hc:zL s.K g.chk)(hx:qc tm g.exe s=some s1)(ha:g.act=some o)(hk:o.kind=.call)(hw:zZ tm s1.nm o.guard=some true)(hv:qe tm s1.nm o.args=some (.fn f caps::vs))(k:FO E f (vs++caps) s1.H same (sZ E caught tm l s1 o.dst same Q)):WD E caught tm (g::l) s Q:=fun B c t d D=>by
 obtain⟨P,d1,R,G,i⟩:=bQ D hx;obtain⟨us,S,T⟩:=oL i.tm i.nm hv;obtain⟨u,L,rfl,U,V⟩:=T.oc;obtain⟨cs,rfl,X⟩:=U.fn_inv;have M:=og i.tm i.nm hw _ (yJ.refl _);obtain⟨r,h',e,Y,w,f1,m,j,z,n,O⟩:=k B P d1.h _ i.hr (V.app X);have I:∀p,yJ d1.nm p->∀e∈ql same s1.K,dO w h' t p e:=fun p J e q=>by
  unfold ql at q
  split at q
  .rename_i hs;exact(i.K e q).move j (fun id _ y Z=>O hs id y Z) J
  .obtain⟨he1,he2⟩:=zAU9.1 q;refine(i.K e he1).move j (fun id hi=>?_) J
   grind
 have A:∀C,C.fn f (L++cs) d1.h=some (r,h')->km C caught t (g::l) d=(match cP o.dst d1 (ib (some (r,h')))with
   | some (.go s)=>km C caught t l s
   | r=>r):=fun C hC=>by
  conv=>lhs;unfold km
  rw[fT D hc,R];dsimp only[cond_true];rw[ha];dsimp only;unfold cO;rw[M];dsimp only;rw[S _ (yJ.refl _)];dsimp only;rw[hk];simp only[act,fN]
  grind
 cases e with
 | ret v =>
  cases r with
  | panic u=>exact n.elim
  | ret u =>
   obtain⟨nm',hn,m⟩:=m;obtain⟨p,n1,k2⟩:=i.dput (K':=ql same s1.K) j z (v:=v) (u:=u) n hn I;obtain⟨r2,x,s',c',d',e2,q2,m3,k3,h2⟩:=m B w t _ k2;refine⟨r2,x,s',c',d',Ev.and2 (fun C N a b=>?_) f1 e2,q2,(G.trans j).trans m3,k3,h2⟩;rw[A C a];simp only[ib,cP,Tw.dput,n1,aM];exact b
 | panic v =>
  cases r with
  | ret u=>exact n.elim
  | panic u =>
   refine⟨.panic u d1.df h',.panic v,⟨s1.nm,s1.df,Y,ql same s1.K⟩,w,⟨d1.nm,d1.df,h'⟩,f1.mono fun C N a=>?_,m,G.trans j,⟨z,i.tm.mono j,i.nm.mono j,i.df.mono j,I _ (yJ.refl _)⟩,.inr ⟨v,u,rfl,rfl,n⟩⟩;rw[A C a];rfl
def qC(nm:Nat->PV):LN->(Nat->PV)->(Nat->PV)
 | [],tm=>tm
 | d::l,tm=>qC nm l (zb tm d (nm d))
def tS:LN->(Nat->PV)->(Nat->PV)
 | [],tm=>tm
 | d::l,tm=>tS l (zb tm d .bad)
theorem ML{nm:Nat->PV}{n:LL}(kn:be c h nm n):∀{ds:LN} {tm:Nat->PV} {t:LL},yu c h tm t->yu c h (qC nm ds tm) (fw n ds t)
 | [],_,_,k=>k
 | d::l,tm,t,k=>by
  unfold qC fw;refine ML kn fun i=>?_;unfold zb;rw[Tr.get_set]
  by_cases e:i=d
  .rw[if_pos e,if_pos e];rcases kn d with⟨h1,_⟩|h1
   all_goals grind
  .rw[if_neg e,if_neg e];exact k i
theorem Il:∀{ds:LN} {tm:Nat->PV} {t:LL},yu c h tm t->yu c h (tS ds tm) (ew ds t)
 | [],_,_,k=>k
 | d::l,tm,t,k=>by
  unfold tS ew;refine Il fun i=>?_;unfold zb;rw[Tr.get_set]
  by_cases e:i=d
  .grind
  .rw[if_neg e,if_neg e];exact k i
@[reducible] def jc (ds:LN) (tm:Nat->PV) (Q:FX->vn->Prop):FX->DF->Prop
 | .norm,s=>Q .norm ⟨qC s.nm ds tm,s.df,s.H⟩
 | x,s=>Q x ⟨tS ds tm,s.df,s.H⟩
theorem wV{gs:List yc}{ds:LN}{s:vn}{Q:FX->vn->Prop}(k:WD E caught s.tm gs ⟨fun _=>.bad,s.df,s.H,[]⟩ (jc ds s.tm Q)):W E caught rnd (.drawn gs ds) s Q:=fun B c t n d o=>by
 obtain⟨r,x,p,c',b,f,g,j,a,h2⟩:=k B c t.tm ⟨.nil,t.df,t.h⟩ ⟨d.hr,d.tm,fun i=>.inl ⟨rfl,Tr.get_nil i⟩,d.df,fun e l=>by cases l⟩;rcases h2 with⟨rfl,rfl⟩|⟨v,u,rfl,rfl,m⟩
 .exact⟨.norm,⟨fw b.nm ds t.tm,b.df,b.h⟩,.norm,_,c',f.mono fun C N e=>by unfold we;rw[e];rfl,g,.norm,j,⟨a.hr,ML a.nm a.tm,a.df⟩⟩
 .exact⟨.panic u,⟨ew ds t.tm,b.df,b.h⟩,.panic v,_,c',f.mono fun C N e=>by unfold we;rw[e];rfl,g,.panic m,j,⟨a.hr,Il a.tm,a.df⟩⟩
def FY(E:vZ)(id:Nat)(args:LQ)(H:LP)(Q:Bool->LP->Prop):Prop :=
 ∀B c h us b d z,HR B c H h->c.ρ id=some (b,d,z)->LR (VR c h) args us->∃r h' H' c',Ev E (fun C _=>C.rd b us h=some (r,h'))/\Q r H'/\Mo c c' h h'/\HR B c' H' h'
theorem Nn{u:TV}(x:VR c h (.yield id) u):∃b d z,c.ρ id=some (b,d,z)/\u=.yield b:=by
 cases x with
 | pure x=>cases x
 | yield h=>grind
theorem FZ{d:LA}{args:List vQ}{g:Option (vQ×Bool)}{ops:List vB}{s:vn}{Q:FX->vn->Prop}(hg:qb s.tm g=some true)(ha:zY s.tm args=some (.yield id::vs))(k:FY E id vs s.H fun r H'=>WO E caught ops (vn.put ⟨s.tm,s.df,H'⟩ d (.bool r)) Q):WO E caught (⟨d,.call,args,g⟩::ops) s Q:=fun B c t e=>by
 have j:=bE e.tm hg;obtain⟨us,l,m⟩:=ic e.tm ha;obtain⟨u,K,rfl,n,o⟩:=m.oc;obtain⟨b,L,z,p,rfl⟩:=Nn n;obtain⟨r,h',H',c',q,v,f,w⟩:=k B c t.h _ _ _ _ e.hr p o;obtain⟨y,x,A,D,t2,G,I,i,J,h2⟩:=v B c' ((⟨t.tm,t.df,h'⟩:St).put d (.bool r)) (e.put f w (.pure (.bool r)) d);rw[put_h]at i;refine⟨y,x,A,D,t2,Ev.and2 (fun C N a b=>?_) q G,I,f.trans i,J,h2⟩;unfold kJ pT;rw[j,l];simp only[nW,zA.cls,act,fN];rw[a];exact b
theorem FW{g:yc}{l:List yc}{s1:DF}{o:vB}(hc:zL s.K g.chk)(hx:qc tm g.exe s=some s1)(ha:g.act=some o)(hk:o.kind=.call)(hw:zZ tm s1.nm o.guard=some true)(hv:qe tm s1.nm o.args=some (.yield id::vs))(k:FY E id vs s1.H fun r H'=>∃nm',qa s1.nm o.dst (.bool r)=some nm'/\WD E caught tm l ⟨nm',s1.df,H',ql false s1.K⟩ Q):WD E caught tm (g::l) s Q:=fun B c t d m=>by
 obtain⟨A,d1,D,G,f⟩:=bQ m hx;obtain⟨us,I,J⟩:=oL f.tm f.nm hv;obtain⟨u,ab,rfl,L,M⟩:=J.oc;obtain⟨b,n,z,O,rfl⟩:=Nn L;have q:=og f.tm f.nm hw _ (yJ.refl _);obtain⟨r,h',H',p,f1,⟨nm',P,R⟩,j,w⟩:=k B A d1.h _ _ _ _ f.hr O M;have S:∀i,yJ d1.nm i->∀e∈ql false s1.K,dO p h' t i e:=fun i T e U=>by
  obtain⟨y,ad⟩:=zAU9.1 (show e∈s1.K.filter _ from U);refine(f.K e y).move j (fun id hi=>?_) T
  grind
 obtain⟨i,V,X⟩:=f.dput (K':=ql false s1.K) j w (v:=.bool r) (u:=.bool r) (.pure (.bool r)) P S;obtain⟨Y,x,Z,c',n,e2,q2,m3,k3,h2⟩:=R B p t _ X;refine⟨Y,x,Z,c',n,Ev.and2 (fun C N a b=>?_) f1 e2,q2,(G.trans j).trans m3,k3,h2⟩;unfold km;rw[fT m hc,D];dsimp only[cond_true];rw[ha];dsimp only;unfold cO;rw[q];dsimp only;rw[I _ (yJ.refl _)];dsimp only;rw[hk];simp only[act,fN];rw[a];simp only[Fx,cP,Tw.dput,V,aM];exact b
def qH:LN->LQ->(Nat->PV)->(Nat->PV)
 | p::ps,v::vs,t=>qH ps vs (zb t p v)
 | _,_,t=>t
theorem Mf:∀{ps:LN} {vs:LQ} {us:LK} {tm:Nat->PV} {t:LL},LR (VR c h) vs us->yu c h tm t->yu c h (qH ps vs tm) (cp ps us t)
 | [],vs,us,tm,t,a,k=>by cases vs<;>cases us<;>exact k
 | p::ps,[],us,tm,t,a,k=>by obtain rfl:=a.oN;exact k
 | p::ps,v::vs,us,tm,t,a,k=>by
  obtain⟨u,b,rfl,h1,h2⟩:=a.oc;show yu c h (qH ps vs (zb tm p v)) (cp ps b (t.set p (some u)));exact Mf h2 (k.put h1)
def Qz(id:Nat)(Q:Bool->LP->Prop):FX->vn->Prop
 | .norm,s=>s.df=[]/\∃st pe tm ps aS bo m,s.H[id]?=some (.loop st pe tm ps aS bo m)/\Q true (s.H.set id (.loop .ready .norm tm ps aS bo m))
 | .panic _,_=>False
 | x,s=>s.df=[]/\∃st pe tm ps aS bo m,s.H[id]?=some (.loop st pe tm ps aS bo m)/\Q false (s.H.set id (.loop .done x tm ps aS bo m))
variable {bo:vP}{m:Nat}{pe:FX}{ps:LN}{st:LoopState}
theorem Av(k:HR B c H h){aS:vP}(hH:H[id]?=some (.loop st pe tm ps aS bo m))(hρ:c.ρ id=some (b,d,z)):
  ∃bm dm zm t pe',c.ρ m=some (bm,dm,zm)/\h.get b=some (.loop st pe' t ps aS bo bm)/\yu c h tm t/\XR c h pe pe':=by
 obtain⟨a,e,f,bm,dm,zm,t,pe',h1,h2⟩:=k.obj _ _ hH
 grind
theorem E5(k:HR B c H h){bm dm zm:Nat}(hρ:c.ρ id=some (b,d,z))(hv:¬H[id]?=some .void)(hm:c.ρ m=some (bm,dm,zm)){pe':TX}{t:LL}{aS:vP}(ht:yu c h tm t)(hp:XR c h pe pe'):
  Mo c c h (h.set b (.loop st pe' t ps aS bo bm))/\HR B c (H.set id (.loop st pe tm ps aS bo m)) (h.set b (.loop st pe' t ps aS bo bm)) :=
 k.set hρ hv fun a=>⟨b,d,z,bm,dm,zm,t,pe',hρ,hm,by rw[TH.get_set _ _ _ _ (k.own _ _ hρ).2.1,if_pos rfl],ht.mono a,hp.mono a⟩
theorem FC(E:vZ)(N:Nat):(EN E N).N=N:=rfl
theorem sy{aS:vP}{args:LQ}{Q:Bool->LP->Prop}(hH:H[id]?=some (.loop st pe tm ps aS bo m))(hl:ps.length=args.length)(kW:W E .nil (some id) aS ⟨qH ps args tm,[],H⟩ fun x s1=>x=.norm/\∃pe1 ar ps1 as1 bo1 m1,s1.H[id]?=some (.loop .ready pe1 ar ps1 as1 bo1 m1) /\
   W E .nil (some id) bo ⟨s1.tm,s1.df,s1.H.set id (.loop .busy pe1 ar ps1 as1 bo1 m1)⟩ (Qz id Q)):FY E id args H Q:=fun B c h us b d z S A T=>by
 obtain⟨bm,dm,zm,t,bb,hm,hg,ht,hp⟩:=Av S hH A;obtain⟨D,t1,x,s1,c1,e1,⟨rfl,pe1,ar,ps1,as1,bo1,m1,X,Y⟩,G,O,u⟩:=kW B c ⟨cp ps us t,[],h⟩ (some b) ⟨S,Mf T ht,trivial⟩ ⟨d,z,A⟩
 cases G
 have o:=O.ρ _ _ A;obtain⟨Z,bp,bs,ab,V,ye,ad,ah,av⟩:=Av u.hr X o;obtain⟨w,a0⟩:=E5 u.hr (st:=.busy) (ps:=ps1) (aS:=as1) (bo:=bo1) o (fun e=>by grind) ye ah av;obtain⟨D,t3,x,I,U,e3,f,G,P,J⟩:=Y B c1 ⟨t1.tm,t1.df,t1.h.set b (.loop .busy V ab ps1 as1 bo1 Z)⟩ (some b) ⟨a0,u.tm.mono w,u.df.mono w⟩ ⟨d,z,o⟩;have R:=P.ρ _ _ o;have a1:∀r h',BC b (some (D,t3))=some (r,h')->Ev E (fun C _=>C.rd b us h=some (r,h')):=fun r h' a2=>by
  obtain⟨K,hK⟩:=e1;obtain⟨L,hL⟩:=e3;refine⟨max K L+1,fun N hN d hd=>?_⟩;obtain⟨d,rfl⟩:∃i,d=i+1:=⟨d-1,by omega⟩
  show lZ (EN E N) (xy (EN E N) d) b us h=_;unfold lZ;rw[hg];dsimp only;unfold EQ;dsimp only;rw[wZ (by rw[<- T.1];exact hl)];dsimp only[cond_true];rw[FC,hK N zo d zo];unfold DP;dsimp only;rw[ad];dsimp only;unfold Cr;dsimp only;rw[FC,hL N zo d zo];exact a2
 have fin:∀(r:Bool) (st:LoopState) (y:FX) (v:TX),XR U t3.h y v->I.df=[]->(∀p s tt2 g k n bm2,Dt D t3.h b (.loop p s tt2 g k n bm2)=some (r,t3.h.set b (.loop st v tt2 g k n bm2))) ->
   (∃p s yW g k n M,I.H[id]?=some (.loop p s yW g k n M)/\Q r (I.H.set id (.loop st y yW g k n M))) ->
   ∃r h' H' c',Ev E (fun C _=>C.rd b us h=some (r,h'))/\Q r H'/\Mo c c' h h'/\HR B c' H' h':=fun r st y v a3 a4 hj ⟨p,s,yW,g,k,n,M,a5,q⟩=>by
  obtain⟨bw,bx,b0,b1,a9,bW,b2,a6,b3⟩:=Av J.hr a5 R;obtain⟨a7,a8⟩:=E5 J.hr (st:=st) (ps:=g) (aS:=k) (bo:=n) R (fun e=>by grind) bW a6 a3;have b4:t3.df=[]:=by
   have:=J.df;rw[a4]at this
   cases h0:t3.df with
   | nil=>rfl
   | cons a l=>rw[h0]at this;exact this.elim
  refine⟨r,_,_,U,a1 r _ ?_,q,((O.trans w).trans P).trans a7,a8⟩;unfold BC
  grind
 cases G with
 | norm=>exact fin true .ready .norm .norm .norm f.1 (fun _ _ _ _ _ _ _=>rfl) f.2
 | exit j=>exact fin false .done (.exit j) (.exit j) (.exit j) f.1 (fun _ _ _ _ _ _ _=>rfl) f.2
 | goto j=>exact fin false .done (.goto j) (.goto j) (.goto j) f.1 (fun _ _ _ _ _ _ _=>rfl) f.2
 | ret=>exact fin false .done .ret .ret .ret f.1 (fun _ _ _ _ _ _ _=>rfl) f.2
 | panic hv=>exact f.elim
theorem sS{f:vQ}{aS:vP}{s:vn}{Q:FX->vn->Prop}{g:Nat}{cap:LQ}{b:Bool}(hf:ev s.tm f=some (.fn g cap))(k:FO E g (.yield (s.H.length+1)::cap) (s.H++[.dfr false]++[.loop .ready .norm s.tm ps aS bo s.H.length]) b fun e H'=>(∃v,e=.ret v)/\∃st pe tm ps aS bo m,st ≠ .busy/\H'[s.H.length+1]?=some (.loop st pe tm ps aS bo m)/\Q pe ⟨s.tm,.mark s.H.length::s.df,H'.set (s.H.length+1) (.loop .exhausted pe tm ps aS bo m)⟩):
  W E caught none (.rangef f ps aS bo) s Q:=fun B c t p d S=>by
 obtain rfl:p=none:=by cases p with|none=>rfl|some x=>exact S.elim
 obtain⟨u,T,U⟩:=ek d.tm hf;obtain⟨cs,rfl,V⟩:=U.fn_inv;obtain⟨l,X⟩:=d.hr.push (o:=.dfr false) (x:=.dfr false) (z:=0) fun m=>⟨t.h.next,0,0,add_same ..,by rw[TH.gP,if_pos rfl]⟩
 have q:(s.H++[za.dfr false]).length=s.H.length+1:=by simp
 obtain⟨i,J⟩:=X.push (o:=.loop .ready .norm s.tm ps aS bo s.H.length) (x:=.loop .ready .norm t.tm ps aS bo t.h.next) (z:=0) fun m=>by
  rw[q]at m⊢;refine⟨(t.h.push (.dfr false)).next,0,0,t.h.next,0,0,t.tm,.norm,add_same ..,?_,by rw[TH.gP,if_pos rfl],(d.tm.mono l).mono m,.norm⟩;exact m.ρ _ _ (add_same ..)
 rw[q]at i J;have O:((c.add s.H.length t.h.next 0 0).add (s.H.length+1) (t.h.push (.dfr false)).next 0 0).ρ s.H.length=some (t.h.next,0,0):=i.ρ _ _ (add_same ..);have w:((c.add s.H.length t.h.next 0 0).add (s.H.length+1) (t.h.push (.dfr false)).next 0 0).ρ (s.H.length+1)=some (t.h.next+1,0,0):=add_same ..;obtain⟨r,h',e,H',c',Y,⟨⟨v,rfl⟩,st,pe,tm,y,A,D,m',P,R,Z⟩,n,K,re,_⟩:=k B _ _ (.yield (t.h.next+1)::cs) J (LR.cons (.yield w) ((V.mono fun _ _=>VR.mono l).mono fun _ _=>VR.mono i))
 cases r with
 | panic u=>exact re.elim
 | ret u =>
  have G:=n.ρ _ _ w;obtain⟨bm,dm,zm,tt,I,hm,hg,ht,L⟩:=Av K R G;obtain⟨M,k4⟩:=E5 K (st:=.exhausted) (ps:=y) (aS:=A) (bo:=D) G (fun e=>by grind) hm ht L;have j:=((l.trans i).trans n).trans M;refine⟨I,⟨t.tm,.mark t.h.next::t.df,h'.set (t.h.next+1) (.loop .exhausted I tt y A D bm)⟩,pe,_,c',Y.mono fun C N a=>?_,Z,L.mono M,j,⟨k4,d.tm.mono j,⟨⟨0,0,n.ρ _ _ O⟩,d.df.mono j⟩⟩⟩;unfold we;rw[T];simp only[Br,se];have a:C.fn g (.yield (t.h.next+1)::cs) ((t.h.push (.dfr false)).push (.loop .ready .norm t.tm ps aS bo t.h.next))=some (.ret u,h'):=a;rw[a];simp only[Ci];rw[hg];simp only[Kn]
  all_goals (cases st<;>first|rfl|exact absurd rfl P)
inductive CI(w:World):PV->Value->Prop
 | bool (b:Bool):CI w (.bool b) (.bool b)
 | int (k:IntKind) (n:Int):CI w (.int k n) (.int k n)
 | str (s:ByteArray):CI w (.str (s.data.toList.map (·.toNat))) (.string s)
 | nilsl (p z:Nat):CI w (.list p z []) (.slice none 0 0)
 | list {p z:Nat} {l:LQ} {r off c:Nat} {cs:LE}:r<w.heap.size->l.length<=c->c<=maxLen->(∀v∈l,v.cells.length=z)->(l.flatMap PV.cells).length=cs.length ->
   (∀(i:Nat) (x:PV) (y:Value),(l.flatMap PV.cells)[i]?=some x->cs[i]?=some y->CI w x y)->(∀(j:Nat) v,cs[j]?=some v->w.cell? ⟨r,off+j,none⟩=some v)->(∀x∈l.flatMap PV.cells,qd x=true)->CI w (.list p z l) (.slice (some ⟨r,off,none⟩) l.length c)
 | agg {l:LQ} {cs:LE}:l.length=cs.length->(∀(i:Nat) (x:PV) (y:Value),l[i]?=some x->cs[i]?=some y->CI w x y)->(∀x∈l,qd x=true)->CI w (.agg l) (.agg cs.toArray)
def cC(n:Nat):x7:=fun _ b=>b<n
variable {P:Program}{w:World}
theorem Kk{S:x7}{u:TV}(k:PR S h v u)(h1:qd v=true):u.one=true:=by
 cases k<;>first|rfl|cases h1
structure xY(P:Program)(w:World)(ρ:zh)(h:TH)(ρ':zh)(h':TH):Prop where
 wr:WR P w.heap.size ρ' h' w
 more:∀b g loc,ρ b g=some loc->ρ' b g=some loc
 le:h.next<=h'.next
 keep:∀b,b<h.next->h'.get b=h.get b
variable {f:Nat}{ρ:zh}
theorem xY.refl(k:WR P w.heap.size ρ h w):xY P w ρ h ρ h:=⟨k,fun _ _ _ h=>h,Zi _,fun _ _=>rfl⟩
theorem xY.trans{ρ' ρ'':zh}{h' h'':TH}(a:xY P w ρ h ρ' h')(b:xY P w ρ' h' ρ'' h''):xY P w ρ h ρ'' h'' :=
 ⟨b.wr,fun x g loc c=>b.more _ _ _ (a.more _ _ _ c),Z0 a.le b.le,fun x c=>by rw[b.keep x (ZR c a.le),a.keep x c]⟩
theorem xY.pr{ρ':zh}{h':TH}(a:xY P w ρ h ρ' h'){u:TV}(k:PR (cC h.next) h v u):PR (cC h'.next) h' v u :=
 k.mono (fun _ _ b=>ZR b a.le) fun _ _ _ _ _ _ _ c=>EF a.keep c
theorem tv{R:PV->Value->Prop}(hR:∀x y,R x y->∀ρ h,WR P w.heap.size ρ h w->∃ρ' h' u,xY P w ρ h ρ' h'/\PR (cC h'.next) h' x u/\Tw.VR ρ' u y) :
  ∀{l:LQ} {cs:LE},l.length=cs.length->(∀(i:Nat) (x:PV) (y:Value),l[i]?=some x->cs[i]?=some y->R x y)->∀ρ h,WR P w.heap.size ρ h w->∃ρ' h' us,xY P w ρ h ρ' h'/\LR (PR (cC h'.next) h') l us/\VL ρ' us cs
 | [],[],_,_,ρ,h,k=>⟨ρ,h,[],xY.refl k,LR.nil,VL.nil _⟩
 | [],_::_,d,_,_,_,_=>by grind
 | _::_,[],d,_,_,_,_=>by grind
 | x::l,y::cs,d,e,ρ,h,k=>by
  obtain⟨g,h1,u,f,j,m⟩:=hR x y (e 0 x y rfl rfl) ρ h k;obtain⟨n,h2,us,c,o,p⟩:=tv hR (l:=l) (cs:=cs) (by grind) (fun i a b q r=>e (i+1) a b (by grind) (by grind)) g h1 f.wr;exact⟨n,h2,u::us,f.trans c,LR.cons (c.pr j) o,.cons (m.mono c.more) p⟩
theorem Xf(k:WR P w.heap.size ρ h w){r L:Nat}(hr:r<w.heap.size){cells:LL}(hc:∀i x,cells.get i=some x->∃v,w.cell? ⟨r,i,none⟩=some v/\x.one=true/\Tw.VR ρ x v):
  xY P w ρ h (ρ.add h.next 0 ⟨r,L,0⟩) (h.push (.ro cells)):=by
 have n:∀g,ρ h.next g=none:=fun g=>by
  cases p:ρ h.next g with
  | none=>rfl
  | some loc=>have:=(k.dom _ _ _ p).1;omega
 have f:=zh.add_more (loc:=⟨r,L,0⟩) (n 0);have j:=k.push (.ro cells);refine⟨⟨fun b g loc a=>?_,fun b g loc a=>?_,fun b B g q loc l a c e s=>?_⟩,f,by rw[TH.nP];omega,fun b d=>by rw[TH.gP,if_neg zo]⟩
 .rcases zh.add_inv a with⟨rfl,rfl,rfl⟩|a
  .exact⟨by rw[TH.nP];omega,.inr ⟨cells,by rw[TH.gP,if_pos rfl]⟩,hr⟩
  .exact j.dom b g loc a
 .by_cases d:b=h.next
  .subst d;refine⟨.ro cells,by rw[TH.gP,if_pos rfl],fun q l c=>?_⟩;rcases zh.add_inv c with⟨_,rfl,rfl⟩|c
   .refine⟨rfl,fun i x t=>?_⟩;obtain⟨v,u,y,z⟩:=hc i x t;exact⟨v,u,y,z.mono f⟩
   grind
  .have c:ρ b g=some loc:=by rw[<- a,zh.add_ne d]
   obtain⟨o,A,m⟩:=j.obj b g loc c;exact⟨o,A,m.move f (fun g=>zh.add_ne d g) fun _ _ _=>rfl⟩
 .rcases zh.add_inv a with⟨_,_,rfl⟩|ha
  .grind
  .rcases zh.add_inv c with⟨_,_,rfl⟩|ha'
   .grind
   .exact k.sep _ _ _ _ _ _ ha ha' e s
theorem CI.lay{v':Value}(a:CI w v v'):∀ρ h,WR P w.heap.size ρ h w->∃ρ' h' u,xY P w ρ h ρ' h'/\PR (cC h'.next) h' v u/\Tw.VR ρ' u v':=by
 induction a with
 | bool b=>intro ρ h k;exact⟨ρ,h,_,xY.refl k,.bool b,.bool b⟩
 | int D n=>intro ρ h k;exact⟨ρ,h,_,xY.refl k,.int D n,.int D n⟩
 | str s=>intro ρ h k;exact⟨ρ,h,_,xY.refl k,.str _,.str s⟩
 | nilsl p z=>intro ρ h k;exact⟨ρ,h,_,xY.refl k,.listnil p z,.nilsl⟩
 | @list p z l r off c cs S T N G o _ K q t =>
  intro ρ h k;obtain⟨A,h1,us,g,d,m⟩:=tv (R:=fun x y=>∀ρ h,WR P w.heap.size ρ h w->∃ρ' h' u,xY P w ρ h ρ' h'/\PR (cC h'.next) h' x u/\Tw.VR ρ' u y) (fun _ _ h=>h) o t ρ h k;have O:us.length=l.length*z:=by rw[<- d.1,Dc G]
  have M:∀i x,(Tr.putL .nil off us).get i=some x->∃v,w.cell? ⟨r,i,none⟩=some v/\x.one=true/\Tw.VR A x v:=fun i x e=>by
   rw[Tr.get_putL]at e
   split at e
   .rename_i B;have f:i-off<cs.length:=by rw[<- m.1];omega
    have C:i-off<(l.flatMap PV.cells).length:=by rw[d.1];omega
    refine⟨cs[i-off],?_,?_,m.2 _ _ _ e (Zg f)⟩
    .have:=K (i-off) _ (Zg f)
     grind
    .exact Kk (d.2 _ _ _ (Zg C) e) (q _ (ZV C))
   .rw[Tr.get_nil]at e;cases e
  have I:=Xf g.wr (L:=off+l.length*z) S M;refine⟨_,_,.sl h1.next 0 off l.length (2*l.length+1) z,g.trans I,?_,?_⟩
  .have Q:ue (h1.push (.ro (Tr.putL .nil off us))) h1.next 0 off (l.length*z)=some us:=by
    refine rR (x:=.ro (Tr.putL .nil off us)) (by rw[TH.gP,if_pos rfl]) ?_;unfold ny;dsimp only;rw[wZ rfl,<- O];exact im fun j U=>by rw[Tr.get_putL,if_pos zo];grind
   have J:=d.mono fun _ _=>I.pr;exact .list (show h1.next<(h1.push (.ro (Tr.putL .nil off us))).next by rw[TH.nP];omega) Q zo G J.1 J.2
  .refine .sl (loc:=⟨r,off+l.length*z,0⟩) (zh.aS _ _ _ _) zo zo ?_ (.inl rfl) (fun h=>by omega) N
   grind
 | @agg l cs o _ q t =>
  intro ρ h k;obtain⟨A,h1,us,g,d,m⟩:=tv (R:=fun x y=>∀ρ h,WR P w.heap.size ρ h w->∃ρ' h' u,xY P w ρ h ρ' h'/\PR (cC h'.next) h' x u/\Tw.VR ρ' u y) (fun _ _ h=>h) o t ρ h k;refine⟨A,h1,.agg us,g,.agg d.1 d.2,Tw.VR.aggL m fun x e=>?_⟩;obtain⟨i,B,rfl⟩:=ZP.1 e;have f:i<l.length:=by rw[d.1];exact B
  exact Kk (d.2 _ _ _ (Zg f) (Zg B)) (q _ (ZV f))
theorem nF.EN(h:nF P E)(N:Nat):nF P (EN E N):=⟨h.mix,h.fn,h.spec,h.caught⟩
theorem FP.real(hE:nF P E){b:Bool}(k:FP E f args (.ret (.bool b))){args':LE}(hl:args.length=args'.length)(ha:∀(i:Nat) (x:PV) (y:Value),args[i]?=some x->args'[i]?=some y->CI w x y):
  (∀w,(callFunc f args'.toArray).run P w=.ok (.enter f args'.toArray) w)/\CallsIn (Fr none) 0 P f args'.toArray w fun e w'=>e=.returned (.bool b)/\Below w.heap.size w w':=by
 obtain⟨ρ,h,us,g,j,l⟩:=tv (R:=CI w) (fun x y a=>a.lay) hl ha _ _ (WR.start w);obtain⟨r,h',⟨K,m⟩,_,_,c⟩:=k (cC h.next) h us (fun _ _ d=>d) j
 cases r with
 | panic u=>exact c.elim
 | ret u =>
  have n:u=.bool b:=by
   have c:PR _ h' (.bool b) u:=c
   cases c;rfl
  subst n;obtain⟨o,p⟩:=(CJ (nF.EN hE K) K).1 f us h _ h' (m K (Zi _) K (Zi _)) w.heap.size ρ w args' g.wr (Zi _) l;refine⟨o,p.mono ?_⟩;rintro e w' ⟨ρ',_,_,d,_,v',rfl,q⟩
  cases q
  grind
theorem FP.calls(hE:nF P E){b:Bool}(k:FP E f args (.ret (.bool b))){args':LE}(hl:args.length=args'.length)(ha:∀(i:Nat) (x:PV) (y:Value),args[i]?=some x->args'[i]?=some y->CI w x y):
  Calls P f args'.toArray w fun e w'=>e=.returned (.bool b)/\Below w.heap.size w w':=callsIn_wide.1 (FP.real hE k hl ha).2
theorem ol{g:LK->TH->Option (TE×TH)}(hf:E.funcs.get f=none)(hg:E.spec f=some g){e:FE}(k:∀S h us,(∀p b,S p b->b<h.next)->LR (PR S h) args us->∃r h',g us h=some (r,h')/\h.next<=h'.next/\(∀b,b<h.next->h'.get b=h.get b)/\RE (PR (S0 S h.next h'.next) h') e r):FN E f args e:=fun S h us a c=>by
 obtain⟨r,h',h1,h2⟩:=k S h us a c;refine⟨r,h',⟨1,fun N j d l=>?_⟩,h2⟩;obtain⟨d,rfl⟩:∃i,d=i+1:=⟨d-1,by omega⟩
 show zV (EN E N) (xy (EN E N) d) f us h=_;unfold zV;rw[show (EN E N).funcs.get f=none from hf];dsimp only;rw[show (EN E N).spec f=some g from hg];exact h1
def si(us:LK)(h:TH):Option (TE×TH):=match us with
 | []=>some (.ret (.bool true),h)
 | _=>none
theorem Ny(hf:E.funcs.get f=none)(hg:E.spec f=some si):FN E f [] (.ret (.bool true)) :=
 ol hf hg fun S h us b a=>by
  obtain rfl:=a.oN;exact⟨_,h,rfl,Zi _,fun _ _=>rfl,.bool true⟩
theorem YI(henter:∀w,(callFunc f #[]).run P w=.ok (.enter f #[]) w)(h:∀w,CallsIn (Fr none) 0 P f #[] w fun e w'=>e=.returned (.bool true)/\Below w.heap.size w w'):
  ∀(Z:Nat) (ρ:zh) (w:World) (args:LK) (args':LE) (h:TH) (r:TE) (h':TH),si args h=some (r,h')->WR P Z ρ h w->Z<=w.heap.size->VL ρ args args' ->
  (∀w,(callFunc f args'.toArray).run P w=.ok (.enter f args'.toArray) w)/\CallsIn (Fr none) 0 P f args'.toArray w (kR P Z ρ h h' w r):=by
 intro Z ρ w args args' i r h' b k c d;unfold si at b
 split at b
 .obtain rfl:=d.oN
  cases b
  refine⟨henter,(h w).mono ?_⟩;rintro e w' ⟨rfl,a⟩;exact⟨ρ,zh.le.refl _ _,k.world a.size fun r b=>a.block r b,⟨a.os,a.tape,a.output,a.size,fun j g=>a.block j (ZR g c)⟩,Zi _,_,rfl,.bool true⟩
 grind
section plain
variable (k k':IntKind)(x y:Int)
variable (a b:Bool)
theorem jx:wH (uj .add) [.int k x,.int k y]=some (.int k (k.wrap (x+y))):=by simp[wH,PV.toT,uj,kT,kS,yB]
theorem jU:wH (uj .sub) [.int k x,.int k y]=some (.int k (k.wrap (x-y))):=by simp[wH,PV.toT,uj,kT,kS,yB]
theorem jK:wH (uj .mul) [.int k x,.int k y]=some (.int k (k.wrap (x*y))):=by simp[wH,PV.toT,uj,kT,kS,yB]
theorem jQ(h:y≠0):wH (uj .quo) [.int k x,.int k y]=some (.int k (k.wrap (x.tdiv y))):=by
 have:(y==0)=false:=by simpa using h
 simp[wH,PV.toT,uj,kT,kS,yB,kB,this]
theorem jR(h:y≠0):wH (uj .rem) [.int k x,.int k y]=some (.int k (x.tmod y)):=by
 have:(y==0)=false:=by simpa using h
 simp[wH,PV.toT,uj,kT,kS,yB,kB,this]
theorem jC:wH (uj .eql) [.int k x,.int k y]=some (.bool (decide (x=y))):=by
 simp[wH,PV.toT,uj,kT,kS,yB,kB];rfl
theorem jO:wH (uj .neq) [.int k x,.int k y]=some (.bool (!decide (x=y))):=by
 simp[wH,PV.toT,uj,kT,kS,yB,kB];rfl
theorem jH:wH (uj .lss) [.int k x,.int k y]=some (.bool (decide (x<y))):=by
 simp[wH,PV.toT,uj,kT,kS,yB,nc]
 grind
theorem jG:wH (uj .leq) [.int k x,.int k y]=some (.bool (decide (x<=y))):=by
 simp[wH,PV.toT,uj,kT,kS,yB,nc]
theorem jE:wH (uj .gtr) [.int k x,.int k y]=some (.bool (decide (y<x))):=by
 simp[wH,PV.toT,uj,kT,kS,yB,nc]
 grind
theorem jD:wH (uj .geq) [.int k x,.int k y]=some (.bool (decide (y<=x))):=by
 simp[wH,PV.toT,uj,kT,kS,yB,nc]
theorem jz:kG (lK k) [.int k' x]=some (.int k (k.wrap x)):=by simp[kG,PV.toT,lK,yB]
theorem jP:kG (nt .not) [.bool b]=some (.bool (!b)):=by simp[kG,PV.toT,nt,Eg,yB]
theorem jN:kG (nt .neg) [.int k x]=some (.int k (k.wrap (0-x))):=by simp[kG,PV.toT,nt,Ee,yB]
theorem jA:wH (lL false) [.bool a,.bool b]=some (.bool (a==b)):=by cases a<;>cases b<;>rfl
theorem jL:wH (lL true) [.bool a,.bool b]=some (.bool (!(a==b))):=by cases a<;>cases b<;>rfl
theorem jI:wH (bg true) [.int k x,.int k y]=some (.int k (max x y)):=by
 simp[wH,PV.toT,bg,yB,nc]
 grind
theorem jJ:wH (bg false) [.int k x,.int k y]=some (.int k (min x y)):=by
 simp[wH,PV.toT,bg,yB,nc]
 grind
end plain
variable {R:FE->LP->Prop}{rest:vP}{x:Int}
theorem yO(tm:Nat->PV){d t:Nat}(v:PV)(h:t≠d):zb tm d v t=tm t:=if_neg h
theorem va(tm:Nat->PV)(df:AP)(H:LP)(d:Nat)(v:PV):vn.put ⟨tm,df,H⟩ (some d) v=⟨zb tm d v,df,H⟩:=rfl
theorem jZ(s:vn)(v:PV):s.put none v=s:=rfl
theorem wrap_i64(h1:-9223372036854775808<=x)(h2:x<9223372036854775808):IntKind.i64.wrap x=x:=IntWalk.i64_in x zo
theorem wrap_u64(h1:0<=x)(h2:x<18446744073709551616):IntKind.u64.wrap x=x:=IntWalk.u64_in x zo
theorem uH{s:vn}{Q:FX->vn->Prop}(k:W E caught rnd rest s Q):WO E caught [] s (bk ops (xU (fun s'=>W E caught rnd rest s' Q) Q)):=cK k
theorem yR{s:vn}{Q:FX->vn->Prop}(k:Q .norm s):WO E caught [] s (bk ops Q):=cK k
theorem yd(h:zr tm H F.res=some vs)(k:R (.ret (ct vs)) H):yG E F R .ret ⟨tm,[],H⟩:=⟨vs,h,k⟩
theorem eo(h:zr tm H F.res=some vs)(k:R (.ret (ct vs)) H):yG E F R .norm ⟨tm,[],H⟩:=⟨vs,h,k⟩
@[reducible] def iv (n:Int):PV:=.int .i64 n
@[reducible] def uv (n:Nat):PV:=.int .u64 n
theorem Lb.unit:Lb (.tuple []):=.tuple (fun x h=>by cases h)
def zV:List vB->vn->vn×List vB
 | [],s=>(s,[])
 | o::l,s=>match qI o s with
  | some s'=>zV l s'
  | none=>(s,o::l)
theorem sO{Q:FX->vn->Prop}{s':vn}{r:List vB}:∀{ops:List vB} {s:vn},zV ops s=(s',r)->WO E caught r s' Q->WO E caught ops s Q
 | [],s,h,k=>by simp only[zV]at h;cases h;exact k
 | o::l,s,h,k=>by
  simp only[zV]at h
  split at h
  .rename_i s1 h1;exact N8 h1 (sO h k)
  grind
theorem Ob{x:vQ}{s:vn}{Q:FX->vn->Prop}{b:Bool}(hx:ev s.tm x=some (.bool b))(h1:b=true->W E caught rnd rest s Q)(h2:b=false->Q (.exit id) s):W E caught rnd (.seq (.cond x .skip (.exit id)) rest) s Q:=by
 refine vq (sP hx (fun h=>wK (h1 h)) fun h=>bL (h2 h))
theorem fM{x:vQ}{s:vn}{Q:FX->vn->Prop}(h:W E caught rnd (.seq (.region ops) (.seq (.cond x .skip (.exit id)) rest)) s Q):W E caught rnd (.seq (.seq (.region ops) (.cond x .skip (.exit id))) rest) s Q:=fun B c t a b e=>by
 obtain⟨f,g,y,i,c',⟨K,j⟩,h2⟩:=h B c t a b e;refine⟨f,g,y,i,c',⟨K,fun N k d l=>?_⟩,h2⟩;have:=j N k d l;rw[<- this];simp only[we]
 cases m:sj (bT ops) (kJ (xy (EN E N) d) caught ops t)with
 | none=>rfl
 | some r =>
  grind
variable {E:vZ}{caught:LD}{rnd:LA}
def Cx.lazy(c:Cx)(n:Nat):Cx:=⟨c.S,c.ρ,fun i=>c.L i\/i=n⟩
theorem HR.lazy(k:HR B c H h)(e z:Nat):Mo c (c.lazy H.length) h h/\HR B (c.lazy H.length) (H++[.row e z 0 0 []]) h:=by
 have l:c.ρ H.length=none:=by
  cases n:c.ρ H.length with
  | none=>rfl
  | some y=>have:=(k.own _ _ n).2.2;omega
 have m:Mo c (c.lazy H.length) h h:=⟨fun _ _ h=>h,fun _ _ h=>h,fun _ h=>.inl h,fun _ _ _ _ _ _ _ h=>h⟩
 refine⟨m,⟨k.le,k.keep,k.old,fun p b g=>⟨(k.S p b g).1,fun i x d e=>by have:=(k.S p b g).2 i x d e;grind⟩,fun id x d=>?_,fun id f=>?_,k.inj,fun id o a=>?_⟩⟩
 .obtain⟨h1,h2,h3⟩:=k.own id x d
  grind
 .rcases f with f|rfl
  .obtain⟨h1,h2⟩:=k.lz id f;exact⟨by grind,h2⟩
  .exact⟨by simp,fun x d=>by have:c.ρ H.length=some x:=d;grind⟩
 .by_cases q:id<H.length
  .rw[ZM q]at a;exact(k.obj id o a).move m rfl (fun h=>.inl h) fun _ _=>rfl
  .rw[ZH zo]at a;have j:id-H.length=0:=by grind
   rw[j]at a;simp at a;subst a;obtain rfl:id=H.length:=zo;exact .inl ⟨rfl,rfl,l,.inr rfl⟩
def uF(H:LP)(z:Nat):PV:=.sl H.length 0 0 0 0 z
variable {G:Nat}{code:vP}{e0:Nat}{v':PV}{z0:Nat}(e z:Nat)
theorem yD{s:vn}{Q:FX->vn->Prop}{i:Nat}(hi:s.tm i=.nilsl)(k:W E caught rnd code ⟨zb s.tm i (uF s.H z),s.df,s.H++[.row e z 0 0 []]⟩ Q):W E caught rnd code s Q:=fun B c t f a l=>by
 obtain⟨m,n⟩:=a.hr.lazy e z;have g:yu (c.lazy s.H.length) t.h (zb s.tm i (uF s.H z)) t.tm:=fun j=>by
  unfold zb
  by_cases d:j=i
  .rw[if_pos d];subst d;rcases a.tm j with h1|⟨u,o,b⟩
   .grind
   .rw[hi]at b;obtain rfl:u=.nilsl:=by cases b with|pure b=>cases b;rfl
    exact .inr ⟨_,o,.slnil _ (.inr rfl)⟩
  .rw[if_neg d];exact(a.tm.mono m) j
 obtain⟨p,q,x,r,c',v,w,y,A,C⟩:=k B _ t f ⟨n,g,a.df.mono m⟩ (l.mono m);exact⟨p,q,x,r,c',v,w,y,m.trans A,C⟩
theorem HR.lazyBox(k:HR B c H h)(e z:Nat){M:Nat}(hH:H[id]?=some (.row e0 z0 G M [v]))(hl:v'.cells.length=v.cells.length)(hc:∀(i:Nat) (x y:PV),v.cells[i]?=some x->v'.cells[i]?=some y->y=x\/(x=.nilsl/\y=uF H z)):
  Mo c (c.lazy H.length) h h/\HR B (c.lazy H.length) (H.set id (.row e0 z0 G M [v'])++[.row e z 0 0 []]) h:=by
 obtain⟨m,a⟩:=k.lazy e z;have hid:id<H.length:=(Zh.1 hH).1;refine⟨m,⟨a.le,a.keep,a.old,fun p b r=>⟨(a.S p b r).1,fun i x f e=>?_⟩,fun i x f=>?_,fun i w=>?_,a.inj,fun i o s=>?_⟩⟩
 .have g:=(a.S p b r).2 i x f e
  grind
 .have:=a.own i x f;grind
 .have:=a.lz i w;grind
 .by_cases A:i=id
  .subst A;rw[ZM (by grind),Zw hid]at s
   cases s
   have u:=a.obj i (.row e0 z0 G M [v]) (by grind);rcases u with⟨h1,_⟩|⟨b,d,C,D,cells,cs,h1,h2,h3,h4,I,t⟩
   .cases h1
   .refine .inr ⟨b,d,C,D,cells,cs,h1,h2,h3,h4,I,ER.one' (by rw[hl];exact t.one v (by simp)) ?_⟩;have n:LR (VR (c.lazy H.length) h) v.cells cs:=by have:=t.all;simpa using this
    refine⟨by rw[hl];exact n.1,fun j x y f J=>?_⟩;obtain⟨l,q⟩:∃l,v.cells[j]?=some l:=⟨_,Zg (by grind)⟩
    have g:=n.2 j l y q J;rcases hc j l x q f with rfl|⟨rfl,rfl⟩
    .exact g
    .obtain rfl:y=.nilsl:=by cases g with|pure g=>cases g;rfl
     exact .slnil _ (.inr rfl)
  .refine a.obj i o ?_
   grind
theorem cL{s:vn}{Q:FX->vn->Prop}{M:Nat}(hH:s.H[id]?=some (.row e0 z0 G M [v]))(hl:v'.cells.length=v.cells.length)(hc:∀(i:Nat) (x y:PV),v.cells[i]?=some x->v'.cells[i]?=some y->y=x\/(x=.nilsl/\y=uF s.H z))(k:W E caught rnd code ⟨s.tm,s.df,s.H.set id (.row e0 z0 G M [v'])++[.row e z 0 0 []]⟩ Q):W E caught rnd code s Q:=fun B c t b a d=>by
 obtain⟨m,f⟩:=a.hr.lazyBox e z hH hl hc;obtain⟨g,h,x,j,c',l,n,o,p,q⟩:=k B _ t b ⟨f,a.tm.mono m,a.df.mono m⟩ (d.mono m);exact⟨g,h,x,j,c',l,n,o,m.trans p,q⟩
theorem F1{s:vn}{Q:FX->vn->Prop}{M:Nat}(hH:s.H[id]?=some (.row e0 z0 G M [.nilsl]))(k:W E caught rnd code ⟨s.tm,s.df,s.H.set id (.row e0 z0 G M [uF s.H z])++[.row e z 0 0 []]⟩ Q):W E caught rnd code s Q :=
 cL (v:=.nilsl) (v':=uF s.H z) e z hH rfl (fun i x y a b=>by
  cases i with
  | zero=>simp[PV.cells,uF]at a b;subst a;subst b;exact .inr ⟨rfl,rfl⟩
  | succ i=>simp[PV.cells]at a) k
theorem zg(G:List α)(x y:α):(G++[x]).set G.length y=G++[y]:=by grind
theorem zf(G:List α)(x:α):(G++[x])[G.length]?=some x:=by simp
theorem fJ{aS:LQ}{nm':Nat->PV}(hc:zL s.K g.chk)(hx:qc tm g.exe s=some s1)(ha:g.act=some o)(hk:o.kind=.call)(hw:zZ tm s1.nm o.guard=some true)(hv:qe tm s1.nm o.args=some (.fn f caps::vs))(k:FN E f aS (.ret v))(hl:LF s1.H 1 (vs++caps) aS)(hn:qa s1.nm o.dst v=some nm')(hQ:WD E caught tm l ⟨nm',s1.df,s1.H,s1.K⟩ Q):WD E caught tm (g::l) s Q :=
 sM hc hx ha hk hw hv ((FN.FO k hl).mono fun e b a=>by obtain⟨rfl,rfl⟩:=a;exact⟨nm',hn,hQ⟩)
theorem N5{aS:LQ}(hc:zL s.K g.chk)(hx:qc tm g.exe s=some s1)(ha:g.act=some o)(hk:o.kind=.call)(hw:zZ tm s1.nm o.guard=some true)(hv:qe tm s1.nm o.args=some (.fn f caps::vs))(k:FN E f aS (.panic v))(hl:LF s1.H 1 (vs++caps) aS)(hQ:Q (.panic v) s1):WD E caught tm (g::l) s Q :=
 sM hc hx ha hk hw hv ((FN.FO k hl).mono fun e b a=>by obtain⟨rfl,rfl⟩:=a;exact hQ)
variable {E:vZ}
inductive NR(n:Nat):PV->Prop
 | bool (b:Bool):NR n (.bool b)
 | int (k:IntKind) (m:Int):NR n (.int k m)
 | str (s:LN):NR n (.str s)
 | nilptr:NR n .nilptr
 | nilsl:NR n .nilsl
 | nilmap:NR n .nilmap
 | nilfn:NR n .nilfn
 | niliface:NR n .niliface
 | list (p z:Nat) (l:LQ):NR n (.list p z l)
 | elem (l:LQ):NR n (.elem l)
 | sl {id:Nat} (g o m q z:Nat):id<n->NR n (.sl id g o m q z)
 | ptr {id:Nat} (g i o m:Nat):id<n->NR n (.ptr id g i o m)
 | map {id:Nat}:id<n->NR n (.map id)
 | yield {id:Nat}:id<n->NR n (.yield id)
 | iface {t:Nat} {v:PV}:NR n v->NR n (.iface t v)
 | fn {f:Nat} {l:LQ}:(∀x∈l,NR n x)->NR n (.fn f l)
 | agg {l:LQ}:(∀x∈l,NR n x)->NR n (.agg l)
 | tuple {l:LQ}:(∀x∈l,NR n x)->NR n (.tuple l)
def NL(n:Nat):FX->Prop
 | .panic v=>NR n v
 | _=>True
def xu(n:Nat):za->Prop
 | .row _ _ _ _ l=>∀x∈l.flatMap PV.cells,NR n x
 | .mapI _ m=>∀x v,m x=some v->NR n v
 | .mapS m=>∀x v,m x=some v->NR n v
 | .loop _ pe tm _ _ _ m=>m<n/\(∀i,tm i=.bad\/NR n (tm i))/\NL n pe
 | _=>True
def FI(n:Nat):FE->Prop
 | .ret v=>NR n v
 | .panic v=>NR n v
def Cx.cut(c:Cx)(n:Nat):Cx:=⟨c.S,fun i=>if i<n then c.ρ i else none,fun i=>c.L i/\i<n⟩
section
variable {c:Cx}{h:TH}{n:Nat}
variable {o:za}{u:TV}
theorem mV(hi:id<n){x}(hx:c.ρ id=some x):(c.cut n).ρ id=some x:=by
 show (if id<n then c.ρ id else none)=_
 grind
theorem fW{x}(hx:(c.cut n).ρ id=some x):id<n/\c.ρ id=some x:=by
 have hx:(if id<n then c.ρ id else none)=some x:=hx
 grind
theorem VR.cut(k:VR c h v u):NR n v->VR (c.cut n) h v u:=by
 induction k with
 | pure k=>intro _;exact .pure k
 | sl e=>intro a;cases a with|sl _ _ _ _ _ b=>exact .sl (mV b e)
 | slnil z j=>intro a;cases a with|sl _ _ _ _ _ b=>exact .slnil z ⟨j,b⟩
 | ptr e=>intro a;cases a with|ptr _ _ _ _ b=>exact .ptr (mV b e)
 | map e=>intro a;cases a with|map b=>exact .map (mV b e)
 | yield e=>intro a;cases a with|yield b=>exact .yield (mV b e)
 | iface _ f=>intro a;cases a with|iface a=>exact .iface (f a)
 | fn h1 _ f=>intro a;cases a with|fn a=>exact .fn h1 fun i x y d g=>f i x y d g (a x (Zj d))
 | agg h1 _ f=>intro a;cases a with|agg a=>exact .agg h1 fun i x y d g=>f i x y d g (a x (Zj d))
 | tuple h1 _ f=>intro a;cases a with|tuple a=>exact .tuple h1 fun i x y d g=>f i x y d g (a x (Zj d))
theorem PR.nr{S:x7}(k:PR S h v u):NR n v:=by
 induction k with
 | bool b=>exact .bool b
 | int k n=>exact .int k n
 | str s=>exact .str s
 | nilptr=>exact .nilptr
 | nilsl=>exact .nilsl
 | nilmap=>exact .nilmap
 | nilfn=>exact .nilfn
 | niliface=>exact .niliface
 | iface _ a=>exact .iface a
 | listnil p z=>exact .list p z _
 | list _ _ _ _ _ _ _=>exact .list _ _ _
 | elem _ _ _ _ _=>exact .elem _
 | fn h1 _ a =>
  refine .fn fun x c=>?_;obtain⟨i,d,rfl⟩:=ZP.1 c;exact a i _ _ (Zg d) (Zg (by omega))
 | agg h1 _ a =>
  refine .agg fun x c=>?_;obtain⟨i,d,rfl⟩:=ZP.1 c;exact a i _ _ (Zg d) (Zg (by omega))
 | tuple h1 _ a =>
  refine .tuple fun x c=>?_;obtain⟨i,d,rfl⟩:=ZP.1 c;exact a i _ _ (Zg d) (Zg (by omega))
theorem VR.nr(k:HR B c H h)(x:VR c h v u):NR H.length v:=by
 induction x with
 | pure x=>exact x.nr
 | sl a=>exact .sl _ _ _ _ _ (k.own _ _ a).2.2
 | slnil z f=>exact .sl _ _ _ _ _ (k.lz _ f).1
 | ptr a=>exact .ptr _ _ _ _ (k.own _ _ a).2.2
 | map a=>exact .map (k.own _ _ a).2.2
 | yield a=>exact .yield (k.own _ _ a).2.2
 | iface _ b=>exact .iface b
 | fn h1 _ b =>
  refine .fn fun x d=>?_;obtain⟨i,e,rfl⟩:=ZP.1 d;exact b i _ _ (Zg e) (Zg (by omega))
 | agg h1 _ b =>
  refine .agg fun x d=>?_;obtain⟨i,e,rfl⟩:=ZP.1 d;exact b i _ _ (Zg e) (Zg (by omega))
 | tuple h1 _ b =>
  refine .tuple fun x d=>?_;obtain⟨i,e,rfl⟩:=ZP.1 d;exact b i _ _ (Zg e) (Zg (by omega))
theorem OR.nr(k:HR B c H h)(hH:H[id]?=some o):xu H.length o:=by
 have g:=k.obj _ _ hH
 cases o with
 | row e z G M l =>
  rcases g with⟨rfl,_⟩|⟨b,d,s,w,cells,cs,_,_,_,_,_,j⟩
  .intro x a;simp at a
  .intro x a;obtain⟨i,n,rfl⟩:=ZP.1 a;exact(j.all.2 i _ _ (Zg n) (Zg (by rw[<- j.all.1];exact n))).nr k
 | mapI y m =>
  obtain⟨b,d,z,es,clock,_,_,h3⟩:=g;intro x v a;obtain⟨u,_,f⟩:=h3.some x v a;exact f.nr k
 | mapS m =>
  obtain⟨b,d,z,es,clock,_,_,h3⟩:=g;intro x v a;obtain⟨u,_,f⟩:=h3.some x v a;exact f.nr k
 | loop st pe tm ps aS bo m =>
  obtain⟨b,d,z,A,C,D,t,r,_,h2,_,h4,p⟩:=g;refine⟨(k.own _ _ h2).2.2,fun i=>?_,?_⟩
  .rcases h4 i with h4|⟨u,_,f⟩
   .grind
   .exact .inr (f.nr k)
  .cases p with
   | panic q=>exact q.nr k
   | _=>trivial
 | _=>trivial
theorem OR.cut(hi:id<n)(ho:OR c h id o)(hn:xu n o):OR (c.cut n) h id o:=by
 cases o with
 | row e z G M l =>
  rcases ho with⟨h1,h2,h3,h4⟩|⟨b,d,q,r,cells,cs,h1,h2,h3,h4,j,k⟩
  .exact .inl ⟨h1,h2,by show (if id<n then c.ρ id else none)=none;grind,h4,hi⟩
  .exact .inr ⟨b,d,q,r,cells,cs,mV hi h1,h2,h3,h4,j,k.one,k.all.1,fun i x y a s=>(k.all.2 i x y a s).cut (hn x (Zj a))⟩
 | map0=>obtain⟨b,d,z,clock,h1,h2⟩:=ho;exact⟨b,d,z,clock,mV hi h1,h2⟩
 | mapI I m =>
  obtain⟨b,d,z,es,clock,h1,h2,h3⟩:=ho;exact⟨b,d,z,es,clock,mV hi h1,h2,h3.keys,fun x v a=>by obtain⟨u,f,g⟩:=h3.some x v a;exact⟨u,f,g.cut (hn x v a)⟩,h3.none⟩
 | mapS m =>
  obtain⟨b,d,z,es,clock,h1,h2,h3⟩:=ho;exact⟨b,d,z,es,clock,mV hi h1,h2,h3.keys,fun x v a=>by obtain⟨u,f,g⟩:=h3.some x v a;exact⟨u,f,g.cut (hn x v a)⟩,h3.none⟩
 | dfr D=>obtain⟨b,d,z,h1,h2⟩:=ho;exact⟨b,d,z,mV hi h1,h2⟩
 | loop st pe tm ps aS bo m =>
  obtain⟨b,d,z,w,A,B,t,p,h1,h2,h3,h4,j⟩:=ho;refine⟨b,d,z,w,A,B,t,p,mV hi h1,mV hn.1 h2,h3,fun i=>?_,?_⟩
  .rcases h4 i with h4|⟨u,f,g⟩
   .grind
   .rcases hn.2.1 i with hb|hb
    .grind
    .exact .inr ⟨u,f,g.cut hb⟩
  .cases j with
   | norm=>exact .norm
   | exit id=>exact .exit id
   | goto l=>exact .goto l
   | ret=>exact .ret
   | panic C=>exact .panic (C.cut hn.2.2)
 | void=>trivial
theorem HR.cut{G:LP}(k:HR B c (H++G) h)(hn:∀(id:Nat) (o:za),H[id]?=some o->xu H.length o):HR B (c.cut H.length) H h :=
 ⟨k.le,k.keep,k.old,fun p b d=>⟨(k.S p b d).1,fun id x a e=>by have:=(k.S p b d).2 id x (fW a).2 e;rw[ZM (fW a).1]at this;omega⟩,fun id x a=>by
  obtain⟨h1,h2⟩:=fW a;obtain⟨m,n,_⟩:=k.own id x h2;omega,fun id f=>⟨f.2,fun x a=>(k.lz id f.1).2 x (fW a).2⟩,fun id l x q a i=>k.inj _ _ _ _ (fW a).2 (fW i).2,fun id o g=>by
  have j:=(Zh.1 g).1;exact(k.obj id o (by grind)).cut j (hn id o g)⟩
theorem Mo.cut{c':Cx}{h':TH}(m:Mo c c' h h')(hρ:∀id x,c.ρ id=some x->id<n)(hL:∀id,c.L id->id<n):Mo c (c'.cut n) h h' :=
 ⟨m.S,fun id x a=>mV (hρ _ _ a) (m.ρ _ _ a),fun id a=>⟨m.L _ a,hL _ a⟩,m.rd⟩
end
def nG(H:LP)(H' H'' G:LP):Prop:=H'=H''++G/\H''.length=H.length/\∀(id:Nat) (o:za),H''[id]?=some o->H[id]?=some o\/xu H.length o
variable {n:Nat}
theorem nG.cut{B':Ba}{c':Cx}{H' H'' G:LP}{h':TH}(k:nG H H' H'' G)(hr:HR B c H h)(hr':HR B' c' H' h')(m:Mo c c' h h'):Mo c (c'.cut H.length) h h'/\HR B' (c'.cut H.length) H'' h':=by
 obtain⟨rfl,a,b⟩:=k;refine⟨m.cut (fun id x d=>(hr.own _ _ d).2.2) (fun id e=>(hr.lz _ e).1),?_⟩;have:=hr'.cut (H:=H'') fun id o f=>by
  rw[a];rcases b id o f with h1|h1
  .exact OR.nr hr h1
  .exact h1
 grind
theorem FO.gc{f:Nat}{b:Bool}{Q:FE->LP->Prop}(k:FO E f args H b fun e H'=>∃H'' G,nG H H' H'' G/\FI H.length e/\Q e H''):FO E f args H b Q:=fun B c h us a g=>by
 obtain⟨r,h',e,H',c',i,⟨H'',G,j,l,m⟩,n,o,d,p⟩:=k B c h us a g;obtain⟨q,s⟩:=j.cut a o n;refine⟨r,h',e,H'',_,i,m,q,s,?_,p⟩
 cases e<;>cases r<;>first|exact d.elim|exact VR.cut d l
theorem FY.gc{Q:Bool->LP->Prop}(k:FY E id args H fun r H'=>∃H'' G,nG H H' H'' G/\Q r H''):FY E id args H Q:=fun B c h us b d z a e f=>by
 obtain⟨r,h',H',c',l,⟨H'',G,g,m⟩,i,j⟩:=k B c h us b d z a e f;obtain⟨n,o⟩:=g.cut a j i
 grind
theorem FY.mono{Q Q':Bool->LP->Prop}(k:FY E id args H Q)(hQ:∀r H,Q r H->Q' r H):FY E id args H Q':=fun B c h us b d z a e f=>by
 obtain⟨r,h',g,c',i,q,j⟩:=k B c h us b d z a e f
 grind
theorem eY{d:Nat}(h:∀i,tm i=.bad\/NR n (tm i))(hv:NR n v):∀i,zb tm d v i=.bad\/NR n (zb tm d v i):=fun i=>by
 unfold zb
 grind
theorem U9{l:LQ}(h:∀v∈l,NR n v):∀i,zq l i=.bad\/NR n (zq l i):=fun i=>by
 unfold zq
 grind
theorem jV(G:List α)(x y:α):(G++[x]++[y])[G.length]?=some x:=by grind
def cF:LQ->Prop
 | []=>True
 | x::l=>vg x/\cF l
variable {A A' C H0:LP}{args:List vQ}{d:LA}{e:Nat}{g:Option (vQ×Bool)}{z:Nat}
theorem cF.all:∀{l:LQ},cF l->∀x∈l,vg x
 | x::l,h,y,a=>by
  rcases ZD.1 a with rfl|a
  .exact h.1
  .exact cF.all h.2 y a
theorem nP{s:vn}{Q:FX->vn->Prop}{aS:LQ}(hg:qb s.tm g=some true)(ha:zY s.tm args=some (.fn f caps::vs))(k:FP E f aS (.ret v))(he:vs++caps=aS)(hl:cF aS)(hQ:WO E caught ops (s.put d v) Q):WO E caught (⟨d,.call,args,g⟩::ops) s Q :=
 sN hg ha ((FP.FO (he ▸ k) (he ▸ hl).all).mono fun e a he=>by obtain⟨rfl,rfl⟩:=he;exact hQ)
theorem N4{g:yc}{aS:LQ}{nm':Nat->PV}(hc:zL s.K g.chk)(hx:qc tm g.exe s=some s1)(ha:g.act=some o)(hk:o.kind=.call)(hw:zZ tm s1.nm o.guard=some true)(hv:qe tm s1.nm o.args=some (.fn f caps::vs))(k:FP E f aS (.ret v))(he:vs++caps=aS)(hl:cF aS)(hn:qa s1.nm o.dst v=some nm')(hQ:WD E caught tm l ⟨nm',s1.df,s1.H,s1.K⟩ Q):WD E caught tm (g::l) s Q :=
 sM hc hx ha hk hw hv ((FP.FO (he ▸ k) (he ▸ hl).all).mono fun e a he=>by obtain⟨rfl,rfl⟩:=he;exact⟨nm',hn,hQ⟩)
theorem vg.frz(h:vg v):ze H lab v v:=by
 induction h with
 | bool b=>exact .bool b
 | int k n=>exact .int k n
 | str s=>exact .str s
 | nilptr=>exact .nilptr
 | nilsl=>exact .nilsl
 | nilmap=>exact .nilmap
 | nilfn=>exact .nilfn
 | niliface=>exact .niliface
 | list p z l=>exact .list p z l
 | elem l=>exact .elem l
 | iface _ d=>exact .iface d
 | fn _ d=>exact .fn rfl fun i x y a c=>by rw[a]at c;cases c;exact d x (Zj a)
 | agg _ d=>exact .agg rfl fun i x y a c=>by rw[a]at c;cases c;exact d x (Zj a)
 | tuple _ d=>exact .tuple rfl fun i x y a c=>by rw[a]at c;cases c;exact d x (Zj a)
theorem ze.wh{z' o q:Nat}{l:LQ}(hH:H[id]?=some (.row e z' G 0 l))(ho:o=0)(hl:n=l.length)(hq:2*l.length<=q)(hz:∀v∈l,v.cells.length=z)(hs:∀v∈l.flatMap PV.cells,vg v):
  ze H lab (.sl id G o n q z) (.list lab z l):=by
 subst ho hl;refine .sl hH (Zn _) (Zi _) zo hq rfl hz (by simp) fun i x y b a=>?_;have:x=y:=by grind
 subst this;exact(hs _ (Zj a)).frz
theorem gE{cs:LQ}(hH:H[id]?=some (.row e z 0 0 [.agg cs]))(hn:n=cs.length)(hc:∀v∈cs,vg v):ze H lab (.ptr id 0 0 0 n) (.elem cs):=by
 refine .ptr (w:=.agg cs) ?_ (by simp[PV.cells,hn]) hn fun j x y a b=>?_
 .simp[zF,hH]
 .have:x=y:=by
   simp[PV.cells,hn]at a
   grind
  subst this;exact(hc _ (Zj b)).frz
theorem tQ{l:LN}:∀v∈(l.map uv).flatMap PV.cells,vg v:=fun v a=>by
 obtain⟨x,b,a⟩:=ZF.1 a;obtain⟨n,_,rfl⟩:=Zu.1 b;simp[PV.cells]at a;subst a;exact .int _ _
theorem If{l:LG}:∀v∈(l.map iv).flatMap PV.cells,vg v:=fun v a=>by
 obtain⟨x,b,a⟩:=ZF.1 a;obtain⟨n,_,rfl⟩:=Zu.1 b;simp[PV.cells]at a;subst a;exact .int _ _
theorem C7(hm:H[id]?=some (.dfr false))(h:zr tm (H.set id (.dfr true)) F.res=some vs)(k:R (.ret (ct vs)) (H.set id (.dfr true))):yG E F R .ret ⟨tm,[.mark id],H⟩:=⟨hm,vs,h,k⟩
theorem Q0(hm:H[id]?=some (.dfr false))(h:zr tm (H.set id (.dfr true)) F.res=some vs)(k:R (.ret (ct vs)) (H.set id (.dfr true))):yG E F R .norm ⟨tm,[.mark id],H⟩:=⟨hm,vs,h,k⟩
theorem vg.nr(h:vg v):NR n v:=by
 induction h with
 | bool b=>exact .bool b
 | int k n=>exact .int k n
 | str s=>exact .str s
 | nilptr=>exact .nilptr
 | nilsl=>exact .nilsl
 | nilmap=>exact .nilmap
 | nilfn=>exact .nilfn
 | niliface=>exact .niliface
 | list p z l=>exact .list p z l
 | elem l=>exact .elem l
 | iface _ a=>exact .iface a
 | fn _ a=>exact .fn a
 | agg _ a=>exact .agg a
 | tuple _ a=>exact .tuple a
theorem Vc{M:Nat}{l:LQ}(h:∀v∈l.flatMap PV.cells,vg v):xu n (.row e z G M l):=fun x a=>(h x a).nr
theorem NR.mono(hm:n<=m)(h:NR n v):NR m v:=by
 induction h with
 | bool b=>exact .bool b
 | int k n=>exact .int k n
 | str s=>exact .str s
 | nilptr=>exact .nilptr
 | nilsl=>exact .nilsl
 | nilmap=>exact .nilmap
 | nilfn=>exact .nilfn
 | niliface=>exact .niliface
 | list p z l=>exact .list p z l
 | elem l=>exact .elem l
 | sl g o m q z h=>exact .sl g o m q z zo
 | ptr g i o m h=>exact .ptr g i o m zo
 | map h=>exact .map zo
 | yield h=>exact .yield zo
 | iface _ a=>exact .iface a
 | fn _ a=>exact .fn a
 | agg _ a=>exact .agg a
 | tuple _ a=>exact .tuple a
theorem SZ{G:LP}(hl:A'.length=A.length)(h:∀(id:Nat) (o:za),A'[id]?=some o->xu A.length o)(hm:∀(n m:Nat) (o:za),n<=m->xu n o->xu m o):nG (A++C) (A'++C++G) (A'++C) G:=by
 refine⟨rfl,by simp[hl],fun id o a=>?_⟩
 grind
theorem xu.mono(hm:n<=m){o:za}(h:xu n o):xu m o:=by
 cases o with
 | row e z G M l=>exact fun x a=>NR.mono hm (h x a)
 | mapI k f=>exact fun x v a=>NR.mono hm (h x v a)
 | mapS f=>exact fun x v a=>NR.mono hm (h x v a)
 | loop st pe tm ps aS bo q =>
  refine⟨by have:=h.1;omega,fun i=>?_,?_⟩
  .rcases h.2.1 i with h|h
   .grind
   .exact .inr (h.mono hm)
  .have:=h.2.2
   cases pe<;>first|trivial|exact NR.mono hm this
 | _=>trivial
theorem nG.front{G:LP}(hl:A'.length=A.length)(h:∀(id:Nat) (o:za),A'[id]?=some o->xu A.length o):nG (A++C) (A'++C++G) (A'++C) G:=SZ hl h fun _ _ _ h k=>k.mono h
theorem jY(n m:Nat):(n+1==m+1)=(n==m):=by simp
theorem jW(n:Nat):(n+1==0)=false:=by simp
theorem jX(n:Nat):(0==n+1)=false:=by simp
theorem FU{g:yc}{aS:LQ}{same:Bool}(hc:zL s.K g.chk)(hx:qc tm g.exe s=some s1)(ha:g.act=some o)(hk:o.kind=.call)(hw:zZ tm s1.nm o.guard=some true)(hv:qe tm s1.nm o.args=some (.fn f caps::vs))(k:FO E f aS H0 same R)(he:vs++caps=aS)(hH:s1.H=H0)(hQ:∀e H',R e H'->sZ E caught tm l s1 o.dst same Q e H'):WD E caught tm (g::l) s Q:=by
 subst he hH;exact sM hc hx ha hk hw hv (k.mono hQ)
theorem Cc{s:vn}{Q:FX->vn->Prop}{aS:LQ}{b:Bool}(hg:qb s.tm g=some true)(ha:zY s.tm args=some (.fn f caps::vs))(k:FO E f aS H0 b R)(he:vs++caps=aS)(hH:s.H=H0)(hQ:∀e H',R e H'->Ch E caught ops s d Q e H'):WO E caught (⟨d,.call,args,g⟩::ops) s Q:=by
 subst he hH;exact sN hg ha (k.mono hQ)
variable {E:vZ}{caught:LD}{rnd:LA}
def gM(n:Nat)(H:LP):LP:=H.mapIdx fun i o=>if i=n then o else .void
theorem lI{o:za}(h:H[n]?=some o):(gM n H)[n]?=some o:=by
 unfold gM
 grind
theorem Vr{e z G M:Nat}{l:LQ}(h:(gM n H)[id]?=some (.row e z G M l)):id=n:=by
 unfold gM at h
 grind
theorem Vs(h:H[id]?=some .void):(gM n H)[id]?=some .void:=by
 unfold gM
 grind
theorem Kl:(gM n H).length=H.length:=by unfold gM;simp
def CF(n:Nat)(H:LP)(v w:PV):Prop:=w=v\/ze (gM n H) 0 v w
inductive CO(n:Nat)(H:LP)(id:Nat):za->za->Prop
 | void (o:za):CO n H id o .void
 | same (o:za):id≠n->CO n H id o o
 | row {e z G M:Nat} {l l':LQ}:id≠n->l'.length=l.length->(∀v∈l',v.cells.length=z)->(l.flatMap PV.cells).length=(l'.flatMap PV.cells).length->(∀(i:Nat) (x y:PV),(l.flatMap PV.cells)[i]?=some x->(l'.flatMap PV.cells)[i]?=some y->CF n H x y)->CO n H id (.row e z G M l) (.row e z G M l')
variable {k':IntKind}{o:za}{y:Int}(a:LN)(n:Nat)(b:LN)
def Cx.frz(c:Cx)(n:Nat):Cx:=⟨fun p b=>c.S p b\/(p=0/\∃x,c.ρ n=some x/\x.1=b),c.ρ,c.L⟩
theorem HR.frz{H':LP}(k:HR B c H h){n:Nat}(hl:H'.length=H.length)(hv:H'[n]?=some .void)(hH:∀id o o',H[id]?=some o->H'[id]?=some o'->CO n H id o o'):
  Mo c (c.frz n) h h/\HR B (c.frz n) H' h/\∀v w u,VR c h v u->CF n H v w->VR (c.frz n) h w u:=by
 have m:Mo c (c.frz n) h h:=⟨fun _ _ h=>.inl h,fun _ _ h=>h,fun _ h=>h,fun _ _ _ _ _ _ _ h=>h⟩
 have K:HR B c (gM n H) h:=⟨k.le,k.keep,k.old,fun p b g=>⟨(k.S p b g).1,fun id x a e=>Vs ((k.S p b g).2 id x a e)⟩,fun id x a=>by rw[Kl];exact k.own id x a,fun id a=>by rw[Kl];exact k.lz id a,k.inj,fun id o f=>by
  by_cases C:id=n
  .subst C;unfold gM at f;rw[List.getElem?_mapIdx]at f
   cases hH:H[id]? with
   | none=>rw[hH]at f;cases f
   | some o' =>
    rw[hH]at f;simp at f;subst f;exact k.obj id _ hH
  .unfold gM at f;rw[List.getElem?_mapIdx]at f
   cases hH:H[id]? with
   | none=>rw[hH]at f;cases f
   | some o'=>rw[hH]at f;simp[C]at f;subst f;trivial⟩
 have s:∀v w u,VR c h v u->CF n H v w->VR (c.frz n) h w u:=fun v w u hv q=>by
  rcases q with rfl|q
  .exact hv.mono m
  .exact .pure (q.ok' K (fun _ _ h=>.inl h) (fun id x e z G M l L a=>by
    obtain rfl:=Vr L;exact .inr ⟨rfl,x,a,rfl⟩) hv)
 refine⟨m,⟨k.le,k.keep,fun p b g=>?_,fun p b g=>?_,fun id x a=>by rw[hl];exact k.own id x a,fun id a=>by rw[hl];exact k.lz id a,k.inj,fun id o' t=>?_⟩,s⟩
 .rcases g with g|⟨rfl,x,a,rfl⟩
  .exact k.old p b g
  .exact .inr ⟨rfl,(k.own _ _ a).1⟩
 .rcases g with g|⟨rfl,x,a,rfl⟩
  .obtain⟨h1,h2⟩:=k.S p b g;refine⟨h1,fun id x a e=>?_⟩;have h3:=h2 id x a e;have hid:id<H'.length:=by rw[hl];exact(Zh.1 h3).1
   have h4:=hH id _ _ h3 (Zg hid);rw[Zg hid];generalize H'[id]=o' at h4
   cases h4<;>rfl
  .refine⟨(k.own _ _ a).2.1,fun id y r e=>?_⟩;obtain rfl:=k.inj _ _ _ _ r a e;exact hv
 .have hid:id<H.length:=by rw[<- hl];exact(Zh.1 t).1
  have j:=k.obj id _ (Zg hid);have D:=hH id _ _ (Zg hid) t;generalize H[id]=o at j D
  cases D with
  | void=>trivial
  | same _ N=>exact j.move m rfl (fun h=>h) fun _ _=>rfl
  | @row e z G M l Y N h1 h2 h3 h4 =>
   rcases j with⟨rfl,O,P,Q⟩|⟨b,d,R,T,cells,cs,U,Z,V,X,r5,I⟩
   .obtain rfl:=zBH9.1 h1;exact .inl ⟨rfl,O,P,Q⟩
   .refine .inr ⟨b,d,R,T,cells,cs,U,by grind,V,X,by grind,h2,?_⟩;refine⟨by rw[<- h3];exact I.all.1,fun i x y a r=>?_⟩;obtain⟨J,A⟩:∃J,(l.flatMap PV.cells)[i]?=some J:=⟨_,Zg (by grind)⟩
    exact s _ _ _ (I.all.2 i _ _ A r) (h4 i _ _ A a)
theorem F0{s:vn}{Q:FX->vn->Prop}(tm':Nat->PV)(H':LP)(ht:∀i,tm' i=.bad\/CF n s.H (s.tm i) (tm' i))(hl:H'.length=s.H.length)(hv:H'[n]?=some .void)(hH:∀id o o',s.H[id]?=some o->H'[id]?=some o'->CO n s.H id o o')(k:W E caught rnd code ⟨tm',s.df,H'⟩ Q):W E caught rnd code s Q:=fun B c t b a d=>by
 obtain⟨m,e,v⟩:=a.hr.frz hl hv hH;obtain⟨f,g,x,h,c',j,l,p,q,r⟩:=k B _ t b ⟨e,fun i=>by
  rcases ht i with h1|h1
  .grind
  .rcases a.tm i with h2|⟨u,u1,u2⟩
   .rcases h1 with h1|h1
    .grind
    .rw[h2]at h1;cases h1
   grind,a.df.mono m⟩ (d.mono m)
 exact⟨f,g,x,h,c',j,l,p,m.trans q,r⟩
theorem sQ{s:vn}{Q:FX->vn->Prop}(i n:Nat){w:PV}(hn:s.H[n]?=some o)(hw:ze (gM n s.H) 0 (s.tm i) w)(k:W E caught rnd code ⟨zb s.tm i w,s.df,s.H.set n .void⟩ Q):W E caught rnd code s Q:=by
 have d:=(Zh.1 hn).1;refine F0 n _ _ (fun j=>.inr ?_) (by simp) (by grind) (fun id o f e a=>?_) k
 .unfold zb
  by_cases c:j=i
  .subst c;rw[if_pos rfl];exact .inr hw
  .rw[if_neg c];exact .inl rfl
 .by_cases b:n=id
  .subst b;simp[d]at a;subst a;exact .void _
  .rw[Zx b,e]at a;injection a with a;subst a;exact .same _ (Ne.symm b)
theorem N9{s:vn}{Q:FX->vn->Prop}(b n:Nat){e z G M:Nat}{v':PV}(hb:s.H[b]?=some (.row e z G M [v]))(hn:s.H[n]?=some o)(hne:b≠n)(hz:v'.cells.length=z)(hz':v.cells.length=z)(hw:∀(i:Nat) (x y:PV),v.cells[i]?=some x->v'.cells[i]?=some y->CF n s.H x y)(k:W E caught rnd code ⟨s.tm,s.df,(s.H.set n .void).set b (.row e z G M [v'])⟩ Q):W E caught rnd code s Q:=by
 have g:=(Zh.1 hn).1;have h:=(Zh.1 hb).1;refine F0 n _ _ (fun j=>.inr (.inl rfl)) (by simp) (by grind) (fun id o l c a=>?_) k
 by_cases f:b=id
 .subst f;rw[Zw (by grind)]at a;rw[hb]at c;injection c with c;injection a with a;subst c;subst a;refine .row hne rfl (by simpa using hz) (by grind) (by simpa using hw)
 .rw[Zx f]at a
  by_cases d:n=id
  .subst d;simp[g]at a;subst a;exact .void _
  .rw[Zx d,c]at a;injection a with a;subst a;exact .same _ (Ne.symm d)
theorem Cz{f:Nat->Nat->Nat}{op:BinOp}(ho:∀x y,kS op .u64 .u64 x y=bM f .u64 x y)(h1:0<=x)(h2:x<18446744073709551616)(h3:0<=y)(h4:y<18446744073709551616):wH (uj op) [.int .u64 x,.int .u64 y]=some (.int .u64 (f x.toNat y.toNat:Nat)):=by
 obtain⟨a,rfl⟩:=zAS9 h1;obtain⟨b,rfl⟩:=zAS9 h3;simp only[wH,PV.toT,uj,kT,ho];show (match(bif Nat.blt a (2 ^ 64)then bif Nat.blt b (2 ^ 64)then some (TV.int .u64 (.ofNat (f a b)))else none else none)with|some w=>yB w|none=>none)=_;rw[show Nat.blt a (2 ^ 64)=true by simp;omega,show Nat.blt b (2 ^ 64)=true by simp;omega];rfl
theorem jy(h1:0<=x)(h2:x<18446744073709551616)(h3:0<=y)(h4:y<18446744073709551616):wH (uj .and) [.int .u64 x,.int .u64 y]=some (.int .u64 (Nat.land x.toNat y.toNat:Nat)):=Cz (fun _ _=>rfl) h1 h2 h3 h4
theorem jd(h1:0<=x)(h2:x<18446744073709551616)(h3:0<=y)(h4:y<18446744073709551616):wH (uj .or) [.int .u64 x,.int .u64 y]=some (.int .u64 (Nat.lor x.toNat y.toNat:Nat)):=Cz (fun _ _=>rfl) h1 h2 h3 h4
theorem je(h1:0<=x)(h2:x<18446744073709551616)(h3:0<=y)(h4:y<18446744073709551616):wH (uj .xor) [.int .u64 x,.int .u64 y]=some (.int .u64 (Nat.xor x.toNat y.toNat:Nat)):=Cz (fun _ _=>rfl) h1 h2 h3 h4
theorem Fw:IntKind.u64.wrap (n:Int)=((n%18446744073709551616:Nat):Int):=by
 have h:((n%18446744073709551616:Nat):Int)=(n:Int)%18446744073709551616:=by simp
 rw[h];simp[IntKind.wrap,IntKind.bits,IntKind.signed]
theorem jS(h1:0<=x)(h3:0<=y)(h4:y<=64):wH (uj .shl) [.int .u64 x,.int k' y]=some (.int .u64 (x.toNat*2 ^ y.toNat%18446744073709551616:Nat)):=by
 obtain⟨a,rfl⟩:=zAS9 h1;obtain⟨b,rfl⟩:=zAS9 h3;simp only[wH,PV.toT,uj,kT];show (match(bif Nat.ble b 64 then some (TV.int .u64 (IntKind.u64.wrap ((a:Int)*2 ^ (min b 64))))else none)with|some w=>yB w|none=>none)=_;rw[ux zo,zBE9 zo];simp only[cond_true,yB,Z4];rw[show (a:Int)*2 ^ b=((a*2 ^ b:Nat):Int) by simp,Fw]
theorem jT(h1:0<=x)(h3:0<=y)(h4:y<=64):wH (uj .shr) [.int .u64 x,.int k' y]=some (.int .u64 (x.toNat/2 ^ y.toNat:Nat)):=by
 obtain⟨a,rfl⟩:=zAS9 h1;obtain⟨b,rfl⟩:=zAS9 h3;simp only[wH,PV.toT,uj,kT];show (match(bif Nat.ble b 64 then some (TV.int .u64 (.ofNat (a/2 ^ (min b 64))))else none)with|some w=>yB w|none=>none)=_;rw[ux zo,zBE9 zo];rfl
theorem D5:ki a b=decide (a=b):=by
 by_cases h:a=b
 .rw[(rF a b).2 h];simp[h]
 .rw[zET9.2 fun e=>h ((rF a b).1 e)];simp[h]
theorem jB:wH (uj .eql) [.str a,.str b]=some (.bool (decide (a=b))):=by
 rw[<- D5];rfl
theorem jM:wH (uj .neq) [.str a,.str b]=some (.bool (!decide (a=b))):=by
 rw[<- D5];rfl
theorem jF(s:LN):kG An [.str s]=some (.int .i64 s.length):=rfl
theorem rI:∀(l:LN) (n:Nat),cf l n=l[n]?
 | [],n=>by simp[cf]
 | x::l,0=>rfl
 | x::l,n+1=>by simp only[cf,ZJ];exact rI l n
theorem QR{k:IntKind}{s:LN}{j:Int}{x:Nat}(h0:0<=j)(h:s[j.toNat]?=some x):wH rN [.str s,.int k j]=some (.int .u8 x):=by
 obtain⟨n,rfl⟩:=zAS9 h0;rw[Z4,<- rI]at h;simp only[wH,PV.toT];show (match(match cf s n with|some c=>some (TV.int .u8 (.ofNat c))|none=>none)with|some w=>yB w|none=>none)=_;rw[h];rfl
section
variable (n:Nat)
variable (a:Nat)(l:LQ)(b:Nat)
theorem jk(k:IntKind)(m:Int):uD (n+1) (.int k m)=true:=rfl
theorem jg(b:Bool):uD (n+1) (.bool b)=true:=rfl
theorem ju(s:LN):uD (n+1) (.str s)=true:=rfl
theorem jl(p z:Nat)(l:LQ):uD (n+1) (.list p z l)=true:=rfl
theorem jh:uD (n+1) (.elem l)=true:=rfl
theorem jt(c d e f:Nat):uD (n+1) (.sl a b c d e f)=true:=rfl
theorem js(c d e:Nat):uD (n+1) (.ptr a b c d e)=true:=rfl
theorem jm:uD (n+1) (.map a)=true:=rfl
theorem jw:uD (n+1) (.yield a)=true:=rfl
theorem jr:uD (n+1) .nilsl=true:=rfl
theorem jq:uD (n+1) .nilptr=true:=rfl
theorem jp:uD (n+1) .nilmap=true:=rfl
theorem jn:uD (n+1) .nilfn=true:=rfl
theorem jo:uD (n+1) .niliface=true:=rfl
theorem jj(t:Nat)(v:PV):uD (n+1) (.iface t v)=uD n v:=rfl
theorem ji(f:Nat)(l:LQ):uD (n+1) (.fn f l)=l.all (uD n):=rfl
theorem jf:uD (n+1) (.agg l)=l.all (uD n):=rfl
theorem jv:uD (n+1) (.tuple l)=l.all (uD n):=rfl
end
end Fv
end Go.Proofs.YtkeknmgnoceogaaGreat
