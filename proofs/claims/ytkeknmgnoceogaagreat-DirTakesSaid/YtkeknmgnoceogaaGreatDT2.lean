/- part 2 of the proof of dir_takes. -/
import Derived.Test.YtkeknmgnoceogaaGreatDT1
import Derived.LoopNIn
import Derived.WalkKit
import Derived.WalkSpells
import Derived.WalkLawsBesides
import Derived.Lib.Hide
import Derived.Maps.AppendAt
import Derived.Maps.OwnOps
import Derived.Maps.Views
import Derived.Deep.AppendLies
import Derived.Deep.Draws
import Derived.Deep.RegionHeld3
import Derived.Deep.QuietTactic
import Derived.BigQuiet
import Derived.Deep.RegionWith
import Derived.Test.YtkeknmgnoceogaaGreatProg
import Derived.Laws.MakeOwn
import Derived.Laws.OwnMore
import Derived.RangeFuncNested
import Derived.RangeFuncBound
import Derived.RangeFuncCalls
import Derived.RangeFuncLeaves
import Derived.Shelf.RegionOpen
import Derived.OwnWalkIn
import Derived.TacticsInMore
import Derived.LoopIn
import Derived.Scope
import Derived.Shelf.Abstract
import Derived.OrdersHeld
import Derived.OrdersIn
import Derived.Maps.OwnIn
import Derived.RangeFuncOwn
import Derived.WalkArith
import Derived.Laws.CopyOwn
import Derived.Lib.AppendZerosOnto
import Derived.Lib.Overlaps
import Derived.Laws.Externs
import Derived.Shelf.RegionOpenPlain
import Derived.Lib.JoinLaws
import Derived.Lib.SliceRun
import Derived.Shelf.SortM.Plain
import Derived.KernelRfl
import Derived.Sort.OwnSortedInts
import Derived.IntWalk
set_option linter.unusedSimpArgs false
set_option linter.unusedVariables false
set_option maxRecDepth 100000
set_option maxHeartbeats 4000000
namespace Go.Proofs.YtkeknmgnoceogaaGreat
open Tryz
open Go.RowKit
namespace Tw
variable {P:Program}{ρ ρ':Rho}{Z:Nat}{h h':TH}{w:World}
variable {C:zce}{N:Nat}{ca:LH}{e:Exit}{l:Nat}{loc:Loc}{tm:LA}{tmps:LW}{x:TX}
theorem CR.refl{s:St}{a:Act}(k:StR P Z ρ N ca s a w)(hx:XR ρ x e):CR P Z ρ N ca s.h w x s e a w:=⟨ρ,.refl _ _,.refl _ _,zAE9 _,hx,k⟩
theorem XR.norm(hx:XR ρ x e)(h:e=.normal):x=.norm:=by
 cases x<;>simp only[XR]at hx<;>first|rfl|(subst hx;cases h)|(obtain⟨_,e,_⟩:=hx;rw[e]at h;cases h)
theorem XR.goto(hx:XR ρ x e)(h:e=.goto l):x=.goto l:=by
 cases x<;>simp only[XR]at hx<;>first|(subst hx;cases h;done)|(obtain⟨_,e,_⟩:=hx;rw[e]at h;cases h;done)|(subst hx;injection h with h;subst h;rfl)
theorem XR.exit(hx:XR ρ x e)(h:e=.exit l):x=.exit l:=by
 cases x<;>simp only[XR]at hx<;>first|(subst hx;cases h;done)|(obtain⟨_,e,_⟩:=hx;rw[e]at h;cases h;done)|(subst hx;injection h with h;subst h;rfl)
theorem zrU(hC:zhS P C)(hR:zj9 P C)(hmix:P.follows .mixedOrders=true){M:Nat}{rnd trnd:LC}(hrnd:rnd=none\/∀f,ca.get f=none):
  ∀(n:Nat) (c:Code) (T:zbS),zc7 P N n c=some T->∀(ρ:Rho) (s:St) (a:Act) (w:World) (x:TX) (s':St),Rnd ρ trnd rnd->StR P Z ρ N ca s a w->zbX C ca M trnd T s=some (x,s')->c.wpIn (Fr rnd) 0 P (CR P Z ρ N ca s.h w x s') a w:=by
 intro n
 induction n with
 | zero=>intro c T hT;cases hT
 | succ n ih =>
  intro c T hT ρ s a w x s' hr k hs
  cases c with
  | skip =>
   simp only[zc7]at hT;injection hT with hT;subst hT;simp only[zbX]at hs;injection hs with hs;injection hs with h1 h2;subst h1;subst h2;exact wpIn_skip (CR.refl k rfl)
  | label l =>
   simp only[zc7]at hT;injection hT with hT;subst hT;simp only[zbX]at hs;injection hs with hs;injection hs with h1 h2;subst h1;subst h2;exact wpIn_label (CR.refl k rfl)
  | region id ops draw =>
   simp only[zc7]at hT
   split at hT
   .cases hT
   .rename_i os hos
    cases draw with
    | false =>
     simp only[zCQ9,if_false]at hT;injection hT with hT;subst hT;exact zBh hC hR hrnd hos k hs
    | true =>
     simp only[if_true]at hT;exact zEo hC hR hrnd hmix hos hT k hs
  | seq c1 c2 =>
   simp only[zc7]at hT
   split at hT
   .rename_i t1 t2 h1 h2;injection hT with hT;subst hT;simp only[zbX]at hs;refine wpIn_seq ?_
    cases hr1:zbX C ca M trnd t1 s with
    | none=>rw[hr1]at hs;cases hs
    | some r1 =>
     obtain⟨x1,s1⟩:=r1;rw[hr1]at hs;refine wpIn_mono (ih c1 t1 h1 ρ s a w x1 s1 hr k hr1) ?_;intro e a1 w1 hc;obtain⟨ρ1,g1,g2,g3,g4,g5⟩:=hc
     by_cases he:e=.normal
     .have:=g4.norm he;subst this;subst he;exact wpIn_mono (ih c2 t2 h2 ρ1 s1 a1 w1 x s' (hr.mono g1.more) g5 hs) fun e a2 w2 hc2=>hc2.trans g1 g2 g3
     .have hx1:x1 ≠ .norm:=fun e'=>by subst e';exact he g4
      have hs':some (x1,s1)=some (x,s'):=by grind
      injection hs' with hs';injection hs' with q1 q2;subst q1;subst q2
      cases e<;>first|exact absurd rfl he|exact⟨ρ1,g1,g2,g3,g4,g5⟩
   .cases hT
  | cond c c1 c2 =>
   simp only[zc7]at hT
   split at hT
   .rename_i c' t1 t2 hc' h1 h2;injection hT with hT;subst hT;simp only[zbX]at hs
    split at hs
    .rename_i hb;have hv:=zlW k.tm hc' hb;generalize hav:a.eval c=av at hv
     cases hv
     exact wpIn_cond_true hav (ih c1 t1 h1 ρ s a w x s' hr k hs)
    .rename_i hb;have hv:=zlW k.tm hc' hb;generalize hav:a.eval c=av at hv
     cases hv
     exact wpIn_cond_false hav (ih c2 t2 h2 ρ s a w x s' hr k hs)
    .cases hs
   .cases hT
  | block id b =>
   simp only[zc7]at hT
   split at hT
   .rename_i t ht;injection hT with hT;subst hT;simp only[zbX]at hs;refine wpIn_block ?_
    cases hr1:zbX C ca M trnd t s with
    | none=>rw[hr1]at hs;cases hs
    | some r1 =>
     obtain⟨x1,s1⟩:=r1;rw[hr1]at hs;refine wpIn_mono (ih b t ht ρ s a w x1 s1 hr k hr1) ?_;intro e a1 w1 hc;obtain⟨ρ1,g1,g2,g3,g4,g5⟩:=hc
     by_cases he:∃j,e=.exit j
     .obtain⟨j,rfl⟩:=he;have:=g4.exit rfl;subst this;simp only[Exit.inBlock];dsimp only at hs
      by_cases hj:j=id
      .subst hj;rw[show Nat.beq j j=true from Nat.beq_refl j]at hs;simp only[cond_true]at hs;injection hs with hs;injection hs with q1 q2;subst q1;subst q2;rw[if_pos rfl];exact⟨ρ1,g1,g2,g3,rfl,g5⟩
      .rw[show Nat.beq j id=false from zHO9.2 fun h=>hj (zAL9 h)]at hs;simp only[cond_false]at hs;injection hs with hs;injection hs with q1 q2;subst q1;subst q2;rw[if_neg hj];exact⟨ρ1,g1,g2,g3,rfl,g5⟩
     .have hx1:∀j,x1 ≠ .exit j:=fun j e'=>by subst e';exact he ⟨j,g4⟩
      have hs':some (x1,s1)=some (x,s'):=by grind
      injection hs' with hs';injection hs' with q1 q2;subst q1;subst q2
      cases e<;>first|exact absurd ⟨_,rfl⟩ he|exact⟨ρ1,g1,g2,g3,g4,g5⟩
   .cases hT
  | loop b =>
   simp only[zc7]at hT
   split at hT
   .rename_i t ht;injection hT with hT;subst hT;simp only[zbX]at hs;refine wpIn_loop_rounds M ?_;have key:∀(m:Nat) (ρ:Rho) (s:St) (a:Act) (w:World),Rnd ρ trnd rnd->StR P Z ρ N ca s a w->zkj (zbX C ca M trnd t) m s=some (x,s')->∀Q:Exit->Act->World->Prop,(∀e a' w',CR P Z ρ N ca s.h w x s' e a' w'->Q e a' w')->Code.roundsIn (Fr rnd) 0 P b Q m a w:=by
     intro m
     induction m with
     | zero=>intro ρ s a w _ _ hs;cases hs
     | succ m ihm =>
      intro ρ s a w hr k hs Q hQ;simp only[zkj]at hs;rw[roundsIn_succ]
      cases hr1:zbX C ca M trnd t s with
      | none=>rw[hr1]at hs;cases hs
      | some r1 =>
       obtain⟨x1,s1⟩:=r1;rw[hr1]at hs;refine wpIn_mono (ih b t ht ρ s a w x1 s1 hr k hr1) ?_;intro e a1 w1 hc;obtain⟨ρ1,g1,g2,g3,g4,g5⟩:=hc
       by_cases he:e=.normal
       .have:=g4.norm he;subst this;subst he;exact ihm ρ1 s1 a1 w1 (hr.mono g1.more) g5 hs Q fun e a2 w2 hc2=>hQ _ _ _ (hc2.trans g1 g2 g3)
       .have hx1:x1 ≠ .norm:=fun e'=>by subst e';exact he g4
        have hs':some (x1,s1)=some (x,s'):=by grind
        injection hs' with hs';injection hs' with q1 q2;subst q1;subst q2;have:=hQ e a1 w1 ⟨ρ1,g1,g2,g3,g4,g5⟩
        cases e<;>first|exact absurd rfl he|exact this
    exact key M ρ s a w hr k hs _ fun _ _ _ h=>h
   .cases hT
  | rangeFunc f ps c1 c2 =>
   simp only[zc7]at hT
   split at hT
   .cases hT
   .rename_i hps
    split at hT
    .rename_i f' t1 t2 hf h1 h2;injection hT with hT;subst hT;simp only[zbX]at hs
     split at hs
     .rename_i g cap hg;exact zCu hC k hr (zlW k.tm hf hg) (fun p hp=>by
       have:=zBV9.1 (Bool.not_eq_false _ ▸ hps) p hp;simpa using this) h1 h2 hs
     .cases hs
    .cases hT
  | exit id =>
   simp only[zc7]at hT;injection hT with hT;subst hT;simp only[zbX]at hs;injection hs with hs;injection hs with h1 h2;subst h1;subst h2;exact wpIn_exit (CR.refl k rfl)
  | goto l =>
   simp only[zc7]at hT;injection hT with hT;subst hT;simp only[zbX]at hs;injection hs with hs;injection hs with h1 h2;subst h1;subst h2;exact wpIn_goto (CR.refl k rfl)
  | ret =>
   simp only[zc7]at hT;injection hT with hT;subst hT;simp only[zbX]at hs;injection hs with hs;injection hs with h1 h2;subst h1;subst h2;exact wpIn_ret (CR.refl k rfl)
  | scope b =>
   simp only[zc7]at hT
   split at hT
   .split at hT
    .rename_i t ht;injection hT with hT;subst hT;simp only[zbX]at hs
     cases hr1:zbX C ca M trnd t s with
     | none=>rw[hr1]at hs;cases hs
     | some r1 =>
      obtain⟨x1,s1⟩:=r1;rw[hr1]at hs;refine zl4 (fun _ _=>False) 0 (.inl fun _ _ h=>h) ?_;refine wpIn_mono (ih b t ht ρ s a w x1 s1 hr k hr1) ?_;intro e a1 w1 hc;have hx1:∀j,x1 ≠ .goto j:=fun j e'=>by subst e';cases hs
      have hs':some (x1,s1)=some (x,s'):=by grind
      injection hs' with hs';injection hs' with q1 q2;subst q1;subst q2
      cases e<;>first|exact hc|(obtain⟨_,_,_,_,g4,_⟩:=hc;exact absurd (g4.goto rfl) (hx1 _))
    .cases hT
   .rename_i l hl
    split at hT
    .cases hT
    .rename_i r hfl
     split at hT
     .rename_i t1 t2 h1 h2;injection hT with hT;subst hT;simp only[zbX]at hs
      cases hr1:zbX C ca M trnd t1 s with
      | none=>rw[hr1]at hs;cases hs
      | some r1 =>
       obtain⟨x1,s1⟩:=r1;rw[hr1]at hs
       by_cases hg:∃j,x1=.goto j
       .obtain⟨j,rfl⟩:=hg;dsimp only at hs;obtain⟨hj,hsA⟩:=zac hs;have hj:=zAL9 hj;subst hj
        cases hr2:zbX C ca M trnd t2 s1 with
        | none=>rw[hr2]at hsA;cases hsA
        | some r2 =>
         obtain⟨x2,s2⟩:=r2;rw[hr2]at hsA;have hx2:∀j,x2 ≠ .goto j:=fun j e'=>by subst e';cases hsA
         have hs':some (x2,s2)=some (x,s'):=by grind
         injection hs' with hs';injection hs' with q1 q2;subst q1;subst q2;refine zl4 (fun a1 w1=>CR P Z ρ N ca s.h w (.goto j) s1 (.goto j) a1 w1) j (.inr ⟨r,hfl,fun a1 w1 hc=>?_⟩) ?_
         .obtain⟨ρ1,g1,g2,g3,g4,g5⟩:=hc;refine wpIn_mono (ih r t2 h2 ρ1 s1 a1 w1 x2 s2 (hr.mono g1.more) g5 hr2) ?_;intro e a2 w2 hc2;have hc2':=hc2.trans g1 g2 g3
          cases e<;>first|exact hc2'|(obtain⟨_,_,_,_,g4,_⟩:=hc2;exact absurd (g4.goto rfl) (hx2 _))
         .refine wpIn_mono (ih b t1 h1 ρ s a w (.goto j) s1 hr k hr1) ?_;intro e a1 w1 hc;have he:e=.goto j:=by obtain⟨_,_,_,_,g4,_⟩:=hc;exact g4
          subst he;exact⟨rfl,hc⟩
       .have hx1:∀j,x1 ≠ .goto j:=fun j e'=>hg ⟨j,e'⟩;have hs':some (x1,s1)=some (x,s'):=by grind
        injection hs' with hs';injection hs' with q1 q2;subst q1;subst q2;refine zl4 (fun _ _=>False) 0 (.inl fun _ _ h=>h) ?_;refine wpIn_mono (ih b t1 h1 ρ s a w x1 s1 hr k hr1) ?_;intro e a1 w1 hc
        cases e<;>first|exact hc|(obtain⟨_,_,_,_,g4,_⟩:=hc;exact absurd (g4.goto rfl) (hx1 _))
     .cases hT
  | refuse=>cases hT
theorem zvD:∀(ps:LN) (vs:LK) (vs':LM) (tm:LA) (tmps:LW),ps.length=vs.length->VL ρ vs vs'->(∀p∈ps,p<N)->N<=tmps.size->TmR ρ tm tmps ->
  TmR ρ (zjq ps vs tm) ((ps.zip vs').foldl (fun tmps (t,a)=>tmps.setIfInBounds t a) tmps)/\((ps.zip vs').foldl (fun tmps (t,a)=>tmps.setIfInBounds t a) tmps).size=tmps.size
 | [],vs,vs',tm,tmps,hl,hv,hp,hN,k=>by exact⟨k,rfl⟩
 | p::ps,[],vs',tm,tmps,hl,hv,hp,hN,k=>by simp at hl
 | p::ps,v::vs,vs',tm,tmps,hl,hv,hp,hN,k=>by
  obtain⟨v',cs,rfl,h1,h2⟩:=hv.oc;simp only[zjq,List.zip_cons_cons,zFZ9];have hlt:=hp p zAR9;have k1:TmR ρ (tm.set p (some v)) (tmps.setIfInBounds p v'):=fun t u hu=>by
   rw[Tr.get_set]at hu
   by_cases e:t=p
   .grind
   .rw[if_neg e]at hu;obtain⟨u',a1,a2⟩:=k t u hu
    grind
  obtain⟨r1,r2⟩:=zvD ps vs cs _ _ (by simpa using hl) h2 (fun q hq=>hp q (zAQ9 _ hq)) (by simpa using hN) k1
  grind
theorem zva(ps:Array Nat)(vs:LM)(tmps:LW):(ps.zip vs.toArray).foldl (fun tmps (t,a)=>tmps.setIfInBounds t a) tmps=(ps.toList.zip vs).foldl (fun tmps (t,a)=>tmps.setIfInBounds t a) tmps:=by
 obtain⟨ps⟩:=ps;simp
theorem zo6(k:WR P Z ρ h w)(hl:ρ l 0=some loc){st st':LoopState}{pe pe':TX}{ps:LN}{aS bo:zbS}{d:Nat}(ho:h.get l=some (.loop st pe tm ps aS bo d)){pd:Option Code}(hpd:PeR pe' pd):
  ∃rec,w.heap[loc.r]?=some (.loop rec)/\rec.state=st/\PeR pe rec.pending/\WR P Z ρ (h.set l (.loop st' pe' tm ps aS bo d)) (w.putObj loc.r (.loop { rec with state:=st',pending:=pd }))/\Below Z w (w.putObj loc.r (.loop { rec with state:=st',pending:=pd })):=by
 obtain⟨o',ho',hor⟩:=k.obj _ _ _ hl;rw[ho]at ho';injection ho' with ho';subst ho';obtain⟨loc1,rec,locd,N',n',m',q1,q2,q3,q4,q5,q6,q7,q8,q9,q10,q11,q12⟩:=hor;rw[hl]at q1;injection q1 with q1;subst q1;have hZo:∀g' loc',ρ l g'=some loc'->Z<=loc'.r:=fun g' loc' hl'=>k.own hl' ho (fun cs h=>by cases h);have hdm:=k.dom _ _ _ hl;have hZr:=hZo _ _ hl;have hput:(w.putObj loc.r (.loop { rec with state:=st',pending:=pd })).heap[loc.r]?=some (.loop { rec with state:=st',pending:=pd }):=World.putObj_heap_same hdm.2.2;have hne:∀c g' l',c≠l->ρ c g'=some l'->l'.r≠loc.r:=fun c g' l' hc hl' e=>hc (k.sep _ _ _ _ _ _ hl' hl e zo);exact⟨rec,q3,q4,q5,k.change (ρ':=ρ) (x':=.loop st' pe' tm ps aS bo d) (fun _ _ _ h=>h) (fun _ _ _=>rfl) hl (w':=w.putObj loc.r (.loop { rec with state:=st',pending:=pd })) (by simp) (fun c g' l' hc hl'=>World.putObj_heap_other (hne c g' l' hc hl'))
  ⟨loc,_,locd,N',n',m',hl,q2,hput,rfl,hpd,q6,q7,q8,q9,q10,q11,q12⟩ (fun g' l' hl'=>by
   have hd':=k.dom _ _ _ hl';exact⟨hZo _ _ hl',by simp;exact hd'.2.2⟩) (fun g' l' hl' c g'' l'' hc hl'' e=>hc (k.sep _ _ _ _ _ _ hl' hl'' e (hZo _ _ hl')).symm),zm5 hZr _⟩
theorem zC7{E:Env}(hC:zhS P C)(hR:zj9 P C)(hmix:P.follows .mixedOrders=true){args:LK}{b:Bool}(hr:zrv E C l args h=some (b,h')){args':LM}(k:WR P Z ρ h w)(hZ:Z<=w.heap.size)(hl:ρ l 0=some loc)(hv:VL ρ args args'):
  ∃fn tmps assign body,(Instr.yield loc.r args'.toArray).run P w=.ok (.round loc.r fn tmps assign body) w/\RoundIn (Fr none) 0 P loc.r fn tmps assign body w (zgp P Z ρ h h' w (.ret (.bool b))):=by
 unfold zrv at hr;obtain⟨o,ho,hor⟩:=k.obj _ _ _ hl;rw[ho]at hr;dsimp only at hr
 cases o with
 | row=>cases hr
 | map=>cases hr
 | dfr=>cases hr
 | ro=>cases hr
 | loop st pe tm ps aS bo d =>
  simp only[zuz]at hr;obtain⟨hlen,hrA⟩:=zac hr;have hlen:=zAL9 hlen;obtain⟨loc1,rec,locd,N,n,m,q1,q2,q3,q4,q5,q6,q7,q8,q9,q10,q11,q12⟩:=hor;rw[hl]at q1;injection q1 with q1;subst q1;subst q8;refine⟨rec.fn,_,rec.assign,rec.body,run_yield q3 (by rw[zEN9,<- hv.1,<- hlen];simp),?_⟩;refine roundIn_of_wpIn trivial ?_;obtain⟨t1,t2⟩:=zvD rec.params.toList args args' tm rec.tmps hlen hv q9 q7 q6
  cases hr1:zbX C .nil E.N (some l) aS ⟨zjq rec.params.toList args tm,[],h⟩with
  | none=>rw[hr1]at hrA;cases hrA
  | some r1 =>
   obtain⟨x1,s1⟩:=r1;rw[hr1]at hrA;have kst:StR P Z ρ N .nil ⟨zjq rec.params.toList args tm,[],h⟩ { tmps:=(rec.params.zip args'.toArray).foldl (fun tmps (t,a)=>tmps.setIfInBounds t a) rec.tmps,defers:=[] } w :=
    ⟨k,by rw[zva];exact t1,by dsimp only;rw[zva,t2];exact q7,.nil,hZ⟩
   refine wpIn_mono (zrU hC hR hmix (ca:=.nil) (rnd:=some loc.r) (trnd:=some l) (.inr fun _=>rfl) n rec.assign aS q10 ρ _ _ w x1 s1 ⟨loc,hl,rfl⟩ kst hr1) ?_;intro e a1 w1 hc;obtain⟨ρ1,g1,g2,g3,g4,g5⟩:=hc;simp only[zCC]at hrA
   cases x1<;>try cases hrA
   have g4:e=.normal:=g4;subst g4
   cases ho1:s1.h.get l with
   | none=>rw[ho1]at hrA;cases hrA
   | some o1 =>
    rw[ho1]at hrA;dsimp only at hrA
    cases o1 with
    | row=>cases hrA
    | map=>cases hrA
    | dfr=>cases hrA
    | ro=>cases hrA
    | loop st1 pe1 tm1 ps1 as1 bo1 d1 =>
     simp only[zu1]at hrA
     cases st1<;>try cases hrA
     have hl1:=g1.more _ _ _ hl;obtain⟨rec0,p1,p2,p3,_,_⟩:=zo6 (st':=.busy) (pe':=.norm) (pd:=none) g5.wr hl1 ho1 rfl;obtain⟨rec1,p1',p2',p3',p4,p5⟩:=zo6 (st':=.busy) (pe':=pe1) (pd:=rec0.pending) g5.wr hl1 ho1 p3;rw[p1]at p1';injection p1' with p1';injection p1' with p1';subst p1';refine⟨w1.putObj loc.r (.loop { rec0 with state:=.busy }),run_beginRound p1 p2,?_⟩
     cases hr2:zbX C .nil E.N (some l) bo ⟨s1.tm,s1.df,s1.h.set l (.loop .busy pe1 tm1 ps1 as1 bo1 d1)⟩with
     | none=>rw[hr2]at hrA;cases hrA
     | some r2 =>
      obtain⟨x2,s2⟩:=r2;rw[hr2]at hrA;have k2:StR P Z ρ1 N .nil ⟨s1.tm,s1.df,s1.h.set l (.loop .busy pe1 tm1 ps1 as1 bo1 d1)⟩ a1 (w1.putObj loc.r (.loop { rec0 with state:=.busy })):=⟨p4,g5.tm,g5.sz,g5.df,zBW9 g5.hZ p5.size⟩
      refine wpIn_mono (zrU hC hR hmix (ca:=.nil) (rnd:=some loc.r) (trnd:=some l) (.inr fun _=>rfl) m rec.body bo q11 ρ1 _ _ _ x2 s2 ⟨loc,hl1,rfl⟩ k2 hr2) ?_;intro e a2 w2 hc2;obtain⟨ρ2,f1,f2,f3,f4,f5⟩:=hc2;simp only[zmw]at hrA
      cases hdf:s2.df with
      | cons _ _=>rw[hdf]at hrA;cases hrA
      | nil =>
       rw[hdf]at hrA;dsimp only at hrA
       cases ho2:s2.h.get l with
       | none=>rw[ho2]at hrA;cases hrA
       | some o2 =>
        rw[ho2]at hrA;dsimp only at hrA
        cases o2 with
        | row=>cases hrA
        | map=>cases hrA
        | dfr=>cases hrA
        | ro=>cases hrA
        | loop st2 pe2 tm2 ps2 as2 bo2 d2 =>
         have hl2:=f1.more _ _ _ hl1;have hle:Rho.le h.next ρ ρ2:=g1.trans f1 (by rw[TH.next_set];exact g3);have hbl:Below Z w w2:=(g2.trans p5).trans f2;have hnx:h.next<=s2.h.next:=zBW9 g3 (by have:=f3;rw[TH.next_set]at this;exact this);have fin:∀(x:TX) (pd:Option Code),PeR x pd->h'=s2.h.set l (.loop (if pd.isNone then .ready else .done) x tm2 ps2 as2 bo2 d2)->b=pd.isNone->∃v w',(Instr.endRound loc.r pd).run P w2=.ok v w'/\zgp P Z ρ h h' w (.ret (.bool b)) (.returned v) w':=fun x pd hx hh hb=>by
          obtain⟨rec2,z1,z2,z3,z4,z5⟩:=zo6 (st':=if pd.isNone then .ready else .done) (pe':=x) (pd:=pd) f5.wr hl2 ho2 hx;refine⟨_,_,run_endRound pd z1,ρ2,hle,by rw[hh];exact z4,hbl.trans z5,by rw[hh,TH.next_set];exact hnx,_,rfl,by rw[hb];exact .bool _⟩
         simp only[zyk]at hrA
         cases x2 with
         | norm =>
          have f4:e=.normal:=f4;subst f4;injection hrA with hrA;injection hrA with y1 y2;exact fin .norm none rfl y2.symm y1.symm
         | exit id =>
          have f4:e=.exit id:=f4;subst f4;injection hrA with hrA;injection hrA with y1 y2;exact fin (.exit id) (some (.exit id)) rfl y2.symm y1.symm
         | goto t =>
          have f4:e=.goto t:=f4;subst f4;injection hrA with hrA;injection hrA with y1 y2;exact fin (.goto t) (some (.goto t)) rfl y2.symm y1.symm
         | ret =>
          have f4:e=.ret:=f4;subst f4;injection hrA with hrA;injection hrA with y1 y2;exact fin .ret (some .ret) rfl y2.symm y1.symm
         | panic v=>cases hrA
theorem zxr(k:WR P Z ρ h w)(kt:TmR ρ tm tmps):∀(rs:List ResultVar) (ts:List zpp) (vs:LK),zd2 (zjJ P) rs=some ts->zjW tm h ts=some vs ->
  ∃vs',(rs.mapM fun(x:ResultVar)=>(match x with
  | .tmp t=>pure (tmps.getD t undef)
  | .cell a t=>do loadVar t (<- asAddr (tmps.getD a undef)):Sem Value)).run P w=.ok vs' w/\VL ρ vs vs'
 | [],ts,vs,hm,hr=>by
  simp only[zd2]at hm;injection hm with hm;subst hm;simp only[zjW]at hr;injection hr with hr;subst hr;exact⟨[],by simp,VL.nil ρ⟩
 | r::rs,ts,vs,hm,hr=>by
  unfold zd2 at hm
  split at hm
  .cases hm
  .rename_i t ht
   split at hm
   .cases hm
   .rename_i ts' hts;injection hm with hm;subst hm;simp only[zjW]at hr
    split at hr
    .cases hr
    .rename_i v hv
     split at hr
     .cases hr
     .rename_i us hus;injection hr with hr;subst hr;obtain⟨us',e1,e2⟩:=zxr k kt rs ts' us hts hus;have hone:∃v',((match r with
       | .tmp t=>pure (tmps.getD t undef)
       | .cell a t=>do loadVar t (<- asAddr (tmps.getD a undef)):Sem Value)).run P w=.ok v' w/\VR ρ v v':=by
       cases r with
       | tmp t0 =>
        simp only[zjJ]at ht;injection ht with ht;subst ht;obtain⟨v',a1,a2⟩:=kt _ _ hv;exact⟨v',by simp[zDP9,a1],a2⟩
       | cell t0 ty =>
        simp only[zjJ]at ht
        split at ht
        .rename_i g n hg hn;injection ht with ht;subst ht;dsimp only at hv
         split at hv
         .rename_i p hp;obtain⟨p',a1,a2⟩:=kt _ _ hp;obtain⟨v',b1,b2⟩:=zuG k hg hn a2 hv;refine⟨v',?_,b2⟩;have hpt:∃ad,p'=.pointer (some ad):=by
           have hv2:zhZ g n h p=some v:=hv;unfold zhZ at hv2
           split at hv2
           .cases a2;exact⟨_,rfl⟩
           .cases hv2
          obtain⟨ad,rfl⟩:=hpt;simp only[Instr.loadAt,Instr.sureAddr,Sem.run_bind,Sem.run_pure,Result.andThen_ok]at b1;simp only[zDP9,a1,Option.getD_some,asAddr,Sem.run_bind,Sem.run_pure,Result.andThen_ok];exact b1
         .cases hv
        .cases ht
      obtain⟨v',c1,c2⟩:=hone;refine⟨v'::us',?_,.cons c2 e2⟩
      simp_all
theorem zzl(k:WR P Z ρ h w){fn:Func}(kt:TmR ρ tm tmps){ts:List zpp}{vs:LK}(hm:zd2 (zjJ P) fn.results.toList=some ts)(hr:zjW tm h ts=some vs):∃v',(results fn tmps).run P w=.ok v' w/\VR ρ (tup vs) v':=by
 obtain⟨vs',e1,e2⟩:=zxr k kt _ _ _ hm hr;unfold results;rw[Array.mapM_eq_mapM_toList];simp only[Sem.run_bind,map_eq_pure_bind,bind_assoc];generalize hX:Sem.run P (List.mapM _ fn.results.toList) w=X;have hX2:X=.ok vs' w:=hX.symm.trans e1;rw[hX2];simp only[Result.andThen_ok,pure_bind,Sem.run_pure]
 cases vs with
 | nil =>
  have:=e2.oN;subst this;exact⟨_,rfl,VR.tL (VL.nil ρ)⟩
 | cons v vs =>
  obtain⟨v',cs,rfl,a1,a2⟩:=e2.oc
  cases vs with
  | nil =>
   have:=a2.oN;subst this;exact⟨_,rfl,a1⟩
  | cons u us =>
   obtain⟨u',ds,rfl,b1,b2⟩:=a2.oc;refine⟨.tuple (v'::u'::ds).toArray,?_,VR.tL (.cons a1 (.cons b1 b2))⟩;simp
theorem zxK(k:WR P Z ρ h w){b g:Nat}(hρ:ρ b g=some loc){x:TV}(hw:zfs h b g 0 [x]=some h'):(∃v,w.cell? ⟨loc.r,0,none⟩=some v)/\w.frozen? ⟨loc.r,0,none⟩=false:=by
 unfold zfs at hw
 split at hw
 .rename_i y hy;unfold zqY at hw
  split at hw
  .rename_i e G M len cells;obtain⟨ha,hwA⟩:=zac hw;obtain⟨hb,hwB⟩:=zac hwA;have ha:=zAL9 ha;have hb:=zAW9 hb;subst ha;obtain⟨o,ho,hor⟩:=k.obj _ _ _ hρ;rw[hy]at ho;injection ho with ho;subst ho;obtain⟨loc',cur,q1,q2,q3,q4,q5,q6,q7⟩:=hor.2.2 g hor.1 (zAE9 _);rw[hρ]at q1;injection q1 with q1;subst q1;have hlen:=q6 rfl;obtain⟨_,v,_,c2,_,_⟩:=q7 0 (by simp at hb;omega);obtain⟨fz,q2,hfz⟩:=q2;have h0:0<cur.size:=(zCH9.1 c2).1;refine⟨⟨v,by simp[World.cell?,q2,c2]⟩,?_⟩;rcases hfz with rfl|⟨_,hfz⟩
   .simp[World.frozen?,q2]
   .obtain⟨lo,hi⟩:=fz;simp only[World.frozen?,q2,Bool.and_eq_false_iff,decide_eq_false_iff_not]
    left
    dsimp only at hfz;omega
  .cases hw
 .cases hw
theorem zmI(n:Int){r:Nat}{v:Value}(hc:w.cell? ⟨r,0,none⟩=some v)(hf:w.frozen? ⟨r,0,none⟩=false):(storeCells ⟨r,0,none⟩ [.int .i64 n]).run P w=.ok () (w.setCell ⟨r,0,none⟩ (.int .i64 n)):=by
 have h0:(⟨r,0,none⟩:Addr).add 0=⟨r,0,none⟩:=by simp[zea]
 simp[storeCells,h0,go_sem,hc,hf]
structure ziH(P:Program)(errno f:Nat):Prop where
 ent:∀(args:LW) w,(callFunc f args).run P w=.ok (.enter f args) w
 idle:∀p' c' w,CallsDIn (Fr none) 0 P f #[p',c'] .returning w fun e u' w'=>(∃v,e=.returned v)/\u'=.returning/\w'=w
 hit:∀(n:Int) (eb gid:Nat) (cap:LW) (w:World) (R:World->Prop),(∀w,(callFunc gid cap).run P w=.ok (.enter gid cap) w)->CallsIn (Fr none) 0 P gid cap w (fun e w'=>e=.returned (.tuple #[])/\R w') ->
  (∀w1,R w1->(∃v,w1.cell? ⟨eb,0,none⟩=some v)/\w1.frozen? ⟨eb,0,none⟩=false) ->
  CallsDIn (Fr none) 0 P f #[.pointer (some ⟨eb,0,none⟩),.func (.func gid) #[] cap] (.panicking [{ v:=.iface errno (.int .i64 n),recovered:=false }]) w fun e u' w' =>
   (∃v,e=.returned v)/\u'=.panicking [{ v:=.iface errno (.int .i64 n),recovered:=true }]/\∃w1,R w1/\w'=w1.setCell ⟨eb,0,none⟩ (.int .i64 n)
def MR(ρ:Rho):TM->FrameMode->Prop
 | .returning,u=>u=.returning
 | .panicking v,u=>∃v',u=.panicking [{ v:=v',recovered:=false }]/\VR ρ v v'
variable {u:FrameMode}
theorem MR.mono(hρ:∀b g loc,ρ b g=some loc->ρ' b g=some loc){m:TM}(k:MR ρ m u):MR ρ' m u:=by
 cases m with
 | returning=>exact k
 | panicking v=>obtain⟨v',a,b⟩:=k;exact⟨v',a,b.mono hρ⟩
theorem MR.ne{m:TM}(k:MR ρ m u):u ≠ .run:=by
 cases m with
 | returning=>simp only[MR]at k;subst k;simp
 | panicking v=>obtain⟨v',rfl,_⟩:=k;simp
theorem zEe{E:Env}{C:zce}(hC:zhS P C)(hca:∀f,E.caught.get f=some ()->ziH P E.errno f){fn:Func}{tmps:LW}{R:Ending->World->Prop} :
  ∀(td:AT) (ds:List Deferred) (m:TM) (u:FrameMode) (h:TH) (w:World) (ρ:Rho) (m':TM) (h':TH),WR P Z ρ h w->Z<=w.heap.size->DfR ρ E.caught td ds->MR ρ m u->zeb E C td m h=some (m',h') ->
  (∀ρ' w' u',Rho.le h.next ρ ρ'->WR P Z ρ' h' w'->Below Z w w'->h.next<=h'.next->MR ρ' m' u'->LeavesIn (Fr none) 0 P fn tmps R [] u' w')->LeavesInM (Fr none) 0 P fn tmps R ds u w:=by
 intro td
 induction td with
 | nil =>
  intro ds m u h w ρ m' h' k hZ hd hm hl hfin
  cases hd
  simp only[zeb]at hl;injection hl with hl;injection hl with h1 h2;subst h1;subst h2;exact hfin ρ w u (.refl _ _) k (.refl _ _) (zAE9 _) hm
 | cons t td ih =>
  intro ds m u h w ρ m' h' k hZ hd hm hl hfin
  cases hd with
  | mark hb hrest =>
   rename_i b loc ds;simp only[zeb]at hl
   split at hl
   .rename_i hg;obtain⟨o,ho,hor⟩:=k.obj _ _ _ hb;rw[hg]at ho;injection ho with ho;subst ho;obtain⟨loc1,q1,q2⟩:=hor;rw[hb]at q1;injection q1 with q1;subst q1;have hZo:∀g' loc',ρ b g'=some loc'->Z<=loc'.r:=fun g' loc' hl'=>k.own hl' hg (fun cs h=>by cases h);have hdm:=k.dom _ _ _ hb;have hZr:=hZo _ _ hb;have hput:(w.putObj loc.r (.deferred none)).heap[loc.r]?=some (.deferred none):=World.putObj_heap_same hdm.2.2;have hne:∀c g' l',c≠b->ρ c g'=some l'->l'.r≠loc.r:=fun c g' l' hc hl' e=>hc (k.sep _ _ _ _ _ _ hl' hb e zo);have k2:=k.change (ρ':=ρ) (x':=.dfr true) (fun _ _ _ h=>h) (fun _ _ _=>rfl) hb (w':=w.putObj loc.r (.deferred none)) (by simp) (fun c g' l' hc hl'=>World.putObj_heap_other (hne c g' l' hc hl'))
     ⟨loc,hb,hput⟩ (fun g' l' hl'=>by
      have hd':=k.dom _ _ _ hl';exact⟨hZo _ _ hl',by simp;exact hd'.2.2⟩) (fun g' l' hl' c g'' l'' hc hl'' e=>hc (k.sep _ _ _ _ _ _ hl' hl'' e (hZo _ _ hl')).symm)
    have hb2:=zm5 (w:=w) hZr (.deferred none);refine⟨hm.ne,.inl ⟨loc.r,_,rfl,run_takeDeferred q2,?_⟩⟩;exact ih _ m u _ _ ρ m' h' k2 (zBW9 hZ hb2.size) hrest hm hl fun ρ' w' u' a1 a2 a3 a4 a5=>hfin ρ' w' u' a1 a2 (hb2.trans a3) a4 a5
   .cases hl
  | caught hf hp hc hrest =>
   rename_i f p c p' c' ds;have hok:=hca f hf;have hinv:(invoke (.fn (.func f) #[]) #[p',c']).run P w=.ok (.enter f #[p',c']) w:=by
    simp only[invoke,Array.append_empty];exact hok.ent _ w
   refine⟨hm.ne,.inr ⟨fun hd=>by simp[Fr,Fence.wide]at hd,_,_,f,#[p',c'],rfl,hinv,fun _ _=>trivial,?_⟩⟩
   cases m with
   | returning =>
    have hm:u=.returning:=hm;subst hm;simp only[zeb]at hl;refine(hok.idle p' c' w).mono ?_;rintro e u' w' ⟨⟨v,rfl⟩,rfl,rfl⟩;exact ih _ .returning .returning _ _ ρ m' h' k hZ hrest rfl hl hfin
   | panicking v =>
    obtain⟨v',rfl,hv⟩:=hm;simp only[zeb]at hl
    split at hl
    .rename_i heq
     cases heq
    .rename_i t n heq
     cases heq
     obtain⟨ht,hlA⟩:=zac hl;have ht:=zAL9 ht
     split at hlA
     .rename_i g cap
      split at hlA
      .rename_i h1 hcall
       split at hlA
       .rename_i b g' e0
        split at hlA
        .rename_i h2 hw
         cases hp with
         | ptr hpl hpc =>
          rename_i loc
          cases hc with
          | fn hcl hcr =>
           rename_i caps;obtain⟨hent,hcalls⟩:=hC g _ _ _ h1 hcall Z ρ w caps k hZ ⟨hcl,hcr⟩
           cases hv with
           | iface hv =>
            cases hv
            subst ht;refine(hok.hit n loc.r g caps.toArray w (fun w1=>∃ρ1,Rho.le h.next ρ ρ1/\WR P Z ρ1 h1 w1/\Below Z w w1/\h.next<=h1.next) hent (hcalls.mono ?_) ?_).mono ?_
            .rintro e w1 ⟨ρ1,a1,a2,a3,a4,v',rfl,a5⟩;refine⟨?_,ρ1,a1,a2,a3,a4⟩;generalize hvv:v'=vv at a5
             cases a5 with
             | tuple hl0 hx0 =>
              rename_i cs;have:cs=[]:=by cases cs;rfl;simp at hl0
              subst this;rfl
            .rintro w1 ⟨ρ1,a1,a2,a3,a4⟩;exact zxK a2 (a1.more _ _ _ hpl) hw
            .rintro e u' w' ⟨⟨v,rfl⟩,rfl,w1,⟨ρ1,a1,a2,a3,a4⟩,b0⟩;obtain⟨w2,b1,b2,b3,b4⟩:=zlJ a2 (a1.more _ _ _ hpl) (VL.one (.int .i64 n)) (by simp[TV.one]) hw;obtain⟨⟨v0,q1⟩,q2⟩:=zxK a2 (a1.more _ _ _ hpl) hw;rw[zmI n q1 q2]at b1;injection b1 with _ b1;rw[<- b0]at b1;subst b1;exact ih _ .returning .returning _ _ ρ1 m' h' b2 (zBW9 hZ (a3.trans b3).size) (hrest.mono a1.more) rfl hlA fun ρ' w3 u' c1 c2 c3 c4 c5=>hfin ρ' w3 u' (a1.trans c1 (by rw[b4];exact a4)) c2 ((a3.trans b3).trans c3) (by rw[b4]at c4;exact zBW9 a4 c4) c5
        .cases hlA
       .cases hlA
      .cases hlA
     .cases hlA
    .cases hl
structure zhU(P:Program)(E:Env):Prop where
 mix:P.follows .mixedOrders=true
 fn:∀f F,E.funcs.get f=some F->∃fn,P.funcs[f]?=some fn/\zlz P fn=some F/\∀(args:LW) w,(callFunc f args).run P w=.ok (.enter f args) w
 spec:∀f g,E.spec f=some g->∀(Z:Nat) (ρ:Rho) (w:World) (args:LK) (args':LM) (h:TH) (r:TE) (h':TH),g args h=some (r,h')->WR P Z ρ h w->Z<=w.heap.size->VL ρ args args' ->
  (∀w,(callFunc f args'.toArray).run P w=.ok (.enter f args'.toArray) w)/\CallsIn (Fr none) 0 P f args'.toArray w (zgp P Z ρ h h' w r)
 caught:∀f,E.caught.get f=some ()->ziH P E.errno f
variable {E:Env}
theorem zCO{fn:Func}{F:zd}(hF:zlz P fn=some F):∃c,fn.body=some c/\zc7 P fn.ntmps 1000 c=some F.body/\zd2 (zjJ P) fn.results.toList=some F.res/\F.N=fn.ntmps:=by
 unfold zlz at hF
 grind
theorem zHa(hE:zhU P E){C:zce}(hC:zhS P C)(hR:zj9 P C):zhS P ⟨zbm E C,zrv E C⟩:=by
 intro f args h r h' hr Z ρ w args' k hZ hv;simp only[zbm]at hr
 split at hr
 .rename_i F hF;obtain⟨hlen,hrA⟩:=zac hr;have hlen:=zAW9 hlen;obtain⟨fn,p1,p2,p3⟩:=hE.fn f F hF;obtain⟨c,c1,c2,c3,c4⟩:=zCO p2;refine⟨fun w=>p3 _ w,callsIn_of_wp_marks p1 c1 trivial ?_⟩
  cases hr1:zbX C E.caught E.N none F.body ⟨Tr.putL .nil 0 args,[],h⟩with
  | none=>rw[hr1]at hrA;cases hrA
  | some r1 =>
   obtain⟨x,s⟩:=r1;rw[hr1]at hrA;have kst:StR P Z ρ fn.ntmps E.caught ⟨Tr.putL .nil 0 args,[],h⟩ { tmps:=args'.toArray++Array.replicate (fn.ntmps-args'.toArray.size) undef,defers:=[] } w:=by
    refine⟨k,fun t v ht=>?_,by simp;omega,.nil,hZ⟩;dsimp only at ht;rw[Tr.get_putL]at ht
    split at ht
    .rename_i hlt;obtain⟨y,y1,y2⟩:=hv.at ht
     grind
    .rw[Tr.get_nil]at ht;cases ht
   refine wpIn_mono (zrU hC hR hE.mix (rnd:=none) (trnd:=none) (.inl rfl) 1000 c F.body c2 ρ _ _ w x s trivial kst hr1) ?_;intro e a1 w1 hc;obtain⟨ρ1,g1,g2,g3,g4,g5⟩:=hc;have out:∀(m:TM) (u:FrameMode),MR ρ1 m u->zkh E F s.tm (zeb E C s.df m s.h)=some (r,h')->LeavesInM (Fr none) 0 P fn a1.tmps (zgp P Z ρ h h' w r) a1.defers u w1:=fun m u hm hl=>by
    cases hlv:zeb E C s.df m s.h with
    | none=>rw[hlv]at hl;cases hl
    | some q =>
     obtain⟨m',h2⟩:=q;rw[hlv]at hl;refine zEe hC hE.caught s.df a1.defers m u s.h w1 ρ1 m' h2 g5.wr g5.hZ g5.df hm hlv fun ρ2 w2 u2 b1 b2 b3 b4 b5=>?_;have hle:=g1.trans b1 g3;have hb:=g2.trans b3;have hn:=zBW9 g3 b4
     cases m' with
     | returning =>
      have b5:u2=.returning:=b5;subst b5;simp only[zkh]at hl
      split at hl
      .rename_i vs hvs;injection hl with hl;injection hl with l1 l2;subst l1;subst l2;obtain⟨v',d1,d2⟩:=zzl b2 (g5.tm.mono b1.more) c3 hvs;exact⟨v',d1,ρ2,hle,b2,hb,hn,v',rfl,d2⟩
      .cases hl
     | panicking v =>
      obtain⟨v',rfl,d2⟩:=b5;simp only[zkh]at hl;injection hl with hl;injection hl with l1 l2;subst l1;subst l2;exact⟨ρ2,hle,b2,hb,hn,v',rfl,d2⟩
   simp only[zCL]at hrA
   cases x with
   | norm =>
    have g4:e=.normal:=g4;subst g4;exact out .returning .returning rfl hrA
   | ret =>
    have g4:e=.ret:=g4;subst g4;exact out .returning .returning rfl hrA
   | panic v =>
    obtain⟨v',rfl,hv'⟩:=g4;exact out (.panicking v) _ ⟨v',rfl,hv'⟩ hrA
   | exit id=>cases hrA
   | goto l=>cases hrA
 .split at hr
  .rename_i g hg;exact hE.spec f g hg Z ρ w args args' h r h' hr k hZ hv
  .cases hr
theorem zmd(hE:zhU P E):∀d,zhS P (zdX E d)/\zj9 P (zdX E d)
 | 0=>⟨fun f args h r h' hr=>(by cases hr),fun l args h b h' hr=>(by cases hr)⟩
 | d+1=>by
  obtain⟨hC,hR⟩:=zmd hE d;exact⟨zHa hE hC hR,fun l args h b h' hr Z ρ w args' loc k hZ hl hv=>zC7 hC hR hE.mix hr k hZ hl hv⟩
theorem WR.start(w:World):WR P w.heap.size (fun _ _=>none) ⟨0,.nil⟩ w:=⟨fun _ _ _ h=>(by cases h),fun _ _ _ h=>(by cases h),fun _ _ _ _ _ _ h=>(by cases h)⟩
theorem zAl(hE:zhU P E){d f:Nat}{r:TE}(hr:(zdX E d).fn f [] ⟨0,.nil⟩=some (r,h'))(w:World):
  (∀w,(callFunc f #[]).run P w=.ok (.enter f #[]) w)/\CallsIn (Fr none) 0 P f #[] w fun e w'=>Below w.heap.size w w'/\match r with
   | .ret v=>∃ρ v',e=.returned v'/\VR ρ v v'
   | .panic v=>∃ρ v',e=.panicked [{ v:=v',recovered:=false }]/\VR ρ v v':=by
 obtain⟨h1,h2⟩:=(zmd hE d).1 f [] ⟨0,.nil⟩ r h' hr w.heap.size _ w [] (WR.start w) (zAE9 _) (VL.nil _);refine⟨h1,h2.mono ?_⟩;rintro e w' ⟨ρ',_,_,hb,_,he⟩
 grind
end Tw
variable {Z:Nat}
def Ext(w w':World):Prop:=Below w.heap.size w w'
variable {p:Addr}{w w1 w2:World}
theorem Ext.refl(w:World):Ext w w:=Below.refl _ w
theorem Ext.trans(h:Ext w w1)(k:Ext w1 w2):Ext w w2:=Below.trans h (Below.mono k (Below.size h))
theorem Ext.drew(h:Ext w w1):Ext w w1.drew:=Below.drew h
theorem Ext.alloc(h:Ext w w1)(o:Obj):Ext w (w1.alloc o):=Below.alloc h (Below.size h) o
theorem Ext.setCell(h:Ext w w1)(hp:w.heap.size<=p.block)(u:Value):Ext w (w1.setCell p u):=Below.setCell h hp u
theorem Ext.grown{row:LC}(h:Ext w w1)(hg:w1.grownBy w2 row)(hr:∀k,row=some k->w.heap.size<=k):Ext w w2:=Below.grown h hg (Below.size h) hr
theorem Ext.size(h:Ext w w1):w.heap.size<=w1.heap.size:=Below.size h
theorem Ext.below(h:Ext w w1):Below w.heap.size w w1:=h
theorem Ext.cells{W:World}(hb:Ext W w1):(∀b o,b<W.heap.size->w1.cell? ⟨b,o,none⟩=W.cell? ⟨b,o,none⟩)/\(∀b o,b<W.heap.size->w1.frozen? ⟨b,o,none⟩=W.frozen? ⟨b,o,none⟩) :=
 ⟨fun b o h=>Below.cell hb (p:=⟨b,o,none⟩) h,fun b o h=>Below.frozen hb (p:=⟨b,o,none⟩) h⟩
theorem Ext.cell(h:Ext w w1){v:Value}(hc:w.cell? p=some v):w1.cell? p=some v:=(Below.cell h (World.block_lt_of_cell? w _ hc)).trans hc
theorem Ext.block(h:Ext w w1){b:Nat}{o:Obj}(hc:w.heap[b]?=some o):w1.heap[b]?=some o:=(Below.block h b (zCH9.1 hc).1).trans hc
theorem zHE(w:World)(o1:Obj):Ext w (w.alloc o1):=(Ext.refl w).alloc o1
theorem Ext.grownBy(h:Ext w w1)(row:LC):w.grownBy w1 row:=⟨h.os,h.tape,h.output,h.size,fun k hk _=>Below.block h k hk⟩
theorem zhz(b o j:Nat):(⟨b,o,none⟩:Addr).add j=⟨b,o+j,none⟩:=by unfold Addr.add;split<;>simp_all
def Typ(w:World)(b:Nat)(t:TypeId):Prop:=∃cs fr,w.heap[b]?=some (.cells cs t fr)
variable {b:Nat}{t:TypeId}{w':World}
theorem Typ.lt(h:Typ w b t):b<w.heap.size:=by obtain⟨_,_,h⟩:=h;exact(zCH9.1 h).1
theorem Typ.ext(h:Typ w b t)(hb:Ext w w'):Typ w' b t:=by obtain⟨cs,fr,h⟩:=h;exact⟨cs,fr,hb.block h⟩
theorem Typ.set(h:Typ w b t)(p:Addr)(v:Value):Typ (w.setCell p v) b t:=by
 obtain⟨cs,fr,h⟩:=h
 by_cases e:p.block=b
 .subst e;exact⟨_,_,by simp[World.setCell,zGN9,h];exact⟨rfl,rfl⟩⟩
 .exact⟨cs,fr,(Below.heap_setCell w p v b (fun x=>e x.symm)).trans h⟩
theorem Typ.same(h:Typ w b t)(he:w'.heap[b]?=w.heap[b]?):Typ w' b t:=by obtain⟨cs,fr,h⟩:=h;exact⟨cs,fr,he.trans h⟩
theorem Typ.one{t':TypeId}(h:Typ w b t)(h':Typ w b t'):t=t':=by
 obtain⟨cs,fr,h⟩:=h;obtain⟨cs',fr',h'⟩:=h'
 grind
theorem zF2{base:Nat}{e:TypeId}{size n:Nat}{v:Value}{xs:LM}(h:w.ownsRow base e size v n xs)(hb:v.ownBlock=some b):Typ w b e:=by
 rcases h.2 with⟨rfl,_⟩|⟨g,cap,cur,rfl,_,hg,_⟩
 .simp[Value.ownBlock]at hb
 .simp[Value.ownBlock]at hb;subst hb;exact⟨_,_,hg⟩
def zka(t:TypeId)(Z:Nat)(w:World)(b:Nat):Prop:=b<Z\/Typ w b t
theorem zka.same{w':World}(h:zka t Z w b)(he:w'.heap[b]?=w.heap[b]?):zka t Z w' b:=h.imp id fun h=>h.same he
theorem zka.ne{X:Nat}{t':TypeId}(h:zka t Z w b)(hX:Z<=X)(ht:Typ w X t')(hne:t'≠t):b≠X:=by
 rintro rfl;rcases h with h|h
 .omega
 .exact hne (ht.one h)
def RT(t:TypeId)(Z:Nat)(w:World)(A:Option Addr)(xs:LM):Prop :=
 xs ≠ []->∃b o,A=some ⟨b,o,none⟩/\zka t Z w b/\∀(j:Nat) u,xs[j]?=some u->w.cell? ⟨b,o+j,none⟩=some u
variable {t:TypeId}
variable {base:Nat}{e:TypeId}{n o:Nat}{v:Value}{xs:LM}
theorem RT.nil(w:World)(A:Option Addr):RT t Z w A []:=fun h=>(h rfl).elim
theorem RT.move{A xs}(h:RT t Z w A xs)(hb:∀b o,A=some ⟨b,o,none⟩->zka t Z w b->b<w.heap.size->w'.heap[b]?=w.heap[b]?):RT t Z w' A xs:=fun hl=>by
 obtain⟨b,o,hA,ht,hc⟩:=h hl;have hlt:b<w.heap.size:=by
  obtain⟨u,l,rfl⟩:=List.exists_cons_of_ne_nil hl;exact World.block_lt_of_cell? w _ (hc 0 u rfl)
 have he:=hb b o hA ht hlt;exact⟨b,o,hA,ht.same he,fun j u hj=>(World.cell?_of_block (a:=⟨b,o+j,none⟩) he).trans (hc j u hj)⟩
theorem RT.ext{A xs}(h:RT t Z w A xs)(hb:Ext w w'):RT t Z w' A xs:=h.move fun b _ _ _ hl=>Below.block hb b hl
theorem RT.drew{A xs}(h:RT t Z w A xs):RT t Z w.drew A xs:=h.ext (Ext.refl _).drew
theorem RT.alloc{A xs}(h:RT t Z w A xs)(o:Obj):RT t Z (w.alloc o) A xs:=h.ext (zHE _ _)
theorem RT.grown{A xs}(h:RT t Z w A xs){size:Nat}{ys:LM}(hown:w.ownsRow base e size v n ys)(he:e≠t)(hb:Z<=base)(hg:w.grownBy w' v.ownBlock):RT t Z w' A xs :=
 h.move fun b _ _ ht hl=>hg.block b hl fun e'=>ht.ne (zBW9 hb (hown.lt b e'.symm).1) (zF2 hown e'.symm) he rfl
theorem RT.set{A xs}(h:RT t Z w A xs){p:Addr}(hp:Z<=p.block)(ht:Typ w p.block e)(he:e≠t)(v:Value):RT t Z (w.setCell p v) A xs :=
 h.move fun b _ _ ho _=>Below.heap_setCell w p v b (ho.ne hp ht he)
theorem RT.lt{A xs}(h:RT t Z w A xs)(hA:A=some ⟨b,o,none⟩)(hl:xs ≠ []):b<w.heap.size:=by
 obtain⟨b',o',hA',_,hc⟩:=h hl;rw[hA]at hA';injection hA' with hA';injection hA' with hA' hA2;subst hA';subst hA2;obtain⟨u,l,rfl⟩:=List.exists_cons_of_ne_nil hl;exact World.block_lt_of_cell? w _ (hc 0 u rfl)
theorem RT.mono{A xs}(h:RT t Z w A xs){Z':Nat}(hz:Z<=Z'):RT t Z' w A xs:=fun hl=>by
 obtain⟨b,o,hA,ht,hc⟩:=h hl;exact⟨b,o,hA,ht.imp (fun h=>zBM9 h hz) id,hc⟩
theorem RT.sub{xs}(h:RT t Z w (some ⟨b,o,none⟩) xs)(k n:Nat):RT t Z w (some ⟨b,o+k,none⟩) ((xs.drop k).take n):=fun hl=>by
 have hne:xs ≠ []:=by rintro rfl;simp at hl
 obtain⟨b',o',hA,ht,hc⟩:=h hne;injection hA with hA;injection hA with h1 h2;subst h1;subst h2
 grind
theorem RT.drop{xs}(h:RT t Z w (some ⟨b,o,none⟩) xs)(k:Nat):RT t Z w (some ⟨b,o+k,none⟩) (xs.drop k):=by
 have:=h.sub k (xs.drop k).length
 grind
theorem RT.take{A xs}(h:RT t Z w A xs)(n:Nat):RT t Z w A (xs.take n):=fun hl=>by
 have hne:xs ≠ []:=by rintro rfl;simp at hl
 obtain⟨b,o,hA,ht,hc⟩:=h hne
 grind
theorem zIl{size:Nat}(h:w.ownsRow base e size v n xs):
  ∃A c,v=.slice A n c/\n<=c/\c<=maxLen/\RT e Z w A xs/\∀b o,A=some ⟨b,o,none⟩->base<=b/\b<w.heap.size/\o=0/\v.ownBlock=some b:=by
 rcases h.2 with⟨rfl,rfl⟩|⟨g,cap,cur,rfl,hb,hg,hc,hm,_⟩
 .have:xs=[]:=zBZ9 (by simpa using h.1);subst this;exact⟨none,0,rfl,zAE9 _,zAJ9 _,RT.nil _ _,fun _ _ h=>by cases h⟩
 .refine⟨_,_,rfl,hc,hm,fun _=>⟨g,0,rfl,.inr ⟨_,_,hg⟩,fun j u hj=>?_⟩,fun b o e=>?_⟩
  .have:=h.cells (g:=g) rfl j u hj
   rwa [zhz]at this
  .injection e with e;injection e with e1 e2;subst e1;subst e2;exact⟨hb,(zCH9.1 hg).1,rfl,rfl⟩
theorem zFA{size:Nat}(h:w.ownsRow base e size v n xs)(hx:Ext w w'):w'.ownsRow base e size v n xs:=by
 refine World.ownsRow.kept h (row:=none) (hx.grownBy none) ?_
 grind
section
variable {P:Program}(w:World)
end
structure Lay(α:Type) where
 t:TypeId
 size:Nat
 bytes:Nat
 enc:α->LM
 len:∀a,(enc a).length=size
 one:∀a,∀u∈enc a,u.oneCell'=true
 pos:0<size
 z:Value
 info:(prog.info? t).map (fun i=>(i.zero,i.size,i.bytes))=some (some z,size,bytes)
 zs:z.cells.size=size
variable {α:Type}{L:Lay α}
def Lay.all(L:Lay α)(l:List α):LM:=l.flatMap L.enc
theorem Lay.all_cons(L:Lay α)(a:α)(l:List α):L.all (a::l)=L.enc a++L.all l:=rfl
theorem Lay.all_one(L:Lay α)(a:α):L.all [a]=L.enc a:=by simp[Lay.all]
theorem Lay.all_len(L:Lay α)(l:List α):(L.all l).length=l.length*L.size:=by
 induction l with
 | nil=>simp[Lay.all]
 | cons a l ih=>rw[L.all_cons,zAB9,L.len,ih,zAG9,zDL9,zDS9]
theorem Lay.all_oneCell(L:Lay α)(l:List α):∀u∈L.all l,u.oneCell'=true:=by
 intro u hu;obtain⟨a,_,ha⟩:=zAU9.1 hu;exact L.one a u ha
theorem Lay.all_at(L:Lay α):∀(l:List α) (j:Nat) (a:α),l[j]?=some a->∀i u,(L.enc a)[i]?=some u->(L.all l)[j*L.size+i]?=some u
 | [],_,_,h,_,_,_=>by simp at h
 | x::l,0,a,h,i,u,hu=>by
  simp at h;subst h;have hi:i<(L.enc x).length:=(zAC9.1 hu).1;rw[L.all_cons,zGR9,zBS9,zAX9 hi];exact hu
 | x::l,j+1,a,h,i,u,hu=>by
  have hi:i<L.size:=by rw[<- L.len a];exact(zAC9.1 hu).1
  rw[L.all_cons,zBC9 (by rw[L.len];rw[zDL9];omega),L.len];have:=L.all_at l j a (by simpa using h) i u hu
  grind
theorem Lay.all_drop(L:Lay α):∀(k:Nat) (l:List α),L.all (l.drop k)=(L.all l).drop (k*L.size)
 | 0,l=>by simp
 | k+1,[]=>by simp[Lay.all]
 | k+1,x::l=>by
  have e:(k+1)*L.size=L.size+k*L.size:=by rw[zDL9,zDS9]
  rw[zFX9,L.all_drop k l,L.all_cons,e,<- zEF9];have e2:List.drop L.size (L.enc x++L.all l)=L.all l:=by
   have:=List.drop_left (l₁:=L.enc x) (l₂:=L.all l)
   rwa [L.len]at this
  rw[e2]
theorem Lay.all_take(L:Lay α):∀(k:Nat) (l:List α),L.all (l.take k)=(L.all l).take (k*L.size)
 | 0,l=>by simp[Lay.all]
 | k+1,[]=>by simp[Lay.all]
 | k+1,x::l=>by
  have e:(k+1)*L.size=(L.enc x).length+k*L.size:=by rw[zDL9,zDS9,L.len]
  rw[zFY9,L.all_cons,L.all_take k l,L.all_cons,e,List.take_length_add_append]
theorem Lay.all_ne(L:Lay α){l:List α}(h:l ≠ []):L.all l ≠ []:=by
 intro e;have:=L.all_len l;rw[e]at this;have h0:=Nat.mul_pos (zCC9.2 h) L.pos
 grind
def RL(L:Lay α)(Z:Nat)(w:World)(A:Option Addr)(l:List α):Prop:=RT L.t Z w A (L.all l)
variable {l:List α}
theorem RL.nil(w:World)(A:Option Addr):RL L Z w A []:=RT.nil w A
theorem RL.ext{w':World}{A}(h:RL L Z w A l)(hb:Ext w w'):RL L Z w' A l:=RT.ext h hb
theorem RL.alloc{A}(h:RL L Z w A l)(o:Obj):RL L Z (w.alloc o) A l:=RT.alloc h o
theorem RL.drew{A}(h:RL L Z w A l):RL L Z w.drew A l:=RT.drew h
theorem RL.at{A}(h:RL L Z w A l)(hl:l ≠ []):∃b o,A=some ⟨b,o,none⟩/\b<w.heap.size/\zka L.t Z w b/\∀j a,l[j]?=some a->∀i u,(L.enc a)[i]?=some u->w.cell? ⟨b,o+(j*L.size+i),none⟩=some u:=by
 obtain⟨b,o,hA,ht,hc⟩:=h (L.all_ne hl);exact⟨b,o,hA,RT.lt h hA (L.all_ne hl),ht,fun j a hj i u hu=>hc _ u (L.all_at l j a hj i u hu)⟩
theorem RL.sub{b o:Nat}(h:RL L Z w (some ⟨b,o,none⟩) l)(k n:Nat):RL L Z w (some ⟨b,o+k*L.size,none⟩) ((l.drop k).take n):=by
 unfold RL;rw[L.all_take,L.all_drop];exact RT.sub h (k*L.size) (n*L.size)
theorem RL.take{A}(h:RL L Z w A l)(n:Nat):RL L Z w A (l.take n):=by
 unfold RL;rw[L.all_take];exact RT.take h _
def OL(L:Lay α)(w:World)(base:Nat)(v:Value)(l:List α):Prop:=w.ownsRow base L.t L.size v l.length (L.all l)
theorem OL.nil(L:Lay α)(w:World)(base:Nat):OL L w base (.slice none 0 0) []:=World.ownsRow_nil w base _ _
theorem OL.rl{base v}(h:OL L w base v l):∃A c,v=.slice A l.length c/\l.length<=c/\c<=maxLen/\RL L Z w A l/\∀b o,A=some ⟨b,o,none⟩->base<=b/\b<w.heap.size/\o=0/\v.ownBlock=some b:=zIl h
theorem OL.alloc{base v}(h:OL L w base v l)(o:Obj):OL L (w.alloc o) base v l:=World.ownsRow.alloc h o
theorem OL.ext{w':World}{base v}(h:OL L w base v l)(hx:Ext w w'):OL L w' base v l:=zFA h hx
def LU:Lay Nat:=⟨29,1,8,fun x=>[.int .u64 x],fun _=>rfl,fun _ u hu=>(by simp only[zBA9,zCW9,or_false]at hu;subst hu;rfl),by decide,.int .u64 0,by kernel_rfl,rfl⟩
def LI:Lay Int:=⟨3,1,8,fun x=>[.int .i64 x],fun _=>rfl,fun _ u hu=>(by simp only[zBA9,zCW9,or_false]at hu;subst hu;rfl),by decide,.int .i64 0,by kernel_rfl,rfl⟩
def LT:Lay (Int×Nat):=⟨120,2,16,fun x=>[.int .i64 x.1,.int .u64 x.2],fun _=>rfl,fun _ u hu=>(by simp only[zBA9,zCW9,or_false]at hu;rcases hu with rfl|rfl<;>rfl),by decide,.agg #[.int .i64 0,.int .u64 0],by kernel_rfl,rfl⟩
theorem RL.u64{A}{l:LN}(h:RL LU Z w A l)(hl:l ≠ []):∃b o,A=some ⟨b,o,none⟩/\b<w.heap.size/\zka 29 Z w b/\∀j (hj:j<l.length),w.cell? ⟨b,o+j,none⟩=some (.int .u64 (l[j]:Nat)):=by
 obtain⟨b,o,hA,hb,ht,hc⟩:=h.at hl;refine⟨b,o,hA,hb,ht,fun j hj=>?_⟩;have:=hc j l[j] (zAA9 hj) 0 (.int .u64 (l[j]:Nat)) rfl;simpa[LU]using this
theorem RL.int{A}{l:LG}(h:RL LI Z w A l)(hl:l ≠ []):∃b o,A=some ⟨b,o,none⟩/\b<w.heap.size/\zka 3 Z w b/\∀j (hj:j<l.length),w.cell? ⟨b,o+j,none⟩=some (.int .i64 l[j]):=by
 obtain⟨b,o,hA,hb,ht,hc⟩:=h.at hl;refine⟨b,o,hA,hb,ht,fun j hj=>?_⟩;have:=hc j l[j] (zAA9 hj) 0 (.int .i64 l[j]) rfl;simpa[LI]using this
theorem RL.put{A}{l:List (Int×Nat)}(h:RL LT Z w A l)(hl:l ≠ []):∃b o,A=some ⟨b,o,none⟩/\b<w.heap.size/\zka 120 Z w b/\∀j (hj:j<l.length),w.cell? ⟨b,o+j*2,none⟩=some (.int .i64 l[j].1)/\w.cell? ⟨b,o+j*2+1,none⟩=some (.int .u64 (l[j].2:Nat)):=by
 obtain⟨b,o,hA,hb,ht,hc⟩:=h.at hl;refine⟨b,o,hA,hb,ht,fun j hj=>⟨?_,?_⟩⟩
 .have:=hc j l[j] (zAA9 hj) 0 (.int .i64 l[j].1) rfl;simpa[LT]using this
 .have:=hc j l[j] (zAA9 hj) 1 (.int .u64 (l[j].2:Nat)) rfl;simpa[LT,zEY9]using this
theorem Ext.frozen{w1:World}(h:Ext w w1){o:Nat}{u:Bool}(hc:w.frozen? ⟨b,o,none⟩=u)(hb:b<w.heap.size):w1.frozen? ⟨b,o,none⟩=u:=(h.cells.2 b o hb).trans hc
attribute [go_sem] Oper.semAt_some
theorem Typ.cells(h:Typ w b t):∃o,w.heap[b]?=some o/\o.isCells=true:=by
 obtain⟨cs,fr,h⟩:=h;exact⟨_,h,rfl⟩
open Go.RowKit Go.Maps
structure zHN where
 t:TypeId
 k:TypeId
 q:IntKind
 hk:prog.underlying k=some (.int q)
 ht:prog.underlying t=some (.map k 3)
variable {M:zHN}{B:Nat}{S:LG}
theorem RT.map{w w':World}{A xs}(h:RT t Z w A xs){o:Obj}(ho:w.heap[B]?=some o)(hc:o.isCells=false)(hB:Z<=B)(hg:w.grownBy w' (some B)):RT t Z w' A xs :=
 h.move fun b _ _ ht hl=>hg.block b hl fun e=>by
  injection e with e;subst e;rcases ht with ht|⟨cs,fr,ht⟩
  .omega
  .rw[ho]at ht;injection ht with ht;subst ht;cases hc
namespace Tw
variable {ρ:Rho}
theorem VR.sl_inv{b g o n q z:Nat}{v:Value}(h:VR ρ (.sl b g o n q z) v):∃loc o' c,v=.slice (some ⟨loc.r,o',none⟩) n c/\ρ b g=some loc/\n<=q/2/\q/2<=c/\o+q/2*z<=loc.L/\(o'=o\/n=0/\c=0/\o≠0)/\(q%2=0->o+c*z=loc.S)/\c<=maxLen:=by
 cases h
 grind
def srt(l:LG):LG:=l.mergeSort fun x y=>decide (x<=y)
theorem zim(l:LG):(srt l).length=l.length:=List.length_mergeSort _
def zlq:LK->Option (LG)
 | []=>some []
 | .int .i64 a::l=>(match zlq l with
  | some r=>some (a::r)
  | none=>none)
 | _=>none
def ivT(l:LG):LK:=l.map fun a=>.int .i64 a
theorem ztF:∀{l:LK} {r:LG},zlq l=some r->l=ivT r
 | [],r,h=>by injection h with h;subst h;rfl
 | x::l,r,h=>by
  unfold zlq at h
  split at h
  .grind
  .rename_i a l' e;injection e with e1 e2;subst e1;subst e2
   split at h
   .rename_i r' hr;injection h with h;subst h;rw[ztF hr];rfl
   .cases h
  .cases h
theorem zqH:∀r:LG,zlq (ivT r)=some r
 | []=>rfl
 | a::r=>by have:=zqH r;unfold ivT at this⊢;rw[zBY9,zlq,this]
noncomputable def zpQ (h:TH)(b g n e0:Nat):TO->Option (TE×TH)
 | .row e G M len cells=>bif Nat.beq e e0 then bif Nat.beq g G then bif Nat.beq n len then bif Nat.ble M G then bif Nat.ble n 1000000 then(match cells.getL 0 len with
  | some l=>(match zlq l with
   | some r=>some (.ret (.tuple []),h.set b (.row e G G len (Tr.putL .nil 0 (ivT (srt r)))))
   | none=>none)
  | none=>none)else none else none else none else none else none
 | _=>none
noncomputable def zkr (e0:Nat)(vs:LK)(h:TH):Option (TE×TH):=match vs with
 | [.sl b g 0 n _ 1]=>(match h.get b with
  | some o=>zpQ h b g n e0 o
  | none=>none)
 | _=>none
end Tw
variable {Z:Nat}
variable {Q:Exit->Act->World->Prop}{a:Act}{o:Oper}{ops:AF}(l:List (Int×Nat))(w:World)(x:Int×Nat)(base g:Nat)
theorem zBE{P:Program}(dT sT ty elem:TypeId)(size g o dLen dCap:Nat)(a:Addr)(sLen sCap:Nat)(cur:LM)(t:TypeId)(cs:LM)(hu:P.underlying dT=some (.slice elem))(hs:(P.info? elem).map (·.size)=some size)(hg:w.heap[g]?=some (.cells cur.toArray t (0,0)))(hn:cs.length=Nat.min sLen dLen*size)(hsrc:∀j v,cs[j]?=some v->w.cell? (a.add j)=some v)(hfit:o+cs.length<=cur.length)(h1:∀v∈cs,v.oneCell'=true):
  (Builtin.copy_ #[dT,sT] ty #[.slice (some ⟨g,o,none⟩) dLen dCap,.slice (some a) sLen sCap]).run P w =
   .ok (goInt (Nat.min sLen dLen:Nat)) (w.setRow g (splice cur o cs).toArray):=by
 have hl:=run_loadCells_list (P:=P) w a cs hsrc;have hst:=run_storeCells_at P g o t cs 0 cur.toArray w hg (by simpa using hfit) h1
 cases hq:P.info? elem with
 | none=>simp[hq]at hs
 | some i =>
  have hi:i.size=size:=by simpa[hq]using hs
  simp only[zDC9,zAD9]at hst;simp[Builtin.copy_,run_underlying hu,Builtin.lenOf,Builtin.firstCells,sizeOf,typeInfo,hq,hi,<- hn,hl,hst,splice]
theorem zww(R X S:List α)(hX:X.length=2):splice (splice R 0 X) 2 S=X++(S++R.drop (2+S.length)):=by
 have e1:splice R 0 X=X++R.drop 2:=by unfold splice;simp[hX]
 rw[e1];unfold splice;rw[zDY9 zo,zBR9 zo,List.drop_append,zGG9 zo,zEF9,zAV9]
 grind
theorem zuj(C X S:List α)(hX:X.length=2)(hC:2<=C.length):splice (splice C 2 S) 0 X=X++(S++C.drop (2+S.length)):=by
 unfold splice
 grind
theorem znj(cs:LW):w.grownBy (w.setRow g cs) (some g) :=
 ⟨rfl,rfl,rfl,by simp[World.setRow],fun k _ hk=>setRow_other w g k cs (fun e=>hk (by rw[e]))⟩
theorem zer{w:World}{rest:AM}(hgd:o.guard=none)(d s:Operand)(dT sT:TypeId)(ho:o.op=.call { callee:=.builtin .copy,args:=#[d,s],argTypes:=#[dT,sT] })(elem:TypeId)(hu:prog.underlying dT=some (.slice elem))(size:Nat)(hsz:(prog.info? elem).map (·.size)=some size)(g off dLen dCap:Nat)(ad:Addr)(sLen sCap:Nat)(hd:a.eval d=.slice (some ⟨g,off,none⟩) dLen dCap)(hs:a.eval s=.slice (some ad) sLen sCap)(cur:LM)(t:TypeId)(hg:w.heap[g]?=some (.cells cur.toArray t (0,0)))(cs:LM)(hn:cs.length=Nat.min sLen dLen*size)(hsrc:∀j v,cs[j]?=some v->w.cell? (ad.add j)=some v)(hfit:off+cs.length<=cur.length)(h1:∀v∈cs,v.oneCell'=true)(h:∀w',Hid (w'.heap[g]?=some (.cells (splice cur off cs).toArray t (0,0)))->Hid (w.grownBy w' (some g))->wpList prog ops Q rest (a.put o.dst (goInt (Nat.min sLen dLen:Nat))) w'):wpList prog ops Q (o::rest) a w:=by
 refine wpList_plain hgd fun K hK=>?_;have hrun:=zBE (P:=prog) w dT sT o.type elem size g off dLen dCap ad sLen sCap cur t cs hu hsz hg hn hsrc hfit h1;unfold Oper.wp;simp[execOp,ho,resolve,invoke,builtin,hd,hs,hrun,Result.andThen];exact hK _ _ (h _ (Lib.hid (setRow_heap w g _ _ t _ hg)) (Lib.hid (znj _ _ _)))
theorem zxQ{w:World}{K:Act->World->Prop}{E:Prop}(hgd:o.guard=none)(d s:Operand)(dT sT:TypeId)(ho:o.op=.call { callee:=.builtin .copy,args:=#[d,s],argTypes:=#[dT,sT] })(elem:TypeId)(hu:prog.underlying dT=some (.slice elem))(size:Nat)(hsz:(prog.info? elem).map (·.size)=some size)(g off dLen dCap:Nat)(ad:Addr)(sLen sCap:Nat)(hd:a.eval d=.slice (some ⟨g,off,none⟩) dLen dCap)(hs:a.eval s=.slice (some ad) sLen sCap)(cur:LM)(t:TypeId)(hg:w.heap[g]?=some (.cells cur.toArray t (0,0)))(cs:LM)(hn:cs.length=Nat.min sLen dLen*size)(hsrc:∀j v,cs[j]?=some v->w.cell? (ad.add j)=some v)(hfit:off+cs.length<=cur.length)(h1:∀v∈cs,v.oneCell'=true)(h:∀w',Hid (w'.heap[g]?=some (.cells (splice cur off cs).toArray t (0,0)))->Hid (w.grownBy w' (some g))->K (a.put o.dst (goInt (Nat.min sLen dLen:Nat))) w'):
  if Region.wanted o (yielded ops a.tmps)=true then Oper.wp prog o a w K Q else E:=by
 have hw:Region.wanted o (yielded ops a.tmps)=true:=by simp[Region.wanted,hgd]
 rw[if_pos hw];have hrun:=zBE (P:=prog) w dT sT o.type elem size g off dLen dCap ad sLen sCap cur t cs hu hsz hg hn hsrc hfit h1;unfold Oper.wp;simp[execOp,ho,resolve,invoke,builtin,hd,hs,hrun,Result.andThen];exact h _ (Lib.hid (setRow_heap w g _ _ t _ hg)) (Lib.hid (znj _ _ _))
theorem zcU:(prog.info? 120).map (·.size)=some 2:=by
 obtain⟨i0,hi0,hz0,hz1,hz2⟩:=info_parts LT.info;rw[show 120=LT.t from rfl,hi0];simp[hz1,LT]
theorem zz0(c vb vc:Nat)(w:World)(hl:l ≠ [])(hn:l.length<=100000)(hroom:¬l.length+1<=c)(h:OL LT w base (.slice (some ⟨g,0,none⟩) l.length c) l)(hv:RL LT Z w (some ⟨vb,0,none⟩) [x])(hb:base<=w.heap.size):
  Calls prog 200 #[.slice (some ⟨g,0,none⟩) l.length c,.int .i64 0,.slice (some ⟨vb,0,none⟩) 1 vc] w fun e w'=>∃v,e=.returned v/\OL LT w' base v (x::l)/\Below base w w'/\(∃g' c',v=.slice (some ⟨g',0,none⟩) (l.length+1) c'/\(g'=g\/w.heap.size<=g'))/\∀k,k≠g->k<w.heap.size->w'.heap[k]?=w.heap[k]?:=by
 obtain⟨A,c',hv',hlc,hcm,hrl,hbd⟩:=OL.rl (Z:=0) h;injection hv' with e1 e2 e3;subst e1;subst e3;have hgb:=hbd g 0 rfl;have hpos:0<l.length:=zCC9.2 hl;obtain rfl:c=l.length:=by omega
 obtain⟨bb,oo,hbo,hvw,_,hvc⟩:=RL.at hv (by simp);injection hbo with hbo;injection hbo with hbo1 hbo2;subst hbo1;subst hbo2;obtain⟨i0,hi0,hz0,hzs,hzb⟩:=info_parts LT.info;have hxl:(LT.all l).length=l.length*2:=LT.all_len l;have hxv:∀j u,(LT.all [x])[j]?=some u->w.cell? ((⟨vb,0,none⟩:Addr).add j)=some u:=fun j u hj=>by
  rw[zhz];have:=hvc 0 x rfl j u (by rwa [LT.all_one]at hj);simpa using this
 have hxs:∀j u,(LT.all l)[j]?=some u->w.cell? ((⟨g,0,none⟩:Addr).add j)=some u:=World.ownsRow.cells h rfl;have h1s:∀u∈LT.all l,u.oneCell'=true:=LT.all_oneCell l;have h1x:∀u∈LT.all [x],u.oneCell'=true:=LT.all_oneCell [x];have hxl1:(LT.all [x]).length=2:=LT.all_len [x];have hold:(Builtin.firstCells i0.size 0 (.slice (some ⟨g,0,none⟩) 0 l.length)).run prog w.drew=.ok ([]:LM).toArray w.drew :=
  run_firstCells_some w.drew _ 0 ⟨g,0,none⟩ 0 l.length [] (by simp) (fun j v hj=>by simp at hj)
 have hrz:∀ty,(Builtin.append_ #[57,3] ty #[.slice (some ⟨g,0,none⟩) 0 l.length,.int .i64 ((l.length:Int)+1)]).run prog w =
   .ok (.slice (some ⟨w.heap.size,0,none⟩) (l.length+1) (grownCap w (l.length+1) l.length 120)) (w.drew.alloc (.cells (([]:LM).toArray++Builtin.zeroCells LT.z.cells (l.length+1)++Builtin.zeroCells LT.z.cells (grownCap w (l.length+1) l.length 120-(l.length+1))) 120)):=fun ty=>by
  have h:=Lib.run_append_grow_zeros w 57 3 ty 120 i0 _ .i64 .i64 underlying57 underlying3 hi0 hz0 (some ⟨g,0,none⟩) 0 l.length [] hold (l.length+1) zo (by rw[hzs];exact LT.pos) zo zo (by rw[hzb];simp only[LT];omega) (by rw[hzb];exact growslice_fits zo (by simp only[LT];omega));simp only[zBS9]at h;exact h
 have hGn:=grownCap_ge w (l.length+1) l.length 120;have hGm:=grownCap_le_maxLen w (l.length+1) l.length 120 (by simp only[maxLen];omega);obtain⟨G,hG⟩:∃G,G=grownCap w (l.length+1) l.length 120:=⟨_,rfl⟩
 rw[<- hG]at hrz hGn hGm;obtain⟨ROW,hROW⟩:∃ROW:LM,ROW.toArray=([]:LM).toArray++Builtin.zeroCells LT.z.cells (l.length+1)++Builtin.zeroCells LT.z.cells (G-(l.length+1)):=⟨_,Array.toArray_toList⟩
 rw[<- hROW]at hrz;have hRl:ROW.length=G*2:=by
  have:=congrArg Array.size hROW;simp only[zEN9,zFA9,size_zeroCells,zAN9]at this;rw[show LT.z.cells.size=2 from rfl]at this;omega
 have hg1:(w.drew.alloc (.cells ROW.toArray 120)).heap[w.heap.size]?=some (.cells ROW.toArray 120 (0,0)):=heap_alloc_new w.drew _;have hx1:Ext w (w.drew.alloc (.cells ROW.toArray 120)):=((Ext.refl w).drew).alloc _;obtain⟨W1,hW1⟩:∃W1,W1=w.drew.alloc (.cells ROW.toArray 120):=⟨_,rfl⟩
 rw[<- hW1]at hrz hg1 hx1;clear hW1 hROW hG hold;have hsz1:w.heap.size+1<=W1.heap.size:=(zCH9.1 hg1).1;have hg63:G<=9223372036854775807:=by simp only[maxLen]at hGm;omega
 have k1:¬((l.length:Int)=0):=by omega
 have k1':¬((0:Int)=(l.length:Int)):=by omega
 have k2:¬G=0:=by omega
 have k3:¬G=1:=by omega
 have k4:¬l.length=0:=by omega
 have k5:(l.length:Int)<(l.length:Int)+1:=by omega
 have k6:(0:Int)<=(l.length:Int):=by omega
 have mixed:prog.follows Departure.mixedOrders=true:=by kernel_rfl
 have k7:IntKind.i64.wrap 1=1:=by rw[IntKind.wrap_i64];omega
 have k8:(1:Int)<=(l.length:Int)+1:=by omega
 have k9:(1:Int).toNat=1:=rfl;have HG1:=Lib.hid hg1;have HXV:=Lib.hid hxv;have HXS:=Lib.hid hxs;have H1S:=Lib.hid h1s;have H1X:=Lib.hid h1x;have HL:=Lib.hid hxl;have HL1:=Lib.hid hxl1;have HRL:=Lib.hid hRl;have HX1:=Lib.hid hx1;have HO:=Lib.hid h;have HGB:=Lib.hid (And.intro hgb.1 hgb.2.1);clear hg1 hxv hxs h1s h1x hxl hxl1 hRl hx1 hrl hbd hgb hvc e2 hlc hcm h hv hi0 hz0 hzs hzb
 go_enter func200,Tryz.ntmps200
 iterate 137 go_step
 refine Lib.wpList_append_run _ rfl _ _ _ _ rfl _ _ rfl rfl _ _ (hrz _) ?_
 iterate 20 go_step
 refine zer rfl _ _ 57 57 rfl 120 underlying57 2 zcU w.heap.size 0 _ _ ⟨vb,0,none⟩ 1 _ rfl rfl ROW 120 HG1.out (LT.all [x]) (by show _=min _ _*2;rw[HL1.out];omega) (fun j u hj=>HX1.out.cell (HXV.out j u hj)) (by rw[HL1.out,HRL.out];omega) H1X.out ?_;intro w2 hg2 hy2
 iterate 4 go_step
 have hc2:∀j u,(LT.all l)[j]?=some u->(w2.drew).cell? ((⟨g,0,none⟩:Addr).add j)=some u:=fun j u hj=>by
  have h1:=HX1.out.cell (HXS.out j u hj);rw[zhz]at h1⊢;exact hy2.out.cell h1 (fun e=>by injection e with e;have:=HGB.out.2;dsimp only at e;omega)
 have hl2:(splice ROW 0 (LT.all [x])).length=G*2:=by rw[length_splice _ _ _ (by rw[HL1.out,HRL.out];omega)];exact HRL.out
 have HC2:=Lib.hid hc2;have HL2:=Lib.hid hl2;clear hc2 hl2
 go_region_law_o (refine zxQ rfl _ _ 57 57 rfl 120 underlying57 2 zcU w.heap.size 2 l.length (G-1) ⟨g,0,none⟩ l.length l.length (by simp[Act.eval,Act.put]) (by simp[Act.eval,Act.put]) (splice ROW 0 (LT.all [x])) 120 hg2.out (LT.all l) (by show _=min _ _*2;rw[HL.out];omega) HC2.out (by rw[HL.out,HL2.out];omega) H1S.out ?_;intro w4 hg4 hy4)
 go_wp2
 go_ret
 refine⟨_,rfl,⟨?_,.inr ⟨w.heap.size,G,_,rfl,by omega,hg4.out,hGn,hGm,?_,?_⟩⟩,?_,?_,?_⟩
 .rw[LT.all_len]
 .rw[zEN9,length_splice _ _ _ (by rw[HL.out,HL2.out];omega),HL2.out];rfl
 .have e1:splice (splice ROW 0 (LT.all [x])) 2 (LT.all l)=LT.all (x::l)++ROW.drop (2+(LT.all l).length):=by
   rw[zww _ _ _ HL1.out,LT.all_cons x l,<- LT.all_one x,zAD9]
  rw[show (splice (splice ROW 0 (LT.all [x])) 2 (LT.all l)).toArray.toList=splice (splice ROW 0 (LT.all [x])) 2 (LT.all l)from rfl,e1];rw[zDY9 (by rw[LT.all_len];simp[LT]),zBR9 (by rw[LT.all_len];simp[LT])]
 .have b1:Below base w W1:=HX1.out.below.mono hb;have b2:=(b1.grown hy2.out (by have:=HX1.out.size;omega) (fun k e=>by injection e with e;omega)).drew;exact b2.grown hy4.out (by have:=hy2.out.size;have:=HX1.out.size;show base<=w2.heap.size;omega) (fun k e=>by injection e with e;omega)
 .have hle:=zAE9 w.heap.size
  first|exact⟨_,_,rfl,.inr hle⟩|exact⟨_,⟨_,rfl⟩,.inr hle⟩
 .have b1:Below w.heap.size w W1:=HX1.out.below;have b2:=(b1.grown hy2.out (by have:=HX1.out.size;omega) (fun k e=>by injection e with e;omega)).drew;have b3:=b2.grown hy4.out (by have:=hy2.out.size;have:=HX1.out.size;show w.heap.size<=w2.heap.size;omega) (fun k e=>by injection e with e;omega);exact fun k _ hk=>b3.block k hk
theorem zzd(c vb vc:Nat)(w:World)(hl:l ≠ [])(hn:l.length<=100000)(hroom:l.length+1<=c)(h:OL LT w base (.slice (some ⟨g,0,none⟩) l.length c) l)(hv:RL LT Z w (some ⟨vb,0,none⟩) [x])(hvg:vb≠g)(tA:TypeId)(kA:Nat)(hsa:w.shape? vb=some (tA,kA))(hfa:w.frozen? ⟨vb,0,none⟩=false)(hfe:w.frozen? ⟨vb,kA,none⟩=false)(hb:base<=w.heap.size):
  Calls prog 200 #[.slice (some ⟨g,0,none⟩) l.length c,.int .i64 0,.slice (some ⟨vb,0,none⟩) 1 vc] w fun e w'=>∃v,e=.returned v/\OL LT w' base v (x::l)/\Below base w w'/\(∃g' c',v=.slice (some ⟨g',0,none⟩) (l.length+1) c'/\(g'=g\/w.heap.size<=g'))/\∀k,k≠g->k<w.heap.size->w'.heap[k]?=w.heap[k]?:=by
 rcases h with⟨hxl,⟨h1,_⟩|⟨g',cap,cur,h1,hbg,hg,hnc,hcm,hcs,htk⟩⟩
 .cases h1
 injection h1 with e1 _ e3;injection e1 with e1;injection e1 with e1;subst e1;subst e3;have hpos:0<l.length:=zCC9.2 hl;obtain⟨bb,oo,hbo,hvw,_,hvc⟩:=RL.at hv (by simp);injection hbo with hbo;injection hbo with hbo1 hbo2;subst hbo1;subst hbo2;have hxl:(LT.all l).length=l.length*2:=LT.all_len l;have hxv:∀j u,(LT.all [x])[j]?=some u->w.cell? ((⟨vb,0,none⟩:Addr).add j)=some u:=fun j u hj=>by
  rw[zhz];have:=hvc 0 x rfl j u (by rwa [LT.all_one]at hj);simpa using this
 have hcl:cur.toList.length=c*2:=by rw[zEQ9];exact hcs
 have hxs:∀j u,(LT.all l)[j]?=some u->w.cell? ((⟨g,0,none⟩:Addr).add j)=some u:=fun j u hj=>by
  rw[zhz,zBS9];rw[<- htk,zBU9]at hj
  split at hj
  .simp only[World.cell?,hg];rw[<- zCD9];exact hj
  .cases hj
 have h1s:∀u∈LT.all l,u.oneCell'=true:=LT.all_oneCell l;have h1x:∀u∈LT.all [x],u.oneCell'=true:=LT.all_oneCell [x];have hxl1:(LT.all [x]).length=2:=LT.all_len [x];have hsb:w.shape? g=some (120,cur.size):=by show _=some (LT.t,_);simp[World.shape?,hg]
 have hov:∀lb cb,(callFunc 255 #[.slice (some ⟨vb,0,none⟩) 1 vc,.slice (some ⟨g,2,none⟩) lb cb]).run prog w=.ok (.value (.bool false)) w:=fun lb cb=>by
  obtain⟨i0,hi0,hz0,hzs,hzb⟩:=info_parts LT.info;rw[run_callFunc_extern func255 (by kernel_rfl) (by kernel_rfl) (by kernel_rfl) (e:=Extern.SlicesOverlaps.overlaps #[57,57] #[4]) (by kernel_rfl),
   Lib.run_overlaps_apart w 57 4 120 underlying57 2 (fun w=>by kernel_rfl) ⟨vb,0,none⟩ ⟨g,2,none⟩ 1 vc lb cb hvg tA 120 kA cur.size hsa hsb (by rw[hcs];simp only[LT];omega) hfa hfe]
  rfl
 have mixed:prog.follows Departure.mixedOrders=true:=by kernel_rfl
 have hc63:c<=9223372036854775807:=by simp only[maxLen]at hcm;omega
 have k1:¬((l.length:Int)=0):=by omega
 have k1':¬((0:Int)=(l.length:Int)):=by omega
 have k2:¬c=0:=by omega
 have k3:¬c=1:=by omega
 have k5:¬(c:Int)<(l.length:Int)+1:=by omega
 have k6:(0:Int)<=(l.length:Int):=by omega
 have k7:IntKind.i64.wrap 1=1:=by rw[IntKind.wrap_i64];omega
 have k8:(1:Int)<=(l.length:Int)+1:=by omega
 have k9:(1:Int).toNat=1:=rfl;have k10:(0:Int)<=(l.length:Int)+1:=by omega
 have HG1:Hid (w.drew.heap[g]?=some (.cells cur.toList.toArray 120 (0,0))):=Lib.hid hg;have HXV:=Lib.hid hxv;have HXS:Hid (∀j u,(LT.all l)[j]?=some u->w.drew.cell? ((⟨g,0,none⟩:Addr).add j)=some u):=Lib.hid hxs;have H1S:=Lib.hid h1s;have H1X:=Lib.hid h1x;have HL:=Lib.hid hxl;have HL1:=Lib.hid hxl1;have HCL:=Lib.hid hcl;have HBG:=Lib.hid hbg;have HCM:=Lib.hid hcm;clear hxv hxs h1s h1x hxl hxl1 hcl hbg hcm hv hvc hg hcs htk hsb hsa hfa hfe hnc;generalize cur.toList=CUR at *
 go_enter func200,Tryz.ntmps200
 go_wp2_with (simp only[hov])
 go_region_law_o (refine zxQ rfl _ _ 57 57 rfl 120 underlying57 2 zcU g 2 l.length (c-1) ⟨g,0,none⟩ (l.length+1) c (by simp[Act.eval,Act.put]) (by simp[Act.eval,Act.put]) CUR 120 HG1.out (LT.all l) (by show _=min _ _*2;rw[HL.out];omega) HXS.out (by rw[HL.out,HCL.out];omega) H1S.out ?_;intro w4 hg4 hy4)
 have hc4:∀j u,(LT.all [x])[j]?=some u->w4.cell? ((⟨vb,0,none⟩:Addr).add j)=some u:=fun j u hj=>by
  have h1:=HXV.out j u hj;rw[zhz]at h1⊢;exact hy4.out.cell h1 (fun e=>by injection e with e;exact hvg e)
 have hl4:(splice CUR 2 (LT.all l)).length=c*2:=by rw[length_splice _ _ _ (by rw[HL.out,HCL.out];omega)];exact HCL.out
 have HC4:=Lib.hid hc4;have HL4:=Lib.hid hl4;clear hc4 hl4
 first
 | ((iterate 10 (go_step));refine zer rfl _ _ 57 57 rfl 120 underlying57 2 zcU g 0 _ _ ⟨vb,0,none⟩ 1 _ rfl rfl (splice CUR 2 (LT.all l)) 120 hg4.out (LT.all [x]) (by show _=min _ _*2;rw[HL1.out];omega) HC4.out (by rw[HL1.out,HL4.out];omega) H1X.out ?_)
 | ((iterate 11 (go_step));refine zer rfl _ _ 57 57 rfl 120 underlying57 2 zcU g 0 _ _ ⟨vb,0,none⟩ 1 _ rfl rfl (splice CUR 2 (LT.all l)) 120 hg4.out (LT.all [x]) (by show _=min _ _*2;rw[HL1.out];omega) HC4.out (by rw[HL1.out,HL4.out];omega) H1X.out ?_)
 | ((iterate 12 (go_step));refine zer rfl _ _ 57 57 rfl 120 underlying57 2 zcU g 0 _ _ ⟨vb,0,none⟩ 1 _ rfl rfl (splice CUR 2 (LT.all l)) 120 hg4.out (LT.all [x]) (by show _=min _ _*2;rw[HL1.out];omega) HC4.out (by rw[HL1.out,HL4.out];omega) H1X.out ?_)
 | ((iterate 13 (go_step));refine zer rfl _ _ 57 57 rfl 120 underlying57 2 zcU g 0 _ _ ⟨vb,0,none⟩ 1 _ rfl rfl (splice CUR 2 (LT.all l)) 120 hg4.out (LT.all [x]) (by show _=min _ _*2;rw[HL1.out];omega) HC4.out (by rw[HL1.out,HL4.out];omega) H1X.out ?_)
 | ((iterate 14 (go_step));refine zer rfl _ _ 57 57 rfl 120 underlying57 2 zcU g 0 _ _ ⟨vb,0,none⟩ 1 _ rfl rfl (splice CUR 2 (LT.all l)) 120 hg4.out (LT.all [x]) (by show _=min _ _*2;rw[HL1.out];omega) HC4.out (by rw[HL1.out,HL4.out];omega) H1X.out ?_)
 | ((iterate 15 (go_step));refine zer rfl _ _ 57 57 rfl 120 underlying57 2 zcU g 0 _ _ ⟨vb,0,none⟩ 1 _ rfl rfl (splice CUR 2 (LT.all l)) 120 hg4.out (LT.all [x]) (by show _=min _ _*2;rw[HL1.out];omega) HC4.out (by rw[HL1.out,HL4.out];omega) H1X.out ?_)
 | ((iterate 16 (go_step));refine zer rfl _ _ 57 57 rfl 120 underlying57 2 zcU g 0 _ _ ⟨vb,0,none⟩ 1 _ rfl rfl (splice CUR 2 (LT.all l)) 120 hg4.out (LT.all [x]) (by show _=min _ _*2;rw[HL1.out];omega) HC4.out (by rw[HL1.out,HL4.out];omega) H1X.out ?_)
 | ((iterate 17 (go_step));refine zer rfl _ _ 57 57 rfl 120 underlying57 2 zcU g 0 _ _ ⟨vb,0,none⟩ 1 _ rfl rfl (splice CUR 2 (LT.all l)) 120 hg4.out (LT.all [x]) (by show _=min _ _*2;rw[HL1.out];omega) HC4.out (by rw[HL1.out,HL4.out];omega) H1X.out ?_)
 | ((iterate 18 (go_step));refine zer rfl _ _ 57 57 rfl 120 underlying57 2 zcU g 0 _ _ ⟨vb,0,none⟩ 1 _ rfl rfl (splice CUR 2 (LT.all l)) 120 hg4.out (LT.all [x]) (by show _=min _ _*2;rw[HL1.out];omega) HC4.out (by rw[HL1.out,HL4.out];omega) H1X.out ?_)
 | ((iterate 19 (go_step));refine zer rfl _ _ 57 57 rfl 120 underlying57 2 zcU g 0 _ _ ⟨vb,0,none⟩ 1 _ rfl rfl (splice CUR 2 (LT.all l)) 120 hg4.out (LT.all [x]) (by show _=min _ _*2;rw[HL1.out];omega) HC4.out (by rw[HL1.out,HL4.out];omega) H1X.out ?_)
 | ((iterate 20 (go_step));refine zer rfl _ _ 57 57 rfl 120 underlying57 2 zcU g 0 _ _ ⟨vb,0,none⟩ 1 _ rfl rfl (splice CUR 2 (LT.all l)) 120 hg4.out (LT.all [x]) (by show _=min _ _*2;rw[HL1.out];omega) HC4.out (by rw[HL1.out,HL4.out];omega) H1X.out ?_)
 | ((iterate 21 (go_step));refine zer rfl _ _ 57 57 rfl 120 underlying57 2 zcU g 0 _ _ ⟨vb,0,none⟩ 1 _ rfl rfl (splice CUR 2 (LT.all l)) 120 hg4.out (LT.all [x]) (by show _=min _ _*2;rw[HL1.out];omega) HC4.out (by rw[HL1.out,HL4.out];omega) H1X.out ?_)
 | ((iterate 22 (go_step));refine zer rfl _ _ 57 57 rfl 120 underlying57 2 zcU g 0 _ _ ⟨vb,0,none⟩ 1 _ rfl rfl (splice CUR 2 (LT.all l)) 120 hg4.out (LT.all [x]) (by show _=min _ _*2;rw[HL1.out];omega) HC4.out (by rw[HL1.out,HL4.out];omega) H1X.out ?_)
 | ((iterate 23 (go_step));refine zer rfl _ _ 57 57 rfl 120 underlying57 2 zcU g 0 _ _ ⟨vb,0,none⟩ 1 _ rfl rfl (splice CUR 2 (LT.all l)) 120 hg4.out (LT.all [x]) (by show _=min _ _*2;rw[HL1.out];omega) HC4.out (by rw[HL1.out,HL4.out];omega) H1X.out ?_)
 | ((iterate 24 (go_step));refine zer rfl _ _ 57 57 rfl 120 underlying57 2 zcU g 0 _ _ ⟨vb,0,none⟩ 1 _ rfl rfl (splice CUR 2 (LT.all l)) 120 hg4.out (LT.all [x]) (by show _=min _ _*2;rw[HL1.out];omega) HC4.out (by rw[HL1.out,HL4.out];omega) H1X.out ?_)
 | ((iterate 25 (go_step));refine zer rfl _ _ 57 57 rfl 120 underlying57 2 zcU g 0 _ _ ⟨vb,0,none⟩ 1 _ rfl rfl (splice CUR 2 (LT.all l)) 120 hg4.out (LT.all [x]) (by show _=min _ _*2;rw[HL1.out];omega) HC4.out (by rw[HL1.out,HL4.out];omega) H1X.out ?_)
 intro w5 hg5 hy5
 go_wp2
 go_ret
 refine⟨_,rfl,⟨?_,.inr ⟨g,c,_,rfl,HBG.out,hg5.out,hroom,HCM.out,?_,?_⟩⟩,?_,⟨_,_,rfl,.inl rfl⟩,?_⟩
 .rw[LT.all_len]
 .rw[zEN9,length_splice _ _ _ (by rw[HL1.out,HL4.out];omega),HL4.out];rfl
 .have e1:splice (splice CUR 2 (LT.all l)) 0 (LT.all [x])=LT.all (x::l)++CUR.drop (2+(LT.all l).length):=by
   rw[zuj _ _ _ HL1.out (by rw[HCL.out];omega),LT.all_cons x l,<- LT.all_one x,zAD9]
  rw[show (splice (splice CUR 2 (LT.all l)) 0 (LT.all [x])).toArray.toList=splice (splice CUR 2 (LT.all l)) 0 (LT.all [x])from rfl,e1];rw[zDY9 (by rw[LT.all_len];simp[LT]),zBR9 (by rw[LT.all_len];simp[LT])]
 .have b2:=(Below.refl base w).drew.grown hy4.out hb (fun k e=>by injection e with e;have:=HBG.out;omega);exact b2.grown hy5.out (by have:=hy4.out.size;exact zBW9 hb this) (fun k e=>by injection e with e;have:=HBG.out;omega)
 .intro k hk hlt;obtain⟨_,_,_,s4,f4⟩:=hy4.out;obtain⟨_,_,_,s5,f5⟩:=hy5.out;exact(f5 k (zBM9 hlt s4) (fun e=>hk (by injection e))).trans (f4 k hlt (fun e=>hk (by injection e)))
def zBU:Go.Shelf.Ren:=⟨fun|5=>172|8=>230|7=>229|19=>299|20=>300|10=>290|11=>291|12=>292|13=>293|14=>294|15=>295|16=>296|17=>297|18=>298|30=>329|31=>330|32=>331|33=>332|34=>333|35=>334|40=>349|n=>n,fun|23=>33|25=>3|3=>3|32=>227|22=>33|0=>0|44=>381|46=>29|4=>4|36=>375|35=>374|41=>318|5=>5|9=>9|53=>397|57=>400|63=>418|64=>244|n=>n,fun|n=>n⟩
theorem zHc:Go.Proofs.SlLaysM.n5 prog zBU where
 mixed:=by kernel_rfl
 f5 := ⟨"slices.Sort[[]int,int]", by decide, func172.trans (congrArg some (by kernel_rfl))⟩
 f7 := ⟨"slices.pdqsortOrdered[int]", by decide, func229.trans (congrArg some (by kernel_rfl))⟩
 f8:=func230.trans (congrArg some (by kernel_rfl))
 f10 := ⟨"slices.insertionSortOrdered[int]", by decide, func290.trans (congrArg some (by kernel_rfl))⟩
 f11 := ⟨"slices.heapSortOrdered[int]", by decide, func291.trans (congrArg some (by kernel_rfl))⟩
 f12 := ⟨"slices.breakPatternsOrdered[int]", by decide, func292.trans (congrArg some (by kernel_rfl))⟩
 f13 := ⟨"slices.choosePivotOrdered[int]", by decide, func293.trans (congrArg some (by kernel_rfl))⟩
 f14 := ⟨"slices.reverseRangeOrdered[int]", by decide, func294.trans (congrArg some (by kernel_rfl))⟩
 f15 := ⟨"slices.partialInsertionSortOrdered[int]", by decide, func295.trans (congrArg some (by kernel_rfl))⟩
 f16 := ⟨"cmp.Less[int]", by decide, func296.trans (congrArg some (by kernel_rfl))⟩
 f17 := ⟨"slices.partitionEqualOrdered[int]", by decide, func297.trans (congrArg some (by kernel_rfl))⟩
 f18 := ⟨"slices.partitionOrdered[int]", by decide, func298.trans (congrArg some (by kernel_rfl))⟩
 f19:=func299.trans (congrArg some (by kernel_rfl))
 f20:=func300.trans (congrArg some (by kernel_rfl))
 f30 := ⟨"slices.siftDownOrdered[int]", by decide, func329.trans (congrArg some (by kernel_rfl))⟩
 f31:=func330.trans (congrArg some (by kernel_rfl))
 f32:=func331.trans (congrArg some (by kernel_rfl))
 f33 := ⟨"slices.medianAdjacentOrdered[int]", by decide, func332.trans (congrArg some (by kernel_rfl))⟩
 f34 := ⟨"slices.medianOrdered[int]", by decide, func333.trans (congrArg some (by kernel_rfl))⟩
 f35 := ⟨"cmp.isNaN[int]", by decide, func334.trans (congrArg some (by kernel_rfl))⟩
 f40 := ⟨"slices.order2Ordered[int]", by decide, func349.trans (congrArg some (by kernel_rfl))⟩
 t0:=underlying0
 a0:=Tryz.isAgg0
 z0:=Tryz.sizeOf0
 v0:=Tryz.zeroValue0
 t3:=underlying3
 a3:=Tryz.isAgg3
 z3:=Tryz.sizeOf3
 v3:=Tryz.zeroValue3
 t4:=underlying4
 a4:=Tryz.isAgg4
 z4:=Tryz.sizeOf4
 v4:=Tryz.zeroValue4
 t5:=underlying5
 a5:=Tryz.isAgg5
 z5:=Tryz.sizeOf5
 v5:=Tryz.zeroValue5
 t9:=underlying9
 a9:=Tryz.isAgg9
 z9:=Tryz.sizeOf9
 v9:=Tryz.zeroValue9
 t22:=underlying33
 a22:=Tryz.isAgg33
 z22:=Tryz.sizeOf33
 v22:=Tryz.zeroValue33
 t23:=underlying33
 a23:=Tryz.isAgg33
 z23:=Tryz.sizeOf33
 v23:=Tryz.zeroValue33
 t25:=underlying3
 a25:=Tryz.isAgg3
 z25:=Tryz.sizeOf3
 v25:=Tryz.zeroValue3
 t32:=underlying227
 a32:=Tryz.isAgg227
 z32:=Tryz.sizeOf227
 v32:=Tryz.zeroValue227
 t35:=underlying374
 a35:=Tryz.isAgg374
 z35:=Tryz.sizeOf374
 v35:=Tryz.zeroValue374
 t36:=underlying375
 a36:=Tryz.isAgg375
 z36:=Tryz.sizeOf375
 v36:=Tryz.zeroValue375
 t41:=underlying318
 a41:=Tryz.isAgg318
 z41:=Tryz.sizeOf318
 v41:=Tryz.zeroValue318
 t44:=underlying381
 a44:=Tryz.isAgg381
 z44:=Tryz.sizeOf381
 v44:=Tryz.zeroValue381
 t46:=underlying29
 a46:=Tryz.isAgg29
 z46:=Tryz.sizeOf29
 v46:=Tryz.zeroValue29
 t53:=underlying397
 a53:=Tryz.isAgg397
 z53:=Tryz.sizeOf397
 v53:=Tryz.zeroValue397
 t57:=underlying400
 a57:=Tryz.isAgg400
 z57:=Tryz.sizeOf400
 v57:=Tryz.zeroValue400
 t63:=underlying418
 a63:=Tryz.isAgg418
 z63:=Tryz.sizeOf418
 v63:=Tryz.zeroValue418
 t64:=underlying244
 a64:=Tryz.isAgg244
 z64:=Tryz.sizeOf244
 v64:=Tryz.zeroValue244
open Go.Sort Go.RowKit
namespace Tw
variable {ρ ρ':Rho}{Z:Nat}{h h':TH}{w:World}
theorem zB3(k:WR prog Z ρ h w)(hZ:Z<=w.heap.size){args:LK}{args':LM}(hv:VL ρ args args'){r:TE}(hr:zkr 3 args h=some (r,h')) :
  CallsIn (Fr none) 0 prog 172 args'.toArray w (zgp prog Z ρ h h' w r):=by
 unfold zkr at hr
 split at hr
 .rename_i b g n q
  split at hr
  .rename_i o ho;unfold zpQ at hr
   split at hr
   .rename_i e G M len cells;obtain⟨c1,hr⟩:=zac hr;obtain⟨c2,hr⟩:=zac hr;obtain⟨c3,hr⟩:=zac hr;obtain⟨c4,hr⟩:=zac hr;obtain⟨c5,hr⟩:=zac hr;have c1:=zAL9 c1;have c2:=zAL9 c2;have c3:=zAL9 c3;have c4:=zAW9 c4;have c5:=zAW9 c5;subst c1;subst c2;subst c3
    split at hr
    .rename_i l hl
     split at hr
     .rename_i xs hxs;injection hr with hr;injection hr with hr hr2;subst hr;subst hr2;obtain⟨v,t1,rfl,v1,hv⟩:=hv.oc;obtain rfl:=hv.oN;have hinv:∃loc c,v=.slice (some ⟨loc.r,0,none⟩) n c/\ρ b g=some loc/\n<=c/\c<=maxLen:=by
       obtain⟨loc,o',c,e,a1,a2,a3,a4,a5,a6,a7⟩:=v1.sl_inv;refine⟨loc,c,?_,a1,by omega,a7⟩;rcases a5 with rfl|⟨_,_,a8⟩
       .exact e
       .exact absurd rfl a8
      obtain⟨loc,c,rfl,hρ,hnc,hcm⟩:=hinv;obtain⟨ob,hob,hor⟩:=k.obj _ _ _ hρ;rw[ho]at hob;injection hob with hob;subst hob;obtain⟨loc1,cur,q1,q2,q3,q4,q5,q6,q7⟩:=hor.2.2 g hor.1 (zAE9 _);rw[hρ]at q1;injection q1 with q1;subst q1;have q2:=q2.plain (by kernel_rfl);have hL:=q6 rfl;obtain rfl:=ztF hxs;obtain⟨lo1,lo2⟩:=Tr.getL_some hl;have hxl:xs.length=n:=by rw[<- lo1];unfold ivT;simp
      have hget:∀i,i<n->cur[i]?=(xs.map (Value.int .i64))[i]?:=fun i hi=>by
       obtain⟨x,v,z1,z2,_,z4⟩:=q7 i zo;have h1:=lo2 i hi;rw[zBS9,z1]at h1;rw[z2,zAF9];unfold ivT at h1;rw[zAF9]at h1
       cases hx:xs[i]? with
       | none=>rw[hx]at h1;cases h1
       | some a=>rw[hx]at h1;injection h1 with h1;subst h1;cases z4;rfl
      have hcn:n<=cur.size:=by omega
      have ht:cur.toList.take xs.length=xs.map (Value.int .i64):=zDU9 fun i=>by
       rw[zBU9,hxl]
       split
       .rename_i hi;rw[zCD9];exact hget i hi
       .rw[zBL9 (by simp;omega)]
      have hZo:=k.own hρ ho (fun cs e=>by cases e);have hlt:=(k.dom _ _ _ hρ).2.2;have hmain:=AnyM.slices_Sort_int zHc loc.r 0 c xs w (holds_of_blockI q2 ht) hlt zo;rw[hxl]at hmain;refine callsIn_wide.2 (Calls.mono hmain ?_);rintro e w' ⟨rfl,m,os,rfl⟩;have hts:(srt xs).length=n:=by rw[zim,hxl]
      have hh:=heap_sortedI (n:=m) (os:=os) (srt xs).toArray q2;have hg:=grownBy_sortedI (w:=w) (g:=loc.r) (n:=m) (os:=os) (srt xs).toArray;have hbel:Below Z w _:=(Below.refl Z w).grown hg hZ fun k e=>by injection e with e;subst e;exact hZo
      change w.grownBy (grow (putRow (Value.int .i64) (Sort.ahead w m) loc.r 0 (xs.mergeSort fun x y=>decide (x<=y)).toArray) os) _ at hg;change (grow (putRow (Value.int .i64) (Sort.ahead w m) loc.r 0 (xs.mergeSort fun x y=>decide (x<=y)).toArray) os).heap[loc.r]?=_ at hh;change Below Z w (grow (putRow (Value.int .i64) (Sort.ahead w m) loc.r 0 (xs.mergeSort fun x y=>decide (x<=y)).toArray) os)at hbel;generalize grow (putRow (Value.int .i64) (Sort.ahead w m) loc.r 0 (xs.mergeSort fun x y=>decide (x<=y)).toArray) os=w' at hg hh hbel⊢;have htk:=take_putCellsI cur (srt xs) zo;have hsz:(putCells (Value.int .i64) 0 (srt xs).toArray cur).size=cur.size:=by simp[putCells]
      generalize putCells (Value.int .i64) 0 (srt xs).toArray cur=cur2 at hh htk hsz;have k2:=k.change (b:=b) (ρ':=ρ) (x':=.row 3 g g n (Tr.putL .nil 0 (ivT (srt xs)))) (fun _ _ _ h=>h) (fun _ _ _=>rfl) hρ (w':=w') hbel.size
       (fun c g0 l0 hc hl0=>hg.block _ (k.dom _ _ _ hl0).2.2 fun e=>hc (k.sep _ _ _ _ _ _ hl0 hρ (by injection e with e) (by injection e with e;rw[e];exact hZo)))
       ⟨zAE9 _,hor.2.1,fun g0 ha hb0=>by
        have:g0=g:=by omega
        subst this;refine⟨loc,cur2,hρ,.of hh,fun e=>by rw[hsz];exact q3 e,q4,by rw[hsz];exact q5,q6,fun i hi=>?_⟩;have hi2:i<(srt xs).length:=by omega
        have hi3:i<(ivT (srt xs)).length:=by unfold ivT;rw[zAP9];exact hi2
        refine⟨.int .i64 ((srt xs)[i]),.int .i64 ((srt xs)[i]),?_,?_,rfl,.int _ _⟩
        .rw[Tr.get_putL,if_pos zo];unfold ivT;simp
        .have:(cur2.toList.take (srt xs).length)[i]?=((srt xs).map (Value.int .i64))[i]?:=by rw[htk]
         rw[zBU9,if_pos hi2,zCD9]at this;rw[this];simp[hi2]⟩
       (fun g0 l0 h0=>⟨k.own h0 ho (fun cs e=>by cases e),zBM9 (k.dom _ _ _ h0).2.2 hbel.size⟩)
       (fun g0 l0 h0 c g1 l1 hc h1' e=>hc (k.sep _ _ _ _ _ _ h1' h0 e.symm (by rw[<- e];exact k.own h0 ho (fun cs e=>by cases e))))
      exact⟨ρ,Rho.le.refl _ _,k2,hbel,zAE9 _,_,rfl,VR.tL (VL.nil ρ)⟩
     .cases hr
    .cases hr
   .cases hr
  .cases hr
 .cases hr
end Tw
namespace Fv
open Tw
inductive PV where
 | bad
 | bool (b:Bool)
 | int (k:IntKind) (n:Int)
 | str (s:LN)
 | nilptr
 | nilsl
 | nilmap
 | nilfn
 | niliface
 | iface (t:Nat) (v:PV)
 | list (p z:Nat) (l:List PV)
 | elem (cs:List PV)
 | sl (id g o n q z:Nat)
 | ptr (id g i o n:Nat)
 | map (id:Nat)
 | fn (f:Nat) (cap:List PV)
 | yield (id:Nat)
 | agg (vs:List PV)
 | tuple (vs:List PV)
 deriving Inhabited
abbrev LQ:=List PV
abbrev LX:=Option PV
def PV.cells:PV->LQ
 | .agg l=>l
 | .tuple _=>[]
 | v=>[v]
inductive FX where
 | norm|exit (id:Nat)|goto (l:Nat)|ret|panic (v:PV)
inductive zc where
 | row (e z G M:Nat) (l:LQ)
 | map0
 | mapI (k:IntKind) (m:Int->LX)
 | mapS (m:LN->LX)
 | dfr (shut:Bool)
 | loop (st:LoopState) (pe:FX) (tm:Nat->PV) (ps:LN) (aS bo:zbS) (m:Nat)
 | void
abbrev LP:=List zc
abbrev zfK:=Nat->Nat->Prop
inductive PR(S:zfK)(h:TH):PV->TV->Prop
 | bool (b:Bool):PR S h (.bool b) (.bool b)
 | int (k:IntKind) (n:Int):PR S h (.int k n) (.int k n)
 | str (s:LN):PR S h (.str s) (.str s)
 | nilptr:PR S h .nilptr .nilptr
 | nilsl:PR S h .nilsl .nilsl
 | nilmap:PR S h .nilmap .nilmap
 | nilfn:PR S h .nilfn .nilfn
 | niliface:PR S h .niliface .niliface
 | iface {t:Nat} {v:PV} {u:TV}:PR S h v u->PR S h (.iface t v) (.iface t u)
 | listnil (p z:Nat):PR S h (.list p z []) .nilsl
 | list {p z:Nat} {l:LQ} {b g o q:Nat} {cs:LK}:S p b->zb0 h b g o (l.length*z)=some cs->2*l.length<=q->(∀v∈l,v.cells.length=z)->(l.flatMap PV.cells).length=cs.length ->
   (∀(i:Nat) (x:PV) (y:TV),(l.flatMap PV.cells)[i]?=some x->cs[i]?=some y->PR S h x y)->PR S h (.list p z l) (.sl b g o l.length q z)
 | elem {vs:LQ} {p b g o:Nat} {cs:LK}:S p b->zb0 h b g o vs.length=some cs->vs.length=cs.length->(∀(i:Nat) (x:PV) (y:TV),vs[i]?=some x->cs[i]?=some y->PR S h x y)->PR S h (.elem vs) (.ptr b g o vs.length)
 | fn {f:Nat} {vs:LQ} {cs:LK}:vs.length=cs.length->(∀(i:Nat) (x:PV) (y:TV),vs[i]?=some x->cs[i]?=some y->PR S h x y)->PR S h (.fn f vs) (.fn f cs)
 | agg {vs:LQ} {cs:LK}:vs.length=cs.length->(∀(i:Nat) (x:PV) (y:TV),vs[i]?=some x->cs[i]?=some y->PR S h x y)->PR S h (.agg vs) (.agg cs)
 | tuple {vs:LQ} {cs:LK}:vs.length=cs.length->(∀(i:Nat) (x:PV) (y:TV),vs[i]?=some x->cs[i]?=some y->PR S h x y)->PR S h (.tuple vs) (.tuple cs)
structure Cx where
 S:zfK
 ρ:Nat->Option (Nat×Nat×Nat)
 L:Nat->Prop
inductive VR(c:Cx)(h:TH):PV->TV->Prop
 | pure {v:PV} {u:TV}:PR c.S h v u->VR c h v u
 | sl {id b d z g o n q:Nat}:c.ρ id=some (b,d,z)->VR c h (.sl id (g+d) o n q z) (.sl b g (o*z) n q z)
 | slnil {id:Nat} (z:Nat):c.L id->VR c h (.sl id 0 0 0 0 z) .nilsl
 | ptr {id b d z g i o n:Nat}:c.ρ id=some (b,d,z)->VR c h (.ptr id (g+d) i o n) (.ptr b g (i*z+o) n)
 | map {id b d z:Nat}:c.ρ id=some (b,d,z)->VR c h (.map id) (.map b)
 | yield {id b d z:Nat}:c.ρ id=some (b,d,z)->VR c h (.yield id) (.yield b)
 | iface {t:Nat} {v:PV} {u:TV}:VR c h v u->VR c h (.iface t v) (.iface t u)
 | fn {f:Nat} {vs:LQ} {cs:LK}:vs.length=cs.length->(∀(i:Nat) (x:PV) (y:TV),vs[i]?=some x->cs[i]?=some y->VR c h x y)->VR c h (.fn f vs) (.fn f cs)
 | agg {vs:LQ} {cs:LK}:vs.length=cs.length->(∀(i:Nat) (x:PV) (y:TV),vs[i]?=some x->cs[i]?=some y->VR c h x y)->VR c h (.agg vs) (.agg cs)
 | tuple {vs:LQ} {cs:LK}:vs.length=cs.length->(∀(i:Nat) (x:PV) (y:TV),vs[i]?=some x->cs[i]?=some y->VR c h x y)->VR c h (.tuple vs) (.tuple cs)
def LR(R:PV->TV->Prop)(l:LQ)(cs:LK):Prop:=l.length=cs.length/\∀(i:Nat) (x:PV) (y:TV),l[i]?=some x->cs[i]?=some y->R x y
section lists
variable {R R':PV->TV->Prop}
variable {cs:LK}{l:LQ}{x:PV}
theorem LR.nil:LR R [] []:=⟨rfl,fun i x y h=>by simp at h⟩
theorem LR.cons{y:TV}(h:R x y)(hl:LR R l cs):LR R (x::l) (y::cs) :=
 ⟨by simp[hl.1],fun i a b ha hb=>by
  cases i with
  | zero=>simp at ha hb;subst ha;subst hb;exact h
  | succ i=>simp at ha hb;exact hl.2 i a b ha hb⟩
theorem LR.oc(h:LR R (x::l) cs):∃y cs',cs=y::cs'/\R x y/\LR R l cs':=by
 cases cs with
 | nil=>have:=h.1;grind
 | cons y cs=>exact⟨y,cs,rfl,h.2 0 x y rfl rfl,by have:=h.1;grind,fun i a b ha hb=>h.2 (i+1) a b (by grind) (by grind)⟩
theorem LR.oN(h:LR R [] cs):cs=[]:=by
 cases cs with
 | nil=>rfl
 | cons y cs=>have:=h.1;grind
theorem LR.mono(hR:∀x y,R x y->R' x y)(h:LR R l cs):LR R' l cs:=⟨h.1,fun i x y hx hy=>hR _ _ (h.2 i x y hx hy)⟩
theorem LR.app{m:LQ}{ds:LK}(h:LR R l cs)(k:LR R m ds):LR R (l++m) (cs++ds):=by
 refine⟨by simp[h.1,k.1],fun i x y hx hy=>?_⟩
 by_cases hi:i<l.length
 .rw[zAX9 hi]at hx;rw[zAX9 (by rw[<- h.1];exact hi)]at hy;exact h.2 i x y hx hy
 .rw[zBC9 zo]at hx;rw[zBC9 (by rw[<- h.1];omega),<- h.1]at hy;exact k.2 _ x y hx hy
theorem LR.drop(h:LR R l cs)(k:Nat):LR R (l.drop k) (cs.drop k) :=
 ⟨by simp[h.1],fun i x y hx hy=>by rw[zCP9]at hx hy;exact h.2 _ x y hx hy⟩
theorem LR.take(h:LR R l cs)(k:Nat):LR R (l.take k) (cs.take k):=by
 refine⟨by simp[h.1],fun i x y hx hy=>?_⟩;rw[zBU9]at hx hy
 split at hx
 .rename_i hi;rw[if_pos hi]at hy;exact h.2 _ x y hx hy
 .cases hx
theorem LR.at(h:LR R l cs){i:Nat}(hx:l[i]?=some x):∃y,cs[i]?=some y/\R x y:=by
 have hi:i<l.length:=(zAC9.1 hx).1;have hi2:i<cs.length:=by rw[<- h.1];exact hi
 exact⟨cs[i],zAA9 hi2,h.2 i x _ hx (zAA9 hi2)⟩
end lists
variable {z:Nat}
structure ER(R:PV->TV->Prop)(z:Nat)(l:LQ)(cs:LK):Prop where
 one:∀v∈l,v.cells.length=z
 all:LR R (l.flatMap PV.cells) cs
theorem zpr:∀{l:LQ},(∀v∈l,v.cells.length=z)->(l.flatMap PV.cells).length=l.length*z
 | [],_=>by simp
 | v::l,h=>by
  rw[zBQ9,zAB9,h v (by simp),zpr (fun x hx=>h x (by simp[hx])),zAG9,zDL9,zDS9]
theorem zsK:∀{l:LQ},(∀v∈l,v.cells.length=z)->∀k,(l.drop k).flatMap PV.cells=(l.flatMap PV.cells).drop (k*z)
 | [],_,k=>by simp
 | v::l,h,0=>by simp
 | v::l,h,k+1=>by
  rw[zFX9,zsK (fun x hx=>h x (by simp[hx])) k,zBQ9,zDL9,zDS9,<- zEF9,<- h v (by simp),List.drop_left]
theorem zsN:∀{l:LQ},(∀v∈l,v.cells.length=z)->∀k,(l.take k).flatMap PV.cells=(l.flatMap PV.cells).take (k*z)
 | [],_,k=>by simp
 | v::l,h,0=>by simp
 | v::l,h,k+1=>by
  rw[zFY9,zBQ9,zsN (fun x hx=>h x (by simp[hx])) k,zBQ9,zDL9,zDS9,<- h v (by simp),List.take_length_add_append]
section elems
variable {R R':PV->TV->Prop}{z:Nat}
variable {cs ds:LK}{i:Nat}{l:LQ}{v:PV}
theorem ER.len(h:ER R z l cs):cs.length=l.length*z:=by rw[<- h.all.1,zpr h.one]
theorem ER.nil:ER R z [] []:=⟨fun v h=>by simp at h,LR.nil⟩
theorem ER.drop(h:ER R z l cs)(k:Nat):ER R z (l.drop k) (cs.drop (k*z)) :=
 ⟨fun v hv=>h.one v (zBX9 hv),by rw[zsK h.one];exact h.all.drop _⟩
theorem ER.take(h:ER R z l cs)(k:Nat):ER R z (l.take k) (cs.take (k*z)) :=
 ⟨fun v hv=>h.one v (zBP9 hv),by rw[zsN h.one];exact h.all.take _⟩
theorem ER.app{m:LQ}(h:ER R z l cs)(k:ER R z m ds):ER R z (l++m) (cs++ds) :=
 ⟨fun v hv=>by rcases zBG9.1 hv with hv|hv;exact h.one v hv;exact k.one v hv,by rw[zCI9];exact h.all.app k.all⟩
theorem ER.mono(hR:∀x y,R x y->R' x y)(h:ER R z l cs):ER R' z l cs:=⟨h.one,h.all.mono hR⟩
theorem ER.at(h:ER R z l cs)(hv:l[i]?=some v):LR R v.cells ((cs.drop (i*z)).take z):=by
 have h1:=(h.drop i).take 1;have hd:(l.drop i).take 1=[v]:=by
  have hi:i<l.length:=(zAC9.1 hv).1;rw[zAM9 hi]
  grind
 rw[hd,Nat.one_mul]at h1;have h2:=h1.all
 grind
theorem ER.one'(h1:v.cells.length=z)(h:LR R v.cells cs):ER R z [v] cs:=⟨fun x hx=>by grind,by simpa using h⟩
theorem ER.set(h:ER R z l cs)(hi:i<l.length)(hv:v.cells.length=z)(hd:LR R v.cells ds):ER R z (l.set i v) (cs.take (i*z)++ds++cs.drop ((i+1)*z)):=by
 rw[List.set_eq_take_append_cons_drop,if_pos hi];have h1:=h.take i;have h2:=h.drop (i+1);rw[zAD9];exact h1.app ((ER.one' hv hd).app h2)
end elems
variable {a:Nat}{cs:LK}{g:Nat}{h:TH}{i k m o:Nat}{x:TO}
theorem zve{t:Tr α}:∀{n i m:Nat} {a b:List α},t.getL i n=some a->t.getL (i+n) m=some b->t.getL i (n+m)=some (a++b)
 | 0,i,m,a,b,h,k=>by simp[Tr.getL]at h;grind
 | n+1,i,m,a,b,h,k=>by
  rw[show n+1+m=(n+m)+1 by omega];unfold Tr.getL at h
  split at h
  .cases h
  .rename_i x hx
   split at h
   .cases h
   .rename_i l hl
    cases h
    have:=zve hl (by rw[show i+1+n=i+(n+1) by omega];exact k);simp only[Tr.getL,hx,this];rfl
theorem znh{t:Tr α}:∀{n i m:Nat} {a:List α},t.getL i (n+m)=some a->t.getL i n=some (a.take n)/\t.getL (i+n) m=some (a.drop n)
 | 0,i,m,a,h=>by simp[Tr.getL];grind
 | n+1,i,m,a,h=>by
  rw[show n+1+m=(n+m)+1 by omega]at h;unfold Tr.getL at h
  split at h
  .cases h
  .rename_i x hx
   split at h
   .cases h
   .rename_i l hl
    cases h
    obtain⟨h1,h2⟩:=znh hl;refine⟨?_,?_⟩
    .simp only[Tr.getL,hx,h1];rfl
    grind
theorem zj0{t:Tr α}{a:List α}(h:t.getL i n=some a)(hk:k+m<=n):t.getL (i+k) m=some ((a.drop k).take m):=by
 obtain⟨r,rfl⟩:=Nat.le.dest hk;rw[zEY9]at h;obtain⟨_,h2⟩:=znh h;exact(znh h2).1
theorem zjC{t:Tr α}:∀{a:List α} {i:Nat},(∀j,j<a.length->t.get (i+j)=a[j]?)->t.getL i a.length=some a
 | [],i,_=>rfl
 | x::a,i,h=>by
  have h0:=h 0 (by simp);have h1:=zjC (t:=t) (a:=a) (i:=i+1) fun j hj=>by
   have:=h (j+1) (by grind)
   grind
  rw[zAG9];unfold Tr.getL
  grind
theorem zyF{t t':Tr α}(h:∀j,i<=j->j<i+n->t'.get j=t.get j){a:List α}(ha:t.getL i n=some a):t'.getL i n=some a:=by
 obtain⟨h1,h2⟩:=Tr.getL_some ha;subst h1;exact zjC fun j hj=>by grind
theorem zcG(h:a<=b):Nat.ble a b=true:=Nat.ble_eq_true_of_le h
theorem zb6(h:a=b):Nat.beq a b=true:=by simp_all
theorem zHs(h:Nat.beq a b=true):a=b:=zAL9 h
theorem zoi(h:¬a=b):Nat.beq a b=false:=by
 cases hb:Nat.beq a b
 all_goals simp_all
theorem zkU{e G M len:Nat}{cells:LA}(hg:h.get b=some (.row e G M len cells))(h1:M<=g)(h2:g<=G)(hc:cells.getL o n=some cs):zb0 h b g o n=some cs:=by
 unfold zb0;rw[hg];unfold zhb;dsimp only;rw[zcG h1,zcG h2];exact hc
theorem ziL(hr:zb0 h b g o n=some cs):∃x,h.get b=some x/\zhb g o n x=some cs:=by
 unfold zb0 at hr
 grind
theorem zhY(hx:h.get b=some x)(hr:zhb g o n x=some cs):zb0 h b g o n=some cs:=by
 unfold zb0
 grind
theorem zBF(hr:zhb g o n x=some cs)(hk:k+m<=n):zhb g (o+k) m x=some ((cs.drop k).take m):=by
 unfold zhb at hr⊢
 split at hr
 .rename_i e G M len cells
  cases h1:Nat.ble M g
  .grind
  .cases h2:Nat.ble g G
   .grind
   .rw[h1,h2]at hr;exact zj0 hr hk
 .rename_i cells
  cases h1:Nat.beq g 0
  .grind
  .rw[h1]at hr;exact zj0 hr hk
 grind
theorem zgd(hr:zb0 h b g o n=some cs)(hk:k+m<=n):zb0 h b g (o+k) m=some ((cs.drop k).take m):=by
 obtain⟨x,h1,h2⟩:=ziL hr;exact zhY h1 (zBF h2 hk)
theorem PR.mono{S S':zfK}{h':TH}(hS:∀p b,S p b->S' p b)(hr:∀p b,S p b->∀g o n cs,zb0 h b g o n=some cs->zb0 h' b g o n=some cs){v:PV}{u:TV}(k:PR S h v u):PR S' h' v u:=by
 induction k with
 | bool b=>exact .bool b
 | int k n=>exact .int k n
 | str s=>exact .str s
 | nilptr=>exact .nilptr
 | nilsl=>exact .nilsl
 | nilmap=>exact .nilmap
 | nilfn=>exact .nilfn
 | niliface=>exact .niliface
 | iface _ ih=>exact .iface ih
 | listnil p z=>exact .listnil p z
 | list h1 h2 h3 h4 h5 _ ih=>exact .list (hS _ _ h1) (hr _ _ h1 _ _ _ _ h2) h3 h4 h5 ih
 | elem h1 h2 h3 _ ih=>exact .elem (hS _ _ h1) (hr _ _ h1 _ _ _ _ h2) h3 ih
 | fn h1 _ ih=>exact .fn h1 ih
 | agg h1 _ ih=>exact .agg h1 ih
 | tuple h1 _ ih=>exact .tuple h1 ih
structure Mo(c c':Cx)(h h':TH):Prop where
 S:∀p b,c.S p b->c'.S p b
 ρ:∀id x,c.ρ id=some x->c'.ρ id=some x
 L:∀id,c.L id->c'.L id
 rd:∀p b,c.S p b->∀g o n cs,zb0 h b g o n=some cs->zb0 h' b g o n=some cs
variable {c:Cx}{f:Nat}{l:LQ}{u:TV}{v:PV}
theorem Mo.refl(c:Cx)(h:TH):Mo c c h h:=⟨fun _ _ h=>h,fun _ _ h=>h,fun _ h=>h,fun _ _ _ _ _ _ _ h=>h⟩
theorem Mo.trans{c' c'':Cx}{h' h'':TH}(a:Mo c c' h h')(b:Mo c' c'' h' h''):Mo c c'' h h'' :=
 ⟨fun p x hx=>b.S _ _ (a.S _ _ hx),fun id x hx=>b.ρ _ _ (a.ρ _ _ hx),fun id hx=>b.L _ (a.L _ hx),fun p x hx g o n cs hc=>b.rd _ _ (a.S _ _ hx) _ _ _ _ (a.rd _ _ hx _ _ _ _ hc)⟩
theorem VR.mono{c':Cx}{h':TH}(m:Mo c c' h h')(k:VR c h v u):VR c' h' v u:=by
 induction k with
 | pure k=>exact .pure (k.mono m.S m.rd)
 | sl h=>exact .sl (m.ρ _ _ h)
 | slnil z h=>exact .slnil z (m.L _ h)
 | ptr h=>exact .ptr (m.ρ _ _ h)
 | map h=>exact .map (m.ρ _ _ h)
 | yield h=>exact .yield (m.ρ _ _ h)
 | iface _ ih=>exact .iface ih
 | fn h1 _ ih=>exact .fn h1 ih
 | agg h1 _ ih=>exact .agg h1 ih
 | tuple h1 _ ih=>exact .tuple h1 ih
theorem PR.aggL{S:zfK}(k:LR (PR S h) l cs):PR S h (.agg l) (.agg cs):=.agg k.1 k.2
theorem VR.aggL(k:LR (VR c h) l cs):VR c h (.agg l) (.agg cs):=.agg k.1 k.2
theorem VR.tL(k:LR (VR c h) l cs):VR c h (.tuple l) (.tuple cs):=.tuple k.1 k.2
theorem VR.fnL(k:LR (VR c h) l cs):VR c h (.fn f l) (.fn f cs):=.fn k.1 k.2
theorem LR.pure(k:LR (PR c.S h) l cs):LR (VR c h) l cs:=k.mono fun _ _=>.pure
theorem VR.agg_inv(k:VR c h (.agg l) u):∃cs,u=.agg cs/\LR (VR c h) l cs:=by
 cases k with
 | pure k=>cases k with|agg h1 h2=>exact⟨_,rfl,LR.pure ⟨h1,h2⟩⟩
 | agg h1 h2=>exact⟨_,rfl,h1,h2⟩
theorem VR.tuple_inv(k:VR c h (.tuple l) u):∃cs,u=.tuple cs/\LR (VR c h) l cs:=by
 cases k with
 | pure k=>cases k with|tuple h1 h2=>exact⟨_,rfl,LR.pure ⟨h1,h2⟩⟩
 | tuple h1 h2=>exact⟨_,rfl,h1,h2⟩
theorem VR.fn_inv(k:VR c h (.fn f l) u):∃cs,u=.fn f cs/\LR (VR c h) l cs:=by
 cases k with
 | pure k=>cases k with|fn h1 h2=>exact⟨_,rfl,LR.pure ⟨h1,h2⟩⟩
 | fn h1 h2=>exact⟨_,rfl,h1,h2⟩
theorem VR.iface_inv{t:Nat}(k:VR c h (.iface t v) u):∃u',u=.iface t u'/\VR c h v u':=by
 cases k with
 | pure k=>cases k with|iface h1=>exact⟨_,rfl,.pure h1⟩
 | iface h1=>grind
theorem VR.int_inv{k:IntKind}{n:Int}(x:VR c h (.int k n) u):u=.int k n:=by
 cases x with|pure x=>cases x;rfl
theorem VR.bool_inv{b:Bool}(x:VR c h (.bool b) u):u=.bool b:=by
 cases x with|pure x=>cases x;rfl
theorem VR.str_inv{s:LN}(x:VR c h (.str s) u):u=.str s:=by
 cases x with|pure x=>cases x;rfl
theorem VR.bad_inv(x:VR c h .bad u):False:=by
 cases x with|pure x=>cases x
theorem VR.cells(k:VR c h v u):LR (VR c h) v.cells u.cells:=by
 cases k with
 | pure k =>
  cases k with
  | bool b=>exact LR.cons (.pure (.bool b)) LR.nil
  | int kk n=>exact LR.cons (.pure (.int kk n)) LR.nil
  | str s=>exact LR.cons (.pure (.str s)) LR.nil
  | nilptr=>exact LR.cons (.pure .nilptr) LR.nil
  | nilsl=>exact LR.cons (.pure .nilsl) LR.nil
  | nilmap=>exact LR.cons (.pure .nilmap) LR.nil
  | nilfn=>exact LR.cons (.pure .nilfn) LR.nil
  | niliface=>exact LR.cons (.pure .niliface) LR.nil
  | iface h1=>exact LR.cons (.pure (.iface h1)) LR.nil
  | listnil p z=>exact LR.cons (.pure (.listnil p z)) LR.nil
  | list h1 h2 h3 h4 h5 h6=>exact LR.cons (.pure (.list h1 h2 h3 h4 h5 h6)) LR.nil
  | elem h1 h2 h3 h4=>exact LR.cons (.pure (.elem h1 h2 h3 h4)) LR.nil
  | fn h1 h2=>exact LR.cons (.pure (.fn h1 h2)) LR.nil
  | agg h1 h2=>exact LR.pure ⟨h1,h2⟩
  | tuple h1 h2=>exact LR.nil
 | sl h1=>exact LR.cons (.sl h1) LR.nil
 | slnil z h1=>exact LR.cons (.slnil z h1) LR.nil
 | ptr h1=>exact LR.cons (.ptr h1) LR.nil
 | map h1=>exact LR.cons (.map h1) LR.nil
 | yield h1=>exact LR.cons (.yield h1) LR.nil
 | iface h1=>exact LR.cons (.iface h1) LR.nil
 | fn h1 h2=>exact LR.cons (.fn h1 h2) LR.nil
 | agg h1 h2=>exact⟨h1,h2⟩
 | tuple h1 h2=>exact LR.nil
def znu{K:Type}(κ:K->TV):Prop:=∀x y,(x=y->ziO (κ x) (κ y)=some true)/\(¬x=y->ziO (κ x) (κ y)=some false)
open Classical in
noncomputable def lk {K:Type}(κ:K->TV)(x:K):LZ->LE
 | []=>none
 | e::l=>if e.k=κ x then some e.v else lk κ x l
structure MR{K:Type}(R:PV->TV->Prop)(κ:K->TV)(m:K->LX)(es:LZ):Prop where
 keys:∀e∈es,∃n,e.k=κ n
 some:∀x v,m x=some v->∃u,lk κ x es=some u/\R v u
 none:∀x,m x=none->lk κ x es=none
def tmR(c:Cx)(h:TH)(tm:Nat->PV)(t:LA):Prop:=∀i,tm i=.bad\/∃u,t.get i=some u/\VR c h (tm i) u
inductive XR(c:Cx)(h:TH):FX->TX->Prop
 | norm:XR c h .norm .norm
 | exit (id:Nat):XR c h (.exit id) (.exit id)
 | goto (l:Nat):XR c h (.goto l) (.goto l)
 | ret:XR c h .ret .ret
 | panic {v:PV} {u:TV}:VR c h v u->XR c h (.panic v) (.panic u)
def OR(c:Cx)(h:TH)(id:Nat):zc->Prop
 | .row e z G M l=>(l=[]/\G=0/\c.ρ id=none/\c.L id)\/∃b d G' M' cells cs,c.ρ id=some (b,d,z)/\h.get b=some (.row e G' M' (l.length*z) cells)/\G=G'+d/\M'<=M-d/\cells.getL 0 (l.length*z)=some cs/\ER (VR c h) z l cs
 | .map0=>∃b d z clock,c.ρ id=some (b,d,z)/\h.get b=some (.map [] clock)
 | .mapI k m=>∃b d z es clock,c.ρ id=some (b,d,z)/\h.get b=some (.map es clock)/\MR (VR c h) (TV.int k) m es
 | .mapS m=>∃b d z es clock,c.ρ id=some (b,d,z)/\h.get b=some (.map es clock)/\MR (VR c h) TV.str m es
 | .dfr shut=>∃b d z,c.ρ id=some (b,d,z)/\h.get b=some (.dfr shut)
 | .loop st pe tm ps aS bo m=>∃b d z bm dm zm t pe',c.ρ id=some (b,d,z)/\c.ρ m=some (bm,dm,zm)/\h.get b=some (.loop st pe' t ps aS bo bm)/\tmR c h tm t/\XR c h pe pe'
 | .void=>True
structure Ba where
 β:Nat
 h0:TH
 S:zfK
structure HR(B:Ba)(c:Cx)(H:LP)(h:TH):Prop where
 le:B.β<=h.next
 keep:∀b,b<B.β->h.get b=B.h0.get b
 old:∀p b,c.S p b->B.S p b\/(p=0/\B.β<=b)
 S:∀p b,c.S p b->b<h.next/\∀id x,c.ρ id=some x->x.1=b->H[id]?=some .void
 own:∀id x,c.ρ id=some x->B.β<=x.1/\x.1<h.next/\id<H.length
 lz:∀id,c.L id->id<H.length/\∀x,c.ρ id=some x->x.2.1=1
 inj:∀id id' x x',c.ρ id=some x->c.ρ id'=some x'->x.1=x'.1->id=id'
 obj:∀id o,H[id]?=some o->OR c h id o
def PV.toT:PV->LE
 | .bool b=>some (.bool b)
 | .int k n=>some (.int k n)
 | .str s=>some (.str s)
 | _=>none
def ofT:TV->LX
 | .bool b=>some (.bool b)
 | .int k n=>some (.int k n)
 | .str s=>some (.str s)
 | _=>none
theorem zqW{c:Cx}{h:TH}{u':TV}(k:VR c h v u)(ht:v.toT=some u'):u=u':=by
 cases v<;>simp[PV.toT]at ht<;>subst ht
 .exact k.bool_inv
 .exact k.int_inv
 .exact k.str_inv
theorem zuZ{c:Cx}{h:TH}(ht:ofT u=some v):VR c h v u:=by
 cases u<;>simp[ofT]at ht<;>subst ht
 .exact .pure (.bool _)
 .exact .pure (.int _ _)
 .exact .pure (.str _)
def sc1(f:TV->LE):LQ->LX
 | [x]=>match x.toT with
  | some u=>(match f u with|some w=>ofT w|none=>none)
  | none=>none
 | _=>none
def sc2(f:TV->TV->LE):LQ->LX
 | [x,y]=>match x.toT with
  | some u=>(match y.toT with
   | some t=>(match f u t with|some w=>ofT w|none=>none)
   | none=>none)
  | none=>none
 | _=>none
def zbv:LQ->Option (LK)
 | []=>some []
 | x::l=>match x.toT with
  | some u=>(match zbv l with|some us=>some (u::us)|none=>none)
  | none=>none
def scL(f:LK->LE)(l:LQ):LX:=match zbv l with
 | some us=>(match f us with|some w=>ofT w|none=>none)
 | none=>none
section plain
variable {c:Cx}{h:TH}
variable {us:LK}{vs:LQ}
theorem zqd{f:TV->LE}(hv:LR (VR c h) vs us)(hp:sc1 f vs=some v):∃u,zcY us f=some u/\VR c h v u:=by
 unfold sc1 at hp
 split at hp
 .rename_i x;obtain⟨y,cs,rfl,h1,h2⟩:=hv.oc;obtain rfl:=h2.oN
  split at hp
  .rename_i u hu;obtain rfl:=zqW h1 hu
   split at hp
   .rename_i w hw;exact⟨w,hw,zuZ hp⟩
   grind
  grind
 grind
theorem zmN{f:TV->TV->LE}(hv:LR (VR c h) vs us)(hp:sc2 f vs=some v):∃u,zdh us f=some u/\VR c h v u:=by
 unfold sc2 at hp
 split at hp
 .rename_i x x';obtain⟨y,cs,rfl,h1,h2⟩:=hv.oc;obtain⟨y',cs',rfl,h3,h4⟩:=h2.oc;obtain rfl:=h4.oN
  split at hp
  .rename_i u hu;obtain rfl:=zqW h1 hu
   split at hp
   .rename_i u' hu';obtain rfl:=zqW h3 hu'
    split at hp
    .rename_i w hw;exact⟨w,hw,zuZ hp⟩
    grind
   grind
  grind
 grind
theorem zln:∀{vs:LQ} {us us':LK},LR (VR c h) vs us->zbv vs=some us'->us=us'
 | [],us,us',hv,hp=>by simp[zbv]at hp;subst hp;exact hv.oN
 | x::l,us,us',hv,hp=>by
  obtain⟨y,cs,rfl,h1,h2⟩:=hv.oc;unfold zbv at hp
  split at hp
  .rename_i u hu;obtain rfl:=zqW h1 hu
   split at hp
   .rename_i ws hws
    cases hp
    rw[zln h2 hws]
   grind
  grind
theorem zGb{f:LK->LE}(hv:LR (VR c h) vs us)(hp:scL f vs=some v):∃u,f us=some u/\VR c h v u:=by
 unfold scL at hp
 split at hp
 .rename_i ws hws;obtain rfl:=zln hv hws
  split at hp
  .rename_i w hw;exact⟨w,hw,zuZ hp⟩
  grind
 grind
end plain
def zbw(f:TV->LX):LK->Option (LQ)
 | []=>some []
 | x::l=>match f x with
  | some v=>(match zbw f l with|some vs=>some (v::vs)|none=>none)
  | none=>none
def ofC:Nat->TV->LX
 | 0,_=>none
 | n+1,u=>match u with
  | .bool b=>some (.bool b)
  | .int k m=>some (.int k m)
  | .str s=>some (.str s)
  | .nilptr=>some .nilptr
  | .nilsl=>some .nilsl
  | .nilmap=>some .nilmap
  | .nilfn=>some .nilfn
  | .niliface=>some .niliface
  | .fn f []=>some (.fn f [])
  | .iface t v=>(match ofC n v with|some v=>some (.iface t v)|none=>none)
  | .agg l=>(match zbw (ofC n) l with|some l=>some (.agg l)|none=>none)
  | .tuple l=>(match zbw (ofC n) l with|some l=>some (.tuple l)|none=>none)
  | _=>none
theorem zhv{f:TV->LX}{S:zfK}{h:TH}(hf:∀u v,f u=some v->PR S h v u):∀{us:LK} {vs:LQ},zbw f us=some vs->LR (PR S h) vs us
 | [],vs,hp=>by simp[zbw]at hp;subst hp;exact LR.nil
 | u::us,vs,hp=>by
  unfold zbw at hp
  split at hp
  .rename_i v hv
   split at hp
   .rename_i ws hws
    cases hp
    exact LR.cons (hf _ _ hv) (zhv hf hws)
   .cases hp
  .cases hp
theorem zhN{S:zfK}{h:TH}:∀{n:Nat} {u:TV} {v:PV},ofC n u=some v->PR S h v u
 | 0,u,v,hp=>by cases hp
 | n+1,u,v,hp=>by
  unfold ofC at hp
  split at hp<;>first|(cases hp;constructor;done)|skip
  .cases hp;exact .fn rfl (fun i x y hx=>by simp at hx)
  .split at hp
   .rename_i w hw;cases hp;exact .iface (zhN hw)
   .cases hp
  .split at hp
   .rename_i w hw;cases hp
    have:=zhv (fun u v=>zhN (S:=S) (h:=h)) hw;exact .agg this.1 this.2
   .cases hp
  .split at hp
   .rename_i w hw;cases hp
    have:=zhv (fun u v=>zhN (S:=S) (h:=h)) hw;exact .tuple this.1 this.2
   .cases hp
  .cases hp
def zay:PV->Bool
 | .agg _=>false
 | .tuple _=>false
 | .bad=>false
 | _=>true
theorem zAU{v:PV}(h:zay v=true):v.cells=[v]:=by cases v<;>first|rfl|cases h
def zbo(agg:Bool)(l:LQ):LX:=if agg then some (.agg l)else match l with
 | [x]=>some x
 | _=>none
def zbl(H:LP)(id g i:Nat):LX:=match H[id]? with
 | some (.row _ _ G M l)=>if M<=g/\g<=G then l[i]? else none
 | _=>none
def zaz(H:LP)(agg:Bool)(n:Nat):LQ->LX
 | [.elem cs]=>if n<=cs.length then zbo agg (cs.take n)else none
 | [.ptr id g i o m]=>if n<=m then(match zbl H id g i with
  | some v=>if o+n<=v.cells.length then zbo agg ((v.cells.drop o).take n)else none
  | none=>none)else none
 | _=>none
def zai(off size:Nat):LQ->LX
 | [.elem cs]=>if off+size<=cs.length then some (.elem ((cs.drop off).take size))else none
 | [.ptr id g i o m]=>if off+size<=m then some (.ptr id g i (o+off) size)else none
 | _=>none
def zal(esz:Nat):LQ->LX
 | [.list _ z l,.int _ j]=>if esz=z/\0<=j then(match l[j.toNat]? with
  | some v=>some (.elem v.cells)
  | none=>none)else none
 | [.sl id g o n _ z,.int _ j]=>if esz=z/\0<=j/\j.toNat<n then some (.ptr id g (o+j.toNat) 0 z)else none
 | _=>none
def zX(len esz:Nat):LQ->LX
 | [.elem cs,.int _ j]=>if 0<=j/\j.toNat<len/\len*esz<=cs.length then some (.elem ((cs.drop (j.toNat*esz)).take esz))else none
 | [.ptr id g i o m,.int _ j]=>if 0<=j/\j.toNat<len/\len*esz<=m then some (.ptr id g i (o+j.toNat*esz) esz)else none
 | _=>none
def bnd(m:Nat):PV->LC
 | .int _ j=>if 0<=j/\j.toNat<=m then some j.toNat else none
 | _=>none
def zao(lo hi mx:Bool)(p z:Nat)(l:LQ):LQ->LX
 | []=>if lo=false/\hi=false/\mx=false then some (.list p z l)else none
 | [x]=>if mx=true\/lo=hi then none else(match bnd l.length x with
  | some a=>some (.list p z (if lo then l.drop a else l.take a))
  | none=>none)
 | [x,y]=>if lo=true/\hi=true/\mx=false/\0<l.length then(match bnd l.length y with
  | some b=>(match bnd b x with
   | some a=>some (.list p z ((l.take b).drop a))
   | none=>none)
  | none=>none)else none
 | [x,y,w]=>if lo=true/\hi=true/\mx=true/\0<l.length then(match bnd l.length w with
  | some m=>(match bnd m y with
   | some b=>(match bnd b x with
    | some a=>some (.list p z ((l.take b).drop a))
    | none=>none)
   | none=>none)
  | none=>none)else none
 | _=>none
def zan(lo hi mx:Bool)(id g o n q z:Nat):LQ->LX
 | []=>if lo=false/\hi=false/\mx=false then some (.sl id g o n q z)else none
 | [x]=>if mx=true\/lo=hi\/q=0 then none else if lo then(match bnd n x with
   | some a=>some (.sl id g (o+a) (n-a) (q-2*a) z)
   | none=>none)else(match bnd (q/2) x with
   | some a=>some (.sl id g o a q z)
   | none=>none)
 | [x,y]=>if lo=true/\hi=true/\mx=false/\0<q then(match bnd (q/2) y with
  | some b=>(match bnd b x with
   | some a=>some (.sl id g (o+a) (b-a) (q-2*a) z)
   | none=>none)
  | none=>none)else none
 | [x,y,m]=>if lo=true/\hi=true/\mx=true/\0<q then(match bnd (q/2) m with
  | some m=>(match bnd m y with
   | some b=>(match bnd b x with
    | some a=>some (.sl id g (o+a) (b-a) (2*m+1-2*a) z)
    | none=>none)
   | none=>none)
  | none=>none)else none
 | _=>none
def zak(esz:Nat)(lo hi mx:Bool):LQ->LX
 | .list p z l::bs=>if esz=z then zao lo hi mx p z l bs else none
 | .sl id g o n q z::bs=>if esz=z then zan lo hi mx id g o n q z bs else none
 | _=>none
def zbI(f:Nat)(vs:LQ):LX:=match f with
 | 1=>(match vs with
  | [.nilsl]=>some (.int .i64 0)
  | [.list _ _ l]=>some (.int .i64 l.length)
  | [.sl _ _ _ n _ _]=>some (.int .i64 n)
  | _=>none)
 | 3=>sc1 zt5 vs
 | _=>none
def okF(ok:Bool)(v:PV)(b:Bool):PV:=if ok then .tuple [v,.bool b]else v
def zaJ(H:LP)(kf:Nat)(zero:TV)(ok:Bool):LQ->LX
 | [.map id,.int k x]=>if kf=1 then(match H[id]? with
  | some .map0=>(match ofC 3 zero with|some z=>some (okF ok z false)|none=>none)
  | some (.mapI k' m)=>if k=k' then(match m x with
   | some v=>some (okF ok v true)
   | none=>(match ofC 3 zero with|some z=>some (okF ok z false)|none=>none))else none
  | _=>none)else none
 | [.map id,.str x]=>if kf=2 then(match H[id]? with
  | some .map0=>(match ofC 3 zero with|some z=>some (okF ok z false)|none=>none)
  | some (.mapS m)=>(match m x with
   | some v=>some (okF ok v true)
   | none=>(match ofC 3 zero with|some z=>some (okF ok z false)|none=>none))
  | _=>none)else none
 | [.nilmap,.int _ _]=>if kf=1 then(match ofC 3 zero with|some z=>some (okF ok z false)|none=>none)else none
 | _=>none
def zbs(f:Nat)(v:PV):AN:=match f,v with
 | 1,.nilptr=>some true
 | 1,.ptr ..=>some false
 | 1,.elem _=>some false
 | 2,.nilsl=>some true
 | 2,.list _ _ (_::_)=>some false
 | 3,.nilmap=>some true
 | 3,.map _=>some false
 | 4,.nilfn=>some true
 | 4,.fn ..=>some false
 | 5,.niliface=>some true
 | 5,.iface ..=>some false
 | _,_=>none
def zbG(neg:Bool):AN->LX
 | some b=>some (.bool (if neg then !b else b))
 | none=>none
def zaj(neg:Bool)(ks:LN):LQ->LX
 | [.agg l,.agg m]=>(match zbv l with
  | some l=>(match zbv m with
   | some m=>bif Nat.beq l.length ks.length then bif Nat.beq m.length ks.length then zbG neg (zcX ks l m)else none else none
   | none=>none)
  | none=>none)
 | _=>none
def zaE(cells:LQ):List (Nat×Nat)->LQ->Option (LQ)
 | [],[]=>some cells
 | (off,size)::ps,v::vs=>if v.cells.length=size/\off+size<=cells.length then zaE (cells.take off++v.cells++cells.drop (off+size)) ps vs else none
 | _,_=>none
def zaQ(agg:Bool)(off size:Nat)(l:LQ):LX :=
 if agg then(if off+size<=l.length then some (.agg ((l.drop off).take size))else none)else l[off]?
def zbC(H:LP)(esz:Nat):PV->Option (LQ)
 | .nilsl=>some []
 | .list _ z l=>if esz=z then some l else none
 | .sl id g o n _ z=>if esz=z then(match H[id]? with
  | some (.row _ _ G M l)=>if M<=g/\g<=G/\o+n<=l.length then some ((l.drop o).take n)else none
  | _=>none)else none
 | _=>none
def zah(H:LP):LQ->LX
 | [x]=>(match zbC H 1 x with
  | some l=>(match zbv l with
   | some l=>(match zbB l with
    | some s=>some (.str s)
    | none=>none)
   | none=>none)
  | none=>none)
 | _=>none
def zbu(H:LP)(k:zaf)(vs:LQ):LX :=
 match k with
 | .mov=>(match vs with | [v]=>some v|_=>none)
 | .pick=>(match vs with | [.bool c,a,b]=>some (if c then a else b)|_=>none)
 | .load agg n=>zaz H agg n vs
 | .nilchk=>(match vs with
  | [.elem cs]=>some (.elem cs)
  | [.ptr id g i o n]=>some (.ptr id g i o n)
  | [.fn f c]=>some (.fn f c)
  | _=>none)
 | .bin op=>sc2 (zc6 op) vs
 | .eqnil neg f=>(match vs with
  | [x,y]=>zbG neg (zV (zbs f x) (zbs f y))
  | _=>none)
 | .eqB neg=>sc2 (zrw neg) vs
 | .cstr=>sc1 zzz vs
 | .eqagg neg ks=>zaj neg ks vs
 | .un op=>sc1 (pUn op) vs
 | .conv k=>sc1 (zn6 k) vs
 | .mkif t=>(match vs with | [v]=>some (.iface t v)|_=>none)
 | .mkfn f=>some (.fn f vs)
 | .slice esz lo hi mx=>zak esz lo hi mx vs
 | .slstr lo hi=>scL (znr lo hi) vs
 | .faddr off size=>zai off size vs
 | .fld agg off size=>(match vs with | [.agg l]=>zaQ agg off size l|_=>none)
 | .iaddr esz=>zal esz vs
 | .iaddrA len esz=>zX len esz vs
 | .idxstr=>sc2 zlu vs
 | .look kf zero ok=>zaJ H kf zero ok vs
 | .tassert t zero ok=>(match vs with
  | [.iface t' v]=>if t=t' then some (okF ok v true)else if ok then(match ofC 3 zero with|some z=>some (.tuple [z,.bool false])|none=>none)else none
  | [.niliface]=>if ok then(match ofC 3 zero with|some z=>some (.tuple [z,.bool false])|none=>none)else none
  | _=>none)
 | .extr i=>(match vs with | [.tuple l]=>l[i]? | _=>none)
 | .len f=>zbI f vs
 | .tostr=>zah H vs
 | .maxI=>sc2 (zkZ true) vs
 | .minI=>sc2 (zkZ false) vs
 | .build zero places=>(match zbw (ofC 3) zero with
  | some z=>(match zaE z places vs with
   | some l=>some (.agg l)
   | none=>none)
  | none=>none)
 | _=>none
variable {B:Ba}{h:TH}{c:Cx}{H:LP}{vs:LQ}{us:LK}{v:PV}
variable {K:Type}{R:PV->TV->Prop}{agg:Bool}{clock d:Nat}{ds:LK}{e:Nat}{es:LZ}{esz id:Nat}{m:K->LX}{neg:Bool}{off p q:Nat}{w:PV}{zero:TV}{κ:K->TV}
theorem zqv(hl:LR (VR c h) l cs)(hp:zbo agg l=some v):∃u,zpj agg cs=some u/\VR c h v u:=by
 unfold zbo at hp;unfold zpj
 cases agg
 .simp only[zCQ9,if_false]at hp
  split at hp
  .rename_i x
   cases hp
   obtain⟨y,cs',rfl,h1,h2⟩:=hl.oc;obtain rfl:=h2.oN
   grind
  grind
 .simp only[if_true]at hp
  cases hp
  exact⟨_,rfl,VR.aggL hl⟩
theorem zqu(h:i<n):i*z+z<=n*z:=by
 have:=zCK9 z (Nat.succ_le_of_lt h)
 grind
theorem ztX(cs:List α)(hz:o+n<=z):((((cs.drop a).take z).drop o).take n)=(cs.drop (a+o)).take n:=by
 rw[zDJ9,zFF9,zEF9,zDV9 zo]
theorem zvo(k:HR B c H h)(hr:zbl H id (g+d) i=some v)(hρ:c.ρ id=some (b,d,z)):v.cells.length=z/\∀o n,o+n<=z->∃ds,zb0 h b g (i*z+o) n=some ds/\LR (VR c h) ((v.cells.drop o).take n) ds:=by
 unfold zbl at hr
 split at hr
 .rename_i e z' G M l hH
  split at hr
  .rename_i hg;rcases k.obj _ _ hH with⟨rfl,_⟩|⟨b',d',G',M',cells,cs,h1,h2,h3,h4,h5,h6⟩
   .grind
   .rw[hρ]at h1;injection h1 with h1;injection h1 with h1 h7;injection h7 with h7 h8;subst h1;subst h7;subst h8;subst h3;have hi:i<l.length:=(zAC9.1 hr).1;have hm:=zqu (z:=z) hi;have hvl:=h6.one v (zAI9 hr);refine⟨hvl,fun o n hon=>?_⟩;refine⟨(cs.drop (i*z+o)).take n,zkU h2 zo zo ?_,?_⟩
    .have:=zj0 h5 (k:=i*z+o) (m:=n) zo
     grind
    .rw[<- ztX cs hon];exact((h6.at hr).drop o).take n
  grind
 grind
theorem zf7(x:VR c h (.ptr id g i o n) u):∃b d z g',c.ρ id=some (b,d,z)/\g=g'+d/\u=.ptr b g' (i*z+o) n:=by
 cases x with
 | pure x=>cases x
 | ptr hρ=>grind
theorem zhk{cs:LQ}(x:VR c h (.elem cs) u):∃p b g o ds,c.S p b/\u=.ptr b g o cs.length/\zb0 h b g o cs.length=some ds/\LR (PR c.S h) cs ds:=by
 cases x with
 | pure x=>cases x with|elem h1 h2 h3 h4=>exact⟨_,_,_,_,_,h1,rfl,h2,h3,h4⟩
theorem zuq{cs:LQ}(hS:c.S p b)(hr:zb0 h b g o cs.length=some ds)(hl:LR (PR c.S h) cs ds)(ha:a+n<=cs.length):VR c h (.elem ((cs.drop a).take n)) (.ptr b g (o+a) n):=by
 have hn:((cs.drop a).take n).length=n:=by simp;omega
 have h1:=zgd hr ha;have h2:=(hl.drop a).take n;have:=PR.elem (S:=c.S) (h:=h) hS (by rw[hn];exact h1) h2.1 h2.2;rw[hn]at this;exact .pure this
theorem zxI(k:HR B c H h)(hv:LR (VR c h) vs us)(hp:zaz H agg n vs=some v):∃u,zcY us (zhZ agg n h)=some u/\VR c h v u:=by
 unfold zaz at hp
 split at hp
 .rename_i cs;obtain⟨y,cs',rfl,h1,h2⟩:=hv.oc;obtain rfl:=h2.oN
  split at hp
  .rename_i hn;obtain⟨p,b,g,o,ds,s1,rfl,s2,s3⟩:=zhk h1;have s4:=zgd s2 (k:=0) (m:=n) zo;rw[zDC9]at s4;obtain⟨u,u1,u2⟩:=zqv (LR.pure (s3.take n)) hp;refine⟨u,?_,u2⟩;simp only[zcY,zhZ];rw[zcG hn,s4];exact u1
  grind
 .rename_i id g i o m;obtain⟨y,cs',rfl,h1,h2⟩:=hv.oc;obtain rfl:=h2.oN
  split at hp
  .rename_i hn
   split at hp
   .rename_i w hw
    split at hp
    .rename_i ho;obtain⟨b,d,z,g',s1,rfl,rfl⟩:=zf7 h1;obtain⟨s2,s3⟩:=zvo k hw s1;obtain⟨ds,s4,s5⟩:=s3 o n (by omega);obtain⟨u,u1,u2⟩:=zqv s5 hp;refine⟨u,?_,u2⟩;simp only[zcY,zhZ];rw[zcG hn,s4];exact u1
    grind
   grind
  grind
 grind
theorem zDl{size:Nat}(hv:LR (VR c h) vs us)(hp:zai off size vs=some v):∃u,zcY us (zlh off size)=some u/\VR c h v u:=by
 unfold zai at hp
 split at hp
 .rename_i cs;obtain⟨y,cs',rfl,h1,h2⟩:=hv.oc;obtain rfl:=h2.oN
  split at hp
  .rename_i hn
   cases hp
   obtain⟨p,b,g,o,ds,s1,rfl,s2,s3⟩:=zhk h1;refine⟨.ptr b g (o+off) size,?_,zuq s1 s2 s3 hn⟩;simp only[zcY,zlh];rw[zcG hn];rfl
  grind
 .rename_i id g i o m;obtain⟨y,cs',rfl,h1,h2⟩:=hv.oc;obtain rfl:=h2.oN
  split at hp
  .rename_i hn
   cases hp
   obtain⟨b,d,z,g',s1,rfl,rfl⟩:=zf7 h1;refine⟨.ptr b g' (i*z+o+off) size,?_,?_⟩
   .simp only[zcY,zlh];rw[zcG hn];rfl
   .rw[zEY9];exact .ptr s1
  grind
 grind
theorem ziq{j:Int}(h:0<=j):zD8 j=some j.toNat:=by
 obtain⟨n,rfl⟩:=zDB9 h;rfl
theorem zfk(x:VR c h (.list p z l) u):(l=[]/\u=.nilsl)\/∃b g o q ds,u=.sl b g o l.length q z/\c.S p b/\zb0 h b g o (l.length*z)=some ds/\2*l.length<=q/\ER (PR c.S h) z l ds:=by
 cases x with
 | pure x=>cases x with
  | listnil=>grind
  | list h1 h2 h3 h4 h5 h6=>exact .inr ⟨_,_,_,_,_,rfl,h1,h2,h3,h4,h5,h6⟩
theorem sl_inv(x:VR c h (.sl id g o n q z) u):(g=0/\o=0/\n=0/\q=0/\u=.nilsl/\c.L id)\/∃b d g',c.ρ id=some (b,d,z)/\g=g'+d/\u=.sl b g' (o*z) n q z:=by
 cases x with
 | pure x=>cases x
 | sl hρ=>grind
 | slnil _ hL=>grind
theorem zC0(hv:LR (VR c h) vs us)(hp:zal esz vs=some v):∃u,zdh us (zli esz)=some u/\VR c h v u:=by
 unfold zal at hp
 split at hp
 .rename_i p z l k j;obtain⟨y,cs',rfl,h1,h2⟩:=hv.oc;obtain⟨y',cs'',rfl,h3,h4⟩:=h2.oc;obtain rfl:=h4.oN;obtain rfl:=h3.int_inv
  split at hp
  .rename_i hc;obtain⟨rfl,hj⟩:=hc
   split at hp
   .rename_i w hw
    cases hp
    have hi:j.toNat<l.length:=(zAC9.1 hw).1;rcases zfk h1 with⟨rfl,_⟩|⟨b,g,o,q,ds,rfl,s1,s2,s3,s4⟩
    .grind
    .have hm:=zqu (z:=esz) hi;have hwl:=s4.one w (zAI9 hw);refine⟨.ptr b g (o+j.toNat*esz) esz,?_,?_⟩
     .simp only[zdh,zli,zfJ,ziq hj];rw[zb6 rfl,zks hi];rfl
     .have s5:=zgd s2 (k:=j.toNat*esz) (m:=esz) hm;have s6:=s4.at hw;have:=PR.elem (S:=c.S) (h:=h) s1 (by rw[hwl];exact s5) s6.1 s6.2;rw[hwl]at this;exact .pure this
   grind
  grind
 .rename_i id g o n q z k j;obtain⟨y,cs',rfl,h1,h2⟩:=hv.oc;obtain⟨y',cs'',rfl,h3,h4⟩:=h2.oc;obtain rfl:=h4.oN;obtain rfl:=h3.int_inv
  split at hp
  .rename_i hc;obtain⟨rfl,hj,hi⟩:=hc
   cases hp
   rcases sl_inv h1 with⟨_,_,rfl,_⟩|⟨b,d,g',s1,rfl,rfl⟩
   .omega
   .refine⟨.ptr b g' (o*esz+j.toNat*esz) esz,?_,?_⟩
    .simp only[zdh,zli,zfJ,ziq hj];rw[zb6 rfl,zks hi];rfl
    .have:=VR.ptr (h:=h) (g:=g') (i:=o+j.toNat) (o:=0) (n:=esz) s1
     grind
  grind
 grind
theorem zAW{len:Nat}(hv:LR (VR c h) vs us)(hp:zX len esz vs=some v):∃u,zdh us (zjE len esz)=some u/\VR c h v u:=by
 unfold zX at hp
 split at hp
 .rename_i cs k j;obtain⟨y,cs',rfl,h1,h2⟩:=hv.oc;obtain⟨y',cs'',rfl,h3,h4⟩:=h2.oc;obtain rfl:=h4.oN;obtain rfl:=h3.int_inv
  split at hp
  .rename_i hc;obtain⟨hj,hi,hn⟩:=hc
   cases hp
   obtain⟨p,b,g,o,ds,s1,rfl,s2,s3⟩:=zhk h1;have hm:=zqu (z:=esz) hi;refine⟨.ptr b g (o+j.toNat*esz) esz,?_,zuq s1 s2 s3 zo⟩;simp only[zdh,zjE,zfJ,ziq hj];rw[zks hi,zcG hn];rfl
  grind
 .rename_i id g i o m k j;obtain⟨y,cs',rfl,h1,h2⟩:=hv.oc;obtain⟨y',cs'',rfl,h3,h4⟩:=h2.oc;obtain rfl:=h4.oN;obtain rfl:=h3.int_inv
  split at hp
  .rename_i hc;obtain⟨hj,hi,hn⟩:=hc
   cases hp
   obtain⟨b,d,z,g',s1,rfl,rfl⟩:=zf7 h1;refine⟨.ptr b g' (i*z+o+j.toNat*esz) esz,?_,?_⟩
   .simp only[zdh,zjE,zfJ,ziq hj];rw[zks hi,zcG hn];rfl
   .rw[zEY9];exact .ptr s1
  grind
 grind
theorem zfv{m:Nat}{x:PV}(hx:VR c h x u)(hb:bnd m x=some a):zIc u m=some a/\a<=m:=by
 unfold bnd at hb
 split at hb
 .rename_i k j;obtain rfl:=hx.int_inv
  split at hb
  .rename_i hc
   cases hb
   refine⟨?_,hc.2⟩;unfold zIc;simp only[zfJ,ziq hc.1];rw[zcG hc.2];rfl
  grind
 grind
theorem zkq(s1:c.S p b)(s2:zb0 h b g o (l.length*z)=some ds)(s4:ER (PR c.S h) z l ds)(ha:a<=e)(he:e<=l.length)(hq:2*(e-a)<=q):VR c h (.list p z ((l.take e).drop a)) (.sl b g (o+a*z) (e-a) q z):=by
 have hl:((l.take e).drop a).length=e-a:=by simp;omega
 have hm:a*z+(e-a)*z<=l.length*z:=by
  rw[<- zCZ9,Nat.add_sub_cancel' ha];exact zCK9 z he
 have s5:=zgd s2 (k:=a*z) (m:=(e-a)*z) hm;have s6:=(s4.take e).drop a;have s7:(ds.take (e*z)).drop (a*z)=(ds.drop (a*z)).take ((e-a)*z):=by
  rw[zDJ9,Nat.sub_mul]
 rw[s7]at s6;have:=PR.list (S:=c.S) (h:=h) (q:=q) s1 (by rw[hl];exact s5) (by omega) s6.one s6.all.1 s6.all.2;rw[hl]at this;exact .pure this
theorem zEc{lo hi mx:Bool}(hv:LR (VR c h) vs us)(hp:zak esz lo hi mx vs=some v):∃u,zj1 esz lo hi mx us=some u/\VR c h v u:=by
 unfold zak at hp
 split at hp
 .rename_i p z l bs;obtain⟨y,cs',rfl,h1,h2⟩:=hv.oc
  split at hp
  .rename_i he;subst he;simp only[zj1];unfold zao at hp
   split at hp
   .obtain rfl:=h2.oN
    split at hp
    .rename_i hc;obtain⟨rfl,rfl,rfl⟩:=hc
     cases hp
     rcases zfk h1 with⟨rfl,rfl⟩|⟨b,g,o,q,ds,rfl,_⟩
     .exact⟨_,rfl,.pure (.listnil _ _)⟩
     .refine⟨_,?_,h1⟩;simp only[zfD];rw[zb6 rfl];rfl
    grind
   .rename_i x;obtain⟨y',cs'',rfl,h3,h4⟩:=h2.oc;obtain rfl:=h4.oN
    split at hp
    .cases hp
    .rename_i hc;simp only[not_or,zFS9]at hc;obtain⟨rfl,hlh⟩:=hc
     split at hp
     .rename_i a hb
      cases hp
      obtain⟨b1,b2⟩:=zfv h3 hb;rcases zfk h1 with⟨rfl,rfl⟩|⟨b,g,o,q,ds,rfl,s1,s2,s3,s4⟩
      .simp at b2;subst b2;simp only[zfD,zmX]
       grind
      .simp only[zfD];rw[zb6 rfl];simp only[cond_true,zhE,cond_false]
       cases lo<;>cases hi<;>first|exact absurd rfl hlh|skip
       .simp only[cond_true,cond_false,zzJ];have b3:zIc y' (q/2)=some a:=by
         revert b1;unfold zIc;cases zfJ y'<;>intro b1<;>first|(cases b1;done)|skip
         rename_i w;dsimp only at b1⊢
         cases hw:Nat.ble w l.length
         .grind
         .rw[hw]at b1;cases b1
          rw[zcG zo];rfl
        rw[b3];refine⟨_,rfl,?_⟩;have:=zkq (a:=0) (e:=a) (q:=q) s1 s2 s4 (zAJ9 _) b2 zo
        grind
       .simp only[cond_true,cond_false,zjg];rw[b1];refine⟨_,rfl,?_⟩;have:=zkq (a:=a) (e:=l.length) (q:=q-2*a) s1 s2 s4 b2 (zAE9 _) zo
        grind
     grind
   .rename_i x y0;obtain⟨y',cs'',rfl,h3,h4⟩:=h2.oc;obtain⟨y2,cs3,rfl,h5,h6⟩:=h4.oc;obtain rfl:=h6.oN
    split at hp
    .rename_i hc;obtain⟨rfl,rfl,rfl,hpos⟩:=hc
     split at hp
     .rename_i e hb;obtain⟨b1,b2⟩:=zfv h5 hb
      split at hp
      .rename_i a hb';obtain⟨b3,b4⟩:=zfv h3 hb'
       cases hp
       rcases zfk h1 with⟨rfl,rfl⟩|⟨b,g,o,q,ds,rfl,s1,s2,s3,s4⟩
       .grind
       .simp only[zfD];rw[zb6 rfl];simp only[cond_true,zhE,cond_false,zqX,zjg];have b5:zIc y2 (q/2)=some e:=by
         revert b1;unfold zIc;cases zfJ y2<;>intro b1<;>first|(cases b1;done)|skip
         rename_i w;dsimp only at b1⊢
         cases hw:Nat.ble w l.length
         .grind
         .rw[hw]at b1;cases b1
          rw[zcG zo];rfl
        rw[b5];dsimp only;rw[b3];exact⟨_,rfl,zkq s1 s2 s4 b4 b2 zo⟩
      grind
     grind
    grind
   .rename_i x y0 w0;obtain⟨y',cs'',rfl,h3,h4⟩:=h2.oc;obtain⟨y2,cs3,rfl,h5,h6⟩:=h4.oc;obtain⟨y3,cs4,rfl,h7,h8⟩:=h6.oc;obtain rfl:=h8.oN
    split at hp
    .rename_i hc;obtain⟨rfl,rfl,rfl,hpos⟩:=hc
     split at hp
     .rename_i m hbm;obtain⟨m1,m2⟩:=zfv h7 hbm
      split at hp
      .rename_i e hb;obtain⟨b1,b2⟩:=zfv h5 hb
       split at hp
       .rename_i a hb';obtain⟨b3,b4⟩:=zfv h3 hb'
        cases hp
        rcases zfk h1 with⟨rfl,rfl⟩|⟨b,g,o,q,ds,rfl,s1,s2,s3,s4⟩
        .grind
        .simp only[zfD];rw[zb6 rfl];simp only[cond_true,zhE,zub];have b5:zIc y3 (q/2)=some m:=by
          revert m1;unfold zIc;cases zfJ y3<;>intro m1<;>first|(cases m1;done)|skip
          rename_i w;dsimp only at m1⊢
          cases hw:Nat.ble w l.length
          .grind
          .rw[hw]at m1;cases m1
           rw[zcG zo];rfl
         rw[b5];dsimp only;rw[b1];simp only[zjg];rw[b3];exact⟨_,rfl,zkq s1 s2 s4 b4 zo zo⟩
       grind
      grind
     grind
    grind
   grind
  grind
 .rename_i id g o n q z bs;obtain⟨y,cs',rfl,h1,h2⟩:=hv.oc
  split at hp
  .rename_i he;subst he;simp only[zj1];unfold zan at hp
   split at hp
   .obtain rfl:=h2.oN
    split at hp
    .rename_i hc;obtain⟨rfl,rfl,rfl⟩:=hc
     cases hp
     rcases sl_inv h1 with⟨rfl,rfl,rfl,rfl,rfl,hL⟩|⟨b,d,g',s1,rfl,rfl⟩
     .exact⟨_,rfl,.slnil _ hL⟩
     .refine⟨_,?_,h1⟩;simp only[zfD];rw[zb6 rfl];rfl
    .cases hp
   .rename_i x;obtain⟨y',cs'',rfl,h3,h4⟩:=h2.oc;obtain rfl:=h4.oN
    split at hp
    .cases hp
    .rename_i hc;simp only[not_or,zFS9]at hc;obtain⟨rfl,hlh,hq⟩:=hc;rcases sl_inv h1 with⟨rfl,rfl,rfl,rfl,rfl,hL⟩|⟨b,d,g',s1,rfl,rfl⟩
     .omega
     .simp only[zfD];rw[zb6 rfl];simp only[cond_true,zhE,cond_false]
      cases lo<;>cases hi<;>first|exact absurd rfl hlh|skip
      .simp only[zCQ9,if_false]at hp
       split at hp
       .rename_i a hb
        cases hp
        obtain⟨b1,b2⟩:=zfv h3 hb;simp only[cond_true,cond_false,zzJ];rw[b1];exact⟨_,rfl,.sl s1⟩
       .cases hp
      .simp only[if_true]at hp
       split at hp
       .rename_i a hb
        cases hp
        obtain⟨b1,b2⟩:=zfv h3 hb;simp only[cond_true,cond_false,zjg];rw[b1];refine⟨_,rfl,?_⟩;have:=VR.sl (h:=h) (g:=g') (o:=o+a) (n:=n-a) (q:=q-2*a) s1
        grind
       .cases hp
   .rename_i x y0;obtain⟨y',cs'',rfl,h3,h4⟩:=h2.oc;obtain⟨y2,cs3,rfl,h5,h6⟩:=h4.oc;obtain rfl:=h6.oN
    split at hp
    .rename_i hc;obtain⟨rfl,rfl,rfl,hq⟩:=hc;rcases sl_inv h1 with⟨rfl,rfl,rfl,rfl,rfl,hL⟩|⟨b,d,g',s1,rfl,rfl⟩
     .omega
     .split at hp
      .rename_i e hb;obtain⟨b1,b2⟩:=zfv h5 hb
       split at hp
       .rename_i a hb';obtain⟨b3,b4⟩:=zfv h3 hb'
        cases hp
        simp only[zfD];rw[zb6 rfl];simp only[cond_true,zhE,cond_false,zqX,zjg];rw[b1];dsimp only;rw[b3];refine⟨_,rfl,?_⟩;have:=VR.sl (h:=h) (g:=g') (o:=o+a) (n:=e-a) (q:=q-2*a) s1
        grind
       .cases hp
      .cases hp
    .cases hp
   .rename_i x y0 m0;obtain⟨y',cs'',rfl,h3,h4⟩:=h2.oc;obtain⟨y2,cs3,rfl,h5,h6⟩:=h4.oc;obtain⟨y3,cs4,rfl,h7,h8⟩:=h6.oc;obtain rfl:=h8.oN
    split at hp
    .rename_i hc;obtain⟨rfl,rfl,rfl,hq⟩:=hc;rcases sl_inv h1 with⟨rfl,rfl,rfl,rfl,rfl,hL⟩|⟨b,d,g',s1,rfl,rfl⟩
     .omega
     .split at hp
      .rename_i m hbm;obtain⟨b6,b7⟩:=zfv h7 hbm
       split at hp
       .rename_i e hb;obtain⟨b1,b2⟩:=zfv h5 hb
        split at hp
        .rename_i a hb';obtain⟨b3,b4⟩:=zfv h3 hb'
         cases hp
         simp only[zfD];rw[zb6 rfl];simp only[cond_true,zhE,cond_false,zub,zjg];rw[b6];dsimp only;rw[b1];dsimp only;rw[b3];refine⟨_,rfl,?_⟩;have:=VR.sl (h:=h) (g:=g') (o:=o+a) (n:=e-a) (q:=2*m+1-2*a) s1
         grind
        .cases hp
       .cases hp
      .cases hp
    .cases hp
   .cases hp
  grind
 grind
theorem zj3(hp:ofC n u=some w):VR c h w u:=.pure (zhN hp)
theorem zvg(k:IntKind):znu (TV.int k):=fun x y=>by
 unfold ziO;dsimp only;rw[zb6 rfl,cond_true,zdM]
 grind
theorem zi8:∀a b:LN,zeO a b=true↔a=b
 | [],[]=>by simp[zeO]
 | [],_::_=>by simp[zeO]
 | _::_,[]=>by simp[zeO]
 | x::a,y::b=>by
  unfold zeO
  by_cases h:x=y
  .rw[zb6 h,cond_true,zi8 a b];simp[h]
  simp_all
theorem zvx:znu TV.str:=fun x y=>by
 unfold ziO;dsimp only;exact⟨fun h=>by rw[(zi8 x y).2 h],fun h=>by rw[zHO9.2 fun e=>h ((zi8 x y).1 e)]⟩
theorem znu.inj(hκ:znu κ){x y:K}(h:κ x=κ y):x=y:=by
 apply Classical.byContradiction
 intro e;have h1:=(hκ x y).2 e;have h2:=(hκ x x).1 rfl
 grind
theorem zog(hκ:znu κ){x:K}:∀{es:LZ} {i:Nat},(∀e∈es,∃n,e.k=κ n)->(ze9 (κ x) es i=some none/\lk κ x es=none)\/∃j e,ze9 (κ x) es i=some (some (j,e))/\lk κ x es=some e.v
 | [],i,_=>.inl ⟨rfl,rfl⟩
 | e::l,i,hk=>by
  obtain⟨n,hn⟩:=hk e (by simp);have hl:=fun e' he'=>hk e' (zAQ9 _ he');unfold ze9 lk
  by_cases hx:x=n
  .rw[hn,(hκ x n).1 hx,if_pos (by rw[hx])]
   grind
  .rw[hn,(hκ x n).2 hx,if_neg (fun e=>hx (hκ.inj e.symm))];exact zog hκ hl
theorem zm2{ok:Bool}{b:Bool}(k:VR c h w u):VR c h (okF ok w b) (okT ok u b):=by
 unfold okF okT
 cases ok
 .exact k
 .exact VR.tL (LR.cons k (LR.cons (.pure (.bool b)) LR.nil))
theorem zhF(x:VR c h (.map id) u):∃b d z,c.ρ id=some (b,d,z)/\u=.map b:=by
 cases x with
 | pure x=>cases x
 | map h=>grind
theorem zvE(hκ:znu κ)(s4:MR (VR c h) κ m es){ok:Bool}{x:K}(hp:(match m x with
   | some v=>some (okF ok v true)
   | none=>(match ofC 3 zero with|some z=>some (okF ok z false)|none=>none))=some w):∃u,zgL zero ok (κ x) (.map es clock)=some u/\VR c h w u:=by
 simp only[zgL]
 split at hp
 .rename_i w hw
  cases hp
  obtain⟨u,u1,u2⟩:=s4.some _ _ hw;rcases zog hκ (x:=x) (i:=0) s4.keys with⟨f1,f2⟩|⟨j,e,f1,f2⟩
  .grind
  .rw[f2]at u1;cases u1
   exact⟨okT ok e.v true,by rw[f1],zm2 u2⟩
 .rename_i hw
  split at hp
  .rename_i w hw'
   cases hp
   have u1:=s4.none _ hw;rcases zog hκ (x:=x) (i:=0) s4.keys with⟨f1,f2⟩|⟨j,e,f1,f2⟩
   .exact⟨okT ok zero false,by rw[f1],zm2 (zj3 hw')⟩
   .grind
  grind
theorem ztv(κ:K->TV){ok:Bool}{x:K}(hp:(match ofC 3 zero with|some z=>some (okF ok z false)|none=>none)=some w):∃u,zgL zero ok (κ x) (.map [] clock)=some u/\VR c h w u:=by
 split at hp
 .rename_i w hw
  cases hp
  exact⟨okT ok zero false,rfl,zm2 (zj3 hw)⟩
 grind
theorem zFE(k:HR B c H h){kf:Nat}{ok:Bool}(hv:LR (VR c h) vs us)(hp:zaJ H kf zero ok vs=some v):∃u,zdh us (zji kf zero ok h)=some u/\VR c h v u:=by
 unfold zaJ at hp
 split at hp
 .rename_i id kk x;obtain⟨y,cs',rfl,h1,h2⟩:=hv.oc;obtain⟨y',cs'',rfl,h3,h4⟩:=h2.oc;obtain rfl:=h4.oN;obtain rfl:=h3.int_inv;obtain⟨b,d,z,s1,rfl⟩:=zhF h1
  split at hp
  .rename_i hkf;subst hkf;simp only[zdh,zji,zgN,znD,cond_true]
   split at hp
   .rename_i hH;obtain⟨b',d',z',clock,s2,s3⟩:=k.obj _ _ hH;rw[s1]at s2;injection s2 with s2;injection s2 with s2 _;subst s2;rw[s3];exact ztv (TV.int kk) hp
   .rename_i k' m hH;obtain⟨b',d',z',es,clock,s2,s3,s4⟩:=k.obj _ _ hH;rw[s1]at s2;injection s2 with s2;injection s2 with s2 _;subst s2
    split at hp
    .rename_i hk;subst hk;rw[s3];exact zvE (zvg kk) s4 hp
    grind
   grind
  grind
 .rename_i id x;obtain⟨y,cs',rfl,h1,h2⟩:=hv.oc;obtain⟨y',cs'',rfl,h3,h4⟩:=h2.oc;obtain rfl:=h4.oN;obtain rfl:=h3.str_inv;obtain⟨b,d,z,s1,rfl⟩:=zhF h1
  split at hp
  .rename_i hkf;subst hkf;simp only[zdh,zji,zgN,zmL,cond_true]
   split at hp
   .rename_i hH;obtain⟨b',d',z',clock,s2,s3⟩:=k.obj _ _ hH;rw[s1]at s2;injection s2 with s2;injection s2 with s2 _;subst s2;rw[s3];exact ztv TV.str hp
   .rename_i m hH;obtain⟨b',d',z',es,clock,s2,s3,s4⟩:=k.obj _ _ hH;rw[s1]at s2;injection s2 with s2;injection s2 with s2 _;subst s2;rw[s3];exact zvE zvx s4 hp
   grind
  grind
 .rename_i kk x;obtain⟨y,cs',rfl,h1,h2⟩:=hv.oc;obtain⟨y',cs'',rfl,h3,h4⟩:=h2.oc;obtain rfl:=h4.oN;obtain rfl:=h3.int_inv;obtain rfl:y=.nilmap:=by cases h1 with|pure h1=>cases h1;rfl
  split at hp
  .rename_i hkf;subst hkf
   split at hp
   .rename_i w hw
    cases hp
    exact⟨okT ok zero false,rfl,zm2 (zj3 hw)⟩
   grind
  grind
 grind
theorem zAR{x:PV}{b:Bool}(hx:VR c h x u)(hn:zbs f x=some b):zq2 f u=some b:=by
 unfold zbs at hn
 split at hn<;>first|(cases hn;done)|(cases hn)
 .cases hx with|pure hx=>cases hx;rfl
 .obtain⟨_,_,_,_,_,_,rfl⟩:=zf7 hx;rfl
 .obtain⟨_,_,_,_,_,_,rfl,_⟩:=zhk hx;rfl
 .cases hx with|pure hx=>cases hx;rfl
 .rcases zfk hx with⟨h1,_⟩|⟨_,_,_,_,_,rfl,_⟩
  .cases h1
  .rfl
 .cases hx with|pure hx=>cases hx;rfl
 .obtain⟨_,_,_,_,rfl⟩:=zhF hx;rfl
 .cases hx with|pure hx=>cases hx;rfl
 .obtain⟨_,rfl,_⟩:=hx.fn_inv;rfl
 .cases hx with|pure hx=>cases hx;rfl
 .obtain⟨_,rfl,_⟩:=hx.iface_inv;rfl
theorem zAO{x:AN}(hp:zbG neg x=some v):∃u,zpP neg x=some u/\VR c h v u:=by
 unfold zbG at hp
 split at hp
 .cases hp
  refine⟨_,rfl,?_⟩
  cases neg<;>exact .pure (.bool _)
 grind
theorem zCY{ks:LN}(hv:LR (VR c h) vs us)(hp:zaj neg ks vs=some v):∃u,zdh us (znq neg ks)=some u/\VR c h v u:=by
 unfold zaj at hp
 split at hp
 .obtain⟨y,cs',rfl,h1,h2⟩:=hv.oc;obtain⟨y',cs'',rfl,h3,h4⟩:=h2.oc;obtain rfl:=h4.oN;obtain⟨a,rfl,a1⟩:=h1.agg_inv;obtain⟨a',rfl,a2⟩:=h3.agg_inv
  split at hp
  .rename_i l' hl';obtain rfl:=zln a1 hl'
   split at hp
   .rename_i m' hm';obtain rfl:=zln a2 hm';obtain⟨e1,hp⟩:=zac hp;obtain⟨e2,hp⟩:=zac hp;obtain⟨u,h1,h2⟩:=zAO hp;exact⟨u,by simp only[zdh,znq,e1,e2,cond_true];exact h1,h2⟩
   grind
  grind
 grind
theorem zrV:∀{places:List (Nat×Nat)} {vs:LQ} {us:LK} {l m:LQ} {cs:LK},LR (VR c h) l cs->LR (VR c h) vs us->zaE l places vs=some m->∃ds,zkD cs places us=some ds/\LR (VR c h) m ds
 | [],[],us,l,m,cs,hl,hv,hp=>by
  obtain rfl:=hv.oN;simp only[zaE]at hp
  cases hp
  exact⟨cs,rfl,hl⟩
 | [],_::_,us,l,m,cs,hl,hv,hp=>by simp[zaE]at hp
 | _::_,[],us,l,m,cs,hl,hv,hp=>by simp[zaE]at hp
 | (off,size)::ps,v::vs,us,l,m,cs,hl,hv,hp=>by
  obtain⟨y,us',rfl,h1,h2⟩:=hv.oc;unfold zaE at hp
  split at hp
  .rename_i hc;have h3:=h1.cells;obtain⟨ds,d1,d2⟩:=zrV (((hl.take off).app h3).app (hl.drop (off+size))) h2 hp;refine⟨ds,?_,d2⟩;unfold zkD;dsimp only;rw[zb6 (by rw[<- h3.1];omega),zcG (by rw[<- hl.1];omega)];exact d1
  grind
theorem zjK:∀(l:LK) (n:Nat),nth l n=l[n]?
 | [],n=>by simp[nth]
 | x::l,0=>rfl
 | x::l,n+1=>by simp only[nth,zBO9];exact zjK l n
theorem zF6{size:Nat}(hl:LR (VR c h) l cs)(hp:zaQ agg off size l=some v):∃u,znW agg off size cs=some u/\VR c h v u:=by
 unfold zaQ at hp;unfold znW
 cases agg
 .simp only[zCQ9,if_false]at hp;obtain⟨y,y1,y2⟩:=hl.at hp;exact⟨y,by simp only[cond_false];rw[zjK];exact y1,y2⟩
 .simp only[if_true]at hp
  split at hp
  .rename_i hc
   cases hp
   refine⟨_,?_,VR.aggL ((hl.drop off).take size)⟩;simp only[cond_true];rw[zcG (by rw[<- hl.1];exact hc)];rfl
  grind
theorem zCt(hv:LR (VR c h) vs us)(hp:zbu H (.eqnil neg f) vs=some v):∃u,pas (.eqnil neg f) us h=some u/\VR c h v u:=by
 simp only[zbu]at hp
 split at hp
 .rename_i x x';obtain⟨y,cs',rfl,h1,h2⟩:=hv.oc;obtain⟨y',cs'',rfl,h3,h4⟩:=h2.oc;obtain rfl:=h4.oN;simp only[pas,zdh,zkA];have e1:zV (zq2 f y) (zq2 f y')=zV (zbs f x) (zbs f x'):=by
   revert hp
   cases hx:zbs f x with
   | none=>intro hp;simp[zV,zbG]at hp
   | some b =>
    cases hx':zbs f x' with
    | none=>intro hp;simp[zV,zbG]at hp
    | some b'=>intro _;rw[zAR h1 hx,zAR h3 hx']
  rw[e1];exact zAO hp
 grind
theorem zyr{t:Nat}{ok:Bool}(hv:LR (VR c h) vs us)(hp:zbu H (.tassert t zero ok) vs=some v):∃u,pas (.tassert t zero ok) us h=some u/\VR c h v u:=by
 simp only[zbu]at hp
 split at hp
 .rename_i t' w;obtain⟨y,cs',rfl,h1,h2⟩:=hv.oc;obtain rfl:=h2.oN;obtain⟨u',rfl,h3⟩:=h1.iface_inv;simp only[pas,zcY,zma]
  split at hp
  .rename_i ht;subst ht
   cases hp
   rw[zb6 rfl];exact⟨_,rfl,zm2 h3⟩
  .rename_i ht
   split at hp
   .rename_i hok;subst hok
    split at hp
    .rename_i z hz
     cases hp
     rw[zoi ht];exact⟨_,rfl,VR.tL (LR.cons (zj3 hz) (LR.cons (.pure (.bool _)) LR.nil))⟩
    grind
   grind
 .obtain⟨y,cs',rfl,h1,h2⟩:=hv.oc;obtain rfl:=h2.oN;obtain rfl:y=.niliface:=by cases h1 with|pure h1=>cases h1;rfl
  split at hp
  .rename_i hok;subst hok
   split at hp
   .rename_i z hz
    cases hp
    exact⟨_,rfl,VR.tL (LR.cons (zj3 hz) (LR.cons (.pure (.bool _)) LR.nil))⟩
   grind
  grind
 grind
def lenP:PV->Nat
 | .list _ _ l=>l.length
 | .sl _ _ _ n _ _=>n
 | _=>0
theorem zgI(k:HR B c H h){G M:Nat}(hH:H[id]?=some (.row e z G M l)){z':Nat}(hρ:c.ρ id=some (b,d,z')):
  z'=z/\∃G' M' cells cs,h.get b=some (.row e G' M' (l.length*z) cells)/\G=G'+d/\M'<=M-d/\cells.getL 0 (l.length*z)=some cs/\ER (VR c h) z l cs:=by
 rcases k.obj _ _ hH with⟨_,_,h1,_⟩|⟨b',d',G',M',cells,cs,h1,h2⟩
 all_goals grind
theorem zqN(k:HR B c H h){x:PV}(hx:VR c h x u)(hp:zbC H esz x=some l):l.length=lenP x/\lenV u=l.length/\∀m,m<=l.length->∃cs,zfW h esz u m=some cs/\ER (VR c h) esz (l.take m) cs:=by
 unfold zbC at hp
 split at hp
 .cases hp
  obtain rfl:u=.nilsl:=by cases hx with|pure hx=>cases hx;rfl
  exact⟨rfl,rfl,fun m hm=>⟨[],rfl,by simpa using ER.nil⟩⟩
 .split at hp
  .rename_i he
   cases hp;subst he
   rcases zfk hx with⟨rfl,rfl⟩|⟨b,g,o,q,ds,rfl,s1,s2,s3,s4⟩
   .exact⟨rfl,rfl,fun m hm=>⟨[],rfl,by simpa using ER.nil⟩⟩
   .refine⟨rfl,rfl,fun m hm=>⟨ds.take (m*esz),?_,(s4.take m).mono fun _ _=>.pure⟩⟩;unfold zfW;dsimp only;rw[zb6 rfl];have:=zgd s2 (k:=0) (m:=m*esz) (by rw[zBS9];exact zCK9 esz hm)
    grind
  grind
 .rename_i id g o n q z
  split at hp
  .rename_i he;subst he
   split at hp
   .rename_i e z' G M l' hH
    split at hp
    .rename_i hc;obtain⟨c1,c2,c3⟩:=hc
     cases hp
     have hln:((l'.drop o).take n).length=n:=by simp;omega
     rcases sl_inv hx with⟨rfl,rfl,rfl,rfl,rfl,hL⟩|⟨b,d,g',s1,rfl,rfl⟩
     .exact⟨by simp[lenP],by simp[lenV],fun m hm=>⟨[],rfl,by simpa using ER.nil⟩⟩
     .obtain⟨rfl,G',M',cells,cs,r1,r2,r3,r4,r5⟩:=zgI k hH s1;refine⟨hln,by rw[hln];rfl,fun m hm=>⟨((cs.drop (o*esz)).take (n*esz)).take (m*esz),?_,((r5.drop o).take n).take m⟩⟩;rw[hln]at hm;unfold zfW;dsimp only;rw[zb6 rfl,zFF9,zDV9 (zCK9 esz hm)];refine zkU r1 zo zo ?_;have h9:o*esz+m*esz<=l'.length*esz:=by rw[<- zCZ9];exact zCK9 _ zo
      have:=zj0 r4 h9
      grind
    grind
   grind
  grind
 grind
theorem ztm:∀{l:LQ} {us:LK},zbv l=some us->l.flatMap PV.cells=l
 | [],_,_=>rfl
 | x::l,us,h=>by
  unfold zbv at h
  split at h
  .rename_i u hu
   split at h
   .rename_i ws hws;rw[zBQ9,ztm hws]
    cases x<;>first|rfl|cases hu
   grind
  grind
theorem zDh(k:HR B c H h)(hv:LR (VR c h) vs us)(hp:zah H vs=some v):∃u,zcY us (zhT h)=some u/\VR c h v u:=by
 unfold zah at hp
 split at hp
 .obtain⟨y,cs',rfl,h1,h2⟩:=hv.oc;obtain rfl:=h2.oN
  split at hp
  .rename_i l hl
   split at hp
   .rename_i l' hl'
    split at hp
    .rename_i s hs
     cases hp
     obtain⟨_,t2,t3⟩:=zqN k h1 hl;obtain⟨cs,t4,t5⟩:=t3 _ (zAE9 _);rw[zBF9]at t5;have t6:=t5.all;rw[ztm hl']at t6;obtain rfl:=zln t6 hl';rw[<- t2]at t4;refine⟨.str s,?_,.pure (.str s)⟩
     cases y<;>first|(cases t4;done)|skip
     .cases t4;cases hs;rfl
     .rename_i b g o n q z;simp only[zfW]at t4;obtain⟨g1,g2⟩:=zac t4;obtain rfl:=zHs g1;rw[zGH9]at g2;simp only[lenV]at g2;simp only[zcY,zhT]
      grind
    grind
   grind
  grind
 grind
theorem zra(k:HR B c H h){kind:zaf}(hv:LR (VR c h) vs us)(hp:zbu H kind vs=some v):∃u,pas kind us h=some u/\VR c h v u:=by
 unfold zbu at hp
 split at hp
 .split at hp
  .obtain⟨y,cs',rfl,h1,h2⟩:=hv.oc;obtain rfl:=h2.oN
   cases hp
   exact⟨y,rfl,h1⟩
  grind
 .split at hp
  .rename_i b x x';obtain⟨y,cs',rfl,h1,h2⟩:=hv.oc;obtain⟨y',cs'',rfl,h3,h4⟩:=h2.oc;obtain⟨y2,cs3,rfl,h5,h6⟩:=h4.oc;obtain rfl:=h6.oN;obtain rfl:=h1.bool_inv
   cases hp
   cases b
   .exact⟨y2,rfl,h5⟩
   .exact⟨y',rfl,h3⟩
  grind
 .exact zxI k hv hp
 .split at hp
  .obtain⟨y,cs',rfl,h1,h2⟩:=hv.oc;obtain rfl:=h2.oN
   cases hp
   obtain⟨p,b,g,o,ds,s1,rfl,s2,s3⟩:=zhk h1;exact⟨_,rfl,h1⟩
  .obtain⟨y,cs',rfl,h1,h2⟩:=hv.oc;obtain rfl:=h2.oN
   cases hp
   obtain⟨b,d,z,g',s1,rfl,rfl⟩:=zf7 h1;exact⟨_,rfl,h1⟩
  .obtain⟨y,cs',rfl,h1,h2⟩:=hv.oc;obtain rfl:=h2.oN
   cases hp
   obtain⟨cs,rfl,_⟩:=h1.fn_inv;exact⟨_,rfl,h1⟩
  grind
 .exact zmN hv hp
 .exact zCt (H:=H) hv hp
 .exact zmN hv hp
 .exact zqd hv hp
 .exact zCY hv hp
 .exact zqd hv hp
 .exact zqd hv hp
 .split at hp
  .obtain⟨y,cs',rfl,h1,h2⟩:=hv.oc;obtain rfl:=h2.oN
   cases hp
   exact⟨_,rfl,.iface h1⟩
  grind
 .cases hp
  exact⟨_,rfl,VR.fnL hv⟩
 .exact zEc hv hp
 .exact zGb hv hp
 .exact zDl hv hp
 .split at hp
  .obtain⟨y,cs',rfl,h1,h2⟩:=hv.oc;obtain rfl:=h2.oN;obtain⟨cs,rfl,h3⟩:=h1.agg_inv;exact zF6 h3 hp
  grind
 .exact zC0 hv hp
 .exact zAW hv hp
 .exact zmN hv hp
 .exact zFE k hv hp
 .exact zyr (H:=H) hv hp
 .split at hp
  .obtain⟨y,cs',rfl,h1,h2⟩:=hv.oc;obtain rfl:=h2.oN;obtain⟨cs,rfl,h3⟩:=h1.tuple_inv;obtain⟨u,u1,u2⟩:=h3.at hp;exact⟨u,by simp only[pas,zcY,zt4,zjK];exact u1,u2⟩
  grind
 .unfold zbI at hp
  split at hp
  .split at hp
   .obtain⟨y,cs',rfl,h1,h2⟩:=hv.oc;obtain rfl:=h2.oN
    cases hp
    obtain rfl:y=.nilsl:=by cases h1 with|pure h1=>cases h1;rfl
    exact⟨_,rfl,.pure (.int _ _)⟩
   .obtain⟨y,cs',rfl,h1,h2⟩:=hv.oc;obtain rfl:=h2.oN
    cases hp
    rcases zfk h1 with⟨rfl,rfl⟩|⟨_,_,_,_,_,rfl,_⟩
    .exact⟨_,rfl,.pure (.int _ _)⟩
    .exact⟨_,rfl,.pure (.int _ _)⟩
   .obtain⟨y,cs',rfl,h1,h2⟩:=hv.oc;obtain rfl:=h2.oN
    cases hp
    rcases sl_inv h1 with⟨rfl,rfl,rfl,rfl,rfl,_⟩|⟨_,_,_,_,_,rfl⟩
    .exact⟨_,rfl,.pure (.int _ _)⟩
    .exact⟨_,rfl,.pure (.int _ _)⟩
   grind
  .exact zqd hv hp
  grind
 .exact zDh k hv hp
 .exact zmN hv hp
 .exact zmN hv hp
 .split at hp
  .rename_i z hz
   split at hp
   .rename_i l hl
    cases hp
    obtain⟨ds,d1,d2⟩:=zrV (LR.pure (c:=c) (zhv (fun u v=>zhN) hz)) hv hl;exact⟨.agg ds,by simp only[pas,zqF];rw[d1],VR.aggL d2⟩
   grind
  grind
 grind
def Cx.add(c:Cx)(id b d z:Nat):Cx:=⟨c.S,fun i=>if i=id then some (b,d,z)else c.ρ i,c.L⟩
theorem zx0(x:TO)(hr:zb0 h b g o n=some cs):zb0 (h.push x) b g o n=some cs:=by
 obtain⟨y,h1,h2⟩:=ziL hr;refine zhY (x:=y) ?_ h2;rw[TH.gP,if_neg (by have:=TH.get_lt h1;omega)];exact h1
theorem MR.mono{R':PV->TV->Prop}(hR:∀x y,R x y->R' x y)(a:MR R κ m es):MR R' κ m es :=
 ⟨a.keys,fun x v hx=>by obtain⟨u,u1,u2⟩:=a.some x v hx;grind,a.none⟩
theorem OR.move{c':Cx}{h':TH}(m:Mo c c' h h'){o:zc}(hρ:c'.ρ id=c.ρ id)(hL:c.L id->c'.L id)(hb:∀x,c.ρ id=some x->h'.get x.1=h.get x.1)(k:OR c h id o):OR c' h' id o:=by
 cases o with
 | row e z G M l =>
  rcases k with⟨h1,h2,h3,h4⟩|⟨b,d,G',M',cells,cs,h1,h2,h3,h4,h5,h6⟩
  .exact .inl ⟨h1,h2,by grind,hL h4⟩
  .exact .inr ⟨b,d,G',M',cells,cs,by grind,by grind,h3,h4,h5,h6.mono fun _ _=>VR.mono m⟩
 | map0 =>
  obtain⟨b,d,z,clock,h1,h2⟩:=k;exact⟨b,d,z,clock,by grind,by grind⟩
 | mapI k m' =>
  obtain⟨b,d,z,es,clock,h1,h2,h3⟩:=k;exact⟨b,d,z,es,clock,by grind,by grind,h3.mono fun _ _=>VR.mono m⟩
 | mapS m' =>
  obtain⟨b,d,z,es,clock,h1,h2,h3⟩:=k;exact⟨b,d,z,es,clock,by grind,by grind,h3.mono fun _ _=>VR.mono m⟩
 | dfr shut =>
  obtain⟨b,d,z,h1,h2⟩:=k;exact⟨b,d,z,by grind,by grind⟩
 | loop st pe tm ps aS bo mk =>
  obtain⟨b,d,z,bm,dm,zm,t,pe',h1,h2,h3,h4,h5⟩:=k;refine⟨b,d,z,bm,dm,zm,t,pe',by grind,m.ρ _ _ h2,by grind,fun i=>?_,?_⟩
  .rcases h4 i with h4|⟨u,u1,u2⟩
   .grind
   .exact .inr ⟨u,u1,u2.mono m⟩
  .cases h5 with
   | norm=>exact .norm
   | exit id=>exact .exit id
   | goto l=>exact .goto l
   | ret=>exact .ret
   | panic k=>exact .panic (k.mono m)
 | void=>trivial
theorem HR.push(k:HR B c H h){o:zc}{x:TO}(ho:Mo c (c.add H.length h.next 0 z) h (h.push x)->OR (c.add H.length h.next 0 z) (h.push x) H.length o):
  Mo c (c.add H.length h.next 0 z) h (h.push x)/\HR B (c.add H.length h.next 0 z) (H++[o]) (h.push x):=by
 have hnone:c.ρ H.length=none:=by
  cases hc:c.ρ H.length with
  | none=>rfl
  | some y=>have:=(k.own _ _ hc).2.2;omega
 have m:Mo c (c.add H.length h.next 0 z) h (h.push x):=⟨fun _ _ h=>h,fun id y hy=>by
  show (if id=H.length then _ else _)=_
  grind,fun _ h=>h,fun _ _ _ _ _ _ _ hr=>zx0 x hr⟩
 have hget:∀b,b<h.next->(h.push x).get b=h.get b:=fun b hb=>by rw[TH.gP,if_neg zo]
 have hρ:∀id y,(c.add H.length h.next 0 z).ρ id=some y->(id=H.length/\y=(h.next,0,z))\/c.ρ id=some y:=fun id y hy=>by
  have hy:(if id=H.length then some (h.next,0,z)else c.ρ id)=some y:=hy
  grind
 refine⟨m,⟨?_,fun b hb=>?_,k.old,fun p b hb=>?_,fun id y hy=>?_,fun id hL=>?_,fun id id' y y' hy hy' e=>?_,fun id o' ho'=>?_⟩⟩
 .rw[TH.nP];exact Nat.le_succ_of_le k.le
 .rw[hget b (zBM9 hb k.le)];exact k.keep b hb
 .obtain⟨h1,h2⟩:=k.S p b hb;refine⟨by rw[TH.nP];omega,fun id y hy e=>?_⟩
  grind
 .rw[TH.nP,zAB9];rcases hρ id y hy with⟨rfl,rfl⟩|hy
  .exact⟨k.le,zCS9 _,by simp⟩
  .obtain⟨h1,h2,h3⟩:=k.own id y hy;omega
 .obtain⟨h1,h2⟩:=k.lz id hL
  grind
 .rcases hρ id y hy with⟨rfl,rfl⟩|hy<;>rcases hρ id' y' hy' with⟨rfl,rfl⟩|hy'
  .rfl
  .have:=(k.own _ _ hy').2.1;omega
  .have:=(k.own _ _ hy).2.1;omega
  .exact k.inj _ _ _ _ hy hy' e
 .by_cases hi:id<H.length
  .rw[zAX9 hi]at ho';have h1:=k.obj id o' ho';refine h1.move m (by show (if id=H.length then _ else _)=_;grind) (fun h=>h) fun y hy=>hget _ (k.own _ _ hy).2.1
  grind
theorem zGA{b':Nat}(x:TO)(hb:b'<h.next)(hne:b≠b')(hr:zb0 h b g o n=some cs):zb0 (h.set b' x) b g o n=some cs:=by
 obtain⟨y,h1,h2⟩:=ziL hr;refine zhY (x:=y) ?_ h2;rw[TH.get_set _ _ _ _ hb,if_neg hne];exact h1
theorem HR.set(k:HR B c H h)(hρ:c.ρ id=some (b,d,z))(hv:¬H[id]?=some .void){o:zc}{x:TO}(ho:Mo c c h (h.set b x)->OR c (h.set b x) id o):
  Mo c c h (h.set b x)/\HR B c (H.set id o) (h.set b x):=by
 obtain⟨hb1,hb2,hid⟩:=k.own _ _ hρ;have hget:∀b',b'≠b->(h.set b x).get b'=h.get b':=fun b' hb'=>by rw[TH.get_set _ _ _ _ hb2,if_neg hb']
 have m:Mo c c h (h.set b x):=⟨fun _ _ h=>h,fun _ _ h=>h,fun _ h=>h,fun p b' hb' g o n cs hr=>zGA x hb2 (fun e=>hv ((k.S p b' hb').2 _ _ hρ e.symm)) hr⟩
 refine⟨m,⟨by rw[TH.next_set];omega,fun b' hb'=>?_,k.old,fun p b' hb'=>?_,fun id' y hy=>?_,fun id' hL=>?_,k.inj,fun id' o' ho'=>?_⟩⟩
 .rw[hget b' (by omega)];exact k.keep b' hb'
 .rw[TH.next_set];refine⟨(k.S p b' hb').1,fun i y hy e=>?_⟩;have:=(k.S p b' hb').2 i y hy e
  grind
 .rw[TH.next_set,zBT9];exact k.own _ _ hy
 .rw[zBT9];exact k.lz id' hL
 .rw[zFL9]at ho'
  split at ho'
  .grind
  .rename_i hne;exact(k.obj id' o' ho').move m rfl (fun h=>h) fun y hy=>hget _ fun e=>hne (k.inj _ _ _ _ hρ hy e.symm)
def zR(l:LQ):PV:=match l with
 | [x]=>x
 | l=>.agg l
theorem zei(h:l.all zay=true):(zR l).cells=l:=by
 unfold zR
 split
 .rename_i x;simp at h;exact zAU h
 .rfl
def zam(esz:Nat):Nat->LQ->LQ
 | 0,_=>[]
 | n+1,l=>zR (l.take esz)::zam esz n (l.drop esz)
theorem ztA{esz:Nat}:∀{n:Nat} {l:LQ} {cs:LK},l.all zay=true->l.length=n*esz->LR R l cs->ER R esz (zam esz n l) cs
 | 0,l,cs,ha,hl,hr=>by
  obtain rfl:l=[]:=zDQ9.1 (by omega);obtain rfl:=hr.oN;exact ER.nil
 | n+1,l,cs,ha,hl,hr=>by
  have ht:(l.take esz).all zay=true:=by grind
  have hd:(l.drop esz).all zay=true:=by grind
  have hle:esz<=l.length:=by rw[hl,zDL9];omega
  have h1:ER R esz [zR (l.take esz)] (cs.take esz):=ER.one' (by rw[zei ht];grind) (by rw[zei ht];exact hr.take esz);have h2:=ztA (esz:=esz) (n:=n) hd (by grind) (hr.drop esz);have:=h1.app h2;rw[zEG9]at this;exact this
def zbE(l:LQ):Nat->LQ
 | 0=>[]
 | n+1=>l++zbE l n
theorem znV(h:LR R l cs):∀n,LR R (zbE l n) (zeT cs n)
 | 0=>LR.nil
 | n+1=>h.app (znV h n)
theorem zvc(l:LQ):∀n,(zbE l n).length=n*l.length
 | 0=>by simp[zbE]
 | n+1=>by rw[zbE,zAB9,zvc l n,zDL9,zDS9]
theorem zsU:∀{places:List (Nat×Nat)} {vs l m:LQ},zaE l places vs=some m->m.length=l.length
 | [],[],l,m,hp=>by simp only[zaE]at hp;grind
 | [],_::_,l,m,hp=>by simp[zaE]at hp
 | _::_,[],l,m,hp=>by simp[zaE]at hp
 | (off,size)::ps,v::vs,l,m,hp=>by
  unfold zaE at hp
  split at hp
  .rename_i hc;rw[zsU hp]
   grind
  grind
def zbz(id:Nat)(k:zaf)(vs:LQ):Option (zc×PV) :=
 match k with
 | .box e n=>(match vs with
  | [v]=>if v.cells.length=n then some (.row e n 0 0 [v],.ptr id 0 0 0 n)else none
  | _=>none)
 | .alloc e zero=>(match vs,zbw (ofC 3) zero with
  | [],some zs=>if zs.all zay=true then some (.row e zero.length 0 0 [zR zs],.ptr id 0 0 0 zero.length)else none
  | _,_=>none)
 | .bslice e esz len zero places=>(match zbw (ofC 3) zero with
  | some zs=>if len*esz<=16777216/\zero.length=esz then(match zaE (zbE zs len) places vs with
   | some l=>if l.all zay=true then some (.row e esz 0 0 (zam esz len l),.sl id 0 0 len (2*len) esz)else none
   | none=>none)else none
  | none=>none)
 | .mkslice e esz bytes zero=>(match vs,zbw (ofC 3) zero with
  | [.int _ n,.int _ m],some zs=>if 0<=n/\n<=m/\m<=1000000/\m*bytes<=140737488355328/\zs.all zay=true/\zero.length=esz then some (.row e esz 0 0 (List.replicate n.toNat (zR zs)),.sl id 0 0 n.toNat (2*n.toNat) esz)else none
  | _,_=>none)
 | .mkmap=>(match vs with
  | []=>some (.map0,.map id)
  | [.int _ _]=>some (.map0,.map id)
  | _=>none)
 | .tobytes e=>(match vs with
  | [.str s]=>if s.length<=1000000 then some (.row e 1 0 0 (s.map fun n:Nat=>.int .u8 n),.sl id 0 0 s.length (2*s.length) 1)else none
  | _=>none)
 | _=>none
variable {cs u:List α}
theorem add_same(c:Cx)(id b d z:Nat):(c.add id b d z).ρ id=some (b,d,z):=by simp[Cx.add]
theorem zkC(l:List α):(Tr.putL .nil 0 l).getL 0 l.length=some l:=zjC fun j hj=>by
 rw[Tr.get_putL,if_pos zo];simp
theorem zpq(v:PV):∀n,(List.replicate n v).flatMap PV.cells=zbE v.cells n
 | 0=>rfl
 | n+1=>by rw[zDI9,zBQ9,zpq v n];rfl
theorem zhh(k:HR B c H h){e z:Nat}{l:LQ}{cs:LK}(hl:ER (VR c h) z l cs) :
  Mo c (c.add H.length h.next 0 z) h (h.push (zcW e cs))/\HR B (c.add H.length h.next 0 z) (H++[.row e z 0 0 l]) (h.push (zcW e cs)) :=
 k.push fun m=>.inr ⟨h.next,0,0,0,Tr.putL .nil 0 cs,cs,add_same ..,by rw[TH.gP,if_pos rfl,zcW,hl.len],rfl,zAJ9 _,by rw[<- hl.len];exact zkC cs,hl.mono fun _ _=>VR.mono m⟩
theorem zqE(k:HR B c H h){kind:zaf}{o:zc}(hv:LR (VR c h) vs us)(hp:zbz H.length kind vs=some (o,v)) :
  ∃x c',lay kind us h.next=some x/\Mo c c' h (h.push x.o)/\HR B c' (H++[o]) (h.push x.o)/\VR c' (h.push x.o) v x.v/\(∃z,c'.ρ H.length=some (h.next,0,z))/\zfE x.v=some h.next:=by
 cases kind with
 | box e n =>
  simp only[zbz]at hp
  split at hp
  .rename_i w;obtain⟨y,cs',rfl,h1,h2⟩:=hv.oc;obtain rfl:=h2.oN
   split at hp
   .rename_i hn
    cases hp
    have hc:=h1.cells;obtain⟨m,k'⟩:=zhh k (e:=e) (ER.one' hn hc);refine⟨⟨zcW e y.cells,.ptr h.next 0 0 n⟩,_,?_,m,k',?_,⟨_,add_same ..⟩,rfl⟩
    .simp only[lay,zrQ];rw[zb6 (by rw[<- hc.1];exact hn)];rfl
    .have:=VR.ptr (h:=h.push (zcW e y.cells)) (g:=0) (i:=0) (o:=0) (n:=n) (add_same c H.length h.next 0 n);simpa using this
   grind
  grind
 | alloc e zero =>
  simp only[zbz]at hp
  split at hp
  .rename_i zs hz;obtain rfl:=hv.oN
   split at hp
   .rename_i ha
    cases hp
    have hc:=zhv (S:=c.S) (h:=h) (fun u v=>zhN) hz;have hlen:(zR zs).cells.length=zero.length:=by rw[zei ha];exact hc.1
    obtain⟨m,k'⟩:=zhh k (e:=e) (ER.one' (R:=VR c h) hlen (by rw[zei ha];exact LR.pure hc));refine⟨⟨zcW e zero,.ptr h.next 0 0 zero.length⟩,_,rfl,m,k',?_,⟨_,add_same ..⟩,rfl⟩;have:=VR.ptr (h:=h.push (zcW e zero)) (g:=0) (i:=0) (o:=0) (n:=zero.length) (add_same c H.length h.next 0 zero.length);simpa using this
   grind
  grind
 | bslice e esz len zero places =>
  simp only[zbz]at hp
  split at hp
  .rename_i zs hz
   split at hp
   .rename_i hcond
    split at hp
    .rename_i l hl
     split at hp
     .rename_i ha
      cases hp
      have hc:=zhv (S:=c.S) (h:=h) (fun u v=>zhN) hz;obtain⟨ds,d1,d2⟩:=zrV (znV (LR.pure (c:=c) hc) len) hv hl;have hlen:l.length=len*esz:=by rw[zsU hl,zvc,hc.1,hcond.2]
      obtain⟨m,k'⟩:=zhh k (e:=e) (ztA ha hlen d2);refine⟨⟨zcW e ds,.sl h.next 0 0 len (2*len) esz⟩,_,?_,m,k',?_,⟨_,add_same ..⟩,rfl⟩
      .simp only[lay,zjz];rw[zcG hcond.1,d1];rfl
      .have:=VR.sl (h:=h.push (zcW e ds)) (g:=0) (o:=0) (n:=len) (q:=2*len) (add_same c H.length h.next 0 esz);simpa using this
     grind
    grind
   grind
  grind
 | mkslice e esz bytes zero =>
  simp only[zbz]at hp
  split at hp
  .rename_i k1 n k2 mm zs hz;obtain⟨y,cs',rfl,h1,h2⟩:=hv.oc;obtain⟨y',cs'',rfl,h3,h4⟩:=h2.oc;obtain rfl:=h4.oN;obtain rfl:=h1.int_inv;obtain rfl:=h3.int_inv
   split at hp
   .rename_i hcond;obtain⟨c1,c2,c3,c4,c5,c6⟩:=hcond
    cases hp
    have hc:=zhv (S:=c.S) (h:=h) (fun u v=>zhN) hz;have hel:ER (VR c h) esz (List.replicate n.toNat (zR zs)) (zeT zero n.toNat):=by
     refine⟨fun w hw=>?_,?_⟩
     .rw[zDN9 hw,zei c5,hc.1,c6]
     .rw[zpq,zei c5];exact znV (LR.pure hc) _
    obtain⟨m,k'⟩:=zhh k (e:=e) hel;refine⟨⟨zcW e (zeT zero n.toNat),.sl h.next 0 0 n.toNat (2*n.toNat) esz⟩,_,?_,m,k',?_,⟨_,add_same ..⟩,rfl⟩
    .simp only[lay,zig,zfJ,ziq c1,ziq (Int.le_trans c1 c2)];have e4:mm.toNat*bytes<=140737488355328:=by grind
     rw[zcG (show n.toNat<=mm.toNat by omega),zcG (show mm.toNat<=1000000 by omega),zcG e4];rfl
    .have:=VR.sl (h:=h.push (zcW e (zeT zero n.toNat))) (g:=0) (o:=0) (n:=n.toNat) (q:=2*n.toNat) (add_same c H.length h.next 0 esz);simpa using this
   .cases hp
  grind
 | tobytes e =>
  simp only[zbz]at hp
  split at hp
  .rename_i s;obtain⟨y,cs',rfl,h1,h2⟩:=hv.oc;obtain rfl:=h2.oN;obtain rfl:=h1.str_inv
   split at hp
   .rename_i hs
    cases hp
    have hel:∀s:LN,ER (VR c h) 1 (s.map fun n:Nat=>PV.int .u8 n) (s.map fun n=>TV.int .u8 (.ofNat n)):=by
     intro s
     induction s with
     | nil=>exact ER.nil
     | cons a l ih=>exact(ER.one' (R:=VR c h) (v:=.int .u8 a) rfl (LR.cons (.pure (.int _ _)) LR.nil)).app ih
    obtain⟨m,k'⟩:=zhh k (e:=e) (hel s);refine⟨⟨zcW e (s.map fun n=>TV.int .u8 (.ofNat n)),.sl h.next 0 0 s.length (2*s.length) 1⟩,_,?_,m,k',?_,⟨_,add_same ..⟩,rfl⟩
    .simp only[lay,ziD];rw[zcG hs];rfl
    .have:=VR.sl (h:=h.push (zcW e (s.map fun n=>TV.int .u8 (.ofNat n)))) (g:=0) (o:=0) (n:=s.length) (q:=2*s.length) (add_same c H.length h.next 0 1);simpa using this
   .cases hp
  .cases hp
 | mkmap =>
  simp only[zbz]at hp;have hmap:∃x,lay .mkmap us h.next=some x/\x.o=.map [] 0/\x.v=.map h.next/\o=.map0/\v=.map H.length:=by
   split at hp
   .obtain rfl:=hv.oN;injection hp with hp;injection hp with hp1 hp2;exact⟨_,rfl,rfl,rfl,hp1.symm,hp2.symm⟩
   .obtain⟨y,cs',rfl,h1,h2⟩:=hv.oc;obtain rfl:=h2.oN;obtain rfl:=h1.int_inv;injection hp with hp;injection hp with hp1 hp2;exact⟨_,rfl,rfl,rfl,hp1.symm,hp2.symm⟩
   .cases hp
  obtain⟨⟨xo,xv⟩,h1,h2,h3,rfl,rfl⟩:=hmap;dsimp only at h2 h3;subst h2;subst h3;obtain⟨m,k'⟩:=k.push (o:=.map0) (x:=.map [] 0) (z:=0) fun m=>⟨h.next,0,0,0,add_same ..,by rw[TH.gP,if_pos rfl]⟩
  exact⟨_,_,h1,m,k',.map (add_same ..),⟨_,add_same ..⟩,rfl⟩
 | _=>simp only[zbz]at hp;cases hp
theorem zu6{t:Tr α}{a:Nat}(h:t.getL 0 cs.length=some cs)(ha:a+u.length<=cs.length):(t.putL a u).getL 0 cs.length=some (cs.take a++u++cs.drop (a+u.length)):=by
 have hlen:(cs.take a++u++cs.drop (a+u.length)).length=cs.length:=by simp;omega
 have:=zjC (t:=t.putL a u) (a:=cs.take a++u++cs.drop (a+u.length)) (i:=0) fun j hj=>by
  rw[hlen]at hj;have h2:=(Tr.getL_some h).2 j hj;rw[zBS9]at h2⊢;rw[Tr.get_putL]
  grind
 grind
theorem zwH{t:Tr α}(h:t.getL 0 cs.length=some cs):(t.putL cs.length u).getL 0 (cs.length+u.length)=some (cs++u):=by
 refine zve (zyF (fun j h1 h2=>?_) h) ?_
 .rw[Tr.get_putL,if_neg zo]
 .rw[zBS9];exact zjC fun j hj=>by
   rw[Tr.get_putL,if_pos zo]
   grind
def spl(old v:PV)(o n z:Nat):PV:=if n=z then v else .agg (old.cells.take o++v.cells++old.cells.drop (o+n))
structure AR where
 v:PV
 H:LP
 W:LN
abbrev AB:=Option AR
def zag(H:LP)(n:Nat):LQ->AB
 | [.ptr id g i o m,v]=>if v.cells.length=n/\n<=m then(match H[id]? with
  | some (.row e z G _ l)=>if g=G/\o+n<=z then(match l[i]? with
   | some old=>some ⟨.tuple [],H.set id (.row e z G G (l.set i (spl old v o n z))),[id]⟩
   | none=>none)else none
  | _=>none)else none
 | _=>none
def zW(H:LP)(e esz bytes:Nat)(s:PV)(news:LQ):AB:=match s with
 | .nilsl=>if news.length=0 then some ⟨.nilsl,H,[]⟩else if news.length*(bytes+1)<=140737488355328 then some ⟨.sl H.length 0 0 news.length (2*news.length) esz,H++[.row e esz 0 0 news],[]⟩else none
 | .sl id g o n q z=>if news.length=0 then some ⟨.sl id g o n q z,H,[]⟩else if o=0/\q%2=0/\esz=z then(match H[id]? with
  | some (.row e' z' G M l)=>if e=e'/\z=z'/\g=G/\n=l.length/\(n+news.length)*(bytes+1)<=140737488355328 then some ⟨.sl id (G+1) 0 (n+news.length) (2*(n+news.length)) z,H.set id (.row e z (G+1) M (l++news)),[id]⟩else none
  | _=>none)else none
 | _=>none
def zY(H:LP)(e esz bytes:Nat):LQ->AB
 | [s,x]=>(match zbC H esz x with
  | none=>none
  | some news=>zW H e esz bytes s news)
 | _=>none
def zaN(H:LP)(e esz bytes:Nat)(zero:LK):LQ->AB
 | [s,.int _ m]=>(match zbw (ofC 3) zero with
  | some zs=>if 0<=m/\m<=1000000/\m*(bytes+1)<=140737488355328/\zs.all zay=true/\zero.length=esz then zW H e esz bytes s (List.replicate m.toNat (zR zs))else none
  | none=>none)
 | _=>none
def zyn(H:LP)(esz:Nat):LQ->AB
 | [.nilsl,x]=>(match zbC H esz x with
  | some _=>some ⟨.int .i64 0,H,[]⟩
  | none=>none)
 | [.sl id g o n _ z,x]=>(match zbC H esz x with
  | none=>none
  | some news=>if min news.length n=0 then some ⟨.int .i64 0,H,[]⟩else if esz=z then(match H[id]? with
   | some (.row e z' G _ l)=>if z=z'/\g=G/\o+min news.length n<=l.length then some ⟨.int .i64 (min news.length n:Nat),H.set id (.row e z G G (l.take o++news.take (min news.length n)++l.drop (o+min news.length n))),[id]⟩else none
   | _=>none)else none)
 | _=>none
variable {a:AR}{bytes:Nat}{cs:LK}{news:LQ}
def zaP(H:LP)(kf:Nat):LQ->AB
 | [.map id,.int k x,v]=>if kf=1 then(match H[id]? with
  | some .map0=>some ⟨.tuple [],H.set id (.mapI k fun y=>if y=x then some v else none),[id]⟩
  | some (.mapI k' m)=>if k=k' then some ⟨.tuple [],H.set id (.mapI k fun y=>if y=x then some v else m y),[id]⟩else none
  | _=>none)else none
 | _=>none
def zaM(H:LP)(kf:Nat):LQ->AB
 | [.map id,.str x,v]=>if kf=2 then(match H[id]? with
  | some .map0=>some ⟨.tuple [],H.set id (.mapS fun y=>if y=x then some v else none),[id]⟩
  | some (.mapS m)=>some ⟨.tuple [],H.set id (.mapS fun y=>if y=x then some v else m y),[id]⟩
  | _=>none)else none
 | l=>zaP H kf l
def zbD(H:LP)(k:zaf)(vs:LQ):AB :=
 match k with
 | .store n=>zag H n vs
 | .append e esz bytes=>zY H e esz bytes vs
 | .copy esz=>zyn H esz vs
 | .mupd kf=>zaM H kf vs
 | .appz e esz bytes zero=>zaN H e esz bytes zero vs
 | _=>none
structure zjL(B:Ba)(c:Cx)(H:LP)(h:TH)(a:AR)(u:TV)(h':TH)(c':Cx):Prop where
 mo:Mo c c' h h'
 hr:HR B c' a.H h'
 v:VR c' h' a.v u
 W:∀id,id ∉ a.W->∀x,c.ρ id=some x->h'.get x.1=h.get x.1
theorem zqc(k:HR B c H h){d:Nat}(hρ:c.ρ id=some (b,d,z))(x:TO):∀id',id' ∉ [id]->∀y,c.ρ id'=some y->(h.set b x).get y.1=h.get y.1:=fun id' hn y hy=>by
 rw[TH.get_set _ _ _ _ (k.own _ _ hρ).2.1,if_neg];intro e;exact hn (by rw[k.inj _ _ _ _ hy hρ e];simp)
theorem zBn(cs u:List α){a o:Nat}(hon:o+n<=z)(hu:u.length=n):cs.take a++(((cs.drop a).take z).take o++u++((cs.drop a).take z).drop (o+n))++cs.drop (a+z)=cs.take (a+o)++u++cs.drop (a+o+u.length):=by
 have h1:cs.take (a+o)=cs.take a++(cs.drop a).take o:=List.take_add;have h2:cs.drop (a+o+u.length)=((cs.drop a).take z).drop (o+n)++cs.drop (a+z):=by
  rw[hu,zEY9,<- zEF9,<- zEF9 (i:=z) (j:=a)]
  by_cases hz:z<=(cs.drop a).length
  .conv=>lhs;rw[<- zEG9 z (cs.drop a)]
   grind
  .rw[zBR9 zo,zDF9 (l:=cs.drop a) (i:=z) zo,zCY9]
 grind
theorem zvf(k:HR B c H h)(hv:LR (VR c h) vs us)(hp:zag H n vs=some a):∃u h' c',zi4 n h us=some (.ok u h')/\zjL B c H h a u h' c':=by
 unfold zag at hp
 split at hp
 .rename_i id g i o m w;obtain⟨y,cs',rfl,h1,h2⟩:=hv.oc;obtain⟨y',cs'',rfl,h3,h4⟩:=h2.oc;obtain rfl:=h4.oN;obtain⟨b,d,z',g',s1,rfl,rfl⟩:=zf7 h1
  split at hp
  .rename_i hc;obtain⟨hc1,hc2⟩:=hc
   split at hp
   .rename_i e z G M l hH
    split at hp
    .rename_i hc;obtain⟨hg,ho⟩:=hc
     split at hp
     .rename_i old hold
      cases hp
      obtain⟨rfl,G',M',cells,cs,r1,r2,r3,r4,r5⟩:=zgI k hH s1;have hgG:g'=G':=zo;subst hgG;have hi:i<l.length:=(zAC9.1 hold).1;have hm:=zqu (z:=z') hi;have hcells:=h3.cells;have hol:=r5.one old (zAI9 hold);have hcl:=r5.len;have hsc:(spl old w o n z').cells=old.cells.take o++w.cells++old.cells.drop (o+n):=by
       unfold spl
       split
       .rename_i e;subst e
        grind
       .rfl
      have hn':y'.cells.length=n:=by rw[<- hcells.1];exact hc1
      have hold2:=r5.at hold;have hnew:ER (VR c h) z' (l.set i (spl old w o n z')) (cs.take (i*z'+o)++y'.cells++cs.drop (i*z'+o+y'.cells.length)):=by
       have hsl:(spl old w o n z').cells.length=z':=by rw[hsc];simp;omega
       have hds:LR (VR c h) (spl old w o n z').cells (((cs.drop (i*z')).take z').take o++y'.cells++((cs.drop (i*z')).take z').drop (o+n)):=by
        rw[hsc];exact((hold2.take o).app hcells).app (hold2.drop (o+n))
       have hset:=r5.set hi hsl hds;have e1:cs.take (i*z')++(((cs.drop (i*z')).take z').take o++y'.cells++((cs.drop (i*z')).take z').drop (o+n))++cs.drop ((i+1)*z')=cs.take (i*z'+o)++y'.cells++cs.drop (i*z'+o+y'.cells.length):=by
        rw[zDL9];exact zBn cs y'.cells ho hn'
       grind
      obtain⟨m1,k1⟩:=k.set (o:=.row e z' G G (l.set i (spl old w o n z'))) (x:=.row e g' g' (l.length*z') (cells.putL (i*z'+o) y'.cells)) s1 (fun e=>by grind) fun mm =>
       .inr ⟨b,d,g',g',cells.putL (i*z'+o) y'.cells,cs.take (i*z'+o)++y'.cells++cs.drop (i*z'+o+y'.cells.length),s1,by rw[TH.get_set _ _ _ _ (k.own _ _ s1).2.1,if_pos rfl,zBT9],r2,by omega,by
        rw[zBT9,<- hcl];exact zu6 (by grind) (by omega),hnew.mono fun _ _=>VR.mono mm⟩
      refine⟨.tuple [],_,c,?_,m1,k1,VR.tL LR.nil,zqc k s1 _⟩;simp only[zi4,zfs];rw[zb6 hn',zcG hc2,r1];simp only[cond_true,zqY];rw[zb6 rfl,zcG zo];rfl
     grind
    grind
   grind
  grind
 grind
theorem HR.first(k:HR B c H h){e' G M:Nat}{l:LQ}(hH:H[id]?=some (.row e' z G M l))(hρ:c.ρ id=none)(hL:c.L id)(hn:ER (VR c h) z news cs):
  Mo c (c.add id h.next 1 z) h (h.push (zcW e cs))/\HR B (c.add id h.next 1 z) (H.set id (.row e z 1 M news)) (h.push (zcW e cs)):=by
 have hid:id<H.length:=(zAC9.1 hH).1;have m:Mo c (c.add id h.next 1 z) h (h.push (zcW e cs)):=⟨fun _ _ h=>h,fun i y hy=>by
  show (if i=id then _ else _)=_
  grind,fun _ h=>h,fun _ _ _ _ _ _ _ hr=>zx0 _ hr⟩
 have hget:∀b,b<h.next->(h.push (zcW e cs)).get b=h.get b:=fun b hb=>by rw[TH.gP,if_neg zo]
 have hr:∀i y,(c.add id h.next 1 z).ρ i=some y->(i=id/\y=(h.next,1,z))\/c.ρ i=some y:=fun i y hy=>by
  have hy:(if i=id then some (h.next,1,z)else c.ρ i)=some y:=hy
  grind
 refine⟨m,⟨?_,fun b hb=>?_,k.old,fun p b hb=>?_,fun i y hy=>?_,fun i hi=>?_,fun i i' y y' hy hy' e=>?_,fun i o' ho'=>?_⟩⟩
 .rw[TH.nP];exact Nat.le_succ_of_le k.le
 .rw[hget b (zBM9 hb k.le)];exact k.keep b hb
 .obtain⟨h1,h2⟩:=k.S p b hb;refine⟨by rw[TH.nP];omega,fun i y hy e=>?_⟩
  grind
 .rw[TH.nP,zBT9];rcases hr i y hy with⟨rfl,rfl⟩|hy
  .exact⟨k.le,zCS9 _,hid⟩
  .obtain⟨h1,h2,h3⟩:=k.own i y hy;omega
 .rw[zBT9];obtain⟨h1,h2⟩:=k.lz i hi
  grind
 .rcases hr i y hy with⟨a1,a2⟩|h5<;>rcases hr i' y' hy' with⟨b1,b2⟩|h6
  .omega
  .have:=(k.own _ _ h6).2.1;grind
  .have:=(k.own _ _ h5).2.1;grind
  .exact k.inj _ _ _ _ h5 h6 e
 .by_cases hii:id=i
  .subst hii;rw[zAZ9 hid]at ho';injection ho' with ho';subst ho';exact .inr ⟨h.next,1,0,0,Tr.putL .nil 0 cs,cs,add_same ..,by rw[TH.gP,if_pos rfl,zcW,hn.len],rfl,zAJ9 _,by rw[<- hn.len];exact zkC cs,hn.mono fun _ _=>VR.mono m⟩
  .rw[zAY9 hii]at ho';exact(k.obj i o' ho').move m (by show (if i=id then _ else _)=_;grind) (fun h=>h) fun y hy=>hget _ (k.own _ _ hy).2.1
theorem zqC(k:HR B c H h){s:PV}{y:TV}(h1:VR c h s y)(t5:ER (VR c h) esz news cs)(hp:zW H e esz bytes s news=some a):∃u h' c',zi9 h e esz bytes y news.length cs=some (.ok u h')/\zjL B c H h a u h' c':=by
 have hpush:∀b,b<h.next->(h.push (zcW e cs)).get b=h.get b:=fun b hb=>by rw[TH.gP,if_neg zo]
 unfold zW at hp
 split at hp
 .obtain rfl:y=.nilsl:=by cases h1 with|pure h1=>cases h1;rfl
  dsimp only[zi9]
  split at hp
  .rename_i hz
   cases hp
   rw[hz];exact⟨_,h,c,rfl,Mo.refl _ _,k,h1,fun _ _ _ _=>rfl⟩
  .rename_i hz
   split at hp
   .rename_i hb
    cases hp
    obtain⟨m1,k1⟩:=zhh k (e:=e) t5;refine⟨.sl h.next 0 0 news.length (2*news.length) esz,_,_,?_,m1,k1,?_,fun id _ y hy=>hpush _ (k.own _ _ hy).2.1⟩
    .have:Nat.beq news.length 0=false:=by
      cases hb:Nat.beq news.length 0
      all_goals simp_all
     rw[this];simp only[cond_false,zmF];rw[zcG hb];rfl
    .have:=VR.sl (h:=h.push (zcW e cs)) (g:=0) (o:=0) (n:=news.length) (q:=2*news.length) (add_same c H.length h.next 0 esz)
     grind
   grind
 .rename_i id g o n q z
  split at hp
  .rename_i hz
   cases hp
   refine⟨y,h,c,?_,Mo.refl _ _,k,h1,fun _ _ _ _=>rfl⟩;rcases sl_inv h1 with⟨rfl,rfl,rfl,rfl,rfl,hL⟩|⟨b,d,g',s1,rfl,rfl⟩<;>(dsimp only[zi9];simp_all)
  .rename_i hz;have hbz:Nat.beq news.length 0=false:=by
    cases hb:Nat.beq news.length 0
    .rfl
    simp_all
   split at hp
   .rename_i hc;obtain⟨rfl,hq,rfl⟩:=hc
    split at hp
    .rename_i e' z' G M l hH
     split at hp
     .rename_i hc;obtain⟨rfl,rfl,rfl,rfl,hbnd⟩:=hc
      cases hp
      rcases sl_inv h1 with⟨rfl,_,hl0,rfl,rfl,hL⟩|⟨b,d,g',s1,hgd,rfl⟩
      .have hl:l=[]:=zDQ9.1 hl0;subst hl;have hn:c.ρ id=none:=by
        rcases k.obj _ _ hH with⟨_,_,hn,_⟩|⟨b,d,G',M',cells,cs,p1,p2,p3,_⟩
        .exact hn
        .have:=(k.lz id hL).2 _ p1
         grind
       obtain⟨m1,k1⟩:=k.first (e:=e) hH hn hL t5;refine⟨.sl h.next 0 0 news.length (2*news.length) esz,h.push (zcW e cs),_,?_,m1,by simpa using k1,?_,fun i hi y hy=>hpush _ (k.own _ _ hy).2.1⟩
       .dsimp only[zi9];rw[hbz];simp only[cond_false,zmF];rw[zcG (by grind)];rfl
       .have:=VR.sl (h:=h.push (zcW e cs)) (g:=0) (o:=0) (n:=news.length) (q:=2*news.length) (add_same c id h.next 1 esz)
        grind
      .obtain⟨_,G',M',cells,ds,r1,r2,r3,r4,r5⟩:=zgI k hH s1;have hgG:g'=G':=zo;subst hgG;have hdl:=r5.len;obtain⟨m1,k1⟩:=k.set (o:=.row e esz (g+1) M (l++news)) (x:=.row e (g'+1) M' (l.length*esz+cs.length) (cells.putL (l.length*esz) cs)) s1 (fun e=>by grind) fun mm =>
        .inr ⟨b,d,g'+1,M',cells.putL (l.length*esz) cs,ds++cs,s1,by rw[TH.get_set _ _ _ _ (k.own _ _ s1).2.1,if_pos rfl,zAB9,zCZ9,t5.len],by omega,by omega,by
         rw[zAB9,zCZ9,<- t5.len,<- hdl];exact zwH (by grind),(r5.app t5).mono fun _ _=>VR.mono mm⟩
       refine⟨.sl b (g'+1) 0 (l.length+news.length) (2*(l.length+news.length)) esz,_,c,?_,m1,k1,?_,zqc k s1 _⟩
       .dsimp only[zi9];rw[hbz];simp only[cond_false];rw[zb6 (show 0*esz=0 by simp),zb6 hq,zb6 (rfl:esz=esz),r1];simp only[cond_true,zqV];rw[zb6 rfl,zb6 rfl,zb6 rfl,zcG hbnd];rfl
       .have:=VR.sl (h:=h.set b (.row e (g'+1) M' (l.length*esz+cs.length) (cells.putL (l.length*esz) cs))) (g:=g'+1) (o:=0) (n:=l.length+news.length) (q:=2*(l.length+news.length)) s1
        grind
     grind
    grind
   grind
 grind
theorem zA8(k:HR B c H h)(hv:LR (VR c h) vs us)(hp:zY H e esz bytes vs=some a):∃u h' c',zhG e esz bytes h us=some (.ok u h')/\zjL B c H h a u h' c':=by
 unfold zY at hp
 split at hp
 .rename_i s x;obtain⟨y,cs',rfl,h1,h2⟩:=hv.oc;obtain⟨y',cs'',rfl,h3,h4⟩:=h2.oc;obtain rfl:=h4.oN
  split at hp
  .cases hp
  .rename_i news hs;obtain⟨_,t2,t3⟩:=zqN k h3 hs;obtain⟨cs,t4,t5⟩:=t3 _ (zAE9 _);rw[zBF9]at t5;simp only[zhG,zzu];rw[t2,t4];dsimp only;exact zqC k h1 t5 hp
 grind
theorem zFB(k:HR B c H h){zero:LK}(hv:LR (VR c h) vs us)(hp:zaN H e esz bytes zero vs=some a):∃u h' c',zmb e esz bytes zero h us=some (.ok u h')/\zjL B c H h a u h' c':=by
 unfold zaN at hp
 split at hp
 .rename_i s kk m;obtain⟨y,cs',rfl,h1,h2⟩:=hv.oc;obtain⟨y',cs'',rfl,h3,h4⟩:=h2.oc;obtain rfl:=h4.oN;obtain rfl:=h3.int_inv
  split at hp
  .rename_i zs hz
   split at hp
   .rename_i hc;obtain⟨c1,c2,c3,c4,c5⟩:=hc;obtain⟨n,rfl⟩:=zDB9 c1;have hcs:=zhv (S:=c.S) (h:=h) (fun u v=>zhN) hz;have hel:ER (VR c h) esz (List.replicate n (zR zs)) (zeT zero n):=by
     refine⟨fun w hw=>?_,?_⟩
     .rw[zDN9 hw,zei c4,hcs.1,c5]
     .rw[zpq,zei c4];exact znV (LR.pure hcs) _
    obtain⟨u,h',c',a1,a2⟩:=zqC k h1 hel hp;rw[zCV9]at a1;refine⟨u,h',c',?_,a2⟩;show (bif Nat.ble n 1000000 then bif Nat.ble (n*(bytes+1)) 140737488355328 then zi9 h e esz bytes y n (zeT zero n)else none else none)=_;have c6:n*(bytes+1)<=140737488355328:=by
     have c7:((n*(bytes+1):Nat):Int)<=140737488355328:=by simpa using c3
     omega
    have c8:n<=1000000:=zo;rw[zcG c8,zcG c6];exact a1
   grind
  grind
 grind
theorem zFr{a:Nat}(h:¬min a b=0):Nat.beq (min a b) 0=false:=by
 cases hb:Nat.beq (min a b) 0
 all_goals simp_all
theorem zFy(k:HR B c H h)(hv:LR (VR c h) vs us)(hp:zyn H esz vs=some a):∃u h' c',zh0 esz h us=some (.ok u h')/\zjL B c H h a u h' c':=by
 unfold zyn at hp
 split at hp
 .rename_i x;obtain⟨y,cs',rfl,h1,h2⟩:=hv.oc;obtain⟨y',cs'',rfl,h3,h4⟩:=h2.oc;obtain rfl:=h4.oN;obtain rfl:y=.nilsl:=by cases h1 with|pure h1=>cases h1;rfl
  split at hp
  .rename_i news hs
   cases hp
   obtain⟨_,t2,t3⟩:=zqN k h3 hs;obtain⟨cs,t4,t5⟩:=t3 0 (zAJ9 _);refine⟨_,h,c,?_,Mo.refl _ _,k,.pure (.int _ _),fun _ _ _ _=>rfl⟩;simp only[zh0,lenV,Nat.min_zero]
   grind
  grind
 .rename_i id g o n q z x;obtain⟨y,cs',rfl,h1,h2⟩:=hv.oc;obtain⟨y',cs'',rfl,h3,h4⟩:=h2.oc;obtain rfl:=h4.oN
  split at hp
  .cases hp
  .rename_i news hs;obtain⟨_,t2,t3⟩:=zqN k h3 hs;obtain⟨cs,t4,t5⟩:=t3 (min news.length n) (Nat.min_le_left _ _)
   split at hp
   .rename_i hz
    cases hp
    refine⟨.int .i64 (.ofNat 0),h,c,?_,Mo.refl _ _,k,.pure (.int _ _),fun _ _ _ _=>rfl⟩;rcases sl_inv h1 with⟨rfl,rfl,rfl,rfl,rfl,hL⟩|⟨b,d,g',s1,rfl,rfl⟩
    .simp only[zh0,lenV,Nat.min_zero]
     grind
    .simp only[zh0];rw[t2,show lenV (.sl b g' (o*z) n q z)=n from rfl,t4,hz];rfl
   .rename_i hz
    split at hp
    .rename_i he;subst he
     split at hp
     .rename_i e z' G M l hH
      split at hp
      .rename_i hc;obtain⟨rfl,rfl,hle⟩:=hc
       cases hp
       rcases sl_inv h1 with⟨_,_,rfl,_⟩|⟨b,d,g',s1,hgd,rfl⟩
       .omega
       .obtain⟨_,G',M',cells,ds,r1,r2,r3,r4,r5⟩:=zgI k hH s1;have hgG:g'=G':=zo;subst hgG;have hdl:=r5.len;have htl:(news.take (min news.length n)).length=min news.length n:=by simp
        have hcl:cs.length=min news.length n*esz:=by rw[t5.len,htl]
        have hlen:o*esz+cs.length<=l.length*esz:=by rw[hcl,<- zCZ9];exact zCK9 _ hle
        have hnew:=((r5.take o).app t5).app (r5.drop (o+min news.length n));have hll:(l.take o++news.take (min news.length n)++l.drop (o+min news.length n)).length=l.length:=by simp;omega
        obtain⟨m1,k1⟩:=k.set (o:=.row e esz g g (l.take o++news.take (min news.length n)++l.drop (o+min news.length n))) (x:=.row e g' g' (l.length*esz) (cells.putL (o*esz) cs)) s1 (fun e=>by grind) fun mm =>
         .inr ⟨b,d,g',g',cells.putL (o*esz) cs,ds.take (o*esz)++cs++ds.drop (o*esz+cs.length),s1,by rw[TH.get_set _ _ _ _ (k.own _ _ s1).2.1,if_pos rfl,hll],r2,by omega,by
          rw[hll,<- hdl];exact zu6 (by grind) (by omega),by
          rw[hcl,<- zCZ9];exact hnew.mono fun _ _=>VR.mono mm⟩
        refine⟨.int .i64 (.ofNat (min news.length n)),_,c,?_,m1,k1,.pure (.int _ _),zqc k s1 _⟩;simp only[zh0];rw[t2,show lenV (.sl b g' (o*esz) n q esz)=n from rfl,t4];dsimp only;rw[zFr hz,zb6 (rfl:esz=esz)];simp only[cond_false,cond_true,zfs];rw[r1];simp only[zqY];rw[zb6 rfl,zcG hlen];rfl
      grind
     grind
    grind
 grind
section keys
variable {K:Type}{κ:K->TV}
variable {x:K}
theorem zum:∀{es:LZ} {fs:LZ},lk κ x es=none->lk κ x (es++fs)=lk κ x fs
 | [],fs,_=>rfl
 | e::l,fs,h=>by
  unfold lk at h
  split at h
  .cases h
  .rename_i he;rw[zAS9,lk,if_neg he];exact zum h
theorem zoO{u:TV}:∀{es:LZ} {fs:LZ},lk κ x es=some u->lk κ x (es++fs)=some u
 | [],fs,h=>by cases h
 | e::l,fs,h=>by
  unfold lk at h;rw[zAS9,lk]
  split at h
  .grind
  .rename_i he;rw[if_neg he];exact zoO h
theorem zxz(hκ:znu κ):∀{es:LZ} {i j:Nat} {e:zdv},(∀e∈es,∃n,e.k=κ n)->ze9 (κ x) es i=some (some (j,e))->∃t,j=i+t/\(∀u,(∀e∈setE t (κ x) u es,∃n,e.k=κ n)/\lk κ x (setE t (κ x) u es)=some u/\∀y,y≠x->lk κ y (setE t (κ x) u es)=lk κ y es)
 | [],i,j,e,hk,h=>by simp[ze9]at h
 | e0::l,i,j,e,hk,h=>by
  obtain⟨n,hn⟩:=hk e0 (by simp);have hl:=fun e' he'=>hk e' (zAQ9 _ he');unfold ze9 at h;rw[hn]at h
  by_cases hx:x=n
  .subst hx;rw[(hκ x x).1 rfl]at h;injection h with h;injection h with h;injection h with h1 h2;refine⟨0,h1.symm,fun u=>⟨fun e' he'=>?_,?_,fun y hy=>?_⟩⟩
   .simp only[setE,zBA9]at he'
    grind
   .simp[setE,lk]
   .have hyx:¬κ x=κ y:=fun e=>hy (hκ.inj e.symm);have hyx':¬e0.k=κ y:=by rw[hn];exact hyx
    simp only[setE,lk,if_neg hyx,if_neg hyx']
  .rw[(hκ x n).2 hx]at h;dsimp only at h;obtain⟨t,rfl,ht⟩:=zxz hκ hl h;refine⟨t+1,by omega,fun u=>?_⟩;obtain⟨t1,t2,t3⟩:=ht u;have hnx:¬e0.k=κ x:=by rw[hn];exact fun e=>hx (hκ.inj e).symm
   refine⟨fun e' he'=>?_,?_,fun y hy=>?_⟩
   .simp only[setE,zBA9]at he'
    grind
   .simp only[setE,lk,if_neg hnx];exact t2
   .simp only[setE,lk]
    grind
theorem zxq[DecidableEq K](hκ:znu κ){m:K->LX}{es:LZ}{clock b:Nat}(hm:MR R κ m es)(x:K){w:PV}{y2:TV}(h5:R w y2):
  ∃es' clock',zuF h b (κ x) y2 (.map es clock)=some (.ok (.tuple []) (h.set b (.map es' clock')))/\MR R κ (fun y=>if y=x then some w else m y) es':=by
 simp only[zuF];rcases zog hκ (x:=x) (i:=0) hm.keys with⟨f1,f2⟩|⟨j,e,f1,f2⟩
 .rw[f1];refine⟨_,_,rfl,fun e he=>?_,fun x' v' hx'=>?_,fun x' hx'=>?_⟩
  .rcases zBG9.1 he with he|he
   .exact hm.keys e he
   grind
  .try dsimp only at hx'
   split at hx'
   .rename_i e;subst e;injection hx' with hx';subst hx';exact⟨y2,by rw[zum f2];simp[lk],h5⟩
   .obtain⟨u,u1,u2⟩:=hm.some _ _ hx';exact⟨u,zoO u1,u2⟩
  .try dsimp only at hx'
   split at hx'
   .cases hx'
   .rename_i hne;have hnk:¬κ x=κ x':=fun e=>hne (hκ.inj e).symm;rw[zum (hm.none _ hx')];simp only[lk,if_neg hnk]
 .rw[f1];obtain⟨t,rfl,ht⟩:=zxz hκ hm.keys f1;obtain⟨t1,t2,t3⟩:=ht y2;rw[zBS9];refine⟨_,_,rfl,t1,fun x' v' hx'=>?_,fun x' hx'=>?_⟩
  .try dsimp only at hx'
   split at hx'
   .grind
   .rename_i hne;obtain⟨u,u1,u2⟩:=hm.some _ _ hx'
    grind
  .try dsimp only at hx'
   split at hx'
   .cases hx'
   .rename_i hne;rw[t3 _ hne];exact hm.none _ hx'
theorem zAx(κ:K->TV):MR R κ (fun _=>none) []:=⟨fun e he=>by grind,fun x v h=>(by cases h),fun x _=>rfl⟩
end keys
variable {kf:Nat}
theorem zFp(k:HR B c H h)(hv:LR (VR c h) vs us)(hp:zaP H kf vs=some a):∃u h' c',ziK kf h us=some (.ok u h')/\zjL B c H h a u h' c':=by
 unfold zaP at hp
 split at hp
 .rename_i id kk x w;obtain⟨y,cs',rfl,h1,h2⟩:=hv.oc;obtain⟨y',cs'',rfl,h3,h4⟩:=h2.oc;obtain⟨y2,cs3,rfl,h5,h6⟩:=h4.oc;obtain rfl:=h6.oN;obtain rfl:=h3.int_inv;obtain⟨b,d,z,s1,rfl⟩:=zhF h1
  split at hp
  .rename_i hkf;subst hkf;have main:∀(m:Int->LX) (es:LZ) (clock:Nat),¬H[id]?=some .void->h.get b=some (.map es clock)->MR (VR c h) (TV.int kk) m es->∃u h' c',ziK 1 h [.map b,.int kk x,y2]=some (.ok u h')/\zjL B c H h ⟨.tuple [],H.set id (.mapI kk fun y=>if y=x then some w else m y),[id]⟩ u h' c':=fun m es clock hnv hg hm=>by
    simp only[ziK,zgN,znD,cond_true];rw[hg];obtain⟨es',clock',e1,e2⟩:=zxq (h:=h) (b:=b) (clock:=clock) (zvg kk) hm x h5;refine⟨_,_,c,e1,?_⟩;obtain⟨m1,k1⟩:=k.set (o:=.mapI kk fun y=>if y=x then some w else m y) (x:=.map es' clock') s1 hnv fun mm =>
     ⟨b,d,z,es',clock',s1,by rw[TH.get_set _ _ _ _ (k.own _ _ s1).2.1,if_pos rfl],by
      exact e2.mono fun _ _=>VR.mono mm⟩
    exact⟨m1,k1,VR.tL LR.nil,zqc k s1 _⟩
   split at hp
   .rename_i hH
    cases hp
    obtain⟨b',d',z',clock,s2,s3⟩:=k.obj _ _ hH;rw[s1]at s2;injection s2 with s2;injection s2 with s2 _;subst s2;exact main (fun _=>none) [] clock (fun e=>by grind) s3 (zAx _)
   .rename_i k' m hH;obtain⟨b',d',z',es,clock,s2,s3,s4⟩:=k.obj _ _ hH;rw[s1]at s2;injection s2 with s2;injection s2 with s2 _;subst s2
    split at hp
    .rename_i hk;subst hk
     cases hp
     simp_all
    grind
   grind
  grind
 grind
theorem zEO(k:HR B c H h)(hv:LR (VR c h) vs us)(hp:zaM H kf vs=some a):∃u h' c',ziK kf h us=some (.ok u h')/\zjL B c H h a u h' c':=by
 unfold zaM at hp
 split at hp
 .rename_i id x w;obtain⟨y,cs',rfl,h1,h2⟩:=hv.oc;obtain⟨y',cs'',rfl,h3,h4⟩:=h2.oc;obtain⟨y2,cs3,rfl,h5,h6⟩:=h4.oc;obtain rfl:=h6.oN;obtain rfl:=h3.str_inv;obtain⟨b,d,z,s1,rfl⟩:=zhF h1
  split at hp
  .rename_i hkf;subst hkf;have main:∀(m:LN->LX) (es:LZ) (clock:Nat),¬H[id]?=some .void->h.get b=some (.map es clock)->MR (VR c h) TV.str m es->∃u h' c',ziK 2 h [.map b,.str x,y2]=some (.ok u h')/\zjL B c H h ⟨.tuple [],H.set id (.mapS fun y=>if y=x then some w else m y),[id]⟩ u h' c':=fun m es clock hnv hg hm=>by
    simp only[ziK,zgN,zmL,cond_true];rw[hg];obtain⟨es',clock',e1,e2⟩:=zxq (h:=h) (b:=b) (clock:=clock) zvx hm x h5;refine⟨_,_,c,e1,?_⟩;obtain⟨m1,k1⟩:=k.set (o:=.mapS fun y=>if y=x then some w else m y) (x:=.map es' clock') s1 hnv fun mm =>
     ⟨b,d,z,es',clock',s1,by rw[TH.get_set _ _ _ _ (k.own _ _ s1).2.1,if_pos rfl],by
      exact e2.mono fun _ _=>VR.mono mm⟩
    exact⟨m1,k1,VR.tL LR.nil,zqc k s1 _⟩
   split at hp
   .rename_i hH
    cases hp
    obtain⟨b',d',z',clock,s2,s3⟩:=k.obj _ _ hH;rw[s1]at s2;injection s2 with s2;injection s2 with s2 _;subst s2;exact main (fun _=>none) [] clock (fun e=>by grind) s3 (zAx _)
   .rename_i m hH;obtain⟨b',d',z',es,clock,s2,s3,s4⟩:=k.obj _ _ hH;rw[s1]at s2;injection s2 with s2;injection s2 with s2 _;subst s2
    cases hp
    simp_all
   grind
  grind
 .exact zFp k hv hp
theorem zqm(k:HR B c H h){C:zce}{caught:LH}{kind:zaf}(hv:LR (VR c h) vs us)(hp:zbD H kind vs=some a):∃u h' c',act C caught kind us h=some (.ok u h')/\zjL B c H h a u h' c':=by
 unfold zbD at hp
 split at hp
 .exact zvf k hv hp
 .exact zA8 k hv hp
 .exact zFy k hv hp
 .exact zEO k hv hp
 .exact zFB k hv hp
 grind
def EN(E:Env)(N:Nat):Env:={ E with N:=N }
def Ev(E:Env)(φ:zce->Nat->Prop):Prop:=∃K,∀N,K<=N->∀d,K<=d->φ (zdX (EN E N) d) N
section ev
variable {E:Env}{φ ψ χ:zce->Nat->Prop}
theorem Ev.all(h:∀C N,φ C N):Ev E φ:=⟨0,fun _ _ _ _=>h _ _⟩
theorem Ev.mono(hh:∀C N,φ C N->ψ C N)(h:Ev E φ):Ev E ψ:=by
 obtain⟨K,hK⟩:=h;exact⟨K,fun N hN d hd=>hh _ _ (hK N hN d hd)⟩
theorem Ev.and2(hh:∀C N,φ C N->ψ C N->χ C N)(h:Ev E φ)(k:Ev E ψ):Ev E χ:=by
 obtain⟨K,hK⟩:=h;obtain⟨L,hL⟩:=k;exact⟨max K L,fun N hN d hd=>hh _ _ (hK N zo d zo) (hL N zo d zo)⟩
end ev
inductive FD where
 | caught (p clear:PV)
 | mark (id:Nat)
abbrev AK:=List FD
structure FSt where
 tm:Nat->PV
 df:AK
 H:LP
def upd(tm:Nat->PV)(d:Nat)(v:PV):Nat->PV:=fun t=>if t=d then v else tm t
def FSt.put(s:FSt)(d:LC)(v:PV):FSt:=match d with
 | none=>s
 | some d=>⟨upd s.tm d v,s.df,s.H⟩
def DR(c:Cx)(h:TH):FD->TD->Prop
 | .caught p l,.caught p' l'=>VR c h p p'/\VR c h l l'
 | .mark id,.mark b=>∃d z,c.ρ id=some (b,d,z)
 | _,_=>False
def dfR(c:Cx)(h:TH):AK->AT->Prop
 | [],[]=>True
 | x::l,y::m=>DR c h x y/\dfR c h l m
 | _,_=>False
structure SR(B:Ba)(c:Cx)(s:FSt)(t:St):Prop where
 hr:HR B c s.H t.h
 tm:tmR c t.h s.tm t.tm
 df:dfR c t.h s.df t.df
section mono
variable {c c':Cx}{h h':TH}
variable {tm:Nat->PV}
theorem tmR.mono(m:Mo c c' h h'){t:LA}(k:tmR c h tm t):tmR c' h' tm t:=fun i=>by
 rcases k i with k|⟨u,u1,u2⟩
 .grind
 .exact .inr ⟨u,u1,u2.mono m⟩
theorem DR.mono(m:Mo c c' h h'){x:FD}{y:TD}(k:DR c h x y):DR c' h' x y:=by
 cases x<;>cases y<;>first|exact k.elim|skip
 .exact⟨k.1.mono m,k.2.mono m⟩
 .obtain⟨d,z,k⟩:=k;exact⟨d,z,m.ρ _ _ k⟩
theorem dfR.mono(m:Mo c c' h h'):∀{l:AK} {l':AT},dfR c h l l'->dfR c' h' l l'
 | [],[],_=>trivial
 | _::_,_::_,k=>⟨k.1.mono m,k.2.mono m⟩
 | [],_::_,k=>k.elim
 | _::_,[],k=>k.elim
theorem tmR.put{t:LA}(k:tmR c h tm t){d:Nat}{u:TV}(hv:VR c h v u):tmR c h (upd tm d v) (t.set d (some u)):=fun i=>by
 unfold upd;rw[Tr.get_set]
 by_cases e:i=d
 .grind
 .rw[if_neg e,if_neg e];exact k i
theorem XR.mono(m:Mo c c' h h'){x:FX}{y:TX}(k:XR c h x y):XR c' h' x y:=by
 cases k with
 | norm=>exact .norm
 | exit id=>exact .exit id
 | goto l=>exact .goto l
 | ret=>exact .ret
 | panic k=>exact .panic (k.mono m)
end mono
theorem SR.put{c':Cx}{s:FSt}{t:St}(k:SR B c s t){H':LP}{h':TH}(m:Mo c c' t.h h')(hr:HR B c' H' h'){u:TV}(hv:VR c' h' v u)(d:LC):
  SR B c' (FSt.put ⟨s.tm,s.df,H'⟩ d v) (St.put ⟨t.tm,t.df,h'⟩ d u):=by
 cases d with
 | none=>exact⟨hr,k.tm.mono m,k.df.mono m⟩
 | some d=>exact⟨hr,(k.tm.mono m).put hv,k.df.mono m⟩
theorem put_h(t:St)(d:LC)(u:TV):(t.put d u).h=t.h:=by cases d<;>rfl
def okv:PV->LX
 | .bad=>none
 | v=>some v
def ev(tm:Nat->PV):TOp->LX
 | .tmp t=>okv (tm t)
 | .new _=>none
 | .const u=>ofC 4 u
 | .fn f=>some (.fn f [])
def evs(tm:Nat->PV):LY->Option (LQ)
 | []=>some []
 | x::l=>match ev tm x with
  | none=>none
  | some v=>match evs tm l with
   | none=>none
   | some vs=>some (v::vs)
def zaF(b:Bool):LX->AN
 | some (.bool c)=>some (if b then c else !c)
 | some (.tuple _)=>some false
 | _=>none
def zaA(tm:Nat->PV):Option (TOp×Bool)->AN
 | none=>some true
 | some (x,b)=>zaF b (ev tm x)
theorem zpB{w:PV}(h:okv v=some w):v=w/\v ≠ .bad:=by
 cases v<;>first|(cases h;done)|(cases h;grind)
section operands
variable {c:Cx}{h:TH}{tm:Nat->PV}{t:LA}
theorem zlR(k:tmR c h tm t){x:TOp}(hx:ev tm x=some v):∃u,zgG t x=some u/\VR c h v u:=by
 cases x with
 | tmp i =>
  obtain⟨h1,h2⟩:=zpB hx;rcases k i with h3|⟨u,u1,u2⟩
  .grind
  .exact⟨u,u1,by rw[<- h1];exact u2⟩
 | new i=>cases hx
 | const u=>exact⟨u,rfl,zj3 hx⟩
 | fn f=>cases hx;exact⟨_,rfl,VR.fnL LR.nil⟩
theorem zla(k:tmR c h tm t):∀{l:LY} {vs:LQ},evs tm l=some vs->∃us,zHX t l=some us/\LR (VR c h) vs us
 | [],vs,hv=>by cases hv;exact⟨[],rfl,LR.nil⟩
 | x::l,vs,hv=>by
  unfold evs at hv
  split at hv
  .cases hv
  .rename_i v hx
   split at hv
   .cases hv
   .rename_i ws hw
    cases hv
    obtain⟨u,u1,u2⟩:=zlR k hx;obtain⟨us,w1,w2⟩:=zla k hw;refine⟨u::us,?_,LR.cons u2 w2⟩;unfold zHX
    grind
theorem zgb(k:tmR c h tm t){g:Option (TOp×Bool)}{b:Bool}(hg:zaA tm g=some b):zgg t g=some b:=by
 cases g with
 | none=>exact hg
 | some x =>
  obtain⟨x,b'⟩:=x;change zaF b' (ev tm x)=some b at hg;unfold zaF at hg
  split at hg
  .rename_i cc hx;obtain⟨u,u1,u2⟩:=zlR k hx;obtain rfl:=u2.bool_inv;show ziS b' (zgG t x)=some b;unfold ziS
   grind
  .rename_i hx;obtain⟨u,u1,u2⟩:=zlR k hx;obtain⟨cs,rfl,_⟩:=u2.tuple_inv;show ziS b' (zgG t x)=some b;rw[u1];exact hg
  grind
end operands
def zbJ(o:zbP)(s:FSt)(vs:LQ):Option FSt :=
 match o.kind.cls with
 | 0=>(match zbu s.H o.kind vs with
  | some v=>some (s.put o.dst v)
  | none=>none)
 | 1=>(match zbz s.H.length o.kind vs with
  | some (ob,v)=>some (FSt.put ⟨s.tm,s.df,s.H++[ob]⟩ o.dst v)
  | none=>none)
 | _=>(match zbD s.H o.kind vs with
  | some a=>some (FSt.put ⟨s.tm,s.df,a.H⟩ o.dst a.v)
  | none=>none)
def zaI(o:zbP)(s:FSt):Option FSt :=
 match zaA s.tm o.guard with
 | none=>none
 | some false=>some (s.put o.dst (.tuple []))
 | some true=>match evs s.tm o.args with
  | none=>none
  | some vs=>zbJ o s vs
theorem zrD{s s':FSt}{t:St}(k:SR B c s t){o:zbP}(hs:zaI o s=some s')(C:zce)(caught:LH):∃c' t',(∀C,zhc C caught o t=some (.go t'))/\Mo c c' t.h t'.h/\SR B c' s' t':=by
 unfold zaI at hs
 split at hs
 .cases hs
 .rename_i hw
  cases hs
  have hw':=zgb k.tm hw;refine⟨c,t.put o.dst (.tuple []),fun C=>?_,by rw[put_h];exact Mo.refl _ _,k.put (Mo.refl _ _) k.hr (VR.tL LR.nil) _⟩;unfold zhc;rw[hw']
 .rename_i hw;have hw':=zgb k.tm hw
  split at hs
  .cases hs
  .rename_i vs hvs;obtain⟨us,u1,u2⟩:=zla k.tm hvs;have e1:∀C,zhc C caught o t=zk2 C caught o t us:=fun C=>by unfold zhc;grind
   unfold zbJ at hs
   split at hs
   .rename_i hcls
    split at hs
    .rename_i v hp
     cases hs
     obtain⟨u,p1,p2⟩:=zra k.hr u2 hp;refine⟨c,t.put o.dst u,fun C=>?_,by rw[put_h];exact Mo.refl _ _,k.put (Mo.refl _ _) k.hr p2 _⟩;rw[e1];unfold zk2;rw[hcls];(try dsimp only);rw[p1];rfl
    grind
   .rename_i hcls
    split at hs
    .rename_i ob v hp
     cases hs
     obtain⟨x,c',p1,p2,p3,p4,_⟩:=zqE k.hr u2 hp;refine⟨c',(⟨t.tm,t.df,t.h.push x.o⟩:St).put o.dst x.v,fun C=>?_,by rw[put_h];exact p2,k.put p2 p3 p4 _⟩;rw[e1];unfold zk2;rw[hcls];(try dsimp only);rw[p1];rfl
    grind
   .rename_i _ n0 n1
    split at hs
    .rename_i a hp
     cases hs
     have hact:∀C,∃u h' c',act C caught o.kind us t.h=some (.ok u h')/\zjL B c s.H t.h a u h' c':=fun C=>zqm k.hr u2 hp;have hsame:∀C C',act C caught o.kind us t.h=act C' caught o.kind us t.h:=fun C C'=>by
      unfold zbD at hp
      split at hp
      .rename_i e;rw[e];rfl
      .rename_i e;rw[e];rfl
      .rename_i e;rw[e];rfl
      .rename_i e;rw[e];rfl
      .rename_i e;rw[e];rfl
      grind
     obtain⟨u,h',c',p1,p2⟩:=hact C;refine⟨c',(⟨t.tm,t.df,h'⟩:St).put o.dst u,fun C'=>?_,by rw[put_h];exact p2.mo,k.put p2.mo p2.hr p2.v _⟩;rw[e1];unfold zk2
     split
     .grind
     .grind
     .rw[hsame C' C,p1];rfl
    grind
inductive FE where
 | ret (v:PV)
 | panic (v:PV)
def RE(R:PV->TV->Prop):FE->TE->Prop
 | .ret v,.ret u=>R v u
 | .panic v,.panic u=>R v u
 | _,_=>False
def S0(S:zfK)(a b:Nat):zfK:=fun p x=>p=0/\(S 0 x\/(a<=x/\x<b))
def S1(S:zfK)(a b:Nat):zfK:=fun p x=>S p x\/(p=0/\a<=x/\x<b)
def FN(E:Env)(f:Nat)(args:LQ)(e:FE):Prop :=
 ∀S h us,(∀p b,S p b->b<h.next)->LR (PR S h) args us->∃r h',Ev E (fun C _=>C.fn f us h=some (r,h'))/\h.next<=h'.next/\(∀b,b<h.next->h'.get b=h.get b)/\RE (PR (S0 S h.next h'.next) h') e r
def FP(E:Env)(f:Nat)(args:LQ)(e:FE):Prop :=
 ∀S h us,(∀p b,S p b->b<h.next)->LR (PR S h) args us->∃r h',Ev E (fun C _=>C.fn f us h=some (r,h'))/\h.next<=h'.next/\(∀b,b<h.next->h'.get b=h.get b)/\RE (PR (S1 S h.next h'.next) h') e r
def FO(E:Env)(f:Nat)(args:LQ)(H:LP)(same:Bool)(Q:FE->LP->Prop):Prop :=
 ∀B c h us,HR B c H h->LR (VR c h) args us->∃r h' e H' c',Ev E (fun C _=>C.fn f us h=some (r,h'))/\Q e H'/\Mo c c' h h'/\HR B c' H' h'/\RE (VR c' h') e r/\(same=true->∀id x,c.ρ id=some x->h'.get x.1=h.get x.1)
theorem zsv{h':TH}(hk:∀b,b<h.next->h'.get b=h.get b){b o n:Nat}{cs:LK}(hr:zb0 h b g o n=some cs):zb0 h' b g o n=some cs:=by
 obtain⟨y,h1,h2⟩:=ziL hr;exact zhY (by rw[hk _ (TH.get_lt h1)];exact h1) h2
theorem zEm{id i:Nat}{w:PV}(h:zbl H id g i=some w):∃e z G M l,H[id]?=some (.row e z G M l):=by
 unfold zbl at h
 grind
inductive Frz(H:LP)(lab:Nat):PV->PV->Prop
 | bool (b:Bool):Frz H lab (.bool b) (.bool b)
 | int (k:IntKind) (n:Int):Frz H lab (.int k n) (.int k n)
 | str (s:LN):Frz H lab (.str s) (.str s)
 | nilptr:Frz H lab .nilptr .nilptr
 | nilsl:Frz H lab .nilsl .nilsl
 | nilmap:Frz H lab .nilmap .nilmap
 | nilfn:Frz H lab .nilfn .nilfn
 | niliface:Frz H lab .niliface .niliface
 | nil (p z:Nat):Frz H lab .nilsl (.list p z [])
 | list (p z:Nat) (l:LQ):Frz H lab (.list p z l) (.list p z l)
 | elem (vs:LQ):Frz H lab (.elem vs) (.elem vs)
 | iface {t:Nat} {v w:PV}:Frz H lab v w->Frz H lab (.iface t v) (.iface t w)
 | fn {f:Nat} {vs ws:LQ}:vs.length=ws.length->(∀(i:Nat) (x y:PV),vs[i]?=some x->ws[i]?=some y->Frz H lab x y)->Frz H lab (.fn f vs) (.fn f ws)
 | agg {vs ws:LQ}:vs.length=ws.length->(∀(i:Nat) (x y:PV),vs[i]?=some x->ws[i]?=some y->Frz H lab x y)->Frz H lab (.agg vs) (.agg ws)
 | tuple {vs ws:LQ}:vs.length=ws.length->(∀(i:Nat) (x y:PV),vs[i]?=some x->ws[i]?=some y->Frz H lab x y)->Frz H lab (.tuple vs) (.tuple ws)
 | sl {id g o n q z e z' G M:Nat} {l m:LQ}:H[id]?=some (.row e z' G M l)->M<=g->g<=G->o+n<=l.length->2*n<=q->m.length=n->(∀v∈m,v.cells.length=z)->(((l.drop o).take n).flatMap PV.cells).length=(m.flatMap PV.cells).length ->
   (∀(i:Nat) (x y:PV),(((l.drop o).take n).flatMap PV.cells)[i]?=some x->(m.flatMap PV.cells)[i]?=some y->Frz H lab x y)->Frz H lab (.sl id g o n q z) (.list lab z m)
 | ptr {id g i o n:Nat} {w:PV} {cs:LQ}:zbl H id g i=some w->o+n<=w.cells.length->n=cs.length->(∀(j:Nat) (x y:PV),((w.cells.drop o).take n)[j]?=some x->cs[j]?=some y->Frz H lab x y)->Frz H lab (.ptr id g i o n) (.elem cs)
variable {lab:Nat}
theorem Frz.ok'(k:HR B c H h){S:zfK}(hS:∀p b,c.S p b->S p b)(hown:∀id x e z G M l,H[id]?=some (.row e z G M l)->c.ρ id=some x->S lab x.1)(f:Frz H lab v w):∀{u:TV},VR c h v u->PR S h w u:=by
 have hmono:∀{v:PV} {u:TV},PR c.S h v u->PR S h v u:=fun hv=>hv.mono hS fun _ _ _ _ _ _ _ hr=>hr
 induction f with
 | bool b=>intro u hv;obtain rfl:=hv.bool_inv;exact .bool b
 | int kk n=>intro u hv;obtain rfl:=hv.int_inv;exact .int kk n
 | str s=>intro u hv;obtain rfl:=hv.str_inv;exact .str s
 | nilptr=>intro u hv;cases hv with|pure hv=>exact hmono hv
 | nilsl=>intro u hv;cases hv with|pure hv=>exact hmono hv
 | nilmap=>intro u hv;cases hv with|pure hv=>exact hmono hv
 | nilfn=>intro u hv;cases hv with|pure hv=>exact hmono hv
 | niliface=>intro u hv;cases hv with|pure hv=>exact hmono hv
 | nil p z=>intro u hv;cases hv with|pure hv=>cases hv;exact .listnil p z
 | list p z l=>intro u hv;cases hv with|pure hv=>exact hmono hv
 | elem vs=>intro u hv;cases hv with|pure hv=>exact hmono hv
 | iface _ ih=>intro u hv;obtain⟨u',rfl,h1⟩:=hv.iface_inv;exact .iface (ih h1)
 | fn hl _ ih =>
  intro u hv;obtain⟨cs,rfl,h1⟩:=hv.fn_inv;exact .fn (by rw[<- hl];exact h1.1) fun i x y hx hy=>by
   obtain⟨x',hx'⟩:∃x',(_:LQ)[i]?=some x':=⟨_,zAA9 (by rw[hl];exact(zAC9.1 hx).1)⟩
   exact ih i _ _ hx' hx (h1.2 i _ _ hx' hy)
 | agg hl _ ih =>
  intro u hv;obtain⟨cs,rfl,h1⟩:=hv.agg_inv;exact .agg (by rw[<- hl];exact h1.1) fun i x y hx hy=>by
   obtain⟨x',hx'⟩:∃x',(_:LQ)[i]?=some x':=⟨_,zAA9 (by rw[hl];exact(zAC9.1 hx).1)⟩
   exact ih i _ _ hx' hx (h1.2 i _ _ hx' hy)
 | tuple hl _ ih =>
  intro u hv;obtain⟨cs,rfl,h1⟩:=hv.tuple_inv;exact .tuple (by rw[<- hl];exact h1.1) fun i x y hx hy=>by
   obtain⟨x',hx'⟩:∃x',(_:LQ)[i]?=some x':=⟨_,zAA9 (by rw[hl];exact(zAC9.1 hx).1)⟩
   exact ih i _ _ hx' hx (h1.2 i _ _ hx' hy)
 | @sl id g o n q z e z' G M l m hH hM hG hn hq hm hz hlen _ ih =>
  intro u hv;rcases sl_inv hv with⟨rfl,rfl,rfl,rfl,rfl,hL⟩|⟨b,d,g',s1,rfl,rfl⟩
  .obtain rfl:=zDQ9.1 hm;exact .listnil _ _
  .obtain⟨rfl,G',M',cells,cs,r1,r2,r3,r4,r5⟩:=zgI k hH s1;have h9:o*z+n*z<=l.length*z:=by rw[<- zCZ9];exact zCK9 _ hn
   have h8:=zj0 r4 h9;rw[zBS9]at h8;have h7:=(r5.drop o).take n;subst hm;refine .list (hown _ _ _ _ _ _ _ hH s1) (zkU r1 zo zo h8) hq hz (by rw[<- hlen];exact h7.all.1) fun i x y hx hy=>?_;obtain⟨x',hx'⟩:∃x',(((l.drop o).take m.length).flatMap PV.cells)[i]?=some x':=⟨_,zAA9 (by grind)⟩
   exact ih i _ _ hx' hx (h7.all.2 i _ _ hx' hy)
 | @ptr id g i o n w cs hw hn hcs _ ih =>
  intro u hv;obtain⟨b,d,z,g',s1,rfl,rfl⟩:=zf7 hv;obtain⟨s2,s3⟩:=zvo k hw s1;obtain⟨ds,s4,s5⟩:=s3 o n (by omega);have hll:((w.cells.drop o).take n).length=n:=by simp;omega
  subst hcs;obtain⟨e0,z0,G0,M0,l0,hH⟩:=zEm hw;refine .elem (hown _ _ _ _ _ _ _ hH s1) s4 (by rw[<- s5.1,hll]) fun j x y hx hy=>?_;obtain⟨x',hx'⟩:∃x',((w.cells.drop o).take cs.length)[j]?=some x':=⟨_,zAA9 (by grind)⟩
  exact ih j _ _ hx' hx (s5.2 j _ _ hx' hy)
theorem Frz.ok(k:HR B c H h){S:zfK}(hS:∀p b,c.S p b->S p b)(hown:∀id x,c.ρ id=some x->S lab x.1)(f:Frz H lab v w):∀{u:TV},VR c h v u->PR S h w u:=f.ok' k hS fun id x _ _ _ _ _ _ h=>hown id x h
def LF(H:LP)(lab:Nat):LQ->LQ->Prop
 | [],[]=>True
 | x::l,y::m=>Frz H lab x y/\LF H lab l m
 | _,_=>False
variable {ws:LQ}
theorem LF.ok(k:HR B c H h){S:zfK}(hS:∀p b,c.S p b->S p b)(hown:∀id x,c.ρ id=some x->S lab x.1):∀{l m:LQ} {us:LK},LF H lab l m->LR (VR c h) l us->LR (PR S h) m us
 | [],[],us,_,hl=>by obtain rfl:=hl.oN;exact LR.nil
 | x::l,y::m,us,f,hl=>by
  obtain⟨u,us',rfl,h1,h2⟩:=hl.oc;exact LR.cons (f.1.ok k hS hown h1) (LF.ok k hS hown f.2 h2)
 | [],_::_,us,f,_=>f.elim
 | _::_,[],us,f,_=>f.elim
theorem LF.len:∀{l m:LQ},LF H lab l m->l.length=m.length
 | [],[],_=>rfl
 | x::l,y::m,f=>by rw[zAG9,zAG9,LF.len f.2]
 | [],_::_,f=>f.elim
 | _::_,[],f=>f.elim
theorem LF.at:∀{l m:LQ},LF H lab l m->∀(i:Nat) (x y:PV),l[i]?=some x->m[i]?=some y->Frz H lab x y
 | [],[],_,i,x,y,hx,_=>by simp at hx
 | x::l,y::m,f,0,a,b,hx,hy=>by simp at hx hy;subst hx;subst hy;exact f.1
 | x::l,y::m,f,i+1,a,b,hx,hy=>LF.at f.2 i a b (by grind) (by grind)
 | [],_::_,f,_,_,_,_,_=>f.elim
 | _::_,[],f,_,_,_,_,_=>f.elim
theorem Frz.aggL(f:LF H lab vs ws):Frz H lab (.agg vs) (.agg ws):=.agg f.len f.at
theorem Frz.tL(f:LF H lab vs ws):Frz H lab (.tuple vs) (.tuple ws):=.tuple f.len f.at
theorem Frz.fnL{f:Nat}(k:LF H lab vs ws):Frz H lab (.fn f vs) (.fn f ws):=.fn k.len k.at
inductive Lb:PV->Prop
 | bool (b:Bool):Lb (.bool b)
 | int (k:IntKind) (n:Int):Lb (.int k n)
 | str (s:LN):Lb (.str s)
 | nilptr:Lb .nilptr
 | nilsl:Lb .nilsl
 | nilmap:Lb .nilmap
 | nilfn:Lb .nilfn
 | niliface:Lb .niliface
 | list {z:Nat} {l:LQ}:(∀x∈l.flatMap PV.cells,Lb x)->Lb (.list 0 z l)
 | iface {t:Nat} {v:PV}:Lb v->Lb (.iface t v)
 | fn {f:Nat} {l:LQ}:(∀x∈l,Lb x)->Lb (.fn f l)
 | agg {l:LQ}:(∀x∈l,Lb x)->Lb (.agg l)
 | tuple {l:LQ}:(∀x∈l,Lb x)->Lb (.tuple l)
theorem Lb.ok{S S':zfK}(hS:∀b,S 0 b->S' 0 b){u:TV}(k:PR S h v u):Lb v->PR S' h v u:=by
 induction k with
 | bool b=>intro _;exact .bool b
 | int k n=>intro _;exact .int k n
 | str s=>intro _;exact .str s
 | nilptr=>intro _;exact .nilptr
 | nilsl=>intro _;exact .nilsl
 | nilmap=>intro _;exact .nilmap
 | nilfn=>intro _;exact .nilfn
 | niliface=>intro _;exact .niliface
 | iface _ ih=>intro hl;cases hl with|iface hl=>exact .iface (ih hl)
 | listnil p z=>intro _;exact .listnil p z
 | list h1 h2 h3 h4 h5 _ ih=>intro hl;cases hl with|list hl=>exact .list (hS _ h1) h2 h3 h4 h5 fun i x y hx hy=>ih i x y hx hy (hl x (zAI9 hx))
 | elem h1 h2 h3 _ ih=>intro hl;cases hl
 | fn h1 _ ih=>intro hl;cases hl with|fn hl=>exact .fn h1 fun i x y hx hy=>ih i x y hx hy (hl x (zAI9 hx))
 | agg h1 _ ih=>intro hl;cases hl with|agg hl=>exact .agg h1 fun i x y hx hy=>ih i x y hx hy (hl x (zAI9 hx))
 | tuple h1 _ ih=>intro hl;cases hl with|tuple hl=>exact .tuple h1 fun i x y hx hy=>ih i x y hx hy (hl x (zAI9 hx))
variable {E:Env}{caught:LH}
def WO(E:Env)(caught:LH)(ops:LS)(s:FSt)(Q:FX->FSt->Prop):Prop :=
 ∀B c t,SR B c s t->∃r x s' c' t',Ev E (fun C _=>zf1 C caught ops t=some r)/\Q x s'/\Mo c c' t.h t'.h/\SR B c' s' t'/\((x=.norm/\r=.go t')\/∃v u,x=.panic v/\r=.panic u t'/\VR c' t'.h v u)
variable {Q:FX->FSt->Prop}{s:FSt}
theorem zi3(h:Q .norm s):WO E caught [] s Q:=fun B c t hs=>⟨.go t,.norm,s,c,t,Ev.all fun _ _=>rfl,h,Mo.refl _ _,hs,.inl ⟨rfl,rfl⟩⟩
theorem zEZ{o:zbP}{ops:LS}{s':FSt}(h:zaI o s=some s')(k:WO E caught ops s' Q):WO E caught (o::ops) s Q:=fun B c t hs=>by
 obtain⟨c1,t1,h1,m1,k1⟩:=zrD hs h ⟨fun _ _ _=>none,fun _ _ _=>none⟩ caught;obtain⟨r,x,s2,c2,t2,e2,q2,m2,k2,h2⟩:=k B c1 t1 k1;exact⟨r,x,s2,c2,t2,e2.mono fun C N e=>by unfold zf1;grind,q2,m1.trans m2,k2,h2⟩
def zEk(E:Env)(caught:LH)(ops:LS)(s:FSt)(d:LC)(Q:FX->FSt->Prop):FE->LP->Prop
 | .ret v,H'=>WO E caught ops (FSt.put ⟨s.tm,s.df,H'⟩ d v) Q
 | .panic v,H'=>Q (.panic v) ⟨s.tm,s.df,H'⟩
variable {e:FE}
theorem zl7{d:LC}{args:LY}{g:Option (TOp×Bool)}{ops:LS}{s:FSt}{Q:FX->FSt->Prop}{caps:LQ}{b:Bool}(hg:zaA s.tm g=some true)(ha:evs s.tm args=some (.fn f caps::vs))(k:FO E f (vs++caps) s.H b (zEk E caught ops s d Q)):WO E caught (⟨d,.call,args,g⟩::ops) s Q:=fun B c t hs=>by
 have hw:=zgb hs.tm hg;obtain⟨us,u1,u2⟩:=zla hs.tm ha;obtain⟨u,us',rfl,u3,u4⟩:=u2.oc;obtain⟨cs,rfl,u5⟩:=u3.fn_inv;obtain⟨r,h',e,H',c',e1,q1,m1,k1,re,_⟩:=k B c t.h _ hs.hr (u4.app u5);have hstep:∀C,C.fn f (us'++cs) t.h=some (r,h')->zhc C caught ⟨d,.call,args,g⟩ t=zrb d t (zn7 (some (r,h'))):=fun C hC=>by
  unfold zhc;rw[hw,u1];simp only[zk2,zaf.cls,act,zol];rw[hC]
 cases e with
 | ret v =>
  cases r with
  | panic u=>exact re.elim
  | ret u =>
   have re:VR c' h' v u:=re;obtain⟨r2,x,s2,c2,t2,e2,q2,m2,k2,h2⟩:=q1 B c' ((⟨t.tm,t.df,h'⟩:St).put d u) (hs.put m1 k1 re d);rw[put_h]at m2;exact⟨r2,x,s2,c2,t2,Ev.and2 (fun C N a b=>by unfold zf1;rw[hstep C a];exact b) e1 e2,q2,m1.trans m2,k2,h2⟩
 | panic v =>
  cases r with
  | ret u=>exact re.elim
  | panic u =>
   have re:VR c' h' v u:=re;exact⟨.panic u ⟨t.tm,t.df,h'⟩,.panic v,_,c',⟨t.tm,t.df,h'⟩,e1.mono fun C N a=>by unfold zf1;rw[hstep C a];rfl,q1,m1,⟨k1,hs.tm.mono m1,hs.df.mono m1⟩,.inr ⟨v,u,rfl,rfl,re⟩⟩
theorem RE.mono{R R':PV->TV->Prop}(hR:∀v u,R v u->R' v u){r:TE}(h:RE R e r):RE R' e r:=by
 cases e<;>cases r<;>first|exact hR _ _ h|exact h.elim
def Cx.lay(c:Cx)(a b:Nat):Cx:=⟨S1 c.S a b,c.ρ,c.L⟩
theorem HR.grown{h':TH}(k:HR B c H h)(hn:h.next<=h'.next)(hk:∀b,b<h.next->h'.get b=h.get b):Mo c (c.lay h.next h'.next) h h'/\HR B (c.lay h.next h'.next) H h':=by
 have m:Mo c (c.lay h.next h'.next) h h':=⟨fun p b hb=>.inl hb,fun _ _ h=>h,fun _ h=>h,fun _ _ _ _ _ _ _ hr=>zsv hk hr⟩
 refine⟨m,⟨zBW9 k.le hn,fun b hb=>by rw[hk b (zBM9 hb k.le)];exact k.keep b hb,fun p b hb=>?_,fun p b hb=>?_,fun id x hx=>?_,k.lz,k.inj,fun id o ho=>(k.obj id o ho).move m rfl (fun h=>h) fun y hy=>hk _ (k.own _ _ hy).2.1⟩⟩
 .rcases hb with hb|⟨h1,h2,_⟩
  .exact k.old p b hb
  .exact .inr ⟨h1,zBW9 k.le h2⟩
 .rcases hb with hb|⟨h1,h2,h3⟩
  .obtain⟨a1,a2⟩:=k.S p b hb;exact⟨zBM9 a1 hn,a2⟩
  .exact⟨h3,fun id x hx e=>by have:=(k.own _ _ hx).2.1;omega⟩
 .obtain⟨a1,a2,a3⟩:=k.own id x hx;omega
def zo4(c:Cx):zfK:=fun p b=>c.S p b\/(p=1/\∃id x,c.ρ id=some x/\x.1=b)
theorem FN.FO{args aS:LQ}(k:FN E f aS e)(hl:LF H 1 args aS):FO E f args H true (fun e' H'=>e'=e/\H'=H):=fun B c h us hr ha=>by
 have h1:=LF.ok hr (S:=zo4 c) (fun p b hb=>.inl hb) (fun id x hx=>.inr ⟨rfl,id,x,hx,rfl⟩) hl ha;obtain⟨r,h',e1,hn,hk,re⟩:=k (zo4 c) h us (fun p b hb=>by
  rcases hb with hb|⟨_,id,x,hx,rfl⟩
  .exact(hr.S p b hb).1
  .exact(hr.own _ _ hx).2.1) h1
 obtain⟨m,hr'⟩:=hr.grown hn hk;refine⟨r,h',e,H,c.lay h.next h'.next,e1,⟨rfl,rfl⟩,m,hr',re.mono fun v u hv=>.pure (hv.mono (fun p b hb=>?_) fun _ _ _ _ _ _ _ hr=>hr),fun _ id x hx=>hk _ (hr.own _ _ hx).2.1⟩;obtain⟨rfl,hb|hb⟩:=hb
 .rcases hb with hb|⟨h0,_⟩
  .exact .inl hb
  .cases h0
 .exact .inr ⟨rfl,hb⟩
inductive Id0:PV->Prop
 | bool (b:Bool):Id0 (.bool b)
 | int (k:IntKind) (n:Int):Id0 (.int k n)
 | str (s:LN):Id0 (.str s)
 | nilptr:Id0 .nilptr
 | nilsl:Id0 .nilsl
 | nilmap:Id0 .nilmap
 | nilfn:Id0 .nilfn
 | niliface:Id0 .niliface
 | list (p z:Nat) (l:LQ):Id0 (.list p z l)
 | elem (l:LQ):Id0 (.elem l)
 | iface {t:Nat} {v:PV}:Id0 v->Id0 (.iface t v)
 | fn {f:Nat} {l:LQ}:(∀x∈l,Id0 x)->Id0 (.fn f l)
 | agg {l:LQ}:(∀x∈l,Id0 x)->Id0 (.agg l)
 | tuple {l:LQ}:(∀x∈l,Id0 x)->Id0 (.tuple l)
variable {args:LY}{caps:LQ}{d:LC}{g:Option (TOp×Bool)}{ops:LS}
theorem Id0.ok(k:Id0 v):∀{u:TV},VR c h v u->PR c.S h v u:=by
 induction k with
 | bool b=>intro u hv;obtain rfl:=hv.bool_inv;exact .bool b
 | int kk n=>intro u hv;obtain rfl:=hv.int_inv;exact .int kk n
 | str s=>intro u hv;obtain rfl:=hv.str_inv;exact .str s
 | nilptr=>intro u hv;cases hv with|pure hv=>exact hv
 | nilsl=>intro u hv;cases hv with|pure hv=>exact hv
 | nilmap=>intro u hv;cases hv with|pure hv=>exact hv
 | nilfn=>intro u hv;cases hv with|pure hv=>exact hv
 | niliface=>intro u hv;cases hv with|pure hv=>exact hv
 | list p z l=>intro u hv;cases hv with|pure hv=>exact hv
 | elem vs=>intro u hv;cases hv with|pure hv=>exact hv
 | iface _ ih=>intro u hv;obtain⟨u',rfl,h1⟩:=hv.iface_inv;exact .iface (ih h1)
 | fn _ ih=>intro u hv;obtain⟨cs,rfl,h1⟩:=hv.fn_inv;exact .fn h1.1 fun i x y hx hy=>ih x (zAI9 hx) (h1.2 i x y hx hy)
 | agg _ ih=>intro u hv;obtain⟨cs,rfl,h1⟩:=hv.agg_inv;exact .agg h1.1 fun i x y hx hy=>ih x (zAI9 hx) (h1.2 i x y hx hy)
 | tuple _ ih=>intro u hv;obtain⟨cs,rfl,h1⟩:=hv.tuple_inv;exact .tuple h1.1 fun i x y hx hy=>ih x (zAI9 hx) (h1.2 i x y hx hy)
theorem FP.FO{args:LQ}{e:FE}(k:FP E f args e)(hl:∀x∈args,Id0 x):FO E f args H true (fun e' H'=>e'=e/\H'=H):=fun B c h us hr ha=>by
 obtain⟨r,h',e1,hn,hk,re⟩:=k c.S h us (fun p b hb=>(hr.S p b hb).1) ⟨ha.1,fun i x y hx hy=>(hl x (zAI9 hx)).ok (ha.2 i x y hx hy)⟩;obtain⟨m,hr'⟩:=hr.grown hn hk;exact⟨r,h',e,H,c.lay h.next h'.next,e1,⟨rfl,rfl⟩,m,hr',re.mono fun v u hv=>.pure hv,fun _ id x hx=>hk _ (hr.own _ _ hx).2.1⟩
theorem FO.mono{args:LQ}{b:Bool}{Q Q':FE->LP->Prop}(hQ:∀e H,Q e H->Q' e H)(k:FO E f args H b Q):FO E f args H b Q':=fun B c h us hr ha=>by
 obtain⟨r,h',e,H',c',e1,q1,h2⟩:=k B c h us hr ha
 grind
theorem zeA{aS:LQ}(hg:zaA s.tm g=some true)(ha:evs s.tm args=some (.fn f caps::vs))(k:FN E f aS (.ret v))(hl:LF s.H 1 (vs++caps) aS)(hQ:WO E caught ops (s.put d v) Q):WO E caught (⟨d,.call,args,g⟩::ops) s Q :=
 zl7 hg ha ((FN.FO k hl).mono fun e H' he=>by obtain⟨rfl,rfl⟩:=he;exact hQ)
theorem zDt{aS:LQ}(hg:zaA s.tm g=some true)(ha:evs s.tm args=some (.fn f caps::vs))(k:FN E f aS (.panic v))(hl:LF s.H 1 (vs++caps) aS)(hQ:Q (.panic v) s):WO E caught (⟨d,.call,args,g⟩::ops) s Q :=
 zl7 hg ha ((FN.FO k hl).mono fun e H' he=>by obtain⟨rfl,rfl⟩:=he;exact hQ)
theorem zpx{ty:Nat}(hg:zaA s.tm g=some true)(ha:evs s.tm args=some [.iface ty v])(hQ:Q (.panic (.iface ty v)) s):WO E caught (⟨d,.panic,args,g⟩::ops) s Q:=fun B c t hs=>by
 have hw:=zgb hs.tm hg;obtain⟨us,u1,u2⟩:=zla hs.tm ha;obtain⟨u,us',rfl,u3,u4⟩:=u2.oc;obtain rfl:=u4.oN;obtain⟨u',rfl,u5⟩:=u3.iface_inv;refine⟨.panic (.iface ty u') t,.panic (.iface ty v),s,c,t,Ev.all fun C N=>?_,hQ,Mo.refl _ _,hs,.inr ⟨_,_,rfl,rfl,u3⟩⟩;unfold zf1 zhc;rw[hw,u1];rfl
theorem zgt{p cl:PV}(hg:zaA s.tm g=some true)(ha:evs s.tm args=some [.fn f [],p,cl])(hc:caught.get f=some ())(k:WO E caught ops (FSt.put ⟨s.tm,.caught p cl::s.df,s.H⟩ d (.tuple [])) Q):WO E caught (⟨d,.defer,args,g⟩::ops) s Q:=fun B c t hs=>by
 have hw:=zgb hs.tm hg;obtain⟨us,u1,u2⟩:=zla hs.tm ha;obtain⟨u,us',rfl,u3,u4⟩:=u2.oc;obtain⟨up,us',rfl,u5,u6⟩:=u4.oc;obtain⟨ul,us',rfl,u7,u8⟩:=u6.oc;obtain rfl:=u8.oN;obtain⟨cs,rfl,u9⟩:=u3.fn_inv;obtain rfl:=u9.oN;have hs1:SR B c ⟨s.tm,.caught p cl::s.df,s.H⟩ ⟨t.tm,.caught up ul::t.df,t.h⟩:=⟨hs.hr,hs.tm,⟨u5,u7⟩,hs.df⟩
 obtain⟨r2,x,s2,c2,t2,e2,q2,m2,k2,h2⟩:=k B c ((⟨t.tm,.caught up ul::t.df,t.h⟩:St).put d (.tuple [])) (hs1.put (Mo.refl _ _) hs.hr (VR.tL LR.nil) d);rw[put_h]at m2;refine⟨r2,x,s2,c2,t2,e2.mono fun C N e=>?_,q2,m2,k2,h2⟩;unfold zf1 zhc;rw[hw,u1];simp only[zk2,zaf.cls,act,zvU];rw[hc];exact e
def RN(c:Cx):LC->LC->Prop
 | none,none=>True
 | some id,some b=>∃d z,c.ρ id=some (b,d,z)
 | _,_=>False
theorem RN.mono{c':Cx}{h':TH}(m:Mo c c' h h'){a b:LC}(k:RN c a b):RN c' a b:=by
 cases a<;>cases b<;>first|exact k|(obtain⟨d,z,k⟩:=k;exact⟨d,z,m.ρ _ _ k⟩)
def W(E:Env)(caught:LH)(rnd:LC)(code:zbS)(s:FSt)(Q:FX->FSt->Prop):Prop :=
 ∀B c t rnd',SR B c s t->RN c rnd rnd'->∃x' t' x s' c',Ev E (fun C N=>zbX C caught N rnd' code t=some (x',t'))/\Q x s'/\XR c' t'.h x x'/\Mo c c' t.h t'.h/\SR B c' s' t'
variable {rnd:LC}{s:FSt}{Q Q':FX->FSt->Prop}
theorem zcJ{code:zbS}(k:W E caught rnd code s Q)(hQ:∀x s,Q x s->Q' x s):W E caught rnd code s Q':=fun B c t rnd' hs hn=>by
 obtain⟨x',t',x,s',c',h1,h2,h3⟩:=k B c t rnd' hs hn
 grind
theorem zr(h:Q .norm s):W E caught rnd .skip s Q:=fun B c t rnd' hs hn=>⟨.norm,t,.norm,s,c,Ev.all fun _ _=>rfl,h,.norm,Mo.refl _ _,hs⟩
theorem zh9{id:Nat}(h:Q (.exit id) s):W E caught rnd (.exit id) s Q:=fun B c t rnd' hs hn=>⟨.exit id,t,.exit id,s,c,Ev.all fun _ _=>rfl,h,.exit id,Mo.refl _ _,hs⟩
theorem zlb{l:Nat}(h:Q (.goto l) s):W E caught rnd (.goto l) s Q:=fun B c t rnd' hs hn=>⟨.goto l,t,.goto l,s,c,Ev.all fun _ _=>rfl,h,.goto l,Mo.refl _ _,hs⟩
theorem zbN(h:Q .ret s):W E caught rnd .ret s Q:=fun B c t rnd' hs hn=>⟨.ret,t,.ret,s,c,Ev.all fun _ _=>rfl,h,.ret,Mo.refl _ _,hs⟩
def zdE:LS->(Nat->PV)->(Nat->PV)
 | [],tm=>tm
 | o::l,tm=>zdE l (match o.dst with|some d=>upd tm d .bad|none=>tm)
theorem ztj:∀{ops:LS} {tm:Nat->PV} {t:LA},tmR c h tm t->tmR c h (zdE ops tm) (zfe ops t)
 | [],_,_,k=>k
 | o::l,tm,t,k=>by
  unfold zdE zfe;refine ztj ?_
  cases o.dst with
  | none=>exact k
  | some d =>
   intro i
   .dsimp only;unfold upd;rw[Tr.get_set]
    by_cases e:i=d
    .grind
    .rw[if_neg e,if_neg e];exact k i
@[reducible] def zfu (ops:LS) (Q:FX->FSt->Prop):FX->FSt->Prop
 | .norm,s=>Q .norm s
 | x,s=>Q x ⟨zdE ops s.tm,s.df,s.H⟩
theorem zae{ops:LS}(k:WO E caught ops s (zfu ops Q)):W E caught rnd (.region ops) s Q:=fun B c t rnd' hs hn=>by
 obtain⟨r,x,s',c',t',e1,q1,m1,k1,h2⟩:=k B c t hs;rcases h2 with⟨rfl,rfl⟩|⟨v,u,rfl,rfl,hv⟩
 .exact⟨.norm,t',.norm,s',c',e1.mono fun C N e=>by unfold zbX;rw[e];rfl,q1,.norm,m1,k1⟩
 .exact⟨.panic u,{ t' with tm:=zfe ops t'.tm },.panic v,_,c',e1.mono fun C N e=>by unfold zbX;rw[e];rfl,q1,.panic hv,m1,⟨k1.hr,ztj k1.tm,k1.df⟩⟩
@[reducible] def zfj (K:FSt->Prop) (Q:FX->FSt->Prop):FX->FSt->Prop
 | .norm,s=>K s
 | x,s=>Q x s
theorem zHW{a b:zbS}(k:W E caught rnd a s (zfj (fun s'=>W E caught rnd b s' Q) Q)):W E caught rnd (.seq a b) s Q:=fun B c t rnd' hs hn=>by
 obtain⟨x',t',x,s',c',e1,q1,hx,m1,k1⟩:=k B c t rnd' hs hn
 cases hx with
 | norm =>
  obtain⟨x2',t2,x2,s2,c2,e2,q2,hx2,m2,k2⟩:=q1 B c' t' rnd' k1 (hn.mono m1);exact⟨x2',t2,x2,s2,c2,Ev.and2 (fun C N a b=>by unfold zbX;grind) e1 e2,q2,hx2,m1.trans m2,k2⟩
 | exit id=>exact⟨_,t',_,s',c',e1.mono fun C N e=>by unfold zbX;rw[e],q1,.exit id,m1,k1⟩
 | goto l=>exact⟨_,t',_,s',c',e1.mono fun C N e=>by unfold zbX;rw[e],q1,.goto l,m1,k1⟩
 | ret=>exact⟨_,t',_,s',c',e1.mono fun C N e=>by unfold zbX;rw[e],q1,.ret,m1,k1⟩
 | panic hv=>exact⟨_,t',_,s',c',e1.mono fun C N e=>by unfold zbX;rw[e],q1,.panic hv,m1,k1⟩
theorem zpD{x:TOp}{b:Bool}{p q:zbS}(hx:ev s.tm x=some (.bool b))(h1:b=true->W E caught rnd p s Q)(h2:b=false->W E caught rnd q s Q):W E caught rnd (.cond x p q) s Q:=fun B c t rnd' hs hn=>by
 obtain⟨u,u1,u2⟩:=zlR hs.tm hx;obtain rfl:=u2.bool_inv
 cases b with
 | true =>
  obtain⟨x',t',x,s',c',e1,h⟩:=h1 rfl B c t rnd' hs hn;exact⟨x',t',x,s',c',e1.mono fun C N e=>by unfold zbX;grind,h⟩
 | false =>
  obtain⟨x',t',x,s',c',e1,h⟩:=h2 rfl B c t rnd' hs hn;exact⟨x',t',x,s',c',e1.mono fun C N e=>by unfold zbX;grind,h⟩
@[reducible] def zgz (id:Nat) (Q:FX->FSt->Prop):FX->FSt->Prop
 | .exit j,s=>if j=id then Q .norm s else Q (.exit j) s
 | x,s=>Q x s
theorem ze{id:Nat}{b:zbS}(k:W E caught rnd b s (zgz id Q)):W E caught rnd (.block id b) s Q:=fun B c t rnd' hs hn=>by
 obtain⟨x',t',x,s',c',e1,q1,hx,m1,k1⟩:=k B c t rnd' hs hn
 cases hx with
 | exit j =>
  have q1:if j=id then Q .norm s' else Q (.exit j) s':=q1
  by_cases hj:j=id
  .rw[if_pos hj]at q1;exact⟨.norm,t',.norm,s',c',e1.mono fun C N e=>by unfold zbX;simp_all,q1,.norm,m1,k1⟩
  .rw[if_neg hj]at q1;exact⟨.exit j,t',.exit j,s',c',e1.mono fun C N e=>by unfold zbX;rw[e];dsimp only;rw[zoi hj];rfl,q1,.exit j,m1,k1⟩
 | norm=>exact⟨_,t',_,s',c',e1.mono fun C N e=>by unfold zbX;rw[e],q1,.norm,m1,k1⟩
 | goto l=>exact⟨_,t',_,s',c',e1.mono fun C N e=>by unfold zbX;rw[e],q1,.goto l,m1,k1⟩
 | ret=>exact⟨_,t',_,s',c',e1.mono fun C N e=>by unfold zbX;rw[e],q1,.ret,m1,k1⟩
 | panic hv=>exact⟨_,t',_,s',c',e1.mono fun C N e=>by unfold zbX;rw[e],q1,.panic hv,m1,k1⟩
@[reducible] def zgB (Inv:Nat->FSt->Prop) (n:Nat) (Q:FX->FSt->Prop):FX->FSt->Prop
 | .norm,s=>∃m,m<n/\Inv m s
 | x,s=>Q x s
theorem zbk{body:zbS}(Inv:Nat->FSt->Prop){n:Nat}(h0:Inv n s)(step:∀n s,Inv n s->W E caught rnd body s (zgB Inv n Q)):W E caught rnd (.loop body) s Q:=fun B c t rnd' hs hn=>by
 have main:∀n s c t,Inv n s->SR B c s t->RN c rnd rnd'->∃x' t' x s' c',(∃K,∀N,K<=N->∀d,K<=d->∀j,K<=j->zkj (zbX (zdX (EN E N) d) caught N rnd' body) j t=some (x',t'))/\Q x s'/\XR c' t'.h x x'/\Mo c c' t.h t'.h/\SR B c' s' t':=by
  intro n
  induction n using Nat.strongRecOn with
  | _ n ih =>
   intro s c t hi hs hn;obtain⟨x',t',x,s',c',⟨K,e1⟩,q1,hx,m1,k1⟩:=step n s hi B c t rnd' hs hn;have one:x' ≠ .norm->∃K,∀N,K<=N->∀d,K<=d->∀j,K<=j->zkj (zbX (zdX (EN E N) d) caught N rnd' body) j t=some (x',t'):=fun hne=>⟨K+1,fun N hN d hd j hj=>by
    obtain⟨j,rfl⟩:∃i,j=i+1:=⟨j-1,by omega⟩
    unfold zkj
    grind⟩
   cases hx with
   | norm =>
    obtain⟨m,hm,hi2⟩:=q1;obtain⟨x2',t2,x2,s2,c2,⟨L,e2⟩,q2,hx2,m2,k2⟩:=ih m hm s' c' t' hi2 k1 (hn.mono m1);refine⟨x2',t2,x2,s2,c2,⟨max K L+1,fun N hN d hd j hj=>?_⟩,q2,hx2,m1.trans m2,k2⟩;obtain⟨j,rfl⟩:∃i,j=i+1:=⟨j-1,by omega⟩
    unfold zkj
    grind
   | exit id=>exact⟨_,t',_,s',c',one (fun e=>by cases e),q1,.exit id,m1,k1⟩
   | goto l=>exact⟨_,t',_,s',c',one (fun e=>by cases e),q1,.goto l,m1,k1⟩
   | ret=>exact⟨_,t',_,s',c',one (fun e=>by cases e),q1,.ret,m1,k1⟩
   | panic hv=>exact⟨_,t',_,s',c',one (fun e=>by cases e),q1,.panic hv,m1,k1⟩
 obtain⟨x',t',x,s',c',⟨K,e1⟩,h⟩:=main n s c t h0 hs hn;exact⟨x',t',x,s',c',⟨K,fun N hN d hd=>by unfold zbX;exact e1 N hN d hd N hN⟩,h⟩
@[reducible] def zgW (E:Env) (caught:LH) (rnd:LC) (l:Nat) (rest:zbS) (Q:FX->FSt->Prop):FX->FSt->Prop
 | .goto j,s=>j=l/\W E caught rnd rest s fun x s'=>(∀l,x ≠ .goto l)/\Q x s'
 | x,s=>Q x s
theorem zn0{l:Nat}{b rest:zbS}(k:W E caught rnd b s (zgW E caught rnd l rest Q)):W E caught rnd (.scope b l rest) s Q:=fun B c t rnd' hs hn=>by
 obtain⟨x',t',x,s',c',e1,q1,hx,m1,k1⟩:=k B c t rnd' hs hn
 cases hx with
 | goto j =>
  obtain⟨rfl,q1⟩:=q1;obtain⟨x2',t2,x2,s2,c2,e2,⟨hne,q2⟩,hx2,m2,k2⟩:=q1 B c' t' rnd' k1 (hn.mono m1);refine⟨x2',t2,x2,s2,c2,Ev.and2 (fun C N a b=>?_) e1 e2,q2,hx2,m1.trans m2,k2⟩;unfold zbX;rw[a];dsimp only;rw[zb6 rfl];dsimp only[cond_true];rw[b]
  cases hx2<;>grind
 | exit j=>exact⟨_,t',_,s',c',e1.mono fun C N e=>by unfold zbX;rw[e],q1,.exit j,m1,k1⟩
 | norm=>exact⟨_,t',_,s',c',e1.mono fun C N e=>by unfold zbX;rw[e],q1,.norm,m1,k1⟩
 | ret=>exact⟨_,t',_,s',c',e1.mono fun C N e=>by unfold zbX;rw[e],q1,.ret,m1,k1⟩
 | panic hv=>exact⟨_,t',_,s',c',e1.mono fun C N e=>by unfold zbX;rw[e],q1,.panic hv,m1,k1⟩
variable {E:Env}
inductive FM where
 | returning
 | panicking (v:PV)
def zym(c:Cx)(h:TH):FM->TM->Prop
 | .returning,.returning=>True
 | .panicking v,.panicking u=>VR c h v u
 | _,_=>False
def LV(E:Env):AK->FM->LP->(FM->LP->Prop)->Prop
 | [],m,H,Q=>Q m H
 | .mark id::l,m,H,Q=>H[id]?=some (.dfr false)/\LV E l m (H.set id (.dfr true)) Q
 | .caught p cl::l,m,H,Q=>match m with
  | .returning=>LV E l .returning H Q
  | .panicking v=>∃n g caps b id gg mm,v=.iface E.errno (.int .i64 n)/\cl=.fn g caps/\p=.ptr id gg 0 0 mm/\FO E g caps H b fun e H1=>e=.ret (.tuple [])/\∃a,zag H1 1 [p,.int .i64 n]=some a/\LV E l .returning a.H Q
theorem zpe(N:Nat)(C:zce):∀(l:AT) (m:TM) (h:TH),zeb (EN E N) C l m h=zeb E C l m h
 | [],m,h=>rfl
 | .mark b::l,m,h=>by
  unfold zeb;simp only[zpe N C l]
 | .caught p c::l,m,h=>by
  unfold zeb;simp only[zpe N C l];rfl
theorem zmI{h2:TH}{b g o e:Nat}{k:IntKind}{n:Int}{u:TV}(hs:zi4 1 h [.ptr b g o e,.int k n]=some (.ok u h2)):zfs h b g o [.int k n]=some h2:=by
 unfold zi4 at hs;dsimp only[TV.cells,zAG9,zAN9]at hs
 grind
theorem zud:∀{l:AK} {l':AT} {m:FM} {m':TM} {H:LP} {h:TH} {B:Ba} {c:Cx} {Q:FM->LP->Prop},LV E l m H Q->HR B c H h->dfR c h l l'->zym c h m m' ->
  ∃m2' h' m2 H2 c',Ev E (fun C _=>zeb E C l' m' h=some (m2',h'))/\Q m2 H2/\zym c' h' m2 m2'/\Mo c c' h h'/\HR B c' H2 h'
 | [],[],m,m',H,h,B,c,Q,k,hr,_,hm=>⟨m',h,m,H,c,Ev.all fun _ _=>rfl,k,hm,Mo.refl _ _,hr⟩
 | .mark id::l,.mark b::l',m,m',H,h,B,c,Q,k,hr,hd,hm=>by
  obtain⟨⟨d,z,hρ⟩,hd⟩:=hd;obtain⟨k1,k2⟩:=k;obtain⟨b',d',z',e1,e2⟩:=hr.obj _ _ k1;rw[hρ]at e1;injection e1 with e1;injection e1 with e1 e3;subst e1;obtain⟨m1,hr1⟩:=hr.set (o:=.dfr true) (x:=.dfr true) hρ (fun e=>by grind) fun _=>⟨b,d,z,hρ,by rw[TH.get_set _ _ _ _ (hr.own _ _ hρ).2.1,if_pos rfl]⟩
  have hm1:zym c (h.set b (.dfr true)) m m':=by
   cases m<;>cases m'<;>first|exact hm|exact VR.mono m1 hm
  obtain⟨m2',h',m2,H2,c',f1,f2,f3,f4,f5⟩:=zud k2 hr1 (hd.mono m1) hm1;refine⟨m2',h',m2,H2,c',f1.mono fun C N e=>?_,f2,f3,m1.trans f4,f5⟩;unfold zeb
  grind
 | .caught p cl::l,.caught p' cl'::l',m,m',H,h,B,c,Q,k,hr,hd,hm=>by
  obtain⟨⟨hp,hcl⟩,hd⟩:=hd
  cases m with
  | returning =>
   cases m' with
   | panicking u=>exact hm.elim
   | returning =>
    have k:LV E l .returning H Q:=k;obtain⟨m2',h',m2,H2,c',f1,f2⟩:=zud k hr hd (m':=.returning) trivial;exact⟨m2',h',m2,H2,c',f1.mono fun C N e=>by unfold zeb;exact e,f2⟩
  | panicking v =>
   cases m' with
   | returning=>exact hm.elim
   | panicking u =>
    obtain⟨n,g,caps,bb,id,gg,mm,rfl,rfl,rfl,k⟩:=k;have hm:VR c h (.iface E.errno (.int .i64 n)) u:=hm;obtain⟨u',rfl,hu⟩:=hm.iface_inv;obtain rfl:=hu.int_inv;obtain⟨cs,rfl,hcs⟩:=hcl.fn_inv;obtain⟨r,h1,e,H1,c1,e1,⟨rfl,a,ha,k2⟩,m1,hr1,re,_⟩:=k B c h cs hr hcs
    cases r with
    | panic u=>exact re.elim
    | ret u =>
     have re:VR c1 h1 (.tuple []) u:=re;obtain⟨ts,rfl,hts⟩:=re.tuple_inv;obtain rfl:=hts.oN;obtain⟨bp,dp,zp,gp,q1,rfl,rfl⟩:=zf7 (hp.mono m1);have h00:0*zp+0=0:=by simp
     rw[h00]at hp⊢;obtain⟨u2,h2,c2,s1,s2⟩:=zvf hr1 (LR.cons (hp.mono m1) (LR.cons (.pure (.int .i64 n)) LR.nil)) ha;obtain⟨m2',h',m2,H2,c',f1,f2,f3,f4,f5⟩:=zud k2 s2.hr (hd.mono (m1.trans s2.mo)) (m':=.returning) trivial;refine⟨m2',h',m2,H2,c',Ev.and2 (fun C N a1 a2=>?_) e1 f1,f2,f3,(m1.trans s2.mo).trans f4,f5⟩;unfold zeb;dsimp only;rw[zb6 rfl];dsimp only[cond_true];rw[a1];show (match zfs h1 bp gp 0 [.int .i64 n]with
      | some h=>zeb E C l' .returning h
      | none=>none)=_
     rw[zmI s1];exact a2
 | [],_::_,_,_,_,_,_,_,_,_,_,hd,_=>hd.elim
 | _::_,[],_,_,_,_,_,_,_,_,_,hd,_=>hd.elim
 | .mark _::_,.caught _ _::_,_,_,_,_,_,_,_,_,_,hd,_=>hd.1.elim
 | .caught _ _::_,.mark _::_,_,_,_,_,_,_,_,_,_,hd,_=>hd.1.elim
def zaS(tm:Nat->PV)(H:LP):List zpp->Option (LQ)
 | []=>some []
 | r::l=>match(match r with
   | .tmp t=>okv (tm t)
   | .cell t agg n=>match okv (tm t)with
    | some p=>zaz H agg n [p]
    | none=>none)with
  | none=>none
  | some v=>match zaS tm H l with
   | none=>none
   | some vs=>some (v::vs)
theorem zBM(k:HR B c H h){tm:Nat->PV}{t:LA}(kt:tmR c h tm t):∀{l:List zpp} {vs:LQ},zaS tm H l=some vs->∃us,zjW t h l=some us/\LR (VR c h) vs us
 | [],vs,hv=>by cases hv;exact⟨[],rfl,LR.nil⟩
 | r::l,vs,hv=>by
  unfold zaS at hv
  split at hv
  .cases hv
  .rename_i v hx
   split at hv
   .cases hv
   .rename_i ws hw
    cases hv
    obtain⟨us,w1,w2⟩:=zBM k kt hw;have key:∃u,zjW t h (r::l)=some (u::us)/\VR c h v u:=by
     cases r with
     | tmp i =>
      obtain⟨u,u1,u2⟩:=zlR kt (x:=.tmp i) hx;have u1:t.get i=some u:=u1;refine⟨u,?_,u2⟩;show (match t.get i with
       | none=>none
       | some v=>match zjW t h l with
        | none=>none
        | some vs=>some (v::vs))=_
      grind
     | cell i agg n =>
      dsimp only at hx
      split at hx
      .rename_i p hp;obtain⟨u,u1,u2⟩:=zlR kt (x:=.tmp i) hp;obtain⟨w,w3,w4⟩:=zxI k (LR.cons u2 LR.nil) hx;have u1:t.get i=some u:=u1;have w3:pas (.load agg n) [u] h=some w:=w3;refine⟨w,?_,w4⟩;show (match(match t.get i with
        | some p=>pas (.load agg n) [p] h
        | none=>none)with
        | none=>none
        | some v=>match zjW t h l with
         | none=>none
         | some vs=>some (v::vs))=_
       grind
      grind
    obtain⟨u,u1,u2⟩:=key;exact⟨u::us,u1,LR.cons u2 w2⟩
@[reducible] def zlZ:LQ->PV
 | [v]=>v
 | l=>.tuple l
theorem zGO(k:LR (VR c h) vs us):VR c h (zlZ vs) (tup us):=by
 match vs,us,k with
 | [],us,k=>obtain rfl:=k.oN;exact VR.tL LR.nil
 | [v],us,k=>obtain⟨u,us',rfl,h1,h2⟩:=k.oc;obtain rfl:=h2.oN;exact h1
 | v::w::l,us,k =>
  obtain⟨u,us',rfl,h1,h2⟩:=k.oc;obtain⟨u',us'',rfl,h3,h4⟩:=h2.oc;exact VR.tL k
def zyx(F:zd)(tm:Nat->PV)(R:FE->LP->Prop):FM->LP->Prop
 | .returning,H=>∃vs,zaS tm H F.res=some vs/\R (.ret (zlZ vs)) H
 | .panicking v,H=>R (.panic v) H
def zev(E:Env)(F:zd)(R:FE->LP->Prop):FX->FSt->Prop
 | .norm,s=>LV E s.df .returning s.H (zyx F s.tm R)
 | .ret,s=>LV E s.df .returning s.H (zyx F s.tm R)
 | .panic v,s=>LV E s.df (.panicking v) s.H (zyx F s.tm R)
 | _,_=>False
def zn(l:LQ):Nat->PV:=fun i=>(l[i]?).getD .bad
theorem zE8(k:LR (VR c h) vs us):tmR c h (zn vs) (Tr.putL .nil 0 us):=fun i=>by
 unfold zn;rw[Tr.get_putL]
 by_cases hi:i<vs.length
 .obtain⟨u,u1,u2⟩:=k.at (zAA9 hi)
  grind
 grind
theorem zwk{f:Nat}{F:zd}(hF:E.funcs.get f=some F){args:LQ}(hn:args.length<=F.N){R:FE->LP->Prop}(hW:W E E.caught none F.body ⟨zn args,[],H⟩ (zev E F R)):FO E f args H false R:=fun B c h us hr ha=>by
 obtain⟨x',t',x,s',c',e1,q1,hx,m1,k1⟩:=hW B c ⟨Tr.putL .nil 0 us,[],h⟩ none ⟨hr,zE8 ha,trivial⟩ trivial;have main:∀(m:FM) (m':TM),LV E s'.df m s'.H (zyx F s'.tm R)->zym c' t'.h m m'->(∀N C,zCL (EN E N) C F (some (x',t'))=zkh (EN E N) F t'.tm (zeb (EN E N) C t'.df m' t'.h)) ->
   ∃r h' e H' c'',Ev E (fun C _=>C.fn f us h=some (r,h'))/\R e H'/\Mo c c'' h h'/\HR B c'' H' h'/\RE (VR c'' h') e r/\(false=true->∀id x,c.ρ id=some x->h'.get x.1=h.get x.1):=fun m m' hl hm hend=>by
  obtain⟨m2',h2,m2,H2,c2,f1,f2,f3,f4,f5⟩:=zud hl k1.hr k1.df hm;have fin:∀r,(∀N,zkh (EN E N) F t'.tm (some (m2',h2))=some (r,h2))->Ev E (fun C _=>C.fn f us h=some (r,h2)):=fun r hr2=>by
   obtain⟨K,hK⟩:=e1;obtain⟨L,hL⟩:=f1;refine⟨max K L+1,fun N hN d hd=>?_⟩;obtain⟨d,rfl⟩:∃i,d=i+1:=⟨d-1,by omega⟩
   show zbm (EN E N) (zdX (EN E N) d) f us h=_;unfold zbm;rw[show (EN E N).funcs.get f=some F from hF];dsimp only;rw[zcG (by rw[<- ha.1];exact hn)];dsimp only[cond_true];rw[show zbX (zdX (EN E N) d) (EN E N).caught (EN E N).N none F.body ⟨Tr.putL .nil 0 us,[],h⟩=some (x',t')from hK N zo d zo,hend,zpe,hL N zo d zo,hr2]
  cases m2 with
  | returning =>
   cases m2' with
   | panicking u=>exact f3.elim
   | returning =>
    obtain⟨vs,v1,v2⟩:=f2;obtain⟨us2,w1,w2⟩:=zBM f5 (k1.tm.mono f4) v1;refine⟨.ret (tup us2),h2,.ret (zlZ vs),H2,c2,fin _ fun N=>?_,v2,m1.trans f4,f5,zGO w2,fun h=>by cases h⟩;show (match zjW t'.tm h2 F.res with
     | some vs=>some (TE.ret (tup vs),h2)
     | none=>none)=_
    rw[w1]
  | panicking v =>
   cases m2' with
   | returning=>exact f3.elim
   | panicking u=>exact⟨.panic u,h2,.panic v,H2,c2,fin _ fun N=>rfl,f2,m1.trans f4,f5,f3,fun h=>by cases h⟩
 cases hx with
 | norm=>exact main .returning .returning q1 trivial fun N C=>rfl
 | ret=>exact main .returning .returning q1 trivial fun N C=>rfl
 | panic hv=>exact main (.panicking _) (.panicking _) q1 hv fun N C=>rfl
 | exit id=>exact q1.elim
 | goto l=>exact q1.elim
def zbp(H:LP)(lab:Nat):FE->FE->Prop
 | .ret v,.ret w=>Frz H lab v w
 | .panic v,.panic w=>Frz H lab v w
 | _,_=>False
def LbE:FE->Prop
 | .ret v=>Lb v
 | .panic v=>Lb v
variable {F:zd}{args:LQ}
theorem zFD{b:Bool}(k:FO E f args [] b fun e' H=>zbp H 0 e' e):FP E f args e:=fun S h us hS ha=>by
 have hr:HR ⟨h.next,h,S⟩ ⟨S,fun _=>none,fun _=>False⟩ [] h:=⟨zAE9 _,fun _ _=>rfl,fun p b hb=>.inl hb,fun p b hb=>⟨hS p b hb,fun id x hx=>(by cases hx)⟩,fun id x hx=>(by cases hx),fun id hx=>hx.elim,fun id id' x x' hx=>(by cases hx),fun id o ho=>(by simp at ho)⟩
 obtain⟨r,h',e',H',c',e1,q1,m1,hr1,re,_⟩:=k _ _ h us hr (LR.pure (c:=⟨S,fun _=>none,fun _=>False⟩) ha);have hkeep:∀b,b<h.next->h'.get b=h.get b:=fun b hb=>hr1.keep b hb;refine⟨r,h',e1,hr1.le,hkeep,?_⟩;have hS1:∀p b,c'.S p b->S1 S h.next h'.next p b:=fun p b hb=>by
  rcases hr1.old p b hb with h1|⟨h1,h2⟩
  .exact .inl h1
  .exact .inr ⟨h1,h2,(hr1.S p b hb).1⟩
 have hown:∀id x,c'.ρ id=some x->S1 S h.next h'.next 0 x.1:=fun id x hx=>by
  obtain⟨h1,h2,_⟩:=hr1.own id x hx;exact .inr ⟨rfl,h1,h2⟩
 cases e'<;>cases r<;>first|exact re.elim|skip
 .cases e with
  | panic v=>exact q1.elim
  | ret w=>exact Frz.ok hr1 hS1 hown q1 re
 .cases e with
  | ret v=>exact q1.elim
  | panic w=>exact Frz.ok hr1 hS1 hown q1 re
theorem FP.stays(k:FP E f args e)(hl:LbE e):FN E f args e:=fun S h us hS ha=>by
 obtain⟨r,h',e1,h1,h2,re⟩:=k S h us hS ha;refine⟨r,h',e1,h1,h2,?_⟩;have hS0:∀b,S1 S h.next h'.next 0 b->S0 S h.next h'.next 0 b:=fun b hb=>by
  rcases hb with hb|⟨_,hb⟩
  .exact⟨rfl,.inl hb⟩
  .exact⟨rfl,.inr hb⟩
 cases e<;>cases r<;>first|exact re.elim|exact Lb.ok hS0 re hl
theorem FN.FP(k:FN E f args e):FP E f args e:=fun S h us hS ha=>by
 obtain⟨r,h',e1,h1,h2,re⟩:=k S h us hS ha;refine⟨r,h',e1,h1,h2,re.mono fun v u hv=>hv.mono (fun p b hb=>?_) fun _ _ _ _ _ _ _ hr=>hr⟩;obtain⟨rfl,hb|hb⟩:=hb
 .exact .inl hb
 .exact .inr ⟨rfl,hb⟩
theorem zEy(hF:E.funcs.get f=some F)(hn:args.length<=F.N)(hW:W E E.caught none F.body ⟨zn args,[],[]⟩ (zev E F fun e' H=>zbp H 0 e' e)):FP E f args e:=zFD (zwk hF hn hW)
theorem zEH(hF:E.funcs.get f=some F)(hn:args.length<=F.N)(hl:LbE e)(hW:W E E.caught none F.body ⟨zn args,[],[]⟩ (zev E F fun e' H=>zbp H 0 e' e)):FN E f args e:=(zEy hF hn hW).stays hl
variable {E:Env}{caught:LH}
variable {f:TV->TV->Bool}
def dpF:Nat->PV->Bool
 | 0,_=>false
 | n+1,v=>match v with
  | .bad=>false
  | .iface _ v=>dpF n v
  | .fn _ l=>l.all (dpF n)
  | .agg l=>l.all (dpF n)
  | .tuple l=>l.all (dpF n)
  | _=>true
theorem zpN:∀l:LN,zeO l l=true
 | []=>rfl
 | a::l=>by unfold zeO;rw[zb6 rfl];exact zpN l
theorem zz8(n:Int):zjb n n=true:=by rw[zdM];simp
theorem zkv:∀{l:LK},(∀x∈l,f x x=true)->znw f l l=true
 | [],_=>rfl
 | a::l,h=>by unfold znw;rw[h a (by simp)];exact zkv fun x hx=>h x (zAQ9 _ hx)
theorem zon{R:PV->TV->Prop}{p:PV->Bool}(hR:∀v u,R v u->p v=true->f u u=true){l:LQ}{cs:LK}(k:LR R l cs)(hp:l.all p=true):∀x∈cs,f x x=true:=fun x hx=>by
 obtain⟨i,hi,rfl⟩:=zBN9.1 hx;have hi2:i<l.length:=by rw[k.1];exact hi
 exact hR _ _ (k.2 i _ _ (zAA9 hi2) (zAA9 hi)) (zBV9.1 hp _ (zBK9 hi2))
theorem zmk:∀{n:Nat} {v:PV} {u:TV},VR c h v u->dpF n v=true->TV.beq n u u=true
 | 0,v,u,k,hd=>by cases hd
 | n+1,v,u,k,hd=>by
  cases v with
  | bad=>exact k.bad_inv.elim
  | bool b=>obtain rfl:=k.bool_inv;cases b<;>rfl
  | int kk m=>obtain rfl:=k.int_inv;simp only[TV.beq,zwd];rw[zb6 rfl];exact zz8 m
  | str s=>obtain rfl:=k.str_inv;exact zpN s
  | nilptr=>cases k with|pure k=>cases k;rfl
  | nilsl=>cases k with|pure k=>cases k;rfl
  | nilmap=>cases k with|pure k=>cases k;rfl
  | nilfn=>cases k with|pure k=>cases k;rfl
  | niliface=>cases k with|pure k=>cases k;rfl
  | list p z l =>
   rcases zfk k with⟨_,rfl⟩|⟨b,g,o,q,ds,rfl,_⟩
   .rfl
   .simp only[TV.beq,zt0];simp_all
  | elem l =>
   obtain⟨p,b,g,o,ds,_,rfl,_⟩:=zhk k;simp only[TV.beq,zpK];simp_all
  | sl id g o m q z =>
   rcases sl_inv k with⟨_,_,_,_,rfl,_⟩|⟨b,d,g',_,_,rfl⟩
   .rfl
   .simp only[TV.beq,zt0];simp_all
  | ptr id g i o m =>
   obtain⟨b,d,z,g',_,_,rfl⟩:=zf7 k;simp only[TV.beq,zpK];simp_all
  | map id=>obtain⟨b,d,z,_,rfl⟩:=zhF k;exact zb6 rfl
  | yield id=>cases k with|pure k=>cases k|yield _=>exact zb6 rfl
  | iface t w =>
   obtain⟨u',rfl,h1⟩:=k.iface_inv;simp only[TV.beq,zo9];rw[zb6 rfl];exact zmk h1 hd
  | fn f l =>
   obtain⟨cs,rfl,h1⟩:=k.fn_inv;simp only[TV.beq,zzT];rw[zb6 rfl];exact zkv (zon (R:=VR c h) (f:=TV.beq n) (p:=dpF n) (fun v u k hp=>zmk k hp) h1 hd)
  | agg l =>
   obtain⟨cs,rfl,h1⟩:=k.agg_inv;exact zkv (zon (R:=VR c h) (f:=TV.beq n) (p:=dpF n) (fun v u k hp=>zmk k hp) h1 hd)
  | tuple l =>
   obtain⟨cs,rfl,h1⟩:=k.tuple_inv;exact zkv (zon (R:=VR c h) (f:=TV.beq n) (p:=dpF n) (fun v u k hp=>zmk k hp) h1 hd)
def evN(tm nm:Nat->PV):TOp->LX
 | .tmp t=>okv (tm t)
 | .new t=>okv (nm t)
 | .const u=>ofC 4 u
 | .fn f=>some (.fn f [])
def zbt(tm nm:Nat->PV):LY->Option (LQ)
 | []=>some []
 | x::l=>match evN tm nm x with
  | none=>none
  | some v=>match zbt tm nm l with
   | none=>none
   | some vs=>some (v::vs)
def zab(tm nm:Nat->PV):Option (TOp×Bool)->AN
 | none=>some true
 | some (x,b)=>zaF b (evN tm nm x)
def nmR(c:Cx)(h:TH)(nm:Nat->PV)(t:LA):Prop:=∀i,(nm i=.bad/\t.get i=none)\/∃u,t.get i=some u/\VR c h (nm i) u
theorem nmR.mono{c':Cx}{h':TH}(m:Mo c c' h h'){nm:Nat->PV}{t:LA}(k:nmR c h nm t):nmR c' h' nm t:=fun i=>by
 rcases k i with k|⟨u,u1,u2⟩
 .grind
 .exact .inr ⟨u,u1,u2.mono m⟩
def zeF(a b:LA):Prop:=∀i u,a.get i=some u->b.get i=some u
section operands
variable {c:Cx}{h:TH}{tm nm:Nat->PV}{t n:LA}
theorem zv0(k:tmR c h tm t)(kn:nmR c h nm n){x:TOp}(hx:evN tm nm x=some v):∃u,(∀n',zeF n n'->zh7 t n' x=some u)/\VR c h v u:=by
 cases x with
 | tmp i =>
  obtain⟨h1,h2⟩:=zpB hx;rcases k i with h3|⟨u,u1,u2⟩
  .grind
  .exact⟨u,fun _ _=>u1,by rw[<- h1];exact u2⟩
 | new i =>
  obtain⟨h1,h2⟩:=zpB hx;rcases kn i with⟨h3,_⟩|⟨u,u1,u2⟩
  .grind
  .exact⟨u,fun n' hn=>hn _ _ u1,by rw[<- h1];exact u2⟩
 | const u=>exact⟨u,fun _ _=>rfl,zj3 hx⟩
 | fn f=>cases hx;exact⟨_,fun _ _=>rfl,VR.fnL LR.nil⟩
theorem zlv(k:tmR c h tm t)(kn:nmR c h nm n):∀{l:LY} {vs:LQ},zbt tm nm l=some vs->∃us,(∀n',zeF n n'->zeG t n' l=some us)/\LR (VR c h) vs us
 | [],vs,hv=>by cases hv;exact⟨[],fun _ _=>rfl,LR.nil⟩
 | x::l,vs,hv=>by
  unfold zbt at hv
  split at hv
  .cases hv
  .rename_i v hx
   split at hv
   .cases hv
   .rename_i ws hw
    cases hv
    obtain⟨u,u1,u2⟩:=zv0 k kn hx;obtain⟨us,w1,w2⟩:=zlv k kn hw;refine⟨u::us,fun n' hn=>?_,LR.cons u2 w2⟩;unfold zeG
    grind
theorem ziw(k:tmR c h tm t)(kn:nmR c h nm n){g:Option (TOp×Bool)}{b:Bool}(hg:zab tm nm g=some b):∀n',zeF n n'->zfR t n' g=some b:=fun n' hn=>by
 cases g with
 | none=>exact hg
 | some x =>
  obtain⟨x,b'⟩:=x;change zaF b' (evN tm nm x)=some b at hg;unfold zaF at hg
  split at hg
  .rename_i cc hx;obtain⟨u,u1,u2⟩:=zv0 k kn hx;obtain rfl:=u2.bool_inv;show ziS b' (zh7 t n' x)=some b;unfold ziS
   grind
  .rename_i hx;obtain⟨u,u1,u2⟩:=zv0 k kn hx;obtain⟨cs,rfl,_⟩:=u2.tuple_inv;show ziS b' (zh7 t n' x)=some b;rw[u1 n' hn];exact hg
  grind
end operands
structure DF where
 nm:Nat->PV
 df:AK
 H:LP
 K:List (zbP×LN)
def Ent(c:Cx)(h:TH)(t n:LA)(e:zbP×LN):Prop :=
 ∀c' h' n' df',Mo c c' h h'->(∀id∈e.2,∀x,c.ρ id=some x->h'.get x.1=h.get x.1)->zeF n n'->ziT t ⟨n',df',h'⟩ e.1=true
structure DSR(B:Ba)(c:Cx)(tm:Nat->PV)(t:LA)(s:DF)(d:DS):Prop where
 hr:HR B c s.H d.h
 tm:tmR c d.h tm t
 nm:nmR c d.h s.nm d.nm
 df:dfR c d.h s.df d.df
 K:∀e∈s.K,Ent c d.h t d.nm e
theorem zeF.refl(a:LA):zeF a a:=fun _ _ h=>h
theorem Ent.move{c':Cx}{h':TH}{t n n':LA}{e:zbP×LN}(k:Ent c h t n e)(m:Mo c c' h h')(hd:∀id∈e.2,∀x,c.ρ id=some x->h'.get x.1=h.get x.1)(hn:zeF n n'):Ent c' h' t n' e :=
 fun c2 h2 n2 df2 m2 hd2 hn2=>k c2 h2 n2 df2 (m.trans m2) (fun id hi x hx=>by rw[hd2 id hi x (m.ρ _ _ hx),hd id hi x hx]) fun i u hu=>hn2 _ _ (hn _ _ hu)
def zbF(k:zaf)(vs:LQ):LN:=match k,vs with
 | .load ..,[.ptr id _ _ _ _]=>[id]
 | .look ..,[.map id,_]=>[id]
 | .len _,[.map id]=>[id]
 | .tostr,[.sl id _ _ _ _ _]=>[id]
 | _,_=>[]
theorem zCs{kind:zaf}{u:TV}(k:HR B c H h)(hv:LR (VR c h) vs us)(hf:zbu H kind vs=some v)(hp:pas kind us h=some u){c':Cx}{h':TH}(m:Mo c c' h h')(hd:∀id∈zbF kind vs,∀x,c.ρ id=some x->h'.get x.1=h.get x.1):pas kind us h'=some u:=by
 cases kind<;>first|exact hp|skip
 case tostr =>
  simp only[zbu,zah]at hf
  split at hf
  .rename_i x;obtain⟨y,cs',rfl,h1,h2⟩:=hv.oc;obtain rfl:=h2.oN
   cases x<;>first|(simp[zbC]at hf;done)|skip
   .obtain rfl:y=.nilsl:=by cases h1 with|pure h1=>cases h1;rfl
    exact hp
   .rename_i p z l;rcases zfk h1 with⟨rfl,rfl⟩|⟨b,g,o,q,ds,rfl,s1,s2,s3,s4⟩
    .exact hp
    .by_cases hz:z=1
     .subst hz;rw[zGH9]at s2;simp only[pas,zcY,zhT]at hp⊢;rw[s2]at hp;rw[m.rd _ _ s1 _ _ _ _ s2];exact hp
     .simp only[pas,zcY,zhT]at hp;grind
   .rename_i id g o n q z;rcases sl_inv h1 with⟨rfl,rfl,rfl,rfl,rfl,_⟩|⟨b,d,g',s1,rfl,rfl⟩
    .exact hp
    .have hb:=hd id (by simp[zbF]) _ s1;dsimp only at hb;have e:∀n,zb0 h' b g' (o*z) n=zb0 h b g' (o*z) n:=fun n=>by simp only[zb0,hb]
     simp only[pas,zcY,zhT]at hp⊢
     split at hp
     .rename_i e1;cases e1
     .rename_i e1;injection e1 with e1 e2 e3 e4 e5 e6;subst e1 e2 e3 e4 e5 e6;rw[e];exact hp
     .cases hp
  grind
 case load agg n =>
  simp only[zbu,zaz]at hf
  split at hf
  .rename_i cs;obtain⟨y,cs',rfl,h1,h2⟩:=hv.oc;obtain rfl:=h2.oN;obtain⟨p,b,g,o,ds,s1,rfl,s2,s3⟩:=zhk h1;simp only[pas,zcY,zhZ]at hp⊢
   split at hf
   .rename_i hn;have s4:=zgd s2 (k:=0) (m:=n) zo;rw[zDC9]at s4;rw[s4]at hp;rw[m.rd _ _ s1 _ _ _ _ s4];exact hp
   .cases hf
  .rename_i id g i o mm;obtain⟨y,cs',rfl,h1,h2⟩:=hv.oc;obtain rfl:=h2.oN;obtain⟨b,d,z,g',s1,rfl,rfl⟩:=zf7 h1;have hb:=hd id (by simp[zbF]) _ s1;dsimp only at hb;simp only[pas,zcY,zhZ,zb0]at hp⊢;rw[hb];exact hp
  .cases hf
 case look kf zero ok =>
  simp only[zbu,zaJ]at hf
  split at hf
  .rename_i id kk x;obtain⟨y,cs',rfl,h1,h2⟩:=hv.oc;obtain⟨y',cs'',rfl,h3,h4⟩:=h2.oc;obtain rfl:=h4.oN;obtain⟨b,d,z,s1,rfl⟩:=zhF h1;have hb:=hd id (by simp[zbF]) _ s1;dsimp only at hb;simp only[pas,zdh,zji]at hp⊢;rw[hb];exact hp
  .rename_i id x;obtain⟨y,cs',rfl,h1,h2⟩:=hv.oc;obtain⟨y',cs'',rfl,h3,h4⟩:=h2.oc;obtain rfl:=h4.oN;obtain⟨b,d,z,s1,rfl⟩:=zhF h1;have hb:=hd id (by simp[zbF]) _ s1;dsimp only at hb;simp only[pas,zdh,zji]at hp⊢;rw[hb];exact hp
  .obtain⟨y,cs',rfl,h1,h2⟩:=hv.oc;obtain⟨y',cs'',rfl,h3,h4⟩:=h2.oc;obtain rfl:=h4.oN;obtain rfl:y=.nilmap:=by cases h1 with|pure h1=>cases h1;rfl
   exact hp
  .cases hf
 case len f =>
  simp only[zbu,zbI]at hf
  split at hf
  .exact hp
  .exact hp
  .cases hf
def zbq(nm:Nat->PV)(d:LC)(v:PV):Option (Nat->PV):=match d with
 | none=>some nm
 | some d=>match nm d with
  | .bad=>some (upd nm d v)
  | _=>none
theorem zor{nm nm':Nat->PV}{n:LA}(k:nmR c h nm n){d:LC}{u:TV}(hv:VR c h v u)(hs:zbq nm d v=some nm'):∃n',zhV n d u=some n'/\zeF n n'/\nmR c h nm' n'/\(∀e,d=some e->n'.get e=some u):=by
 cases d with
 | none=>simp only[zbq]at hs;cases hs;exact⟨n,rfl,zeF.refl _,k,fun e he=>by cases he⟩
 | some d =>
  simp only[zbq]at hs
  split at hs
  .rename_i hb
   cases hs
   have hn:n.get d=none:=by
    rcases k d with⟨_,h1⟩|⟨u',_,u2⟩
    .exact h1
    .rw[hb]at u2;exact u2.bad_inv.elim
   refine⟨n.set d (some u),by unfold zhV;grind,fun i w hw=>?_,fun i=>?_,fun e he=>?_⟩
   .rw[Tr.get_set,if_neg (fun e=>by grind)];exact hw
   .unfold upd;rw[Tr.get_set]
    by_cases e:i=d
    .grind
    .rw[if_neg e,if_neg e];exact k i
   .cases he;rw[Tr.get_set,if_pos rfl]
  grind
def zaR:zc->Bool
 | .row _ _ _ _ l=>l.all fun v=>v.cells.all (dpF 4)
 | .map0=>true
 | _=>false
def zaO(tm:Nat->PV)(o:zbP)(s:DF):Option DF :=
 match zab tm s.nm o.guard with
 | none=>none
 | some false=>(match zbq s.nm o.dst (.tuple [])with
  | some nm=>some ⟨nm,s.df,s.H,(o,[])::s.K⟩
  | none=>none)
 | some true=>match zbt tm s.nm o.args with
  | none=>none
  | some vs=>match o.kind.cls with
   | 0=>(match zbu s.H o.kind vs with
    | some v=>if o.dst.isSome=true/\dpF 4 v=true then(match zbq s.nm o.dst v with
     | some nm=>some ⟨nm,s.df,s.H,(o,zbF o.kind vs)::s.K⟩
     | none=>none)else none
    | none=>none)
   | 1=>(match zbz s.H.length o.kind vs with
    | some (ob,v)=>if o.dst.isSome=true/\zaR ob=true/\dpF 4 v=true then(match zbq s.nm o.dst v with
     | some nm=>some ⟨nm,s.df,s.H++[ob],(o,[s.H.length])::s.K⟩
     | none=>none)else none
    | none=>none)
   | _=>none
variable {d:Nat}{df:AT}{n:LA}{o:zbP}{tm:Nat->PV}
def zaC(tm:Nat->PV):LS->DF->Option DF
 | [],s=>some s
 | o::l,s=>match zaO tm o s with
  | some s=>zaC tm l s
  | none=>none
theorem zqo{t:LA}:∀{n i:Nat},(∀j,i<=j->j<i+n->∃y,t.get j=some y/\TV.beq 4 y y=true)->zok i n t t=true
 | 0,_,_=>rfl
 | n+1,i,h=>by
  obtain⟨y,y1,y2⟩:=h i (zAE9 _) zo;unfold zok;rw[y1];dsimp only;rw[y2];exact zqo fun j h1 h2=>h j zo zo
theorem zET(k:HR B c H h){id z:Nat}{ob:zc}(hH:H[id]?=some ob)(hd:zaR ob=true)(hρ:c.ρ id=some (b,d,z)){x:TO}(hx:h.get b=some x):zru x x=true:=by
 cases ob with
 | row e z' G M l =>
  obtain⟨rfl,G',M',cells,cs,r1,r2,r3,r4,r5⟩:=zgI k hH hρ;rw[hx]at r1;cases r1
  simp only[zru,zb6 rfl,cond_true];refine zqo fun j _ hj=>?_;rw[zBS9]at hj;obtain⟨t1,t2⟩:=Tr.getL_some r4;have hj2:j<cs.length:=by rw[t1];exact hj
  have t3:=t2 j hj;rw[zBS9,zAA9 hj2]at t3;refine⟨cs[j],t3.symm,?_⟩;have hall:(l.flatMap PV.cells).all (dpF 4)=true:=by
   rw[zBV9];intro y hy;obtain⟨w,w1,w2⟩:=zAU9.1 hy;exact zBV9.1 (zBV9.1 hd w w1) y w2
  exact zon (R:=VR c h) (f:=TV.beq 4) (p:=dpF 4) (fun v u k hp=>zmk k hp) r5.all hall _ (zBK9 hj2)
 | map0 =>
  obtain⟨b',d',z',clock,s1,s2⟩:=k.obj _ _ hH;rw[hρ]at s1;injection s1 with s1;injection s1 with s1 _;subst s1;rw[hx]at s2;cases s2
  exact zb6 rfl
 | _=>cases hd
theorem zDn{t:LA}{u:TV}(hw:zfR t n o.guard=some true)(hd:o.dst=some d)(ha:zeG t n o.args=some us)(hn:n.get d=some u)(hc:o.kind.cls=0)(hp:pas o.kind us h=some u)(hb:TV.beq 4 u u=true):ziT t ⟨n,df,h⟩ o=true:=by
 unfold ziT;dsimp only;rw[hw];dsimp only;unfold zuc;rw[hd];dsimp only;rw[ha];dsimp only;rw[hn];unfold zt6;dsimp only;rw[hc]
 try dsimp only
 unfold zt8
 grind
theorem zCI{t:LA}{x:zd7}(hw:zfR t n o.guard=some true)(hd:o.dst=some d)(ha:zeG t n o.args=some us)(hn:n.get d=some x.v)(hc:o.kind.cls=1)(hbl:zfE x.v=some b)(hp:lay o.kind us b=some x)(hg:h.get b=some x.o)(hb:TV.beq 4 x.v x.v=true)(ho:zru x.o x.o=true):ziT t ⟨n,df,h⟩ o=true:=by
 unfold ziT;dsimp only;rw[hw];dsimp only;unfold zuc;rw[hd];dsimp only;rw[ha];dsimp only;rw[hn];unfold zt6;dsimp only;rw[hc]
 try dsimp only
 unfold zt3
 grind
theorem zrC{t:LA}{s s':DF}{d:DS}(k:DSR B c tm t s d)(hs:zaO tm o s=some s'):∃c' d',znI t o d=some d'/\Mo c c' d.h d'.h/\DSR B c' tm t s' d':=by
 unfold zaO at hs
 split at hs
 .cases hs
 .rename_i hw;have hw':=ziw k.tm k.nm hw
  split at hs
  .rename_i nm' hn
   cases hs
   obtain⟨n',n1,n2,n3,n4⟩:=zor k.nm (VR.tL LR.nil) hn;refine⟨c,⟨n',d.df,d.h⟩,?_,Mo.refl _ _,k.hr,k.tm,n3,k.df,fun e he=>?_⟩
   .unfold znI;rw[hw' _ (zeF.refl _)];dsimp only;rw[n1];rfl
   .rcases zBA9.1 he with rfl|he
    .intro c2 h2 nn df2 m2 hd2 hn2;unfold ziT;dsimp only;rw[hw' nn fun i u hu=>hn2 _ _ (n2 _ _ hu)]
    .exact(k.K e he).move (Mo.refl _ _) (fun _ _ _ _=>rfl) n2
  grind
 .rename_i hw;have hw':=ziw k.tm k.nm hw
  split at hs
  .cases hs
  .rename_i vs hvs;obtain⟨us,u1,u2⟩:=zlv k.tm k.nm hvs;have e0:znI t o d=zvd t o d:=by unfold znI;rw[hw' _ (zeF.refl _)]
   split at hs
   .rename_i hcls
    split at hs
    .rename_i v hp
     split at hs
     .rename_i hc;obtain⟨hc1,hc2⟩:=hc;obtain⟨dd,hdd⟩:=Option.isSome_iff_exists.1 hc1
      split at hs
      .rename_i nm' hn
       cases hs
       obtain⟨u,p1,p2⟩:=zra k.hr u2 hp;obtain⟨n',n1,n2,n3,n4⟩:=zor k.nm p2 hn;refine⟨c,⟨n',d.df,d.h⟩,?_,Mo.refl _ _,k.hr,k.tm,n3,k.df,fun e he=>?_⟩
       .rw[e0];simp only[zvd,u1 _ (zeF.refl _),hcls,p1,zDV,n1];rfl
       .rcases zBA9.1 he with rfl|he
        .intro c2 h2 nn df2 m2 hd2 hn2;exact zDn (hw' nn fun i u hu=>hn2 _ _ (n2 _ _ hu)) hdd (u1 nn fun i u hu=>hn2 _ _ (n2 _ _ hu)) (hn2 _ _ (n4 _ hdd)) hcls (zCs k.hr u2 hp p1 m2 hd2) (zmk p2 hc2)
        .exact(k.K e he).move (Mo.refl _ _) (fun _ _ _ _=>rfl) n2
      grind
     grind
    grind
   .rename_i hcls
    split at hs
    .rename_i ob v hp
     split at hs
     .rename_i hc;obtain⟨hc1,hc2,hc3⟩:=hc;obtain⟨dd,hdd⟩:=Option.isSome_iff_exists.1 hc1
      split at hs
      .rename_i nm' hn
       cases hs
       obtain⟨x,c',p1,p2,p3,p4,⟨z,p5⟩,p6⟩:=zqE k.hr u2 hp;obtain⟨n',n1,n2,n3,n4⟩:=zor (k.nm.mono p2) p4 hn;have hkeep:∀b,b<d.h.next->(d.h.push x.o).get b=d.h.get b:=fun b hb=>by rw[TH.gP,if_neg zo]
       have hnew:(d.h.push x.o).get d.h.next=some x.o:=by rw[TH.gP,if_pos rfl]
       refine⟨c',⟨n',d.df,d.h.push x.o⟩,?_,p2,p3,k.tm.mono p2,n3,k.df.mono p2,fun e he=>?_⟩
       .rw[e0];unfold zvd;rw[u1 _ (zeF.refl _)];dsimp only;rw[hcls];(try dsimp only);rw[p1];unfold zCK;dsimp only;rw[n1];rfl
       .rcases zBA9.1 he with rfl|he
        .intro c2 h2 nn df2 m2 hd2 hn2;have hg2:=hd2 s.H.length (by simp) _ p5;dsimp only at hg2;rw[hnew]at hg2;exact zCI (hw' nn fun i u hu=>hn2 _ _ (n2 _ _ hu)) hdd (u1 nn fun i u hu=>hn2 _ _ (n2 _ _ hu)) (hn2 _ _ (n4 _ hdd)) hcls p6 p1 hg2 (zmk p4 hc3) (zET p3 (List.getElem?_concat_length ..) hc2 p5 hnew)
        .exact(k.K e he).move p2 (fun id _ y hy=>hkeep _ (k.hr.own _ _ hy).2.1) n2
      grind
     grind
    grind
   grind
theorem zgQ{t:LA}:∀{ops:LS} {c:Cx} {s s':DF} {d:DS},DSR B c tm t s d->zaC tm ops s=some s'->∃c' d',zkH t ops d=some d'/\Mo c c' d.h d'.h/\DSR B c' tm t s' d'
 | [],c,s,s',d,k,hs=>by cases hs;exact⟨c,d,rfl,Mo.refl _ _,k⟩
 | o::l,c,s,s',d,k,hs=>by
  unfold zaC at hs
  split at hs
  .rename_i s1 h1;obtain⟨c1,d1,e1,m1,k1⟩:=zrC k h1;obtain⟨c2,d2,e2,m2,k2⟩:=zgQ k1 hs;exact⟨c2,d2,by unfold zkH;grind,m1.trans m2,k2⟩
  grind
def zbH:List (zbP×LN)->zbP->Prop
 | [],_=>False
 | e::K,o=>if e.1.dst=o.dst then e.1=o else zbH K o
def zbn(K:List (zbP×LN)):LS->Prop
 | []=>True
 | o::l=>zbH K o/\zbn K l
theorem zvB:∀{K:List (zbP×LN)} {o:zbP},zbH K o->∃e∈K,e.1=o
 | [],_,h=>h.elim
 | e::K,o,h=>by
  unfold zbH at h
  split at h
  .grind
  .obtain⟨e',h1,h2⟩:=zvB h;grind
theorem zlk{t:LA}{s:DF}{d:DS}(k:DSR B c tm t s d):∀{l:LS},zbn s.K l->ziG t d l=true
 | [],_=>rfl
 | o::l,h=>by
  obtain⟨e,he,rfl⟩:=zvB h.1;unfold ziG;rw[k.K e he c d.h d.nm d.df (Mo.refl _ _) (fun _ _ _ _=>rfl) (zeF.refl _)];exact zlk k h.2
def zaK(W:LN)(K:List (zbP×LN)):List (zbP×LN):=K.filter fun e=>e.2.all fun id=>!W.contains id
def WD(E:Env)(caught:LH)(tm:Nat->PV)(gs:AI)(s:DF)(Q:FX->DF->Prop):Prop :=
 ∀B c t d,DSR B c tm t s d->∃r x s' c' d',Ev E (fun C _=>zd5 C caught t gs d=some r)/\Q x s'/\Mo c c' d.h d'.h/\DSR B c' tm t s' d'/\((x=.norm/\r=.go d')\/∃v u,x=.panic v/\r=.panic u d'.df d'.h/\VR c' d'.h v u)
variable {tm:Nat->PV}{s:DF}{Q:FX->DF->Prop}
variable {g:zdp}{l:AI}{nm':Nat->PV}{s1:DF}
theorem zb4(h:Q .norm s):WD E caught tm [] s Q:=fun B c t d k=>⟨.go d,.norm,s,c,d,Ev.all fun _ _=>rfl,h,Mo.refl _ _,k,.inl ⟨rfl,rfl⟩⟩
theorem DSR.dput{c':Cx}{t:LA}{d:DS}(k:DSR B c tm t s d){H':LP}{h':TH}{K':List (zbP×LN)}(m:Mo c c' d.h h')(hr:HR B c' H' h'){u:TV}(hv:VR c' h' v u){dst:LC}(hn:zbq s.nm dst v=some nm')(hK:∀n',zeF d.nm n'->∀e∈K',Ent c' h' t n' e):∃n',zhV d.nm dst u=some n'/\DSR B c' tm t ⟨nm',s.df,H',K'⟩ ⟨n',d.df,h'⟩:=by
 obtain⟨n',n1,n2,n3,n4⟩:=zor (k.nm.mono m) hv hn;exact⟨n',n1,hr,k.tm.mono m,n3,k.df.mono m,hK n' n2⟩
theorem zxj(hc:zbn s.K g.chk)(hx:zaC tm g.exe s=some s1)(ha:g.act=none)(k:WD E caught tm l s1 Q):WD E caught tm (g::l) s Q:=fun B c t d hd=>by
 obtain⟨c1,d1,e1,m1,k1⟩:=zgQ hd hx;obtain⟨r,x,s',c',d',e2,q2,m2,k2,h2⟩:=k B c1 t d1 k1;refine⟨r,x,s',c',d',e2.mono fun C N e=>?_,q2,m1.trans m2,k2,h2⟩;unfold zd5;rw[zlk hd hc,e1]
 grind
theorem zGP{a:AR}(hc:zbn s.K g.chk)(hx:zaC tm g.exe s=some s1)(ha:g.act=some o)(hw:zab tm s1.nm o.guard=some true)(hv:zbt tm s1.nm o.args=some vs)(hf:zbD s1.H o.kind vs=some a)(hn:zbq s1.nm o.dst a.v=some nm')(k:WD E caught tm l ⟨nm',s1.df,a.H,zaK a.W s1.K⟩ Q):WD E caught tm (g::l) s Q:=fun B c t d hd=>by
 obtain⟨c1,d1,e1,m1,k1⟩:=zgQ hd hx;obtain⟨us,u1,u2⟩:=zlv k1.tm k1.nm hv;have hw':=ziw k1.tm k1.nm hw _ (zeF.refl _);obtain⟨u,h',c2,p1,p2⟩:=zqm (C:=⟨fun _ _ _=>none,fun _ _ _=>none⟩) (caught:=caught) k1.hr u2 hf;have hsame:∀C,act C caught o.kind us d1.h=some (.ok u h'):=fun C=>by
  rw[<- p1];unfold zbD at hf
  split at hf
  .rename_i e;rw[e];rfl
  .rename_i e;rw[e];rfl
  .rename_i e;rw[e];rfl
  .rename_i e;rw[e];rfl
  .rename_i e;rw[e];rfl
  grind
 obtain⟨n',n1,k2⟩:=k1.dput (K':=zaK a.W s1.K) p2.mo p2.hr p2.v hn fun n' hm e he=>by
  obtain⟨he1,he2⟩:=zDG9.1 he;refine(k1.K e he1).move p2.mo (fun id hi y hy=>p2.W id (fun hW=>?_) y hy) hm
  grind
 obtain⟨r,x,s',c',d',e2,q2,m2,k3,h2⟩:=k B c2 t _ k2;refine⟨r,x,s',c',d',e2.mono fun C N e=>?_,q2,(m1.trans p2.mo).trans m2,k3,h2⟩;unfold zd5;rw[zlk hd hc,e1];dsimp only[cond_true];rw[ha];dsimp only;unfold znA;rw[hw'];dsimp only;rw[u1 _ (zeF.refl _)];dsimp only;rw[hsame C];simp only[zmJ,Tw.dput,n1,dgo];exact e
theorem zfw(hc:zbn s.K g.chk)(hx:zaC tm g.exe s=some s1)(ha:g.act=some o)(hw:zab tm s1.nm o.guard=some false)(hn:zbq s1.nm o.dst (.tuple [])=some nm')(k:WD E caught tm l ⟨nm',s1.df,s1.H,s1.K⟩ Q):WD E caught tm (g::l) s Q:=fun B c t d hd=>by
 obtain⟨c1,d1,e1,m1,k1⟩:=zgQ hd hx;have hw':=ziw k1.tm k1.nm hw _ (zeF.refl _);obtain⟨n',n1,k2⟩:=k1.dput (K':=s1.K) (Mo.refl _ _) k1.hr (VR.tL LR.nil) hn fun n' hm e he=>(k1.K e he).move (Mo.refl _ _) (fun _ _ _ _=>rfl) hm;obtain⟨r,x,s',c',d',e2,q2,m2,k3,h2⟩:=k B c1 t _ k2;refine⟨r,x,s',c',d',e2.mono fun C N e=>?_,q2,m1.trans m2,k3,h2⟩;unfold zd5;rw[zlk hd hc,e1];dsimp only[cond_true];rw[ha];dsimp only;unfold znA;rw[hw'];simp only[Tw.dput,n1,dgo];exact e
def zaG(same:Bool)(K:List (zbP×LN)):List (zbP×LN):=if same then K else K.filter fun e=>e.2.isEmpty
def zyS(E:Env)(caught:LH)(tm:Nat->PV)(l:AI)(s:DF)(dst:LC)(same:Bool)(Q:FX->DF->Prop):FE->LP->Prop
 | .ret v,H'=>∃nm',zbq s.nm dst v=some nm'/\WD E caught tm l ⟨nm',s.df,H',zaG same s.K⟩ Q
 | .panic v,H'=>Q (.panic v) ⟨s.nm,s.df,H',zaG same s.K⟩
theorem zos{g:zdp}{l:AI}{s1:DF}{o:zbP}{f:Nat}{caps:LQ}{same:Bool}(hc:zbn s.K g.chk)(hx:zaC tm g.exe s=some s1)(ha:g.act=some o)(hk:o.kind=.call)(hw:zab tm s1.nm o.guard=some true)(hv:zbt tm s1.nm o.args=some (.fn f caps::vs))(k:FO E f (vs++caps) s1.H same (zyS E caught tm l s1 o.dst same Q)):WD E caught tm (g::l) s Q:=fun B c t d hd=>by
 obtain⟨c1,d1,e1,m1,k1⟩:=zgQ hd hx;obtain⟨us,u1,u2⟩:=zlv k1.tm k1.nm hv;obtain⟨u,us',rfl,u3,u4⟩:=u2.oc;obtain⟨cs,rfl,u5⟩:=u3.fn_inv;have hw':=ziw k1.tm k1.nm hw _ (zeF.refl _);obtain⟨r,h',e,H',c2,f1,q1,m2,hr2,re,hsm⟩:=k B c1 d1.h _ k1.hr (u4.app u5);have hK:∀n',zeF d1.nm n'->∀e∈zaG same s1.K,Ent c2 h' t n' e:=fun n' hm e he=>by
  unfold zaG at he
  split at he
  .rename_i hs;exact(k1.K e he).move m2 (fun id _ y hy=>hsm hs id y hy) hm
  .obtain⟨he1,he2⟩:=zDG9.1 he;refine(k1.K e he1).move m2 (fun id hi=>?_) hm
   grind
 have hst:∀C,C.fn f (us'++cs) d1.h=some (r,h')->zd5 C caught t (g::l) d=(match zmJ o.dst d1 (zn7 (some (r,h')))with
   | some (.go s)=>zd5 C caught t l s
   | r=>r):=fun C hC=>by
  conv=>lhs;unfold zd5
  rw[zlk hd hc,e1];dsimp only[cond_true];rw[ha];dsimp only;unfold znA;rw[hw'];dsimp only;rw[u1 _ (zeF.refl _)];dsimp only;rw[hk];simp only[act,zol]
  grind
 cases e with
 | ret v =>
  cases r with
  | panic u=>exact re.elim
  | ret u =>
   obtain⟨nm',hn,q1⟩:=q1;obtain⟨n',n1,k2⟩:=k1.dput (K':=zaG same s1.K) m2 hr2 (v:=v) (u:=u) re hn hK;obtain⟨r2,x,s',c',d',e2,q2,m3,k3,h2⟩:=q1 B c2 t _ k2;refine⟨r2,x,s',c',d',Ev.and2 (fun C N a b=>?_) f1 e2,q2,(m1.trans m2).trans m3,k3,h2⟩;rw[hst C a];simp only[zn7,zmJ,Tw.dput,n1,dgo];exact b
 | panic v =>
  cases r with
  | ret u=>exact re.elim
  | panic u =>
   refine⟨.panic u d1.df h',.panic v,⟨s1.nm,s1.df,H',zaG same s1.K⟩,c2,⟨d1.nm,d1.df,h'⟩,f1.mono fun C N a=>?_,q1,m1.trans m2,⟨hr2,k1.tm.mono m2,k1.nm.mono m2,k1.df.mono m2,hK _ (zeF.refl _)⟩,.inr ⟨v,u,rfl,rfl,re⟩⟩;rw[hst C a];rfl
def zaD(nm:Nat->PV):LN->(Nat->PV)->(Nat->PV)
 | [],tm=>tm
 | d::l,tm=>zaD nm l (upd tm d (nm d))
def zfB:LN->(Nat->PV)->(Nat->PV)
 | [],tm=>tm
 | d::l,tm=>zfB l (upd tm d .bad)
theorem zxt{nm:Nat->PV}{n:LA}(kn:nmR c h nm n):∀{ds:LN} {tm:Nat->PV} {t:LA},tmR c h tm t->tmR c h (zaD nm ds tm) (zl2 n ds t)
 | [],_,_,k=>k
 | d::l,tm,t,k=>by
  unfold zaD zl2;refine zxt kn fun i=>?_;unfold upd;rw[Tr.get_set]
  by_cases e:i=d
  .rw[if_pos e,if_pos e];rcases kn d with⟨h1,_⟩|h1
   all_goals grind
  .rw[if_neg e,if_neg e];exact k i
theorem zq0:∀{ds:LN} {tm:Nat->PV} {t:LA},tmR c h tm t->tmR c h (zfB ds tm) (zio ds t)
 | [],_,_,k=>k
 | d::l,tm,t,k=>by
  unfold zfB zio;refine zq0 fun i=>?_;unfold upd;rw[Tr.get_set]
  by_cases e:i=d
  .grind
  .rw[if_neg e,if_neg e];exact k i
@[reducible] def zby (ds:LN) (tm:Nat->PV) (Q:FX->FSt->Prop):FX->DF->Prop
 | .norm,s=>Q .norm ⟨zaD s.nm ds tm,s.df,s.H⟩
 | x,s=>Q x ⟨zfB ds tm,s.df,s.H⟩
theorem zaB{gs:AI}{ds:LN}{s:FSt}{Q:FX->FSt->Prop}(k:WD E caught s.tm gs ⟨fun _=>.bad,s.df,s.H,[]⟩ (zby ds s.tm Q)):W E caught rnd (.drawn gs ds) s Q:=fun B c t rnd' hs hn=>by
 obtain⟨r,x,s',c',d',e1,q1,m1,k1,h2⟩:=k B c t.tm ⟨.nil,t.df,t.h⟩ ⟨hs.hr,hs.tm,fun i=>.inl ⟨rfl,Tr.get_nil i⟩,hs.df,fun e he=>by cases he⟩;rcases h2 with⟨rfl,rfl⟩|⟨v,u,rfl,rfl,hv⟩
 .exact⟨.norm,⟨zl2 d'.nm ds t.tm,d'.df,d'.h⟩,.norm,_,c',e1.mono fun C N e=>by unfold zbX;rw[e];rfl,q1,.norm,m1,⟨k1.hr,zxt k1.nm k1.tm,k1.df⟩⟩
 .exact⟨.panic u,⟨zio ds t.tm,d'.df,d'.h⟩,.panic v,_,c',e1.mono fun C N e=>by unfold zbX;rw[e];rfl,q1,.panic hv,m1,⟨k1.hr,zq0 k1.tm,k1.df⟩⟩
def FY(E:Env)(id:Nat)(args:LQ)(H:LP)(Q:Bool->LP->Prop):Prop :=
 ∀B c h us b d z,HR B c H h->c.ρ id=some (b,d,z)->LR (VR c h) args us->∃r h' H' c',Ev E (fun C _=>C.rd b us h=some (r,h'))/\Q r H'/\Mo c c' h h'/\HR B c' H' h'
theorem ztl{u:TV}(x:VR c h (.yield id) u):∃b d z,c.ρ id=some (b,d,z)/\u=.yield b:=by
 cases x with
 | pure x=>cases x
 | yield h=>grind
theorem zlT{d:LC}{args:LY}{g:Option (TOp×Bool)}{ops:LS}{s:FSt}{Q:FX->FSt->Prop}(hg:zaA s.tm g=some true)(ha:evs s.tm args=some (.yield id::vs))(k:FY E id vs s.H fun r H'=>WO E caught ops (FSt.put ⟨s.tm,s.df,H'⟩ d (.bool r)) Q):WO E caught (⟨d,.call,args,g⟩::ops) s Q:=fun B c t hs=>by
 have hw:=zgb hs.tm hg;obtain⟨us,u1,u2⟩:=zla hs.tm ha;obtain⟨u,us',rfl,u3,u4⟩:=u2.oc;obtain⟨b,d',z,hρ,rfl⟩:=ztl u3;obtain⟨r,h',H',c',e1,q1,m1,k1⟩:=k B c t.h _ _ _ _ hs.hr hρ u4;obtain⟨r2,x,s2,c2,t2,e2,q2,m2,k2,h2⟩:=q1 B c' ((⟨t.tm,t.df,h'⟩:St).put d (.bool r)) (hs.put m1 k1 (.pure (.bool r)) d);rw[put_h]at m2;refine⟨r2,x,s2,c2,t2,Ev.and2 (fun C N a b=>?_) e1 e2,q2,m1.trans m2,k2,h2⟩;unfold zf1 zhc;rw[hw,u1];simp only[zk2,zaf.cls,act,zol];rw[a];exact b
theorem zvV{g:zdp}{l:AI}{s1:DF}{o:zbP}(hc:zbn s.K g.chk)(hx:zaC tm g.exe s=some s1)(ha:g.act=some o)(hk:o.kind=.call)(hw:zab tm s1.nm o.guard=some true)(hv:zbt tm s1.nm o.args=some (.yield id::vs))(k:FY E id vs s1.H fun r H'=>∃nm',zbq s1.nm o.dst (.bool r)=some nm'/\WD E caught tm l ⟨nm',s1.df,H',zaG false s1.K⟩ Q):WD E caught tm (g::l) s Q:=fun B c t d hd=>by
 obtain⟨c1,d1,e1,m1,k1⟩:=zgQ hd hx;obtain⟨us,u1,u2⟩:=zlv k1.tm k1.nm hv;obtain⟨u,us',rfl,u3,u4⟩:=u2.oc;obtain⟨b,d',z,hρ,rfl⟩:=ztl u3;have hw':=ziw k1.tm k1.nm hw _ (zeF.refl _);obtain⟨r,h',H',c2,f1,⟨nm',hn,q1⟩,m2,hr2⟩:=k B c1 d1.h _ _ _ _ k1.hr hρ u4;have hK:∀n',zeF d1.nm n'->∀e∈zaG false s1.K,Ent c2 h' t n' e:=fun n' hm e he=>by
  obtain⟨he1,he2⟩:=zDG9.1 (show e∈s1.K.filter _ from he);refine(k1.K e he1).move m2 (fun id hi=>?_) hm
  grind
 obtain⟨n',n1,k2⟩:=k1.dput (K':=zaG false s1.K) m2 hr2 (v:=.bool r) (u:=.bool r) (.pure (.bool r)) hn hK;obtain⟨r2,x,s',c',d',e2,q2,m3,k3,h2⟩:=q1 B c2 t _ k2;refine⟨r2,x,s',c',d',Ev.and2 (fun C N a b=>?_) f1 e2,q2,(m1.trans m2).trans m3,k3,h2⟩;unfold zd5;rw[zlk hd hc,e1];dsimp only[cond_true];rw[ha];dsimp only;unfold znA;rw[hw'];dsimp only;rw[u1 _ (zeF.refl _)];dsimp only;rw[hk];simp only[act,zol];rw[a];simp only[zvn,zmJ,Tw.dput,n1,dgo];exact b
def zaH:LN->LQ->(Nat->PV)->(Nat->PV)
 | p::ps,v::vs,t=>zaH ps vs (upd t p v)
 | _,_,t=>t
theorem zxT:∀{ps:LN} {vs:LQ} {us:LK} {tm:Nat->PV} {t:LA},LR (VR c h) vs us->tmR c h tm t->tmR c h (zaH ps vs tm) (zjq ps us t)
 | [],vs,us,tm,t,hl,k=>by cases vs<;>cases us<;>exact k
 | p::ps,[],us,tm,t,hl,k=>by obtain rfl:=hl.oN;exact k
 | p::ps,v::vs,us,tm,t,hl,k=>by
  obtain⟨u,us',rfl,h1,h2⟩:=hl.oc;show tmR c h (zaH ps vs (upd tm p v)) (zjq ps us' (t.set p (some u)));exact zxT h2 (k.put h1)
def zHy(id:Nat)(Q:Bool->LP->Prop):FX->FSt->Prop
 | .norm,s=>s.df=[]/\∃st pe tm ps aS bo m,s.H[id]?=some (.loop st pe tm ps aS bo m)/\Q true (s.H.set id (.loop .ready .norm tm ps aS bo m))
 | .panic _,_=>False
 | x,s=>s.df=[]/\∃st pe tm ps aS bo m,s.H[id]?=some (.loop st pe tm ps aS bo m)/\Q false (s.H.set id (.loop .done x tm ps aS bo m))
variable {bo:zbS}{m:Nat}{pe:FX}{ps:LN}{st:LoopState}
theorem zl3(k:HR B c H h){aS:zbS}(hH:H[id]?=some (.loop st pe tm ps aS bo m))(hρ:c.ρ id=some (b,d,z)):
  ∃bm dm zm t pe',c.ρ m=some (bm,dm,zm)/\h.get b=some (.loop st pe' t ps aS bo bm)/\tmR c h tm t/\XR c h pe pe':=by
 obtain⟨b',d',z',bm,dm,zm,t,pe',h1,h2⟩:=k.obj _ _ hH
 grind
theorem zpd(k:HR B c H h){bm dm zm:Nat}(hρ:c.ρ id=some (b,d,z))(hv:¬H[id]?=some .void)(hm:c.ρ m=some (bm,dm,zm)){pe':TX}{t:LA}{aS:zbS}(ht:tmR c h tm t)(hp:XR c h pe pe'):
  Mo c c h (h.set b (.loop st pe' t ps aS bo bm))/\HR B c (H.set id (.loop st pe tm ps aS bo m)) (h.set b (.loop st pe' t ps aS bo bm)) :=
 k.set hρ hv fun mm=>⟨b,d,z,bm,dm,zm,t,pe',hρ,hm,by rw[TH.get_set _ _ _ _ (k.own _ _ hρ).2.1,if_pos rfl],ht.mono mm,hp.mono mm⟩
theorem zGJ(E:Env)(N:Nat):(EN E N).N=N:=rfl
theorem ziE{aS:zbS}{args:LQ}{Q:Bool->LP->Prop}(hH:H[id]?=some (.loop st pe tm ps aS bo m))(hl:ps.length=args.length)(kW:W E .nil (some id) aS ⟨zaH ps args tm,[],H⟩ fun x s1=>x=.norm/\∃pe1 tm1 ps1 as1 bo1 m1,s1.H[id]?=some (.loop .ready pe1 tm1 ps1 as1 bo1 m1) /\
   W E .nil (some id) bo ⟨s1.tm,s1.df,s1.H.set id (.loop .busy pe1 tm1 ps1 as1 bo1 m1)⟩ (zHy id Q)):FY E id args H Q:=fun B c h us b d z hr hρ ha=>by
 obtain⟨bm,dm,zm,t,pe',hm,hg,ht,hp⟩:=zl3 hr hH hρ;obtain⟨x',t1,x,s1,c1,e1,⟨rfl,pe1,tm1,ps1,as1,bo1,m1,hH1,kW2⟩,hx,mo1,k1⟩:=kW B c ⟨zjq ps us t,[],h⟩ (some b) ⟨hr,zxT ha ht,trivial⟩ ⟨d,z,hρ⟩
 cases hx
 have hρ1:=mo1.ρ _ _ hρ;obtain⟨bm1,dm1,zm1,tt1,pe1',hm1,hg1,ht1,hp1⟩:=zl3 k1.hr hH1 hρ1;obtain⟨mo2,hr2⟩:=zpd k1.hr (st:=.busy) (ps:=ps1) (aS:=as1) (bo:=bo1) hρ1 (fun e=>by grind) hm1 ht1 hp1;obtain⟨x',t3,x,s3,c3,e3,q3,hx,mo3,k3⟩:=kW2 B c1 ⟨t1.tm,t1.df,t1.h.set b (.loop .busy pe1' tt1 ps1 as1 bo1 bm1)⟩ (some b) ⟨hr2,k1.tm.mono mo2,k1.df.mono mo2⟩ ⟨d,z,hρ1⟩;have hρ3:=mo3.ρ _ _ hρ1;have run:∀r h',zmw b (some (x',t3))=some (r,h')->Ev E (fun C _=>C.rd b us h=some (r,h')):=fun r h' hre=>by
  obtain⟨K,hK⟩:=e1;obtain⟨L,hL⟩:=e3;refine⟨max K L+1,fun N hN d hd=>?_⟩;obtain⟨d,rfl⟩:∃i,d=i+1:=⟨d-1,by omega⟩
  show zrv (EN E N) (zdX (EN E N) d) b us h=_;unfold zrv;rw[hg];dsimp only;unfold zuz;dsimp only;rw[zb6 (by rw[<- ha.1];exact hl)];dsimp only[cond_true];rw[zGJ,hK N zo d zo];unfold zCC;dsimp only;rw[hg1];dsimp only;unfold zu1;dsimp only;rw[zGJ,hL N zo d zo];exact hre
 have fin:∀(r:Bool) (st:LoopState) (pen:FX) (pen':TX),XR c3 t3.h pen pen'->s3.df=[]->(∀st2 pe2 tt2 ps2 as2 bo2 bm2,zyk x' t3.h b (.loop st2 pe2 tt2 ps2 as2 bo2 bm2)=some (r,t3.h.set b (.loop st pen' tt2 ps2 as2 bo2 bm2))) ->
   (∃st2 pe2 tm2 ps2 as2 bo2 m2,s3.H[id]?=some (.loop st2 pe2 tm2 ps2 as2 bo2 m2)/\Q r (s3.H.set id (.loop st pen tm2 ps2 as2 bo2 m2))) ->
   ∃r h' H' c',Ev E (fun C _=>C.rd b us h=some (r,h'))/\Q r H'/\Mo c c' h h'/\HR B c' H' h':=fun r st pen pen' hxr hdf hj ⟨st2,pe2,tm2,ps2,as2,bo2,m2,hH3,q⟩=>by
  obtain⟨bm3,dm3,zm3,tt3,pe3',hm3,hg3,ht3,hp3⟩:=zl3 k3.hr hH3 hρ3;obtain⟨mo4,hr4⟩:=zpd k3.hr (st:=st) (ps:=ps2) (aS:=as2) (bo:=bo2) hρ3 (fun e=>by grind) hm3 ht3 hxr;have hd0:t3.df=[]:=by
   have:=k3.df;rw[hdf]at this
   cases h0:t3.df with
   | nil=>rfl
   | cons a l=>rw[h0]at this;exact this.elim
  refine⟨r,_,_,c3,run r _ ?_,q,((mo1.trans mo2).trans mo3).trans mo4,hr4⟩;unfold zmw
  grind
 cases hx with
 | norm=>exact fin true .ready .norm .norm .norm q3.1 (fun _ _ _ _ _ _ _=>rfl) q3.2
 | exit j=>exact fin false .done (.exit j) (.exit j) (.exit j) q3.1 (fun _ _ _ _ _ _ _=>rfl) q3.2
 | goto j=>exact fin false .done (.goto j) (.goto j) (.goto j) q3.1 (fun _ _ _ _ _ _ _=>rfl) q3.2
 | ret=>exact fin false .done .ret .ret .ret q3.1 (fun _ _ _ _ _ _ _=>rfl) q3.2
 | panic hv=>exact q3.elim
theorem zit{f:TOp}{aS:zbS}{s:FSt}{Q:FX->FSt->Prop}{g:Nat}{cap:LQ}{b:Bool}(hf:ev s.tm f=some (.fn g cap))(k:FO E g (.yield (s.H.length+1)::cap) (s.H++[.dfr false]++[.loop .ready .norm s.tm ps aS bo s.H.length]) b fun e H'=>(∃v,e=.ret v)/\∃st pe tm ps aS bo m,st ≠ .busy/\H'[s.H.length+1]?=some (.loop st pe tm ps aS bo m)/\Q pe ⟨s.tm,.mark s.H.length::s.df,H'.set (s.H.length+1) (.loop .exhausted pe tm ps aS bo m)⟩):
  W E caught none (.rangef f ps aS bo) s Q:=fun B c t rnd' hs hn=>by
 obtain rfl:rnd'=none:=by cases rnd' with|none=>rfl|some x=>exact hn.elim
 obtain⟨u,u1,u2⟩:=zlR hs.tm hf;obtain⟨cs,rfl,u3⟩:=u2.fn_inv;obtain⟨m1,k1⟩:=hs.hr.push (o:=.dfr false) (x:=.dfr false) (z:=0) fun m=>⟨t.h.next,0,0,add_same ..,by rw[TH.gP,if_pos rfl]⟩
 have hlen:(s.H++[zc.dfr false]).length=s.H.length+1:=by simp
 obtain⟨m2,k2⟩:=k1.push (o:=.loop .ready .norm s.tm ps aS bo s.H.length) (x:=.loop .ready .norm t.tm ps aS bo t.h.next) (z:=0) fun m=>by
  rw[hlen]at m⊢;refine⟨(t.h.push (.dfr false)).next,0,0,t.h.next,0,0,t.tm,.norm,add_same ..,?_,by rw[TH.gP,if_pos rfl],(hs.tm.mono m1).mono m,.norm⟩;exact m.ρ _ _ (add_same ..)
 rw[hlen]at m2 k2;have hρ0:((c.add s.H.length t.h.next 0 0).add (s.H.length+1) (t.h.push (.dfr false)).next 0 0).ρ s.H.length=some (t.h.next,0,0):=m2.ρ _ _ (add_same ..);have hρ1:((c.add s.H.length t.h.next 0 0).add (s.H.length+1) (t.h.push (.dfr false)).next 0 0).ρ (s.H.length+1)=some (t.h.next+1,0,0):=add_same ..;obtain⟨r,h',e,H',c',e1,⟨⟨v,rfl⟩,st,pe,tm,ps',as',bo',m',hst,hH',hQ⟩,m3,k3,re,_⟩:=k B _ _ (.yield (t.h.next+1)::cs) k2 (LR.cons (.yield hρ1) ((u3.mono fun _ _=>VR.mono m1).mono fun _ _=>VR.mono m2))
 cases r with
 | panic u=>exact re.elim
 | ret u =>
  have hρ2:=m3.ρ _ _ hρ1;obtain⟨bm,dm,zm,tt,pe',hm,hg,ht,hp⟩:=zl3 k3 hH' hρ2;obtain⟨m4,k4⟩:=zpd k3 (st:=.exhausted) (ps:=ps') (aS:=as') (bo:=bo') hρ2 (fun e=>by grind) hm ht hp;have mall:=((m1.trans m2).trans m3).trans m4;refine⟨pe',⟨t.tm,.mark t.h.next::t.df,h'.set (t.h.next+1) (.loop .exhausted pe' tt ps' as' bo' bm)⟩,pe,_,c',e1.mono fun C N a=>?_,hQ,hp.mono m4,mall,⟨k4,hs.tm.mono mall,⟨⟨0,0,m3.ρ _ _ hρ0⟩,hs.df.mono mall⟩⟩⟩;unfold zbX;rw[u1];simp only[zpH,zno];have a:C.fn g (.yield (t.h.next+1)::cs) ((t.h.push (.dfr false)).push (.loop .ready .norm t.tm ps aS bo t.h.next))=some (.ret u,h'):=a;rw[a];simp only[zul];rw[hg];simp only[zEK]
  all_goals (cases st<;>first|rfl|exact absurd rfl hst)
inductive CI(w:World):PV->Value->Prop
 | bool (b:Bool):CI w (.bool b) (.bool b)
 | int (k:IntKind) (n:Int):CI w (.int k n) (.int k n)
 | str (s:ByteArray):CI w (.str (s.data.toList.map (·.toNat))) (.string s)
 | nilsl (p z:Nat):CI w (.list p z []) (.slice none 0 0)
 | list {p z:Nat} {l:LQ} {r off c:Nat} {cs:LM}:r<w.heap.size->l.length<=c->c<=maxLen->(∀v∈l,v.cells.length=z)->(l.flatMap PV.cells).length=cs.length ->
   (∀(i:Nat) (x:PV) (y:Value),(l.flatMap PV.cells)[i]?=some x->cs[i]?=some y->CI w x y)->(∀(j:Nat) v,cs[j]?=some v->w.cell? ⟨r,off+j,none⟩=some v)->(∀x∈l.flatMap PV.cells,zay x=true)->CI w (.list p z l) (.slice (some ⟨r,off,none⟩) l.length c)
 | agg {l:LQ} {cs:LM}:l.length=cs.length->(∀(i:Nat) (x:PV) (y:Value),l[i]?=some x->cs[i]?=some y->CI w x y)->(∀x∈l,zay x=true)->CI w (.agg l) (.agg cs.toArray)
def All(n:Nat):zfK:=fun _ b=>b<n
variable {P:Program}{w:World}
theorem zA6{S:zfK}{u:TV}(k:PR S h v u)(h1:zay v=true):u.one=true:=by
 cases k<;>first|rfl|cases h1
structure zfU(P:Program)(w:World)(ρ:Rho)(h:TH)(ρ':Rho)(h':TH):Prop where
 wr:WR P w.heap.size ρ' h' w
 more:∀b g loc,ρ b g=some loc->ρ' b g=some loc
 le:h.next<=h'.next
 keep:∀b,b<h.next->h'.get b=h.get b
variable {f:Nat}{ρ:Rho}
theorem zfU.refl(k:WR P w.heap.size ρ h w):zfU P w ρ h ρ h:=⟨k,fun _ _ _ h=>h,zAE9 _,fun _ _=>rfl⟩
theorem zfU.trans{ρ' ρ'':Rho}{h' h'':TH}(a:zfU P w ρ h ρ' h')(b:zfU P w ρ' h' ρ'' h''):zfU P w ρ h ρ'' h'' :=
 ⟨b.wr,fun x g loc hx=>b.more _ _ _ (a.more _ _ _ hx),zBW9 a.le b.le,fun x hx=>by rw[b.keep x (zBM9 hx a.le),a.keep x hx]⟩
theorem zfU.pr{ρ':Rho}{h':TH}(a:zfU P w ρ h ρ' h'){u:TV}(k:PR (All h.next) h v u):PR (All h'.next) h' v u :=
 k.mono (fun _ _ hb=>zBM9 hb a.le) fun _ _ _ _ _ _ _ hr=>zsv a.keep hr
theorem zkw{R:PV->Value->Prop}(hR:∀x y,R x y->∀ρ h,WR P w.heap.size ρ h w->∃ρ' h' u,zfU P w ρ h ρ' h'/\PR (All h'.next) h' x u/\Tw.VR ρ' u y) :
  ∀{l:LQ} {cs:LM},l.length=cs.length->(∀(i:Nat) (x:PV) (y:Value),l[i]?=some x->cs[i]?=some y->R x y)->∀ρ h,WR P w.heap.size ρ h w->∃ρ' h' us,zfU P w ρ h ρ' h'/\LR (PR (All h'.next) h') l us/\VL ρ' us cs
 | [],[],_,_,ρ,h,k=>⟨ρ,h,[],zfU.refl k,LR.nil,VL.nil _⟩
 | [],_::_,hl,_,_,_,_=>by grind
 | _::_,[],hl,_,_,_,_=>by grind
 | x::l,y::cs,hl,hp,ρ,h,k=>by
  obtain⟨ρ1,h1,u,c1,p1,v1⟩:=hR x y (hp 0 x y rfl rfl) ρ h k;obtain⟨ρ2,h2,us,c2,p2,v2⟩:=zkw hR (l:=l) (cs:=cs) (by grind) (fun i a b ha hb=>hp (i+1) a b (by grind) (by grind)) ρ1 h1 c1.wr;exact⟨ρ2,h2,u::us,c1.trans c2,LR.cons (c2.pr p1) p2,.cons (v1.mono c2.more) v2⟩
theorem zFU(k:WR P w.heap.size ρ h w){r L:Nat}(hr:r<w.heap.size){cells:LA}(hc:∀i x,cells.get i=some x->∃v,w.cell? ⟨r,i,none⟩=some v/\x.one=true/\Tw.VR ρ x v):
  zfU P w ρ h (ρ.add h.next 0 ⟨r,L,0⟩) (h.push (.ro cells)):=by
 have hn:∀g,ρ h.next g=none:=fun g=>by
  cases hg:ρ h.next g with
  | none=>rfl
  | some loc=>have:=(k.dom _ _ _ hg).1;omega
 have hm:=Rho.add_more (loc:=⟨r,L,0⟩) (hn 0);have k1:=k.push (.ro cells);refine⟨⟨fun b g loc hl=>?_,fun b g loc hl=>?_,fun b b' g g' loc loc' hl hl' e hZ=>?_⟩,hm,by rw[TH.nP];omega,fun b hb=>by rw[TH.gP,if_neg zo]⟩
 .rcases Rho.add_inv hl with⟨rfl,rfl,rfl⟩|hl
  .exact⟨by rw[TH.nP];omega,.inr ⟨cells,by rw[TH.gP,if_pos rfl]⟩,hr⟩
  .exact k1.dom b g loc hl
 .by_cases hb:b=h.next
  .subst hb;refine⟨.ro cells,by rw[TH.gP,if_pos rfl],fun g' loc' hl'=>?_⟩;rcases Rho.add_inv hl' with⟨_,rfl,rfl⟩|hl'
   .refine⟨rfl,fun i x hx=>?_⟩;obtain⟨v,v1,v2,v3⟩:=hc i x hx;exact⟨v,v1,v2,v3.mono hm⟩
   grind
  .have hl':ρ b g=some loc:=by rw[<- hl,Rho.add_ne hb]
   obtain⟨o,ho,hor⟩:=k1.obj b g loc hl';exact⟨o,ho,hor.move hm (fun g=>Rho.add_ne hb g) fun _ _ _=>rfl⟩
 .rcases Rho.add_inv hl with⟨_,_,rfl⟩|ha
  .grind
  .rcases Rho.add_inv hl' with⟨_,_,rfl⟩|ha'
   .grind
   .exact k.sep _ _ _ _ _ _ ha ha' e hZ
theorem CI.lay{v':Value}(a:CI w v v'):∀ρ h,WR P w.heap.size ρ h w->∃ρ' h' u,zfU P w ρ h ρ' h'/\PR (All h'.next) h' v u/\Tw.VR ρ' u v':=by
 induction a with
 | bool b=>intro ρ h k;exact⟨ρ,h,_,zfU.refl k,.bool b,.bool b⟩
 | int kk n=>intro ρ h k;exact⟨ρ,h,_,zfU.refl k,.int kk n,.int kk n⟩
 | str s=>intro ρ h k;exact⟨ρ,h,_,zfU.refl k,.str _,.str s⟩
 | nilsl p z=>intro ρ h k;exact⟨ρ,h,_,zfU.refl k,.listnil p z,.nilsl⟩
 | @list p z l r off c cs hr hlc hcm hz hlen _ hcell hone ih =>
  intro ρ h k;obtain⟨ρ1,h1,us,c1,p1,v1⟩:=zkw (R:=fun x y=>∀ρ h,WR P w.heap.size ρ h w->∃ρ' h' u,zfU P w ρ h ρ' h'/\PR (All h'.next) h' x u/\Tw.VR ρ' u y) (fun _ _ h=>h) hlen ih ρ h k;have hul:us.length=l.length*z:=by rw[<- p1.1,zpr hz]
  have hget:∀i x,(Tr.putL .nil off us).get i=some x->∃v,w.cell? ⟨r,i,none⟩=some v/\x.one=true/\Tw.VR ρ1 x v:=fun i x hx=>by
   rw[Tr.get_putL]at hx
   split at hx
   .rename_i hi;have hi2:i-off<cs.length:=by rw[<- v1.1];omega
    have hi3:i-off<(l.flatMap PV.cells).length:=by rw[p1.1];omega
    refine⟨cs[i-off],?_,?_,v1.2 _ _ _ hx (zAA9 hi2)⟩
    .have:=hcell (i-off) _ (zAA9 hi2)
     grind
    .exact zA6 (p1.2 _ _ _ (zAA9 hi3) hx) (hone _ (zBK9 hi3))
   .rw[Tr.get_nil]at hx;cases hx
  have c2:=zFU c1.wr (L:=off+l.length*z) hr hget;refine⟨_,_,.sl h1.next 0 off l.length (2*l.length+1) z,c1.trans c2,?_,?_⟩
  .have hrd:zb0 (h1.push (.ro (Tr.putL .nil off us))) h1.next 0 off (l.length*z)=some us:=by
    refine zhY (x:=.ro (Tr.putL .nil off us)) (by rw[TH.gP,if_pos rfl]) ?_;unfold zhb;dsimp only;rw[zb6 rfl,<- hul];exact zjC fun j hj=>by rw[Tr.get_putL,if_pos zo];grind
   have p2:=p1.mono fun _ _=>c2.pr;exact .list (show h1.next<(h1.push (.ro (Tr.putL .nil off us))).next by rw[TH.nP];omega) hrd zo hz p2.1 p2.2
  .refine .sl (loc:=⟨r,off+l.length*z,0⟩) (Rho.aS _ _ _ _) zo zo ?_ (.inl rfl) (fun h=>by omega) hcm
   grind
 | @agg l cs hlen _ hone ih =>
  intro ρ h k;obtain⟨ρ1,h1,us,c1,p1,v1⟩:=zkw (R:=fun x y=>∀ρ h,WR P w.heap.size ρ h w->∃ρ' h' u,zfU P w ρ h ρ' h'/\PR (All h'.next) h' x u/\Tw.VR ρ' u y) (fun _ _ h=>h) hlen ih ρ h k;refine⟨ρ1,h1,.agg us,c1,.agg p1.1 p1.2,Tw.VR.aggL v1 fun x hx=>?_⟩;obtain⟨i,hi,rfl⟩:=zBN9.1 hx;have hi2:i<l.length:=by rw[p1.1];exact hi
  exact zA6 (p1.2 _ _ _ (zAA9 hi2) (zAA9 hi)) (hone _ (zBK9 hi2))
theorem zhU.EN(h:zhU P E)(N:Nat):zhU P (EN E N):=⟨h.mix,h.fn,h.spec,h.caught⟩
theorem FP.real(hE:zhU P E){b:Bool}(k:FP E f args (.ret (.bool b))){args':LM}(hl:args.length=args'.length)(ha:∀(i:Nat) (x:PV) (y:Value),args[i]?=some x->args'[i]?=some y->CI w x y):
  (∀w,(callFunc f args'.toArray).run P w=.ok (.enter f args'.toArray) w)/\CallsIn (Fr none) 0 P f args'.toArray w fun e w'=>e=.returned (.bool b)/\Below w.heap.size w w':=by
 obtain⟨ρ,h,us,c1,p1,v1⟩:=zkw (R:=CI w) (fun x y a=>a.lay) hl ha _ _ (WR.start w);obtain⟨r,h',⟨K,hK⟩,_,_,re⟩:=k (All h.next) h us (fun _ _ hb=>hb) p1
 cases r with
 | panic u=>exact re.elim
 | ret u =>
  have hu:u=.bool b:=by
   have re:PR _ h' (.bool b) u:=re
   cases re;rfl
  subst hu;obtain⟨q1,q2⟩:=(zmd (zhU.EN hE K) K).1 f us h _ h' (hK K (zAE9 _) K (zAE9 _)) w.heap.size ρ w args' c1.wr (zAE9 _) v1;refine⟨q1,q2.mono ?_⟩;rintro e w' ⟨ρ',_,_,hb,_,v',rfl,hv⟩
  cases hv
  grind
theorem FP.calls(hE:zhU P E){b:Bool}(k:FP E f args (.ret (.bool b))){args':LM}(hl:args.length=args'.length)(ha:∀(i:Nat) (x:PV) (y:Value),args[i]?=some x->args'[i]?=some y->CI w x y):
  Calls P f args'.toArray w fun e w'=>e=.returned (.bool b)/\Below w.heap.size w w':=callsIn_wide.1 (FP.real hE k hl ha).2
theorem zlc{g:LK->TH->Option (TE×TH)}(hf:E.funcs.get f=none)(hg:E.spec f=some g){e:FE}(k:∀S h us,(∀p b,S p b->b<h.next)->LR (PR S h) args us->∃r h',g us h=some (r,h')/\h.next<=h'.next/\(∀b,b<h.next->h'.get b=h.get b)/\RE (PR (S0 S h.next h'.next) h') e r):FN E f args e:=fun S h us hS ha=>by
 obtain⟨r,h',h1,h2⟩:=k S h us hS ha;refine⟨r,h',⟨1,fun N hN d hd=>?_⟩,h2⟩;obtain⟨d,rfl⟩:∃i,d=i+1:=⟨d-1,by omega⟩
 show zbm (EN E N) (zdX (EN E N) d) f us h=_;unfold zbm;rw[show (EN E N).funcs.get f=none from hf];dsimp only;rw[show (EN E N).spec f=some g from hg];exact h1
def zp6(us:LK)(h:TH):Option (TE×TH):=match us with
 | []=>some (.ret (.bool true),h)
 | _=>none
theorem zFC(hf:E.funcs.get f=none)(hg:E.spec f=some zp6):FN E f [] (.ret (.bool true)) :=
 zlc hf hg fun S h us hS ha=>by
  obtain rfl:=ha.oN;exact⟨_,h,rfl,zAE9 _,fun _ _=>rfl,.bool true⟩
theorem zFS(henter:∀w,(callFunc f #[]).run P w=.ok (.enter f #[]) w)(h:∀w,CallsIn (Fr none) 0 P f #[] w fun e w'=>e=.returned (.bool true)/\Below w.heap.size w w'):
  ∀(Z:Nat) (ρ:Rho) (w:World) (args:LK) (args':LM) (h:TH) (r:TE) (h':TH),zp6 args h=some (r,h')->WR P Z ρ h w->Z<=w.heap.size->VL ρ args args' ->
  (∀w,(callFunc f args'.toArray).run P w=.ok (.enter f args'.toArray) w)/\CallsIn (Fr none) 0 P f args'.toArray w (zgp P Z ρ h h' w r):=by
 intro Z ρ w args args' hh r h' hr k hZ hv;unfold zp6 at hr
 split at hr
 .obtain rfl:=hv.oN
  cases hr
  refine⟨henter,(h w).mono ?_⟩;rintro e w' ⟨rfl,hb⟩;exact⟨ρ,Rho.le.refl _ _,k.world hb.size fun r hr=>hb.block r hr,⟨hb.os,hb.tape,hb.output,hb.size,fun j hj=>hb.block j (zBM9 hj hZ)⟩,zAE9 _,_,rfl,.bool true⟩
 grind
section plain
variable (k k':IntKind)(x y:Int)
variable (a b:Bool)
theorem za0:sc2 (zc6 .add) [.int k x,.int k y]=some (.int k (k.wrap (x+y))):=by simp[sc2,PV.toT,zc6,ze8,zgy,ofT]
theorem zaU:sc2 (zc6 .sub) [.int k x,.int k y]=some (.int k (k.wrap (x-y))):=by simp[sc2,PV.toT,zc6,ze8,zgy,ofT]
theorem zaV:sc2 (zc6 .mul) [.int k x,.int k y]=some (.int k (k.wrap (x*y))):=by simp[sc2,PV.toT,zc6,ze8,zgy,ofT]
theorem zba(h:y≠0):sc2 (zc6 .quo) [.int k x,.int k y]=some (.int k (k.wrap (x.tdiv y))):=by
 have:(y==0)=false:=by simpa using h
 simp[sc2,PV.toT,zc6,ze8,zgy,ofT,zdM,this]
theorem zaY(h:y≠0):sc2 (zc6 .rem) [.int k x,.int k y]=some (.int k (x.tmod y)):=by
 have:(y==0)=false:=by simpa using h
 simp[sc2,PV.toT,zc6,ze8,zgy,ofT,zdM,this]
theorem zbd:sc2 (zc6 .eql) [.int k x,.int k y]=some (.bool (decide (x=y))):=by
 simp[sc2,PV.toT,zc6,ze8,zgy,ofT,zdM];rfl
theorem zbh:sc2 (zc6 .neq) [.int k x,.int k y]=some (.bool (!decide (x=y))):=by
 simp[sc2,PV.toT,zc6,ze8,zgy,ofT,zdM];rfl
theorem za1:sc2 (zc6 .lss) [.int k x,.int k y]=some (.bool (decide (x<y))):=by
 simp[sc2,PV.toT,zc6,ze8,zgy,ofT,zf2]
 grind
theorem zbg:sc2 (zc6 .leq) [.int k x,.int k y]=some (.bool (decide (x<=y))):=by
 simp[sc2,PV.toT,zc6,ze8,zgy,ofT,zf2]
theorem za2:sc2 (zc6 .gtr) [.int k x,.int k y]=some (.bool (decide (y<x))):=by
 simp[sc2,PV.toT,zc6,ze8,zgy,ofT,zf2]
 grind
theorem zbi:sc2 (zc6 .geq) [.int k x,.int k y]=some (.bool (decide (y<=x))):=by
 simp[sc2,PV.toT,zc6,ze8,zgy,ofT,zf2]
theorem zax:sc1 (zn6 k) [.int k' x]=some (.int k (k.wrap x)):=by simp[sc1,PV.toT,zn6,ofT]
theorem za7:sc1 (pUn .not) [.bool b]=some (.bool (!b)):=by simp[sc1,PV.toT,pUn,zCp,ofT]
theorem zbe:sc1 (pUn .neg) [.int k x]=some (.int k (k.wrap (0-x))):=by simp[sc1,PV.toT,pUn,zDL,ofT]
theorem zbc:sc2 (zrw false) [.bool a,.bool b]=some (.bool (a==b)):=by cases a<;>cases b<;>rfl
theorem za9:sc2 (zrw true) [.bool a,.bool b]=some (.bool (!(a==b))):=by cases a<;>cases b<;>rfl
theorem zaZ:sc2 (zkZ true) [.int k x,.int k y]=some (.int k (max x y)):=by
 simp[sc2,PV.toT,zkZ,ofT,zf2]
 grind
theorem za8:sc2 (zkZ false) [.int k x,.int k y]=some (.int k (min x y)):=by
 simp[sc2,PV.toT,zkZ,ofT,zf2]
 grind
end plain
variable {R:FE->LP->Prop}{rest:zbS}{x:Int}
theorem zbW(tm:Nat->PV){d t:Nat}(v:PV)(h:t≠d):upd tm d v t=tm t:=if_neg h
theorem zD(tm:Nat->PV)(df:AK)(H:LP)(d:Nat)(v:PV):FSt.put ⟨tm,df,H⟩ (some d) v=⟨upd tm d v,df,H⟩:=rfl
theorem zHV(s:FSt)(v:PV):s.put none v=s:=rfl
theorem wrap_i64(h1:-9223372036854775808<=x)(h2:x<9223372036854775808):IntKind.i64.wrap x=x:=IntWalk.i64_in x zo
theorem wrap_u64(h1:0<=x)(h2:x<18446744073709551616):IntKind.u64.wrap x=x:=IntWalk.u64_in x zo
theorem zcd{s:FSt}{Q:FX->FSt->Prop}(k:W E caught rnd rest s Q):WO E caught [] s (zfu ops (zfj (fun s'=>W E caught rnd rest s' Q) Q)):=zi3 k
theorem zcr{s:FSt}{Q:FX->FSt->Prop}(k:Q .norm s):WO E caught [] s (zfu ops Q):=zi3 k
theorem zdw(h:zaS tm H F.res=some vs)(k:R (.ret (zlZ vs)) H):zev E F R .ret ⟨tm,[],H⟩:=⟨vs,h,k⟩
theorem zfg(h:zaS tm H F.res=some vs)(k:R (.ret (zlZ vs)) H):zev E F R .norm ⟨tm,[],H⟩:=⟨vs,h,k⟩
@[reducible] def iv (n:Int):PV:=.int .i64 n
@[reducible] def uv (n:Nat):PV:=.int .u64 n
theorem Lb.unit:Lb (.tuple []):=.tuple (fun x h=>by cases h)
def zbm:LS->FSt->FSt×LS
 | [],s=>(s,[])
 | o::l,s=>match zaI o s with
  | some s'=>zbm l s'
  | none=>(s,o::l)
theorem zp1{Q:FX->FSt->Prop}{s':FSt}{r:LS}:∀{ops:LS} {s:FSt},zbm ops s=(s',r)->WO E caught r s' Q->WO E caught ops s Q
 | [],s,h,k=>by simp only[zbm]at h;cases h;exact k
 | o::l,s,h,k=>by
  simp only[zbm]at h
  split at h
  .rename_i s1 h1;exact zEZ h1 (zp1 h k)
  grind
theorem zE9{x:TOp}{s:FSt}{Q:FX->FSt->Prop}{b:Bool}(hx:ev s.tm x=some (.bool b))(h1:b=true->W E caught rnd rest s Q)(h2:b=false->Q (.exit id) s):W E caught rnd (.seq (.cond x .skip (.exit id)) rest) s Q:=by
 refine zHW (zpD hx (fun h=>zr (h1 h)) fun h=>zh9 (h2 h))
theorem zad{x:TOp}{s:FSt}{Q:FX->FSt->Prop}(h:W E caught rnd (.seq (.region ops) (.seq (.cond x .skip (.exit id)) rest)) s Q):W E caught rnd (.seq (.seq (.region ops) (.cond x .skip (.exit id))) rest) s Q:=fun B c t rnd' hs hn=>by
 obtain⟨x',t',y,s',c',⟨K,hK⟩,h2⟩:=h B c t rnd' hs hn;refine⟨x',t',y,s',c',⟨K,fun N hN d hd=>?_⟩,h2⟩;have:=hK N hN d hd;rw[<- this];simp only[zbX]
 cases hr:zqx (zfe ops) (zf1 (zdX (EN E N) d) caught ops t)with
 | none=>rfl
 | some r =>
  grind
variable {E:Env}{caught:LH}{rnd:LC}
def Cx.lazy(c:Cx)(n:Nat):Cx:=⟨c.S,c.ρ,fun i=>c.L i\/i=n⟩
theorem HR.lazy(k:HR B c H h)(e z:Nat):Mo c (c.lazy H.length) h h/\HR B (c.lazy H.length) (H++[.row e z 0 0 []]) h:=by
 have hn:c.ρ H.length=none:=by
  cases hc:c.ρ H.length with
  | none=>rfl
  | some y=>have:=(k.own _ _ hc).2.2;omega
 have m:Mo c (c.lazy H.length) h h:=⟨fun _ _ h=>h,fun _ _ h=>h,fun _ h=>.inl h,fun _ _ _ _ _ _ _ h=>h⟩
 refine⟨m,⟨k.le,k.keep,k.old,fun p b hb=>⟨(k.S p b hb).1,fun i x hx e=>by have:=(k.S p b hb).2 i x hx e;grind⟩,fun id x hx=>?_,fun id hL=>?_,k.inj,fun id o ho=>?_⟩⟩
 .obtain⟨h1,h2,h3⟩:=k.own id x hx
  grind
 .rcases hL with hL|rfl
  .obtain⟨h1,h2⟩:=k.lz id hL;exact⟨by grind,h2⟩
  .exact⟨by simp,fun x hx=>by have:c.ρ H.length=some x:=hx;grind⟩
 .by_cases hi:id<H.length
  .rw[zAX9 hi]at ho;exact(k.obj id o ho).move m rfl (fun h=>.inl h) fun _ _=>rfl
  .rw[zBC9 zo]at ho;have hi2:id-H.length=0:=by grind
   rw[hi2]at ho;simp at ho;subst ho;obtain rfl:id=H.length:=zo;exact .inl ⟨rfl,rfl,hn,.inr rfl⟩
def lzy(H:LP)(z:Nat):PV:=.sl H.length 0 0 0 0 z
variable {G:Nat}{code:zbS}{e0:Nat}{v':PV}{z0:Nat}(e z:Nat)
theorem zcL{s:FSt}{Q:FX->FSt->Prop}{i:Nat}(hi:s.tm i=.nilsl)(k:W E caught rnd code ⟨upd s.tm i (lzy s.H z),s.df,s.H++[.row e z 0 0 []]⟩ Q):W E caught rnd code s Q:=fun B c t rnd' hs hn=>by
 obtain⟨m,hr⟩:=hs.hr.lazy e z;have htm:tmR (c.lazy s.H.length) t.h (upd s.tm i (lzy s.H z)) t.tm:=fun j=>by
  unfold upd
  by_cases hj:j=i
  .rw[if_pos hj];subst hj;rcases hs.tm j with h1|⟨u,u1,u2⟩
   .grind
   .rw[hi]at u2;obtain rfl:u=.nilsl:=by cases u2 with|pure u2=>cases u2;rfl
    exact .inr ⟨_,u1,.slnil _ (.inr rfl)⟩
  .rw[if_neg hj];exact(hs.tm.mono m) j
 obtain⟨x',t',x,s',c',e1,q1,hx,m1,k1⟩:=k B _ t rnd' ⟨hr,htm,hs.df.mono m⟩ (hn.mono m);exact⟨x',t',x,s',c',e1,q1,hx,m.trans m1,k1⟩
theorem HR.lazyBox(k:HR B c H h)(e z:Nat){M:Nat}(hH:H[id]?=some (.row e0 z0 G M [v]))(hl:v'.cells.length=v.cells.length)(hc:∀(i:Nat) (x y:PV),v.cells[i]?=some x->v'.cells[i]?=some y->y=x\/(x=.nilsl/\y=lzy H z)):
  Mo c (c.lazy H.length) h h/\HR B (c.lazy H.length) (H.set id (.row e0 z0 G M [v'])++[.row e z 0 0 []]) h:=by
 obtain⟨m,hr⟩:=k.lazy e z;have hid:id<H.length:=(zAC9.1 hH).1;refine⟨m,⟨hr.le,hr.keep,hr.old,fun p b hb=>⟨(hr.S p b hb).1,fun i x hx e=>?_⟩,fun i x hx=>?_,fun i hL=>?_,hr.inj,fun i o ho=>?_⟩⟩
 .have hv:=(hr.S p b hb).2 i x hx e
  grind
 .have:=hr.own i x hx;grind
 .have:=hr.lz i hL;grind
 .by_cases hi:i=id
  .subst hi;rw[zAX9 (by grind),zAZ9 hid]at ho
   cases ho
   have hob:=hr.obj i (.row e0 z0 G M [v]) (by grind);rcases hob with⟨h1,_⟩|⟨b,d,G',M',cells,cs,h1,h2,h3,h4,h5,h6⟩
   .cases h1
   .refine .inr ⟨b,d,G',M',cells,cs,h1,h2,h3,h4,h5,ER.one' (by rw[hl];exact h6.one v (by simp)) ?_⟩;have hall:LR (VR (c.lazy H.length) h) v.cells cs:=by have:=h6.all;simpa using this
    refine⟨by rw[hl];exact hall.1,fun j x y hx hy=>?_⟩;obtain⟨x0,hx0⟩:∃x0,v.cells[j]?=some x0:=⟨_,zAA9 (by grind)⟩
    have hv:=hall.2 j x0 y hx0 hy;rcases hc j x0 x hx0 hx with rfl|⟨rfl,rfl⟩
    .exact hv
    .obtain rfl:y=.nilsl:=by cases hv with|pure hv=>cases hv;rfl
     exact .slnil _ (.inr rfl)
  .refine hr.obj i o ?_
   grind
theorem zfF{s:FSt}{Q:FX->FSt->Prop}{M:Nat}(hH:s.H[id]?=some (.row e0 z0 G M [v]))(hl:v'.cells.length=v.cells.length)(hc:∀(i:Nat) (x y:PV),v.cells[i]?=some x->v'.cells[i]?=some y->y=x\/(x=.nilsl/\y=lzy s.H z))(k:W E caught rnd code ⟨s.tm,s.df,s.H.set id (.row e0 z0 G M [v'])++[.row e z 0 0 []]⟩ Q):W E caught rnd code s Q:=fun B c t rnd' hs hn=>by
 obtain⟨m,hr⟩:=hs.hr.lazyBox e z hH hl hc;obtain⟨x',t',x,s',c',e1,q1,hx,m1,k1⟩:=k B _ t rnd' ⟨hr,hs.tm.mono m,hs.df.mono m⟩ (hn.mono m);exact⟨x',t',x,s',c',e1,q1,hx,m.trans m1,k1⟩
theorem zhB{s:FSt}{Q:FX->FSt->Prop}{M:Nat}(hH:s.H[id]?=some (.row e0 z0 G M [.nilsl]))(k:W E caught rnd code ⟨s.tm,s.df,s.H.set id (.row e0 z0 G M [lzy s.H z])++[.row e z 0 0 []]⟩ Q):W E caught rnd code s Q :=
 zfF (v:=.nilsl) (v':=lzy s.H z) e z hH rfl (fun i x y hx hy=>by
  cases i with
  | zero=>simp[PV.cells,lzy]at hx hy;subst hx;subst hy;exact .inr ⟨rfl,rfl⟩
  | succ i=>simp[PV.cells]at hx) k
theorem zb(G:List α)(x y:α):(G++[x]).set G.length y=G++[y]:=by grind
theorem za(G:List α)(x:α):(G++[x])[G.length]?=some x:=by simp
theorem zo3{aS:LQ}{nm':Nat->PV}(hc:zbn s.K g.chk)(hx:zaC tm g.exe s=some s1)(ha:g.act=some o)(hk:o.kind=.call)(hw:zab tm s1.nm o.guard=some true)(hv:zbt tm s1.nm o.args=some (.fn f caps::vs))(k:FN E f aS (.ret v))(hl:LF s1.H 1 (vs++caps) aS)(hn:zbq s1.nm o.dst v=some nm')(hQ:WD E caught tm l ⟨nm',s1.df,s1.H,s1.K⟩ Q):WD E caught tm (g::l) s Q :=
 zos hc hx ha hk hw hv ((FN.FO k hl).mono fun e H' he=>by obtain⟨rfl,rfl⟩:=he;exact⟨nm',hn,hQ⟩)
theorem zAT{aS:LQ}(hc:zbn s.K g.chk)(hx:zaC tm g.exe s=some s1)(ha:g.act=some o)(hk:o.kind=.call)(hw:zab tm s1.nm o.guard=some true)(hv:zbt tm s1.nm o.args=some (.fn f caps::vs))(k:FN E f aS (.panic v))(hl:LF s1.H 1 (vs++caps) aS)(hQ:Q (.panic v) s1):WD E caught tm (g::l) s Q :=
 zos hc hx ha hk hw hv ((FN.FO k hl).mono fun e H' he=>by obtain⟨rfl,rfl⟩:=he;exact hQ)
variable {E:Env}
inductive NR(n:Nat):PV->Prop
 | bool (b:Bool):NR n (.bool b)
 | int (k:IntKind) (m:Int):NR n (.int k m)
 | str (s:LN):NR n (.str s)
 | nilptr:NR n .nilptr
 | nilsl:NR n .nilsl
 | nilmap:NR n .nilmap
 | nilfn:NR n .nilfn
 | niliface:NR n .niliface
 | list (p z:Nat) (l:LQ):NR n (.list p z l)
 | elem (l:LQ):NR n (.elem l)
 | sl {id:Nat} (g o m q z:Nat):id<n->NR n (.sl id g o m q z)
 | ptr {id:Nat} (g i o m:Nat):id<n->NR n (.ptr id g i o m)
 | map {id:Nat}:id<n->NR n (.map id)
 | yield {id:Nat}:id<n->NR n (.yield id)
 | iface {t:Nat} {v:PV}:NR n v->NR n (.iface t v)
 | fn {f:Nat} {l:LQ}:(∀x∈l,NR n x)->NR n (.fn f l)
 | agg {l:LQ}:(∀x∈l,NR n x)->NR n (.agg l)
 | tuple {l:LQ}:(∀x∈l,NR n x)->NR n (.tuple l)
def NRX(n:Nat):FX->Prop
 | .panic v=>NR n v
 | _=>True
def NRO(n:Nat):zc->Prop
 | .row _ _ _ _ l=>∀x∈l.flatMap PV.cells,NR n x
 | .mapI _ m=>∀x v,m x=some v->NR n v
 | .mapS m=>∀x v,m x=some v->NR n v
 | .loop _ pe tm _ _ _ m=>m<n/\(∀i,tm i=.bad\/NR n (tm i))/\NRX n pe
 | _=>True
def NRE(n:Nat):FE->Prop
 | .ret v=>NR n v
 | .panic v=>NR n v
def Cx.cut(c:Cx)(n:Nat):Cx:=⟨c.S,fun i=>if i<n then c.ρ i else none,fun i=>c.L i/\i<n⟩
section
variable {c:Cx}{h:TH}{n:Nat}
variable {o:zc}{u:TV}
theorem zhd(hi:id<n){x}(hx:c.ρ id=some x):(c.cut n).ρ id=some x:=by
 show (if id<n then c.ρ id else none)=_
 grind
theorem zjG{x}(hx:(c.cut n).ρ id=some x):id<n/\c.ρ id=some x:=by
 have hx:(if id<n then c.ρ id else none)=some x:=hx
 grind
theorem VR.cut(k:VR c h v u):NR n v->VR (c.cut n) h v u:=by
 induction k with
 | pure k=>intro _;exact .pure k
 | sl hρ=>intro hn;cases hn with|sl _ _ _ _ _ hi=>exact .sl (zhd hi hρ)
 | slnil z hL=>intro hn;cases hn with|sl _ _ _ _ _ hi=>exact .slnil z ⟨hL,hi⟩
 | ptr hρ=>intro hn;cases hn with|ptr _ _ _ _ hi=>exact .ptr (zhd hi hρ)
 | map hρ=>intro hn;cases hn with|map hi=>exact .map (zhd hi hρ)
 | yield hρ=>intro hn;cases hn with|yield hi=>exact .yield (zhd hi hρ)
 | iface _ ih=>intro hn;cases hn with|iface hn=>exact .iface (ih hn)
 | fn h1 _ ih=>intro hn;cases hn with|fn hn=>exact .fn h1 fun i x y hx hy=>ih i x y hx hy (hn x (zAI9 hx))
 | agg h1 _ ih=>intro hn;cases hn with|agg hn=>exact .agg h1 fun i x y hx hy=>ih i x y hx hy (hn x (zAI9 hx))
 | tuple h1 _ ih=>intro hn;cases hn with|tuple hn=>exact .tuple h1 fun i x y hx hy=>ih i x y hx hy (hn x (zAI9 hx))
theorem PR.nr{S:zfK}(k:PR S h v u):NR n v:=by
 induction k with
 | bool b=>exact .bool b
 | int k n=>exact .int k n
 | str s=>exact .str s
 | nilptr=>exact .nilptr
 | nilsl=>exact .nilsl
 | nilmap=>exact .nilmap
 | nilfn=>exact .nilfn
 | niliface=>exact .niliface
 | iface _ ih=>exact .iface ih
 | listnil p z=>exact .list p z _
 | list _ _ _ _ _ _ _=>exact .list _ _ _
 | elem _ _ _ _ _=>exact .elem _
 | fn h1 _ ih =>
  refine .fn fun x hx=>?_;obtain⟨i,hi,rfl⟩:=zBN9.1 hx;exact ih i _ _ (zAA9 hi) (zAA9 (by omega))
 | agg h1 _ ih =>
  refine .agg fun x hx=>?_;obtain⟨i,hi,rfl⟩:=zBN9.1 hx;exact ih i _ _ (zAA9 hi) (zAA9 (by omega))
 | tuple h1 _ ih =>
  refine .tuple fun x hx=>?_;obtain⟨i,hi,rfl⟩:=zBN9.1 hx;exact ih i _ _ (zAA9 hi) (zAA9 (by omega))
theorem VR.nr(k:HR B c H h)(x:VR c h v u):NR H.length v:=by
 induction x with
 | pure x=>exact x.nr
 | sl hρ=>exact .sl _ _ _ _ _ (k.own _ _ hρ).2.2
 | slnil z hL=>exact .sl _ _ _ _ _ (k.lz _ hL).1
 | ptr hρ=>exact .ptr _ _ _ _ (k.own _ _ hρ).2.2
 | map hρ=>exact .map (k.own _ _ hρ).2.2
 | yield hρ=>exact .yield (k.own _ _ hρ).2.2
 | iface _ ih=>exact .iface ih
 | fn h1 _ ih =>
  refine .fn fun x hx=>?_;obtain⟨i,hi,rfl⟩:=zBN9.1 hx;exact ih i _ _ (zAA9 hi) (zAA9 (by omega))
 | agg h1 _ ih =>
  refine .agg fun x hx=>?_;obtain⟨i,hi,rfl⟩:=zBN9.1 hx;exact ih i _ _ (zAA9 hi) (zAA9 (by omega))
 | tuple h1 _ ih =>
  refine .tuple fun x hx=>?_;obtain⟨i,hi,rfl⟩:=zBN9.1 hx;exact ih i _ _ (zAA9 hi) (zAA9 (by omega))
theorem OR.nr(k:HR B c H h)(hH:H[id]?=some o):NRO H.length o:=by
 have ho:=k.obj _ _ hH
 cases o with
 | row e z G M l =>
  rcases ho with⟨rfl,_⟩|⟨b,d,G',M',cells,cs,_,_,_,_,_,h6⟩
  .intro x hx;simp at hx
  .intro x hx;obtain⟨i,hi,rfl⟩:=zBN9.1 hx;exact(h6.all.2 i _ _ (zAA9 hi) (zAA9 (by rw[<- h6.all.1];exact hi))).nr k
 | mapI kk m =>
  obtain⟨b,d,z,es,clock,_,_,h3⟩:=ho;intro x v hx;obtain⟨u,_,u2⟩:=h3.some x v hx;exact u2.nr k
 | mapS m =>
  obtain⟨b,d,z,es,clock,_,_,h3⟩:=ho;intro x v hx;obtain⟨u,_,u2⟩:=h3.some x v hx;exact u2.nr k
 | loop st pe tm ps aS bo m =>
  obtain⟨b,d,z,bm,dm,zm,t,pe',_,h2,_,h4,h5⟩:=ho;refine⟨(k.own _ _ h2).2.2,fun i=>?_,?_⟩
  .rcases h4 i with h4|⟨u,_,u2⟩
   .grind
   .exact .inr (u2.nr k)
  .cases h5 with
   | panic hv=>exact hv.nr k
   | _=>trivial
 | _=>trivial
theorem OR.cut(hi:id<n)(ho:OR c h id o)(hn:NRO n o):OR (c.cut n) h id o:=by
 cases o with
 | row e z G M l =>
  rcases ho with⟨h1,h2,h3,h4⟩|⟨b,d,G',M',cells,cs,h1,h2,h3,h4,h5,h6⟩
  .exact .inl ⟨h1,h2,by show (if id<n then c.ρ id else none)=none;grind,h4,hi⟩
  .exact .inr ⟨b,d,G',M',cells,cs,zhd hi h1,h2,h3,h4,h5,h6.one,h6.all.1,fun i x y hx hy=>(h6.all.2 i x y hx hy).cut (hn x (zAI9 hx))⟩
 | map0=>obtain⟨b,d,z,clock,h1,h2⟩:=ho;exact⟨b,d,z,clock,zhd hi h1,h2⟩
 | mapI kk m =>
  obtain⟨b,d,z,es,clock,h1,h2,h3⟩:=ho;exact⟨b,d,z,es,clock,zhd hi h1,h2,h3.keys,fun x v hx=>by obtain⟨u,u1,u2⟩:=h3.some x v hx;exact⟨u,u1,u2.cut (hn x v hx)⟩,h3.none⟩
 | mapS m =>
  obtain⟨b,d,z,es,clock,h1,h2,h3⟩:=ho;exact⟨b,d,z,es,clock,zhd hi h1,h2,h3.keys,fun x v hx=>by obtain⟨u,u1,u2⟩:=h3.some x v hx;exact⟨u,u1,u2.cut (hn x v hx)⟩,h3.none⟩
 | dfr shut=>obtain⟨b,d,z,h1,h2⟩:=ho;exact⟨b,d,z,zhd hi h1,h2⟩
 | loop st pe tm ps aS bo m =>
  obtain⟨b,d,z,bm,dm,zm,t,pe',h1,h2,h3,h4,h5⟩:=ho;refine⟨b,d,z,bm,dm,zm,t,pe',zhd hi h1,zhd hn.1 h2,h3,fun i=>?_,?_⟩
  .rcases h4 i with h4|⟨u,u1,u2⟩
   .grind
   .rcases hn.2.1 i with hb|hb
    .grind
    .exact .inr ⟨u,u1,u2.cut hb⟩
  .cases h5 with
   | norm=>exact .norm
   | exit id=>exact .exit id
   | goto l=>exact .goto l
   | ret=>exact .ret
   | panic hv=>exact .panic (hv.cut hn.2.2)
 | void=>trivial
theorem HR.cut{G:LP}(k:HR B c (H++G) h)(hn:∀(id:Nat) (o:zc),H[id]?=some o->NRO H.length o):HR B (c.cut H.length) H h :=
 ⟨k.le,k.keep,k.old,fun p b hb=>⟨(k.S p b hb).1,fun id x hx e=>by have:=(k.S p b hb).2 id x (zjG hx).2 e;rw[zAX9 (zjG hx).1]at this;omega⟩,fun id x hx=>by
  obtain⟨h1,h2⟩:=zjG hx;obtain⟨a1,a2,_⟩:=k.own id x h2;omega,fun id hL=>⟨hL.2,fun x hx=>(k.lz id hL.1).2 x (zjG hx).2⟩,fun id id' x x' hx hx'=>k.inj _ _ _ _ (zjG hx).2 (zjG hx').2,fun id o ho=>by
  have hi:=(zAC9.1 ho).1;exact(k.obj id o (by grind)).cut hi (hn id o ho)⟩
theorem Mo.cut{c':Cx}{h':TH}(m:Mo c c' h h')(hρ:∀id x,c.ρ id=some x->id<n)(hL:∀id,c.L id->id<n):Mo c (c'.cut n) h h' :=
 ⟨m.S,fun id x hx=>zhd (hρ _ _ hx) (m.ρ _ _ hx),fun id hx=>⟨m.L _ hx,hL _ hx⟩,m.rd⟩
end
def zjS(H:LP)(H' H'' G:LP):Prop:=H'=H''++G/\H''.length=H.length/\∀(id:Nat) (o:zc),H''[id]?=some o->H[id]?=some o\/NRO H.length o
variable {n:Nat}
theorem zjS.cut{B':Ba}{c':Cx}{H' H'' G:LP}{h':TH}(k:zjS H H' H'' G)(hr:HR B c H h)(hr':HR B' c' H' h')(m:Mo c c' h h'):Mo c (c'.cut H.length) h h'/\HR B' (c'.cut H.length) H'' h':=by
 obtain⟨rfl,hl,hk⟩:=k;refine⟨m.cut (fun id x hx=>(hr.own _ _ hx).2.2) (fun id hL=>(hr.lz _ hL).1),?_⟩;have:=hr'.cut (H:=H'') fun id o ho=>by
  rw[hl];rcases hk id o ho with h1|h1
  .exact OR.nr hr h1
  .exact h1
 grind
theorem FO.gc{f:Nat}{b:Bool}{Q:FE->LP->Prop}(k:FO E f args H b fun e H'=>∃H'' G,zjS H H' H'' G/\NRE H.length e/\Q e H''):FO E f args H b Q:=fun B c h us hr ha=>by
 obtain⟨r,h',e,H',c',e1,⟨H'',G,hk,hn,hQ⟩,m1,k1,re,hs⟩:=k B c h us hr ha;obtain⟨m2,k2⟩:=hk.cut hr k1 m1;refine⟨r,h',e,H'',_,e1,hQ,m2,k2,?_,hs⟩
 cases e<;>cases r<;>first|exact re.elim|exact VR.cut re hn
theorem FY.gc{Q:Bool->LP->Prop}(k:FY E id args H fun r H'=>∃H'' G,zjS H H' H'' G/\Q r H''):FY E id args H Q:=fun B c h us b d z hr hρ ha=>by
 obtain⟨r,h',H',c',e1,⟨H'',G,hk,hQ⟩,m1,k1⟩:=k B c h us b d z hr hρ ha;obtain⟨m2,k2⟩:=hk.cut hr k1 m1
 grind
theorem FY.mono{Q Q':Bool->LP->Prop}(k:FY E id args H Q)(hQ:∀r H,Q r H->Q' r H):FY E id args H Q':=fun B c h us b d z hr hρ ha=>by
 obtain⟨r,h',H',c',e1,q,k2⟩:=k B c h us b d z hr hρ ha
 grind
theorem zfy{d:Nat}(h:∀i,tm i=.bad\/NR n (tm i))(hv:NR n v):∀i,upd tm d v i=.bad\/NR n (upd tm d v i):=fun i=>by
 unfold upd
 grind
theorem zsn{l:LQ}(h:∀v∈l,NR n v):∀i,zn l i=.bad\/NR n (zn l i):=fun i=>by
 unfold zn
 grind
theorem zg(G:List α)(x y:α):(G++[x]++[y])[G.length]?=some x:=by grind
def znO:LQ->Prop
 | []=>True
 | x::l=>Id0 x/\znO l
variable {A A' C H0:LP}{args:LY}{d:LC}{e:Nat}{g:Option (TOp×Bool)}{z:Nat}
theorem znO.all:∀{l:LQ},znO l->∀x∈l,Id0 x
 | x::l,h,y,hy=>by
  rcases zBA9.1 hy with rfl|hy
  .exact h.1
  .exact znO.all h.2 y hy
theorem zi0{s:FSt}{Q:FX->FSt->Prop}{aS:LQ}(hg:zaA s.tm g=some true)(ha:evs s.tm args=some (.fn f caps::vs))(k:FP E f aS (.ret v))(he:vs++caps=aS)(hl:znO aS)(hQ:WO E caught ops (s.put d v) Q):WO E caught (⟨d,.call,args,g⟩::ops) s Q :=
 zl7 hg ha ((FP.FO (he ▸ k) (he ▸ hl).all).mono fun e H' he=>by obtain⟨rfl,rfl⟩:=he;exact hQ)
theorem zDA{g:zdp}{aS:LQ}{nm':Nat->PV}(hc:zbn s.K g.chk)(hx:zaC tm g.exe s=some s1)(ha:g.act=some o)(hk:o.kind=.call)(hw:zab tm s1.nm o.guard=some true)(hv:zbt tm s1.nm o.args=some (.fn f caps::vs))(k:FP E f aS (.ret v))(he:vs++caps=aS)(hl:znO aS)(hn:zbq s1.nm o.dst v=some nm')(hQ:WD E caught tm l ⟨nm',s1.df,s1.H,s1.K⟩ Q):WD E caught tm (g::l) s Q :=
 zos hc hx ha hk hw hv ((FP.FO (he ▸ k) (he ▸ hl).all).mono fun e H' he=>by obtain⟨rfl,rfl⟩:=he;exact⟨nm',hn,hQ⟩)
theorem Id0.frz(h:Id0 v):Frz H lab v v:=by
 induction h with
 | bool b=>exact .bool b
 | int k n=>exact .int k n
 | str s=>exact .str s
 | nilptr=>exact .nilptr
 | nilsl=>exact .nilsl
 | nilmap=>exact .nilmap
 | nilfn=>exact .nilfn
 | niliface=>exact .niliface
 | list p z l=>exact .list p z l
 | elem l=>exact .elem l
 | iface _ ih=>exact .iface ih
 | fn _ ih=>exact .fn rfl fun i x y hx hy=>by rw[hx]at hy;cases hy;exact ih x (zAI9 hx)
 | agg _ ih=>exact .agg rfl fun i x y hx hy=>by rw[hx]at hy;cases hy;exact ih x (zAI9 hx)
 | tuple _ ih=>exact .tuple rfl fun i x y hx hy=>by rw[hx]at hy;cases hy;exact ih x (zAI9 hx)
theorem Frz.wh{z' o q:Nat}{l:LQ}(hH:H[id]?=some (.row e z' G 0 l))(ho:o=0)(hl:n=l.length)(hq:2*l.length<=q)(hz:∀v∈l,v.cells.length=z)(hs:∀v∈l.flatMap PV.cells,Id0 v):
  Frz H lab (.sl id G o n q z) (.list lab z l):=by
 subst ho hl;refine .sl hH (zAJ9 _) (zAE9 _) zo hq rfl hz (by simp) fun i x y hx hy=>?_;have:x=y:=by grind
 subst this;exact(hs _ (zAI9 hy)).frz
theorem zdq{cs:LQ}(hH:H[id]?=some (.row e z 0 0 [.agg cs]))(hn:n=cs.length)(hc:∀v∈cs,Id0 v):Frz H lab (.ptr id 0 0 0 n) (.elem cs):=by
 refine .ptr (w:=.agg cs) ?_ (by simp[PV.cells,hn]) hn fun j x y hx hy=>?_
 .simp[zbl,hH]
 .have:x=y:=by
   simp[PV.cells,hn]at hx
   grind
  subst this;exact(hc _ (zAI9 hy)).frz
theorem zod{l:LN}:∀v∈(l.map uv).flatMap PV.cells,Id0 v:=fun v hv=>by
 obtain⟨x,hx,hv⟩:=zAU9.1 hv;obtain⟨n,_,rfl⟩:=zAH9.1 hx;simp[PV.cells]at hv;subst hv;exact .int _ _
theorem zrc{l:LG}:∀v∈(l.map iv).flatMap PV.cells,Id0 v:=fun v hv=>by
 obtain⟨x,hx,hv⟩:=zAU9.1 hv;obtain⟨n,_,rfl⟩:=zAH9.1 hx;simp[PV.cells]at hv;subst hv;exact .int _ _
theorem zj6(hm:H[id]?=some (.dfr false))(h:zaS tm (H.set id (.dfr true)) F.res=some vs)(k:R (.ret (zlZ vs)) (H.set id (.dfr true))):zev E F R .ret ⟨tm,[.mark id],H⟩:=⟨hm,vs,h,k⟩
theorem zBJ(hm:H[id]?=some (.dfr false))(h:zaS tm (H.set id (.dfr true)) F.res=some vs)(k:R (.ret (zlZ vs)) (H.set id (.dfr true))):zev E F R .norm ⟨tm,[.mark id],H⟩:=⟨hm,vs,h,k⟩
theorem Id0.nr(h:Id0 v):NR n v:=by
 induction h with
 | bool b=>exact .bool b
 | int k n=>exact .int k n
 | str s=>exact .str s
 | nilptr=>exact .nilptr
 | nilsl=>exact .nilsl
 | nilmap=>exact .nilmap
 | nilfn=>exact .nilfn
 | niliface=>exact .niliface
 | list p z l=>exact .list p z l
 | elem l=>exact .elem l
 | iface _ ih=>exact .iface ih
 | fn _ ih=>exact .fn ih
 | agg _ ih=>exact .agg ih
 | tuple _ ih=>exact .tuple ih
theorem zrS{M:Nat}{l:LQ}(h:∀v∈l.flatMap PV.cells,Id0 v):NRO n (.row e z G M l):=fun x hx=>(h x hx).nr
theorem NR.mono(hm:n<=m)(h:NR n v):NR m v:=by
 induction h with
 | bool b=>exact .bool b
 | int k n=>exact .int k n
 | str s=>exact .str s
 | nilptr=>exact .nilptr
 | nilsl=>exact .nilsl
 | nilmap=>exact .nilmap
 | nilfn=>exact .nilfn
 | niliface=>exact .niliface
 | list p z l=>exact .list p z l
 | elem l=>exact .elem l
 | sl g o m q z h=>exact .sl g o m q z zo
 | ptr g i o m h=>exact .ptr g i o m zo
 | map h=>exact .map zo
 | yield h=>exact .yield zo
 | iface _ ih=>exact .iface ih
 | fn _ ih=>exact .fn ih
 | agg _ ih=>exact .agg ih
 | tuple _ ih=>exact .tuple ih
theorem zyu{G:LP}(hl:A'.length=A.length)(h:∀(id:Nat) (o:zc),A'[id]?=some o->NRO A.length o)(hm:∀(n m:Nat) (o:zc),n<=m->NRO n o->NRO m o):zjS (A++C) (A'++C++G) (A'++C) G:=by
 refine⟨rfl,by simp[hl],fun id o ho=>?_⟩
 grind
theorem NRO.mono(hm:n<=m){o:zc}(h:NRO n o):NRO m o:=by
 cases o with
 | row e z G M l=>exact fun x hx=>NR.mono hm (h x hx)
 | mapI k f=>exact fun x v hx=>NR.mono hm (h x v hx)
 | mapS f=>exact fun x v hx=>NR.mono hm (h x v hx)
 | loop st pe tm ps aS bo q =>
  refine⟨by have:=h.1;omega,fun i=>?_,?_⟩
  .rcases h.2.1 i with h|h
   .grind
   .exact .inr (h.mono hm)
  .have:=h.2.2
   cases pe<;>first|trivial|exact NR.mono hm this
 | _=>trivial
theorem zjS.front{G:LP}(hl:A'.length=A.length)(h:∀(id:Nat) (o:zc),A'[id]?=some o->NRO A.length o):zjS (A++C) (A'++C++G) (A'++C) G:=zyu hl h fun _ _ _ h k=>k.mono h
theorem zbL(n m:Nat):(n+1==m+1)=(n==m):=by simp
theorem zbM(n:Nat):(n+1==0)=false:=by simp
theorem zbb(n:Nat):(0==n+1)=false:=by simp
theorem zs2{g:zdp}{aS:LQ}{same:Bool}(hc:zbn s.K g.chk)(hx:zaC tm g.exe s=some s1)(ha:g.act=some o)(hk:o.kind=.call)(hw:zab tm s1.nm o.guard=some true)(hv:zbt tm s1.nm o.args=some (.fn f caps::vs))(k:FO E f aS H0 same R)(he:vs++caps=aS)(hH:s1.H=H0)(hQ:∀e H',R e H'->zyS E caught tm l s1 o.dst same Q e H'):WD E caught tm (g::l) s Q:=by
 subst he hH;exact zos hc hx ha hk hw hv (k.mono hQ)
theorem zns{s:FSt}{Q:FX->FSt->Prop}{aS:LQ}{b:Bool}(hg:zaA s.tm g=some true)(ha:evs s.tm args=some (.fn f caps::vs))(k:FO E f aS H0 b R)(he:vs++caps=aS)(hH:s.H=H0)(hQ:∀e H',R e H'->zEk E caught ops s d Q e H'):WO E caught (⟨d,.call,args,g⟩::ops) s Q:=by
 subst he hH;exact zl7 hg ha (k.mono hQ)
variable {E:Env}{caught:LH}{rnd:LC}
def zhK(n:Nat)(H:LP):LP:=H.mapIdx fun i o=>if i=n then o else .void
theorem znU{o:zc}(h:H[n]?=some o):(zhK n H)[n]?=some o:=by
 unfold zhK
 grind
theorem zFf{e z G M:Nat}{l:LQ}(h:(zhK n H)[id]?=some (.row e z G M l)):id=n:=by
 unfold zhK at h
 grind
theorem zCi(h:H[id]?=some .void):(zhK n H)[id]?=some .void:=by
 unfold zhK
 grind
theorem zxO:(zhK n H).length=H.length:=by unfold zhK;simp
def CF(n:Nat)(H:LP)(v w:PV):Prop:=w=v\/Frz (zhK n H) 0 v w
inductive CO(n:Nat)(H:LP)(id:Nat):zc->zc->Prop
 | void (o:zc):CO n H id o .void
 | same (o:zc):id≠n->CO n H id o o
 | row {e z G M:Nat} {l l':LQ}:id≠n->l'.length=l.length->(∀v∈l',v.cells.length=z)->(l.flatMap PV.cells).length=(l'.flatMap PV.cells).length->(∀(i:Nat) (x y:PV),(l.flatMap PV.cells)[i]?=some x->(l'.flatMap PV.cells)[i]?=some y->CF n H x y)->CO n H id (.row e z G M l) (.row e z G M l')
variable {k':IntKind}{o:zc}{y:Int}(a:LN)(n:Nat)(b:LN)
def Cx.frz(c:Cx)(n:Nat):Cx:=⟨fun p b=>c.S p b\/(p=0/\∃x,c.ρ n=some x/\x.1=b),c.ρ,c.L⟩
theorem HR.frz{H':LP}(k:HR B c H h){n:Nat}(hl:H'.length=H.length)(hv:H'[n]?=some .void)(hH:∀id o o',H[id]?=some o->H'[id]?=some o'->CO n H id o o'):
  Mo c (c.frz n) h h/\HR B (c.frz n) H' h/\∀v w u,VR c h v u->CF n H v w->VR (c.frz n) h w u:=by
 have m:Mo c (c.frz n) h h:=⟨fun _ _ h=>.inl h,fun _ _ h=>h,fun _ h=>h,fun _ _ _ _ _ _ _ h=>h⟩
 have hm:HR B c (zhK n H) h:=⟨k.le,k.keep,k.old,fun p b hb=>⟨(k.S p b hb).1,fun id x hx e=>zCi ((k.S p b hb).2 id x hx e)⟩,fun id x hx=>by rw[zxO];exact k.own id x hx,fun id hx=>by rw[zxO];exact k.lz id hx,k.inj,fun id o ho=>by
  by_cases hi:id=n
  .subst hi;unfold zhK at ho;rw[List.getElem?_mapIdx]at ho
   cases hH:H[id]? with
   | none=>rw[hH]at ho;cases ho
   | some o' =>
    rw[hH]at ho;simp at ho;subst ho;exact k.obj id _ hH
  .unfold zhK at ho;rw[List.getElem?_mapIdx]at ho
   cases hH:H[id]? with
   | none=>rw[hH]at ho;cases ho
   | some o'=>rw[hH]at ho;simp[hi]at ho;subst ho;trivial⟩
 have hcf:∀v w u,VR c h v u->CF n H v w->VR (c.frz n) h w u:=fun v w u hv hw=>by
  rcases hw with rfl|hw
  .exact hv.mono m
  .exact .pure (hw.ok' hm (fun _ _ h=>.inl h) (fun id x e z G M l hr hx=>by
    obtain rfl:=zFf hr;exact .inr ⟨rfl,x,hx,rfl⟩) hv)
 refine⟨m,⟨k.le,k.keep,fun p b hb=>?_,fun p b hb=>?_,fun id x hx=>by rw[hl];exact k.own id x hx,fun id hx=>by rw[hl];exact k.lz id hx,k.inj,fun id o' ho'=>?_⟩,hcf⟩
 .rcases hb with hb|⟨rfl,x,hx,rfl⟩
  .exact k.old p b hb
  .exact .inr ⟨rfl,(k.own _ _ hx).1⟩
 .rcases hb with hb|⟨rfl,x,hx,rfl⟩
  .obtain⟨h1,h2⟩:=k.S p b hb;refine⟨h1,fun id x hx e=>?_⟩;have h3:=h2 id x hx e;have hid:id<H'.length:=by rw[hl];exact(zAC9.1 h3).1
   have h4:=hH id _ _ h3 (zAA9 hid);rw[zAA9 hid];generalize H'[id]=o' at h4
   cases h4<;>rfl
  .refine⟨(k.own _ _ hx).2.1,fun id y hy e=>?_⟩;obtain rfl:=k.inj _ _ _ _ hy hx e;exact hv
 .have hid:id<H.length:=by rw[<- hl];exact(zAC9.1 ho').1
  have hob:=k.obj id _ (zAA9 hid);have hc:=hH id _ _ (zAA9 hid) ho';generalize H[id]=o at hob hc
  cases hc with
  | void=>trivial
  | same _ hn=>exact hob.move m rfl (fun h=>h) fun _ _=>rfl
  | @row e z G M l l' hn h1 h2 h3 h4 =>
   rcases hob with⟨rfl,g0,r0,L0⟩|⟨b,d,G',M',cells,cs,r1,r2,r3,r4,r5,r6⟩
   .obtain rfl:=zDQ9.1 h1;exact .inl ⟨rfl,g0,r0,L0⟩
   .refine .inr ⟨b,d,G',M',cells,cs,r1,by grind,r3,r4,by grind,h2,?_⟩;refine⟨by rw[<- h3];exact r6.all.1,fun i x y hx hy=>?_⟩;obtain⟨x',hx'⟩:∃x',(l.flatMap PV.cells)[i]?=some x':=⟨_,zAA9 (by grind)⟩
    exact hcf _ _ _ (r6.all.2 i _ _ hx' hy) (h4 i _ _ hx' hx)
theorem zu5{s:FSt}{Q:FX->FSt->Prop}(tm':Nat->PV)(H':LP)(ht:∀i,tm' i=.bad\/CF n s.H (s.tm i) (tm' i))(hl:H'.length=s.H.length)(hv:H'[n]?=some .void)(hH:∀id o o',s.H[id]?=some o->H'[id]?=some o'->CO n s.H id o o')(k:W E caught rnd code ⟨tm',s.df,H'⟩ Q):W E caught rnd code s Q:=fun B c t rnd' hs hn=>by
 obtain⟨m,hr,hcf⟩:=hs.hr.frz hl hv hH;obtain⟨x',t',x,s',c',e1,q1,hx,m1,k1⟩:=k B _ t rnd' ⟨hr,fun i=>by
  rcases ht i with h1|h1
  .grind
  .rcases hs.tm i with h2|⟨u,u1,u2⟩
   .rcases h1 with h1|h1
    .grind
    .rw[h2]at h1;cases h1
   grind,hs.df.mono m⟩ (hn.mono m)
 exact⟨x',t',x,s',c',e1,q1,hx,m.trans m1,k1⟩
theorem zlP{s:FSt}{Q:FX->FSt->Prop}(i n:Nat){w:PV}(hn:s.H[n]?=some o)(hw:Frz (zhK n s.H) 0 (s.tm i) w)(k:W E caught rnd code ⟨upd s.tm i w,s.df,s.H.set n .void⟩ Q):W E caught rnd code s Q:=by
 have hlt:=(zAC9.1 hn).1;refine zu5 n _ _ (fun j=>.inr ?_) (by simp) (by grind) (fun id o o' ho ho'=>?_) k
 .unfold upd
  by_cases hj:j=i
  .subst hj;rw[if_pos rfl];exact .inr hw
  .rw[if_neg hj];exact .inl rfl
 .by_cases hi:n=id
  .subst hi;simp[hlt]at ho';subst ho';exact .void _
  .rw[zAY9 hi,ho]at ho';injection ho' with ho';subst ho';exact .same _ (Ne.symm hi)
theorem zwA{s:FSt}{Q:FX->FSt->Prop}(b n:Nat){e z G M:Nat}{v':PV}(hb:s.H[b]?=some (.row e z G M [v]))(hn:s.H[n]?=some o)(hne:b≠n)(hz:v'.cells.length=z)(hz':v.cells.length=z)(hw:∀(i:Nat) (x y:PV),v.cells[i]?=some x->v'.cells[i]?=some y->CF n s.H x y)(k:W E caught rnd code ⟨s.tm,s.df,(s.H.set n .void).set b (.row e z G M [v'])⟩ Q):W E caught rnd code s Q:=by
 have hlt:=(zAC9.1 hn).1;have hlt':=(zAC9.1 hb).1;refine zu5 n _ _ (fun j=>.inr (.inl rfl)) (by simp) (by grind) (fun id o o' ho ho'=>?_) k
 by_cases hi:b=id
 .subst hi;rw[zAZ9 (by grind)]at ho';rw[hb]at ho;injection ho with ho;injection ho' with ho';subst ho;subst ho';refine .row hne rfl (by simpa using hz) (by grind) (by simpa using hw)
 .rw[zAY9 hi]at ho'
  by_cases hj:n=id
  .subst hj;simp[hlt]at ho';subst ho';exact .void _
  .rw[zAY9 hj,ho]at ho';injection ho' with ho';subst ho';exact .same _ (Ne.symm hj)
theorem zxk:∀{l:LG} {cs:LK},LR (VR c h) (l.map fun(n:Int)=>(PV.int .i64 n)) cs->cs=ivT l
 | [],cs,k=>k.oN
 | a::l,cs,k=>by
  obtain⟨y,cs',rfl,h1,h2⟩:=LR.oc k;rw[zxk h2,h1.int_inv];rfl
theorem zx6:∀l:LG,LR (VR c h) (l.map fun(n:Int)=>(PV.int .i64 n)) (ivT l)
 | []=>LR.nil
 | a::l=>LR.cons (.pure (.int _ _)) (zx6 l)
theorem zE5{f e0:Nat}(hf:E.funcs.get f=none)(hg:E.spec f=some (zkr e0)){id g M:Nat}{xs:LG}(hH:H[id]?=some (.row e0 1 g M (xs.map iv)))(hM:M<=g)(hx:0<xs.length)(hx2:xs.length<=1000000)(q:Nat):
  FO E f [.sl id g 0 xs.length q 1] H false fun e H'=>e=.ret (.tuple [])/\H'=H.set id (.row e0 1 g g ((srt xs).map iv)):=by
 intro B c h us k hv;obtain⟨y,cs',rfl,h1,h2⟩:=hv.oc;obtain rfl:=h2.oN;rcases sl_inv h1 with⟨_,_,h3,_⟩|⟨b,d,g',hρ,hgd,rfl⟩
 .omega
 obtain⟨_,G',M',cells,cs,r1,r2,r3,r4,r5⟩:=zgI k hH hρ;obtain rfl:g'=G':=by omega
 have hflat:∀l:LG,(l.map iv).flatMap PV.cells=l.map fun(n:Int)=>(PV.int .i64 n):=fun l=>by
  induction l with
  | nil=>rfl
  | cons a l ih=>rw[zBY9,zBQ9,ih];rfl
 have r6:=r5.all;rw[hflat]at r6;have hcs:=zxk r6;rw[zAP9,zGH9]at r1 r4;obtain⟨m1,k1⟩:=k.set (o:=.row e0 1 g g ((srt xs).map iv)) (x:=.row e0 g' g' xs.length (Tr.putL .nil 0 (ivT (srt xs)))) hρ (fun e=>by rw[hH]at e;cases e) fun mm =>
  .inr ⟨b,d,g',g',Tr.putL .nil 0 (ivT (srt xs)),ivT (srt xs),hρ,by rw[TH.get_set _ _ _ _ (k.own _ _ hρ).2.1,if_pos rfl,zAP9,zim,zGH9],r2,by omega,by
   rw[zAP9,zim,zGH9];have:=zkC (ivT (srt xs));unfold ivT at this;rw[zAP9,zim]at this;exact this,⟨fun v hv=>by obtain⟨a,_,rfl⟩:=zAH9.1 hv;rfl,by rw[hflat];exact zx6 _⟩⟩
 refine⟨.ret (.tuple []),_,.ret (.tuple []),_,c,⟨1,fun N hN d' hd=>?_⟩,⟨rfl,rfl⟩,m1,k1,?_,fun h=>by cases h⟩
 .obtain⟨d',rfl⟩:∃i,d'=i+1:=⟨d'-1,by omega⟩
  show Tw.zbm (EN E N) (zdX (EN E N) d') f _ h=_;unfold Tw.zbm;rw[show (EN E N).funcs.get f=none from hf];dsimp only;rw[show (EN E N).spec f=some (zkr e0)from hg];show zkr e0 [.sl b g' (0*1) xs.length q 1] h=_;rw[zGR9];show (match h.get b with
   | some o=>zpQ h b g' xs.length e0 o
   | none=>none)=_
  rw[r1];unfold zpQ;dsimp only;rw[zb6 rfl,zb6 rfl,zb6 rfl,zcG zo,zcG hx2,r4,hcs];simp only[cond_true];rw[zqH]
 .exact VR.tL LR.nil
theorem zy9{f:Nat->Nat->Nat}{op:BinOp}(ho:∀x y,zgy op .u64 .u64 x y=zmc f .u64 x y)(h1:0<=x)(h2:x<18446744073709551616)(h3:0<=y)(h4:y<18446744073709551616):sc2 (zc6 op) [.int .u64 x,.int .u64 y]=some (.int .u64 (f x.toNat y.toNat:Nat)):=by
 obtain⟨a,rfl⟩:=zDB9 h1;obtain⟨b,rfl⟩:=zDB9 h3;simp only[sc2,PV.toT,zc6,ze8,ho];show (match(bif Nat.blt a (2 ^ 64)then bif Nat.blt b (2 ^ 64)then some (TV.int .u64 (.ofNat (f a b)))else none else none)with|some w=>ofT w|none=>none)=_;rw[show Nat.blt a (2 ^ 64)=true by simp;omega,show Nat.blt b (2 ^ 64)=true by simp;omega];rfl
theorem za3(h1:0<=x)(h2:x<18446744073709551616)(h3:0<=y)(h4:y<18446744073709551616):sc2 (zc6 .and) [.int .u64 x,.int .u64 y]=some (.int .u64 (Nat.land x.toNat y.toNat:Nat)):=zy9 (fun _ _=>rfl) h1 h2 h3 h4
theorem zbK(h1:0<=x)(h2:x<18446744073709551616)(h3:0<=y)(h4:y<18446744073709551616):sc2 (zc6 .or) [.int .u64 x,.int .u64 y]=some (.int .u64 (Nat.lor x.toNat y.toNat:Nat)):=zy9 (fun _ _=>rfl) h1 h2 h3 h4
theorem zaT(h1:0<=x)(h2:x<18446744073709551616)(h3:0<=y)(h4:y<18446744073709551616):sc2 (zc6 .xor) [.int .u64 x,.int .u64 y]=some (.int .u64 (Nat.xor x.toNat y.toNat:Nat)):=zy9 (fun _ _=>rfl) h1 h2 h3 h4
theorem zpt:IntKind.u64.wrap (n:Int)=((n%18446744073709551616:Nat):Int):=by
 have h:((n%18446744073709551616:Nat):Int)=(n:Int)%18446744073709551616:=by simp
 rw[h];simp[IntKind.wrap,IntKind.bits,IntKind.signed]
theorem za6(h1:0<=x)(h3:0<=y)(h4:y<=64):sc2 (zc6 .shl) [.int .u64 x,.int k' y]=some (.int .u64 (x.toNat*2 ^ y.toNat%18446744073709551616:Nat)):=by
 obtain⟨a,rfl⟩:=zDB9 h1;obtain⟨b,rfl⟩:=zDB9 h3;simp only[sc2,PV.toT,zc6,ze8];show (match(bif Nat.ble b 64 then some (TV.int .u64 (IntKind.u64.wrap ((a:Int)*2 ^ (min b 64))))else none)with|some w=>ofT w|none=>none)=_;rw[zcG zo,zDV9 zo];simp only[cond_true,ofT,zCO9];rw[show (a:Int)*2 ^ b=((a*2 ^ b:Nat):Int) by simp,zpt]
theorem zbf(h1:0<=x)(h3:0<=y)(h4:y<=64):sc2 (zc6 .shr) [.int .u64 x,.int k' y]=some (.int .u64 (x.toNat/2 ^ y.toNat:Nat)):=by
 obtain⟨a,rfl⟩:=zDB9 h1;obtain⟨b,rfl⟩:=zDB9 h3;simp only[sc2,PV.toT,zc6,ze8];show (match(bif Nat.ble b 64 then some (TV.int .u64 (.ofNat (a/2 ^ (min b 64))))else none)with|some w=>ofT w|none=>none)=_;rw[zcG zo,zDV9 zo];rfl
theorem znQ:zeO a b=decide (a=b):=by
 by_cases h:a=b
 .rw[(zi8 a b).2 h];simp[h]
 .rw[zHO9.2 fun e=>h ((zi8 a b).1 e)];simp[h]
theorem zaW:sc2 (zc6 .eql) [.str a,.str b]=some (.bool (decide (a=b))):=by
 rw[<- znQ];rfl
theorem za5:sc2 (zc6 .neq) [.str a,.str b]=some (.bool (!decide (a=b))):=by
 rw[<- znQ];rfl
theorem zau(s:LN):sc1 zt5 [.str s]=some (.int .i64 s.length):=rfl
theorem zld:∀(l:LN) (n:Nat),zlS l n=l[n]?
 | [],n=>by simp[zlS]
 | x::l,0=>rfl
 | x::l,n+1=>by simp only[zlS,zBO9];exact zld l n
theorem zGu{k:IntKind}{s:LN}{j:Int}{x:Nat}(h0:0<=j)(h:s[j.toNat]?=some x):sc2 zlu [.str s,.int k j]=some (.int .u8 x):=by
 obtain⟨n,rfl⟩:=zDB9 h0;rw[zCO9,<- zld]at h;simp only[sc2,PV.toT];show (match(match zlS s n with|some c=>some (TV.int .u8 (.ofNat c))|none=>none)with|some w=>ofT w|none=>none)=_;rw[h];rfl
section
variable (n:Nat)
variable (a:Nat)(l:LQ)(b:Nat)
theorem zav(k:IntKind)(m:Int):dpF (n+1) (.int k m)=true:=rfl
theorem zZ(b:Bool):dpF (n+1) (.bool b)=true:=rfl
theorem zar(s:LN):dpF (n+1) (.str s)=true:=rfl
theorem zaq(p z:Nat)(l:LQ):dpF (n+1) (.list p z l)=true:=rfl
theorem zaa:dpF (n+1) (.elem l)=true:=rfl
theorem zaX(c d e f:Nat):dpF (n+1) (.sl a b c d e f)=true:=rfl
theorem zas(c d e:Nat):dpF (n+1) (.ptr a b c d e)=true:=rfl
theorem zaw:dpF (n+1) (.map a)=true:=rfl
theorem zIi:dpF (n+1) (.yield a)=true:=rfl
theorem zC:dpF (n+1) .nilsl=true:=rfl
theorem zj:dpF (n+1) .nilptr=true:=rfl
theorem zi:dpF (n+1) .nilmap=true:=rfl
theorem zL:dpF (n+1) .nilfn=true:=rfl
theorem zf:dpF (n+1) .niliface=true:=rfl
theorem zF(t:Nat)(v:PV):dpF (n+1) (.iface t v)=dpF n v:=rfl
theorem za4(f:Nat)(l:LQ):dpF (n+1) (.fn f l)=l.all (dpF n):=rfl
theorem zat:dpF (n+1) (.agg l)=l.all (dpF n):=rfl
theorem zA:dpF (n+1) (.tuple l)=l.all (dpF n):=rfl
end
end Fv
end Go.Proofs.YtkeknmgnoceogaaGreat
