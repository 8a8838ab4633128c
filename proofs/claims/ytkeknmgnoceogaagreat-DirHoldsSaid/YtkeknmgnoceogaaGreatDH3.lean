/- part 3 of the proof of dir_holds. -/
import Derived.Test.YtkeknmgnoceogaaGreatDH2
set_option linter.unusedSimpArgs false
set_option linter.unusedVariables false
set_option maxRecDepth 100000
namespace Go.Proofs.YtkeknmgnoceogaaGreat
namespace Fv
open Tw
variable {E:vC}
theorem HR.adopt{B:Ba}{c:Cx}{H:LQ}{h h':TH}(hr:HR B c H h)(hn:h.next<=h'.next)(hk:∀b,b<h.next->h'.get b=h.get b){b d z:Nat}(hb:h.next<=b)(hb2:b<h'.next){o:za}(ho:OR (c.add H.length b d z) h' H.length o) :
  Mo c (c.add H.length b d z) h h'/\HR B (c.add H.length b d z) (H++[o]) h':=by
 have s:c.ρ H.length=none:=by
  cases k:c.ρ H.length with
  | none=>rfl
  | some y=>have:=(hr.own _ _ k).2.2;omega
 have m:Mo c (c.add H.length b d z) h h':=⟨fun _ _ h=>h,fun id y a=>by
  show (if id=H.length then _ else _)=_;rw[if_neg (fun e=>by subst e;rw[s]at a;cases a)];exact a,fun _ h=>h,fun p b hb g o n A k=>DV hk k⟩
 have i:∀id y,(c.add H.length b d z).ρ id=some y->(id=H.length/\y=(b,d,z))\/c.ρ id=some y:=fun id y a=>by
  have a:(if id=H.length then some (b,d,z)else c.ρ id)=some y:=a
  grind
 have w:=hr.le;refine⟨m,⟨YY hr.le hn,fun x j=>?_,hr.old,fun p x j=>?_,fun id y a=>?_,fun id t=>?_,fun id l y r a f e=>?_,fun id u q=>?_⟩⟩
 .rw[hk x (YS j hr.le)];exact hr.keep x j
 .obtain⟨h1,h2⟩:=hr.S p x j
  grind
 .rw[Yn];rcases i id y a with⟨rfl,rfl⟩|a
  .grind
  .obtain⟨h1,h2,h3⟩:=hr.own id y a;omega
 .obtain⟨h1,h2⟩:=hr.lz id t
  grind
 .rcases i id y a with⟨rfl,rfl⟩|a
  .rcases i l r f with⟨rfl,rfl⟩|f
   .rfl
   .have:=(hr.own _ _ f).2.1;dsimp only at e;omega
  .rcases i l r f with⟨rfl,rfl⟩|f
   .have:=(hr.own _ _ a).2.1;dsimp only at e;omega
   .exact hr.inj _ _ _ _ a f e
 .by_cases v:id<H.length
  .rw[YP v]at q;refine(hr.obj id u q).move m ?_ (fun h=>h) fun y a=>hk _ (hr.own _ _ a).2.1;show (if id=H.length then _ else _)=_
   grind
  grind
def rG(l:LJ):Prop:=∀v∈l,∃k n,v=.int k n
theorem FO.own1{f:Nat}{args aS:LJ}{H:LQ}{l:LJ}{e0 z n:Nat}(k:FO E f aS [] false (fun e' H'=>∃id g M,e'=.ret (.sl id g 0 n (2*n) z)/\M<=g/\H'[id]?=some (.row e0 z g M l)))(hl:LF H 1 args aS)(hi:rG (l.flatMap PV.cells))(hne:l ≠ []) :
  FO E f args H true (fun e' H'=>∃g M,e'=.ret (.sl H.length g 0 n (2*n) z)/\M<=g/\H'=H++[.row e0 z g M l]):=fun B c h R j T=>by
 have h1:=LF.ok j (S:=cK c) (fun p b e=>.inl e) (fun id x a=>.inr ⟨rfl,id,x,a,rfl⟩) hl T;have U:∀p b,cK c p b->b<h.next:=fun p b e=>by
  rcases e with e|⟨_,id,x,a,rfl⟩
  .exact(j.S p b e).1
  .exact(j.own _ _ a).2.1
 have K:HR ⟨h.next,h,cK c⟩ ⟨cK c,fun _=>none,fun _=>False⟩ [] h:=⟨Ym _,fun _ _=>rfl,fun p b e=>.inl e,fun p b e=>⟨U p b e,fun id x a=>(by cases a)⟩,fun id x a=>(by cases a),fun id a=>a.elim,fun id ab x x' a=>(by cases a),fun id o V=>(by simp at V)⟩
 obtain⟨r,q,e',H',X,Y,⟨id,g,M,rfl,Z,J⟩,m1,s,t,_⟩:=k _ _ h R K (LR.pure (c:=⟨cK c,fun _=>none,fun _=>False⟩) h1);have hn:=s.le;have G:∀b,b<h.next->q.get b=h.get b:=fun b e=>s.keep b e
 cases r with
 | panic u=>exact t.elim
 | ret u =>
  have t:VR X q (.sl id g 0 n (2*n) z) u:=t;rcases s.obj id _ J with⟨h0,_⟩|⟨b,d,G',M',cells,I,A,r2,r3,r4,r5,C⟩
  .exact absurd h0 hne
  obtain⟨D,o2,_⟩:=s.own id _ A;have D:h.next<=b:=D;rcases sl_inv t with⟨_,_,_,_,_,hL⟩|⟨b',d',g',v,L,rfl⟩
  .have N:=(s.lz id hL).2 _ A;dsimp only at N;omega
  rw[A]at v;injection v with v;injection v with O w;injection w with w ad;subst O w;have P:ER (VR (c.add H.length b d z) q) z l I:=by
   refine⟨C.one,C.all.1,fun i x y a hy=>?_⟩;obtain⟨kk,nn,rfl⟩:=hi x (Yt a);have:=C.all.2 i _ y a hy;obtain rfl:=this.int_inv;exact .pure (.int _ _)
  obtain⟨m,Q⟩:=j.adopt hn G (z:=z) D o2 (o:=.row e0 z g M l) (.inr ⟨b,d,G',M',cells,I,add_same ..,r2,r3,r4,r5,P⟩);refine⟨_,q,_,_,_,Y,⟨g,M,rfl,Z,rfl⟩,m,Q,?_,fun _ id x a=>G _ (j.own _ _ a).2.1⟩;show VR _ q (.sl H.length g 0 n (2*n) z) _;rw[L];exact .sl (add_same ..)
def Af:List vl->Bool
 | []=>true
 | o::l=>Nat.beq o.kind.cls 0&&Af l
def iQ:vw->Bool
 | .region ops=>Af ops
 | .seq a b=>iQ a&&iQ b
 | .skip=>true
 | .ret=>true
 | _=>false
variable {C:wE}
theorem St.put_hd(s:St)(d:LB)(v:TV):(s.put d v).h=s.h/\(s.put d v).df=s.df:=by
 unfold St.put;split<;>exact⟨rfl,rfl⟩
theorem J2{caught:LE}:∀(l:List vl) (s:St) (r:TS),Af l=true->kc C caught l s=some r->∃s',r=.go s'/\s'.h=s.h/\s'.df=s.df
 | [],s,r,_,h=>by injection h with h;exact⟨s,h.symm,rfl,rfl⟩
 | o::l,s,r,b,h=>by
  unfold Af at b;rw[Yr]at b;have d:=Yo b.1;have h1:∀t,pA C caught o s=some t->∃s',t=.go s'/\s'.h=s.h/\s'.df=s.df:=fun t a=>by
   unfold pA at a
   split at a
   .cases a
   .injection a with a;exact⟨_,a.symm,St.put_hd _ _ _⟩
   .split at a
    .cases a
    .unfold mW at a;rw[d]at a;change Ad _ _ _=_ at a;unfold Ad at a
     split at a
     .injection a with a;exact⟨_,a.symm,St.put_hd _ _ _⟩
     .cases a
  unfold kc at h
  cases c:pA C caught o s with
  | none=>rw[c]at h;cases h
  | some t =>
   obtain⟨e,rfl,f,g⟩:=h1 t c;rw[c]at h;obtain⟨i,j,k,m⟩:=J2 l e r b.2 h;exact⟨i,j,k.trans f,m.trans g⟩
theorem DK{caught:LE}{N:Nat}{rnd:LB}:∀(c:vw) (s s':St) (x:TX),iQ c=true->vE C caught N rnd c s=some (x,s')->s'.h=s.h/\s'.df=s.df
 | .skip,s,s',x,_,h=>by unfold vE at h;injection h with h;injection h with _ h;subst h;exact⟨rfl,rfl⟩
 | .ret,s,s',x,_,h=>by unfold vE at h;injection h with h;injection h with _ h;subst h;exact⟨rfl,rfl⟩
 | .region k,s,s',x,d,h=>by
  unfold vE at h
  cases g:kc C caught k s with
  | none=>rw[g]at h;cases h
  | some r =>
   obtain⟨i,rfl,e,f⟩:=J2 k s r d g;rw[g]at h;injection h with h;injection h with _ h;subst h;exact⟨e,f⟩
 | .seq a b,s,s',x,d,h=>by
  unfold iQ at d;rw[Yr]at d;unfold vE at h
  cases j:vE C caught N rnd a s with
  | none=>rw[j]at h;cases h
  | some r =>
   obtain⟨y,i⟩:=r;obtain⟨e,f⟩:=DK a s i y d.1 j;rw[j]at h
   cases y with
   | norm =>
    obtain⟨l,m⟩:=DK b i s' x d.2 h;exact⟨l.trans e,m.trans f⟩
   | _=>injection h with h;injection h with _ h;subst h;exact⟨e,f⟩
theorem FO.pure{f:Nat}{F:ze}{args:LJ}{H:LQ}{R:FE->LQ->Prop}{b:Bool}(hF:E.funcs.get f=some F)(hp:iQ F.body=true)(k:FO E f args H b R):FO E f args H true R:=fun B c h d u w=>by
 obtain⟨r,l,e,z,A,n,q,m,p,C,_⟩:=k B c h d u w;refine⟨r,l,e,z,A,n,q,m,p,C,fun _ id x G=>?_⟩;obtain⟨K,D⟩:=n;have h1:=D (K+1) zo (K+1) zo;change Tw.zC (EN E (K+1)) (y7 (EN E (K+1)) K) f d h=_ at h1;unfold Tw.zC at h1;rw[show (EN E (K+1)).funcs.get f=some F from hF]at h1;dsimp only at h1;have s:l=h:=by
  cases o:Nat.ble d.length F.N with
  | false=>rw[o]at h1;cases h1
  | true =>
   rw[o,cond_true]at h1
   cases j:vE (y7 (EN E (K+1)) K) (EN E (K+1)).caught (EN E (K+1)).N none F.body ⟨Tr.putL .nil 0 d,[],h⟩with
   | none=>rw[j]at h1;cases h1
   | some t =>
    obtain⟨y,a⟩:=t;obtain⟨g,i⟩:=DK _ _ _ _ hp j;dsimp only at g i;rw[j]at h1
    cases y with
    | norm =>
     change pR (EN E (K+1)) F a.tm (uS (EN E (K+1)) (y7 (EN E (K+1)) K) a.df .returning a.h)=_ at h1;rw[i,g]at h1;unfold uS pR at h1;grind
    | ret =>
     change pR (EN E (K+1)) F a.tm (uS (EN E (K+1)) (y7 (EN E (K+1)) K) a.df .returning a.h)=_ at h1;rw[i,g]at h1;unfold uS pR at h1;grind
    | panic v =>
     change pR (EN E (K+1)) F a.tm (uS (EN E (K+1)) (y7 (EN E (K+1)) K) a.df (.panicking v) a.h)=_ at h1;rw[i,g]at h1;unfold uS pR at h1;grind
    | _=>cases h1
 rw[s]
end Fv
end Go.Proofs.YtkeknmgnoceogaaGreat
