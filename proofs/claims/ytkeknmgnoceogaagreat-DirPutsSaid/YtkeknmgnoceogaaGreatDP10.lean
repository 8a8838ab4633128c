/- DirPuts returns true for every input, and its input reads afterwards as it did. No condition. -/
import Derived.Test.YtkeknmgnoceogaaGreatDP9
import Derived.ProofKit
import Derived.OpenShut
import Derived.ShutString
import Derived.ChangeOld
import Derived.Deep.Strs
import Derived.Deep.SlicePairs
import Derived.JoinedOf
import Derived.KernelRfl
import Derived.Test.YtkeknmgnoceogaaGreatRows
import Derived.Test.YtkeknmgnoceogaaGreatChecked
import Derived.ChangeMaps5
set_option linter.unusedSimpArgs false
set_option linter.unusedVariables false
set_option maxRecDepth 100000
set_option maxHeartbeats 4000000
namespace Go.Proofs.YtkeknmgnoceogaaGreat
open Go.Proofs.Tryz
namespace Fv
open Tw


variable (w:LN)
theorem Xx(a:Pr)(l:LJ)(key:Nat):yq (a::l) key=if a.1<key then yq l key else decide (a.1=key):=by
 unfold yq yI
 by_cases h:a.1<key
 .rw[if_pos h,zDG9,if_pos (decide_eq_true h),Zp,ZJ]
 .rw[if_neg h,zDG9,if_neg (by simpa using h)];rfl
theorem Lr:∀(l:LJ) (key:Nat),wh l=true->yq l key=false->∀q∈l,¬q.1=key
 | [],_,_,_,q,b=>by cases b
 | a::l,key,c,h,q,b=>by
  rw[Xx]at h;have f:∀y∈l,a.1<y.1:=fun y g=>by
   obtain⟨j,i⟩:=Z8.1 g;exact pO c j 0 a y rfl (by rw[ZT,ZJ];exact i)
  have e:wh l=true:=lX c 1
  by_cases d:a.1<key
  .rw[if_pos d]at h;rcases ZD.1 b with rfl|b
   .omega
   .exact Lr l key e h q b
  .rw[if_neg d,decide_eq_false_iff_not]at h;rcases ZD.1 b with rfl|b
   .exact h
   .have:=f q b;omega
theorem U2:¬wd w=3:=by
 unfold wd
 split
 .split<;>decide
 .decide
theorem Qa(x:Pr):¬xz w x=3:=by
 unfold xz
 split
 .split<;>decide
 .exact U2 w
theorem Qb{w:LN}{x:Pr}(h:xz w x=0):wd w=0/\wR (headN w) x=true:=by
 unfold xz at h
 split at h
 .rename_i h1
  split at h
  .rename_i h2;exact⟨h1,h2⟩
  .cases h
 .rename_i h1;exact absurd h h1
structure cH(n:zi)(x:Pr):Prop where
 may:wR n x=true
 left:¬x.2=n.left
 ptr:∀q∈n.pairs,¬q.2=x.2
 key:∀q∈n.pairs,¬q.1=x.1
variable {n:zi}{w:LN}{x:Pr}
theorem UK(h:(wj w x).2=3):wd w=0/\cH (headN w) x:=by
 unfold wj mc at h
 by_cases d:xz w x=0
 rotate_left
 .rw[if_neg d]at h;exact absurd h (Qa w x)
 have c:=Qb d;rw[if_pos d]at h;have k:w.getD 3 0=(headN w).left:=by unfold headN;rfl
 rw[k]at h;have b:(uk (headN w).left (w.drop 8) x).2=3:=by grind
 obtain⟨g,j,l,r,s,t,u⟩:=mC c.1;have m:w9 (headN w).left (w.drop 8).length=true:=by
  rw[ZX,j];unfold w9;simp[g.left0]
 have i:vG (headN w).left (w.drop 8)=(headN w).pairs:=by
  have:(headN w).pairs=wO (headN w).left (w.drop 8):=by unfold headN;rfl
  rw[this];unfold wO;rw[if_pos m]
 unfold uk at b;rw[i]at b
 by_cases a:uW (headN w).left (w.drop 8) x=0
 rotate_left
 .rw[if_neg a]at b;dsimp only at b;unfold uW uf at b
  grind
 rw[if_pos a]at b;have n:yq (headN w).pairs x.1=false:=by
  by_cases e:yq (headN w).pairs x.1=true
  .rw[if_pos e]at b;dsimp only at b;omega
  .simpa using e
 have f:¬x.2=(headN w).left/\yL (headN w).pairs x.2=false:=by
  unfold uW at a;rw[i]at a;have o:uf (headN w).left (w.drop 8)=0:=by
   have:=c.1;unfold wd at this;rw[if_pos l]at this;have a:gL w=true:=by grind
   unfold gL at a;rw[Zm,decide_eq_true_eq]at a;exact a.1
  rw[o]at a
  grind
 refine⟨c.1,c.2,f.1,fun q p e=>?_,Lr _ _ g.rise n⟩;have h2:=f.2;unfold yL at h2;rw[zCM9,decide_eq_false_iff_not]at h2;exact h2 (Zu.2 ⟨q,p,e⟩)
theorem Ew(h:wd w=0)(hn:headN w=n)(hm:cH n x)(hr:n.pairs.length<27):(wj w x).2=0:=by
 subst hn;exact Wj h hm.may hm.left hm.ptr hm.key hr
theorem UJ(h:cH n x)(to:Nat):cH (rj n to) x :=
 ⟨h.may,h.left,fun q a=>h.ptr q (ZU a),fun q a=>h.key q (ZU a)⟩
theorem UM(hg:uM n)(h2:2<=n.pairs.length)(h:cH n x)(hl:(vF n).low<=x.1):cH (vF n) x:=by
 have l:n.pairs.length/2<n.pairs.length:=zo;obtain⟨y,i⟩:∃y,n.pairs[n.pairs.length/2]?=some y:=⟨_,Zg l⟩
 have m:=getD_some i;have g:=Zj i;obtain⟨a,o,d,f⟩:=h;have p:=d y g;have r:=f y g;unfold vF at hl⊢;rw[m]at hl⊢;dsimp only at hl;rcases hg.left with⟨c,j⟩|⟨c,j⟩
 .have k:¬0<n.level:=zo;rw[if_neg k,if_neg k];refine⟨?_,by rw[<- j];exact o,fun q b=>d q (ZQ b),fun q b=>f q (ZQ b)⟩;unfold wR at a⊢;rw[if_pos c]at a;rw[if_pos c];simp only[Zm,decide_eq_true_eq]at a⊢;exact⟨a.1,hl⟩
 .rw[if_pos c,if_pos c];refine⟨?_,fun e=>p e.symm,fun q b=>d q (ZQ b),fun q b=>f q (ZQ b)⟩;unfold wR at a⊢;rw[if_neg zo]at a;rw[if_neg (by show ¬n.level=0;omega)];simp only[Zm,decide_eq_true_eq]at a⊢;exact⟨a.1,by show y.1<x.1;omega⟩
theorem YR(h:n.pairs.length<=27)(h2:2<=n.pairs.length):(vF n).pairs.length<27:=by
 unfold vF;dsimp only
 split<;>rw[ZX]<;>omega
theorem Up(h:n.pairs.length<=27)(to:Nat):(rj n to).pairs.length<27:=by
 show (n.pairs.take _).length<27;rw[ZC];omega
structure aF(w:LN)(fr:LN)(b c:Nat):Prop where
 low:(headN (zc w b)).low<=(headN (zc w c)).low
 gap:∀q∈(headN (zc w b)).pairs,q.1<=(headN (zc w c)).low\/∀x∈(headN (zc w c)).pairs,x.1<q.1
 lvl:0<(headN (zc w b)).level
 out:∀f∈fr,¬f=(headN (zc w b)).left/\∀q∈(headN (zc w b)).pairs,¬q.2=f
variable {b:Nat}{fr:LN}
theorem S8(hg:uM n)(hl:0<n.level):wh (wL n)=true:=by
 rw[bn];intro i x y a b;unfold wL at a b
 cases i with
 | zero =>
  simp only[zCQ9,ZJ]at a b
  cases a
  have:=hg.may y (Zj b);unfold wR at this;rw[if_neg zo]at this;simp only[Zm,decide_eq_true_eq]at this;exact this.2
 | succ i =>
  simp only[ZJ]at a b;exact(bn _).1 hg.rise i x y a b
theorem Tk{l:LJ}(h:wh l=true){x:Pr}(hx:x∈l):∃p,l.getLast?=some p/\x.1<=p.1:=by
 obtain⟨i,a⟩:=Z8.1 hx;have b:=(Zh.1 a).1;refine⟨l[l.length-1],by rw[zAF9,Zg zo],?_⟩
 by_cases e:i=l.length-1
 .subst e;rw[Zg b]at a;injection a with a;rw[a];exact Zi _
 .have:=pO h (l.length-1-i-1) i x l[l.length-1] a (by rw[show i+(l.length-1-i-1)+1=l.length-1 by omega,Zg zo]);omega
theorem J1:∀(bs:LN) (ns:LB) (j:Nat) (C D:zi),xl w bs ns=true->bs.length=ns.length->ns[j]?=some C->ns[j+1]?=some D->pC C (some D)=true
 | [],[],j,C,D,_,_,h,_=>by simp at h
 | [],_::_,_,_,_,_,h,_,_=>by simp at h
 | _::_,[],_,_,_,_,h,_,_=>by simp at h
 | b::bs,n::ns,j,C,D,h,d,a,c=>by
  rw[xl,Zm,Zm]at h
  cases j with
  | zero =>
   simp only[zCQ9,ZJ]at a c
   cases a
   have:=h.1.2;rw[zDP9,c]at this;exact this
  | succ j =>
   simp only[ZJ]at a c;exact J1 bs ns j C D h.2 (by simpa using d) a c
theorem Q4{L:LB}{i:Nat}(h:L[i]?=some n):∃o:Nat,∀(a:Nat) (q:Pr),(wL n)[a]?=some q->(L.flatMap wL)[o+a]?=some q:=by
 have b:=(Zh.1 h).1;refine⟨((L.take i).flatMap wL).length,fun a q c=>?_⟩;have e:L=L.take i++n::L.drop (i+1):=by
  conv=>lhs;rw[<- zBV9 i L,Zs b]
  rw[Zg b]at h;injection h with h;rw[h]
 have d:L.flatMap wL=(L.take i).flatMap wL++(wL n++(L.drop (i+1)).flatMap wL):=by
  conv=>lhs;rw[e,zBC9,ZZ]
 rw[d,ZH zo,zCB9,ZM (Zh.1 c).1];exact c
theorem Uf{L M:vO}(hL:gU w L)(hM:gU w M)(hLs:xl w L.1 L.2=true)(hMs:xl w M.1 M.2=true)(hk:L.2.flatMap wL=uI M)(hp:bK L)(hfr:∀f∈fr,f ∉ M.1)(hb:b∈L.1){q:Pr}(hq:q∈wL (headN (zc w b))):aF w fr b q.2:=by
 have y:headN (zc w b)∈L.2:=by rw[hL.lv.is];exact Zu.2 ⟨b,hb,rfl⟩
 have I:=(mC (eW hL.lv.len hLs b hb)).good;have z:=hp _ y;obtain⟨i,J⟩:=Z8.1 y;obtain⟨o,m⟩:=Q4 J;rw[hk]at m;have s:∀(j:Nat) (q:Pr),(uI M)[j]?=some q->M.1[j]?=some q.2/\M.2[j]?=some (headN (zc w q.2))/\(headN (zc w q.2)).low=q.1:=fun j q h=>by
  unfold uI at h;rw[zBN9]at h;obtain⟨h1,h2⟩:=h;rw[hM.lv.is,zBS9,Zt,h2]at h1;refine⟨h2,by rw[hM.lv.is,Zt,h2];rfl,?_⟩;injection h1
 have n:=S8 I z;obtain⟨a,c⟩:=Z8.1 hq;obtain⟨K,N,A⟩:=s _ _ (m a q c);have u:∀q∈wL (headN (zc w b)),q.2∈M.1:=fun q hq=>by
  obtain⟨a,c⟩:=Z8.1 hq;exact Zj (s _ _ (m a q c)).1
 refine⟨?_,fun l C=>?_,z,fun f B=>⟨fun e=>hfr f B ?_,fun q hq e=>hfr f B ?_⟩⟩
 .rw[A]
  cases a with
  | zero=>simp[wL]at c;rw[<- c];exact Zi _
  | succ a=>have:=pO n a 0 _ _ (show (wL (headN (zc w b)))[0]?=some ((headN (zc w b)).low,(headN (zc w b)).left)from rfl) (by rw[ZT];exact c);dsimp only at this;omega
 .rw[A]
  by_cases v:l.1<=q.1
  .exact .inl v
  refine .inr fun x O=>?_;have D:l∈wL (headN (zc w b)):=Zo _ C;obtain⟨d,g⟩:=Z8.1 D;have R:a<d:=by
   rcases Nat.lt_trichotomy a d with h|h|h
   .exact h
   .rw[h,g]at c;injection c with c;rw[c]at v;omega
   .have:=pO n (a-d-1) d l q g (by rw[show d+(a-d-1)+1=a by omega];exact c);omega
  have Q:=(Zh.1 g).1;obtain⟨r,t⟩:∃r,(wL (headN (zc w b)))[a+1]?=some r:=⟨_,Zg zo⟩
  obtain⟨d1,d2,d3⟩:=s _ _ (m (a+1) r t);have k:=J1 _ _ _ _ _ hMs hM.lv.len N d2;have G:=(mC (eW hM.lv.len hMs q.2 (Zj K))).good;obtain⟨p,P,T⟩:=Tk G.rise O;unfold pC at k;rw[P]at k;have k:p.1<(headN (zc w r.2)).low:=of_decide_eq_true k;rw[d3]at k;have S:r.1<=l.1:=by
   by_cases e:d=a+1
   .rw[e,t]at g;injection g with g;rw[g];exact Zi _
   .have:=pO n (d-(a+1)-1) (a+1) r l t (by rw[show a+1+(d-(a+1)-1)+1=d by omega];exact g);omega
  omega
 .rw[e];exact u _ (Zr ..)
 .rw[<- e];exact u q (Zo _ hq)
theorem Yu{c:Nat}(h:aF w fr b c)(hc:uM (headN (zc w c)))(h2:2<=(headN (zc w c)).pairs.length){to:Nat}(hto:to∈fr)(hb:xN to=true):cH (headN (zc w b)) ((vF (headN (zc w c))).low,to):=by
 obtain⟨n,k,o,f⟩:=h;have i:(headN (zc w c)).pairs.length/2<(headN (zc w c)).pairs.length:=zo;obtain⟨y,a⟩:∃y,(headN (zc w c)).pairs[(headN (zc w c)).pairs.length/2]?=some y:=⟨_,Zg i⟩
 have j:=Zj a;rw[Mr,getD_some a];obtain⟨z,g⟩:∃z,(headN (zc w c)).pairs[0]?=some z:=⟨_,Zg zo⟩
 have l:=pO hc.rise ((headN (zc w c)).pairs.length/2-1) 0 z y g (by rw[show 0+((headN (zc w c)).pairs.length/2-1)+1=(headN (zc w c)).pairs.length/2 by omega];exact a);have m:(headN (zc w c)).low<=z.1:=by
  have:=hc.may z (Zj g);unfold wR at this
  split at this
  .simp only[Zm,decide_eq_true_eq]at this;exact this.2
  .simp only[Zm,decide_eq_true_eq]at this;omega
 refine⟨?_,fun e=>(f to hto).1 e,fun q d=>(f to hto).2 q d,fun q d=>?_⟩
 .unfold wR;rw[if_neg zo,hb];exact decide_eq_true (by show _<y.1;omega)
 .show ¬q.1=y.1;rcases k q d with h|h
  .omega
  .have:=h y j;omega


def nM(fr w:LN):LN->Prop
 | b::a::up=>aF w fr a b/\nM fr w (a::up)
 | _=>True
variable {w':LN}
theorem aF.same{b c:Nat}(h:aF w fr b c)(h1:zc w' b=zc w b)(h2:zc w' c=zc w c):aF w' fr b c:=by
 obtain⟨a,d,e,f⟩:=h;exact⟨by rw[h1,h2];exact a,by rw[h1,h2];exact d,by rw[h1];exact e,by rw[h1];exact f⟩
theorem nM.same:∀(l:LN),(∀c∈l,zc w' c=zc w c)->nM fr w l->nM fr w' l
 | [],_,_=>trivial
 | [_],_,_=>trivial
 | b::a::up,h,d=>⟨d.1.same (h a (by simp)) (h b (by simp)),nM.same (a::up) (fun c e=>h c (Zo _ e)) d.2⟩
theorem Kc(b:Nat)(w:LN):vx (64*b) (wJ w)=pb b w:=by
 unfold vx wJ pb;rw[zBS9];rfl
theorem CV(x:Wk)(b to:Nat)(h1:64*b+64<=x.W.length)(h2:64*to+64<=x.W.length)(hne:b≠to)(hp:(headN (zc x.W b)).pairs.length<=28):zc (x.cut b to).W b=vH (zc x.W b) (yh (headN (zc x.W b)) to)/\zc (x.cut b to).W to=vI (vF (headN (zc x.W b))):=by
 have a:=l7 (n:=headN (zc x.W b)) to hp;unfold Wk.cut;rw[gq,gq,Kc];have c:=kb (vF (headN (zc x.W b)))
 constructor
 .rw[GM b _ _ (by rw[kw];exact h1) a.2,CB x.up.W _ _ _ c h2 hne];rfl
 .rw[tj hne _ _ a.2];exact GK x.up.W _ _ c h2
structure dN(fr:LN)(at':Nat)(w:LN)(way:LN):Prop where
 way:∀c∈way,27<=(headN (zc w c)).pairs.length->c≠at'/64
 fre:∀f∈fr,f≠at'/64
 nd:fr.Nodup
variable {H:LP}{L:LJ}{a at' iP iW id r rr u:Nat}{x:Wk}
theorem Pj(w:LN)(at' v c:Nat)(h:c≠at'/64):zc (vH w (vx 0 [(at',v)])) c=zc w c :=
 CC c _ w fun s a=>by
  have:s=(0+at',v):=by unfold vx at a;simpa using a
  rw[this];dsimp only;rcases zAO9 (0+at') (64*c)with h1|h1
  .exact .inl h1
  .refine .inr ?_;omega
theorem Xl{to low c:Nat}(h1:c≠at'/64)(h2:x.used<fr.length->fr.getD x.used 0≠c)(hin:∀f∈fr,64*f+64<=x.W.length):zc (x.root fr at' b to low).1.W c=zc x.W c:=by
 unfold Wk.root
 split
 .rfl
 rename_i d
 split
 .rfl
 have a:fr.getD x.used 0∈fr:=by grind
 show zc (Wk.does _ _).W c=_;rw[gq,Pj _ _ _ _ h1,gq,Kc,CB x.up.W _ _ _ (kb _) (hin _ a) (Ne.symm (h2 zo))];rfl
theorem ig(y:Wk)(ab to low c:Nat)(hab:64*ab+64<=y.W.length)(h:ab≠c):zc (y.fin ab to low).1.W c=zc y.W c:=by
 have n:=b9 (x:=(low,to)) (kU y.W ab hab);unfold Wk.fin;dsimp only;rw[gq,tj h _ _ n.2]
structure NE(fr:LN)(at':Nat)(x:Wk)(b:Nat)(up:LN)(R:Wk×Nat×Nat×Nat):Prop where
 to:R.2.1=fr.getD x.used 0
 low:R.2.2.1=(vF (headN (zc x.W b))).low
 lo:zc R.1.W b=vH (zc x.W b) (yh (headN (zc x.W b)) (fr.getD x.used 0))
 hi:zc R.1.W (fr.getD x.used 0)=vI (vF (headN (zc x.W b)))
 other:∀c,c ∉ b::up->(∀i,x.used<=i->i<fr.length->fr.getD i 0≠c)->c≠at'/64->zc R.1.W c=zc x.W c
theorem J3(h:fr.Nodup){i j:Nat}(hi:i<fr.length)(hj:j<fr.length)(hij:i≠j):fr.getD i 0≠fr.getD j 0:=fun e=>by
 rw[Zq,Zq,Zg hi,Zg hj]at e;exact hij ((List.getElem_inj h).1 e)
theorem Ae{n:zi}(hg:uM n)(h2:2<=n.pairs.length):(vI (vF n)).getD 2 0=(vF n).low:=(BZ hg h2).parts.2.2.1
theorem E9{at':Nat}:∀(up:LN) (b:Nat) (x:Wk),mQ fr rr x (b::up)->dN fr at' x.W (b::up)->(Wk.split fr at' (b::up) x).2.2.2=0->x.used<fr.length/\NE fr at' x b up (Wk.split fr at' (b::up) x)
 | [],b,x,h,m,j=>by
  rw[Wk.split]at j⊢
  by_cases a:fr.length<=x.used
  .rw[if_pos a]at j;cases j
  rw[if_neg a]at j⊢;have a:x.used<fr.length:=zo;refine⟨a,?_⟩;have C:=h.ful b rfl;have L:=(mC (h.chk b (by simp))).good;have c:=aK fr x b (fr.getD x.used 0) (yM _);have l:=h.to a;have D:=h.frN _ l;have I:b≠fr.getD x.used 0:=fun e=>h.out _ l (by rw[<- e];simp);have M:=h.inn b (by simp);have p:=CV x b (fr.getD x.used 0) M D.2 I (yM _);have J:=m.way b (by simp) C;rw[Ae L zo]at j⊢;have Y:∀f∈fr,64*f+64<=(x.cut b (fr.getD x.used 0)).W.length:=fun f t=>by rw[c.W];exact(h.frN f t).2
  have X:∀d,(x.cut b (fr.getD x.used 0)).used<fr.length->(∀i,x.used<i->i<fr.length->fr.getD i 0≠d)->fr.getD (x.cut b (fr.getD x.used 0)).used 0≠d:=fun d h1 h2=>h2 _ (by rw[c.used];omega) h1;have N:=fun d (h1:d≠at'/64) (h2:∀i,x.used<i->i<fr.length->fr.getD i 0≠d)=>Xl (b:=b) (to:=fr.getD x.used 0) (low:=(vF (headN (zc x.W b))).low) h1 (fun hh=>X d hh h2) Y;have a0:((x.cut b (fr.getD x.used 0)).root fr at' b (fr.getD x.used 0) (vF (headN (zc x.W b))).low).2.2.2=0->((x.cut b (fr.getD x.used 0)).root fr at' b (fr.getD x.used 0) (vF (headN (zc x.W b))).low).2.1=fr.getD x.used 0/\((x.cut b (fr.getD x.used 0)).root fr at' b (fr.getD x.used 0) (vF (headN (zc x.W b))).low).2.2.1=(vF (headN (zc x.W b))).low:=fun e=>by
   unfold Wk.root at e⊢
   split at e
   .cases e
   split at e
   .cases e
   rename_i k1 k2;rw[if_neg k1,if_neg k2];exact⟨rfl,rfl⟩
  obtain⟨v1,v2⟩:=a0 j;refine⟨v1,v2,?_,?_,fun d q o z=>?_⟩
  .rw[N b J fun i n g e=>h.out (fr.getD i 0) (by grind) (by rw[e];simp),p.1]
  .rw[N _ (m.fre _ l) fun i n g=>J3 m.nd g a zo,p.2]
  .rw[N d z fun i n g=>o i zo g];exact c.blk d (fun e=>q (by rw[e];simp)) fun e=>o x.used (Zi _) a e.symm
 | above::up,b,x,h,m,j=>by
  rw[Wk.split]at j⊢
  by_cases a:fr.length<=x.used
  .rw[if_pos a]at j;cases j
  rw[if_neg a]at j⊢;have a:x.used<fr.length:=zo;refine⟨a,?_⟩;have C:=h.ful b rfl;have L:=(mC (h.chk b (by simp))).good;have c:=aK fr x b (fr.getD x.used 0) (yM _);have l:=h.to a;have D:=h.frN _ l;have I:b≠fr.getD x.used 0:=fun e=>h.out _ l (by rw[<- e];simp);have M:=h.inn b (by simp);have S:=h.inn above (by simp);have p:=CV x b (fr.getD x.used 0) M D.2 I (yM _);have J:=m.way b (by simp) C;have B:=zBM9.1 h.nd;rw[Ae L zo]at j⊢;have Z:∀k∈above::up,zc (x.cut b (fr.getD x.used 0)).W k=zc x.W k:=fun k u=>c.blk k (fun e=>B.1 (e ▸ u)) fun e=>h.out _ l (e ▸ Zo _ u)
  by_cases t:27<=(yn (zc (x.cut b (fr.getD x.used 0)).W above)).pairs.length
  .rw[if_pos t]at j⊢;have U:=h.cut a t;have s:dN fr at' (x.cut b (fr.getD x.used 0)).W (above::up):=⟨fun k u a3=>m.way k (Zo _ u) (by rw[<- Z k u];exact a3),m.fre,m.nd⟩
   have ih:=E9 (at':=at') up above _ U s;have V:=sd (at':=at') up above _ U;have K:=c.used;have a4:=c.W;have a5:=c.blk;generalize x.cut b (fr.getD x.used 0)=y at *
   generalize Wk.split fr at' (above::up) y=R at *
   by_cases v:R.2.2.2=0
   rotate_left
   .rw[if_neg v]at j;exact absurd j v
   rw[if_pos v];obtain⟨a6,i1,i2,i3,i4,O⟩:=ih v;have ab:=V.inn v;have ad:∀(A:Nat),A=(if R.2.2.1<=(vF (headN (zc x.W b))).low then R.2.1 else above)->64*A+64<=R.1.W.length/\(A=above\/A=fr.getD y.used 0):=fun A s=>by
    rw[V.W];subst s
    split
    .exact⟨ab,.inr i1⟩
    .exact⟨by rw[a4];exact S,.inl rfl⟩
   obtain⟨A,s⟩:∃A,A=(if R.2.2.1<=(vF (headN (zc x.W b))).low then R.2.1 else above):=⟨_,rfl⟩
   obtain⟨r,w⟩:=ad A s;rw[<- s];have G:∀d,d≠above->(∀i,x.used<i->i<fr.length->fr.getD i 0≠d)->A≠d:=fun d h1 h2 e=>by
    rcases w with w|w
    .exact h1 (by rw[<- e,w])
    .exact h2 y.used (by rw[K];omega) a6 (by rw[<- w,e])
   have P:∀i,i<fr.length->fr.getD i 0≠b:=fun i n e=>h.out (fr.getD i 0) (by grind) (by rw[e];simp);have ah:fr.getD x.used 0≠above:=fun e=>h.out _ l (by rw[e];simp);have av:fr.getD x.used 0 ∉ above::up:=fun e=>h.out _ l (Zo _ e);have Q:∀i,x.used<i->i<fr.length->fr.getD i 0≠fr.getD x.used 0:=fun i n g=>J3 m.nd g a zo;refine⟨rfl,rfl,?_,?_,fun d q o z=>?_⟩
   .rw[ig _ _ _ _ _ r (G b (fun e=>B.1 (by rw[e];simp)) fun i _ g=>P i g),O b B.1 (fun i _ g=>P i g) J,p.1]
   .rw[ig _ _ _ _ _ r (G _ ah Q),O _ av (fun i n g=>Q i (by rw[K]at n;omega) g) (m.fre _ l),p.2]
   .have T:d ∉ above::up:=fun e=>q (Zo _ e);rw[ig _ _ _ _ _ r (G d (fun e=>T (by rw[e];simp)) fun i n g=>o i zo g),O d T (fun i n g=>o i (by rw[K]at n;omega) g) z];exact a5 d (fun e=>q (by rw[e];simp)) fun e=>o x.used (Zi _) a e.symm
  .rw[if_neg t]at j⊢;have r:64*above+64<=(x.cut b (fr.getD x.used 0)).W.length:=by rw[c.W];exact S
   refine⟨rfl,rfl,?_,?_,fun d q o z=>?_⟩
   .rw[ig _ _ _ _ _ r (fun e=>B.1 (by rw[<- e];simp)),p.1]
   .rw[ig _ _ _ _ _ r (fun e=>h.out _ l (by rw[<- e];simp)),p.2]
   .rw[ig _ _ _ _ _ r (fun e=>q (by rw[<- e];simp))];exact c.blk d (fun e=>q (by rw[e];simp)) fun e=>o x.used (Zi _) a e.symm
theorem IC{w':LN}{x:Pr}{to ab:Nat}(hc:wd w=0)(h2:2<=(headN w).pairs.length)(hto:to<2048)(hm:cH (headN w) x)(hab:ab=if(vF (headN w)).low<=x.1 then to else b)(hlo:zc w' b=vH w (yh (headN w) to))(hhi:zc w' to=vI (vF (headN w))):(wj (zc w' ab) x).2=0:=by
 have a:=(mC hc).good;subst hab
 by_cases c:(vF (headN w)).low<=x.1
 .rw[if_pos c,hhi];have d:=BZ a h2;exact Ew d.check d.headN (UM a h2 hm c) (YR a.few h2)
 .rw[if_neg c,hlo];obtain⟨e,f⟩:=Jx hc hto;exact Ew e f (UJ hm to) (Up a.few to)
theorem Yo{up:LN}{above:Nat}(h:mQ fr rr x (b::above::up))(ha:dN fr at' x.W (b::above::up))(hs:nM fr x.W (b::above::up))(hu:x.used<fr.length):
  (¬27<=(yn (zc (x.cut b (fr.getD x.used 0)).W above)).pairs.length->(wj (zc (x.cut b (fr.getD x.used 0)).W above) ((vF (headN (zc x.W b))).low,fr.getD x.used 0)).2=0) /\
  (27<=(yn (zc (x.cut b (fr.getD x.used 0)).W above)).pairs.length->(Wk.split fr at' (above::up) (x.cut b (fr.getD x.used 0))).2.2.2=0->(wj (zc (Wk.split fr at' (above::up) (x.cut b (fr.getD x.used 0))).1.W (if(Wk.split fr at' (above::up) (x.cut b (fr.getD x.used 0))).2.2.1<=(vF (headN (zc x.W b))).low then(Wk.split fr at' (above::up) (x.cut b (fr.getD x.used 0))).2.1 else above)) ((vF (headN (zc x.W b))).low,fr.getD x.used 0)).2=0):=by
 have w:=h.ful b rfl;have s:=(mC (h.chk b (by simp))).good;have c:=aK fr x b (fr.getD x.used 0) (yM _);have g:=h.to hu;have o:=h.frN _ g;have q:=zBM9.1 h.nd;have A:=h.hN;have i:∀k∈above::up,zc (x.cut b (fr.getD x.used 0)).W k=zc x.W k:=fun k d=>c.blk k (fun e=>q.1 (e ▸ d)) fun e=>h.out _ g (e ▸ Zo _ d);have f:=i above (by simp);have a:=h.chk above (by simp);have j:=Yu hs.1 s zo g ((nS _).2 ⟨o.1,by omega⟩);have y:=(mC a).good
 constructor
 .intro hf;rw[f,rJ a]at hf;rw[f];exact Ew a rfl j zo
 .intro hf h0;have t:=h.cut hu hf;have u:dN fr at' (x.cut b (fr.getD x.used 0)).W (above::up):=⟨fun k d r=>ha.way k (Zo _ d) (by rw[<- i k d];exact r),ha.fre,ha.nd⟩
  obtain⟨z,v,l,m,n,B⟩:=E9 (at':=at') up above _ t u h0;rw[f,rJ a]at hf;rw[f]at l m n;have p:fr.getD (x.cut b (fr.getD x.used 0)).used 0∈fr:=by grind
  have:=h.frN _ p;exact IC a zo zo j (by rw[l,v]) m n


theorem Xk(hU:wT H id iW iP w L (wz r fr) u a)(hu:fr.length<=u)(hul:u<1000000)(b lv:Nat)(x:Pr):FO ET 149 [.ptr id 0 0 0 5,iv b,iv lv,pv x] H false fun e H'=>e=.panic (wy 221)/\uw [id,iW,iP] H H':=by
 refine wS f149 ?_;have c:=JR (hU.app [.row 92 2 0 0 [pv x]]) hu hul;refine wI ?_;refine wW c ?_;rintro e d ⟨rfl,rfl⟩;exact⟨rfl,(uw.refl _ _).app _⟩
theorem Xi(hU:wT H id iW iP w L (wz r fr) u a)(hu:u<fr.length)(hfl:fr.length<1000000)(b lv:Nat)(x:Pr)(hlv:12<lv):FO ET 149 [.ptr id 0 0 0 5,iv b,iv lv,pv x] H false fun e H'=>e=.panic (wy 3)/\uw [id,iW,iP] H H':=by
 refine wS f149 ?_;have hlv:¬(lv:Int)<=12:=zo;have c:=D4 (hU.app [.row 92 2 0 0 [pv x]]) hu hfl;refine wI ?_;refine wW c ?_;rintro e i ⟨rfl,h,d⟩;refine zN ?_;refine vK hlv ?_;refine wE (pD 3) ?_
 all_goals first|rfl|exact⟨rfl,fun j o f g=>d j o f (wi g)⟩
theorem Mw(hU:wT H id iW iP w L (wz r fr) u a)(hu:fr.length<=u)(hul:u<1000000)(io g q k:Nat)(ws:LN)(hio:H[io]?=some (.row 3 1 g 0 (ui ws)))(hk1:1<=k)(hkl:k<=ws.length)(hq:2*ws.length<=q)(hwl:ws.length<=20):FO ET 98 [.ptr id 0 0 0 5,.sl io g 0 k q 1] H false fun e H'=>e=.panic (wy 221)/\uw [id,iW,iP] H H':=by
 refine wS (eG T98 func98) ?_;have f:(k:Int)-1=((k-1:Nat):Int):=zo;have h:k-1<k:=zo;obtain⟨b,i⟩:∃b,ws[k-1]?=some b:=⟨_,Zg zo⟩
 have c:(ui ws)[k-1]?=some (iv b):=by rw[Zt,i];rfl
 have d:=JR hU hu hul;refine vA (vz hio f h c) ?_;refine zI ?_;refine wW d ?_;rintro e j ⟨rfl,rfl⟩;exact⟨rfl,.refl _ _⟩
@[reducible] def sK (H:LP) (id iW iP a:Nat) (F:PV) (S:Wk × Nat × Nat × Nat):FE->LP->Prop:=yw H id iW iP a F S.2.2.2 S.1.W S.1.L S.1.used (.tuple [iv S.2.1,uv S.2.2.1])
variable {F:PV}{no:Nat}{v:PV}{y:Wk}(x:Wk)
theorem yw.bad{W:LN}{f:Nat}{args:LQ}{H0:LP}(hno:¬no=0)(h:FO ET f args H0 false fun e H'=>e=.panic (wy no)/\uw [id,iW,iP] H H'):FO ET f args H0 false (yw H id iW iP a F no W L u v):=h.mono fun e H' b=>by
 unfold yw;rw[if_neg hno];exact b
theorem yw.val{W:LN}{v':PV}{e:FE}{H':LP}(h:no=0->v=v')(k:yw H id iW iP a F no W L u v e H'):yw H id iW iP a F no W L u v' e H':=by
 unfold yw at k⊢
 by_cases b:no=0
 .rw[if_pos b]at k⊢;rw[<- h b];exact k
 .rw[if_neg b]at k⊢;exact k
theorem Lm{to low:Nat}(e:(y.root fr at' b to low).2.2.2=0):(y.root fr at' b to low).2.1=to/\(y.root fr at' b to low).2.2.1=low:=by
 unfold Wk.root at e⊢
 split at e
 .cases e
 split at e
 .cases e
 rename_i a c;rw[if_neg a,if_neg c];exact⟨rfl,rfl⟩
theorem CU(b to:Nat):(x.cut b to).W=vH (vH x.W (vx (64*to) (wJ (vI (vF (headN (zc x.W b))))))) (vx (64*b) (yh (headN (zc x.W b)) to)):=by
 unfold Wk.cut;rw[gq,gq];rfl
theorem CT(b to:Nat):(x.cut b to).L=(x.L++vx (64*to) (wJ (vI (vF (headN (zc x.W b))))))++vx (64*b) (yh (headN (zc x.W b)) to):=by
 unfold Wk.cut;rw[bP,bP];rfl
theorem D7(p:Nat)(w:LN)(h:wd w=0)(hl:vE w.length):FR 148 [wv p w] (.tuple [vl 0 (headN w),iv 0]):=by
 have:=sF p w hl;rw[ba _ (n8 h)]at this;exact this
theorem Xn{rr:Nat}{to low lv:Nat}(hU:wT H id iW iP y.W y.L (wz rr fr) y.used at')(hul:y.used<=fr.length)(hfl:fr.length<100000)(hN:y.W.length<=131072)(hfrN:∀f∈fr,1<=f/\64*f+64<=y.W.length)(hb1:1<=b)(hb2:b<2048)(ht1:1<=to)(ht2:to<2048)(hat:at'<y.W.length)(hL:y.L.length+65<=900000)(hlv:(yn (zc y.W b)).level=lv)(hbt:b≠to)(hlow:0<low):
  FO ET 149 [.ptr id 0 0 0 5,iv b,iv (lv+1:Nat),pv (low,to)] H false (yw H id iW iP at' (wz rr fr) (y.root fr at' b to low).2.2.2 (y.root fr at' b to low).1.W (y.root fr at' b to low).1.L (y.root fr at' b to low).1.used (.tuple [])):=by
 unfold Wk.root
 by_cases a:fr.length<=y.used
 .rw[if_pos a];exact yw.bad (by first|(show ¬(221:Nat)=0;decide)|(show ¬(3:Nat)=0;decide)) (Xk hU a zo b (lv+1) (low,to))
 rw[if_neg a,hlv]
 by_cases d:12<=lv
 .rw[if_pos d];exact yw.bad (by first|(show ¬(221:Nat)=0;decide)|(show ¬(3:Nat)=0;decide)) (Xi hU zo zo b (lv+1) (low,to) zo)
 rw[if_neg d];have g:fr.getD y.used 0∈fr:=by grind
 have h:uM ⟨lv+1,0,0,b,0,[(low,to)]⟩:=⟨by show lv+1<=12;omega,by show 0<2048;omega,by show 0<=2;omega,by show 1<=27;omega,rfl,(nv _ _).2 ⟨by simp,fun p c i=>by
   have h1:p=(low,to):=ZI.1 c;have h2:p.2=b:=ZI.1 i;rw[h1]at h2;exact hbt h2.symm⟩,fun p c=>by
   have h1:p=(low,to):=ZI.1 c;rw[h1];unfold wR;rw[if_neg (by show ¬lv+1=0;omega),(nS to).2 ⟨ht1,ht2⟩];exact decide_eq_true hlow,.inr ⟨zAN9 _,(nS b).2 ⟨hb1,hb2⟩⟩⟩
 refine(Xj hU zo zo b (lv+1) (low,to) _ rfl h (hfrN _ g).2 hat hN hL).mono fun e H' j=>?_;unfold yw;rw[if_pos rfl];obtain⟨h1,h2,h3⟩:=j;refine⟨h1,?_,h3⟩;unfold bq;rw[hlv,gq,gq,bP,bP,(xA _ _).2.2.2,(xA _ _).2.2.2];exact h2
theorem Yn(fr:LN)(rr at':Nat)(ws:LN)(hwl:ws.length<=20):∀(up:LN) (b:Nat) (x:Wk),mQ fr rr x (b::up)->dN fr at' x.W (b::up)->nM fr x.W (b::up)->at'<x.W.length->(∀c∈b::up,c≠0)->ws.take (up.length+1)=up.reverse++[b] ->
  ∀(H:LP) (id iW iP io g q:Nat),wT H id iW iP x.W x.L (wz rr fr) x.used at'->H[io]?=some (.row 3 1 g 0 (ui ws))->io ∉ [id,iW,iP]->2*ws.length<=q->FO ET 98 [.ptr id 0 0 0 5,.sl io g 0 (up.length+1) q 1] H false (sK H id iW iP at' (wz rr fr) (Wk.split fr at' (b::up) x)):=by
 intro up
 induction up with
 | nil =>
  intro b x d t hS a2 av v H id iW iP io g q N G T B;have D:1<=ws.length:=by have:=congrArg List.length v;rw[ZC]at this;simp at this;omega
  rw[Wk.split]
  by_cases i:fr.length<=x.used
  .rw[if_pos i];exact yw.bad (by first|(show ¬(221:Nat)=0;decide)|(show ¬(3:Nat)=0;decide)) (Mw N i (by have:=d.hu;have:=d.fl;omega) io g q 1 ws G (Zi _) D B hwl)
  rw[if_neg i];have i:x.used<fr.length:=zo;have b0:=d.ful b rfl;have I:=d.chk b (by simp);have O:=(mC I).good;have c:=aK fr x b (fr.getD x.used 0) (yM _);have U:=d.to i;have p:=d.frN _ U;have w:=d.inn b (by simp);have cl:=av b (by simp);have V:=d.hN;have bm:b≠fr.getD x.used 0:=fun e=>d.out _ U (by rw[<- e];simp);have cb:=CV x b (fr.getD x.used 0) w p.2 bm (yM _);have s:=BZ O zo;have a0:=Ae O zo;have b1:ws[0]?=some b:=by
   have:=congrArg (fun l=>l[0]?) v;simpa[ZY]using this
  have a3:=d.hL;simp only[Zp,Zz]at a3;have bo:=Jx I (to:=fr.getD x.used 0) zo;have b5:0<(vF (headN (zc x.W b))).low:=by
   have bp:(headN (zc x.W b)).pairs.length/2<(headN (zc x.W b)).pairs.length:=zo;rw[Mr,getD_some (Zg bp)];have:=pO O.rise ((headN (zc x.W b)).pairs.length/2-1) 0 _ _ (Zg zo) (by rw[show 0+((headN (zc x.W b)).pairs.length/2-1)+1=(headN (zc x.W b)).pairs.length/2 by omega];exact Zg bp);omega
  rw[a0];refine(E8 N i (by have:=d.fl;omega) V zo io g q 1 ws G T (Zi _) D B hwl b (fr.getD x.used 0) b1 rfl w p.2
   (vI (vF (headN (zc x.W b)))) (yh (headN (zc x.W b)) (fr.getD x.used 0)) (vF (headN (zc x.W b)))
   ?Z (kb _) ?hD ?ad s.level (x.cut b (fr.getD x.used 0)).W (x.cut b (fr.getD x.used 0)).L (CU _ _ _) (CT _ _ _) _ _ _ _ ?P 0 0 ⟨0,0,0,0,0,[]⟩ [] [] 0 0 0 0 [] ?z ?Q ?S ?r).mono fun e H' X=>X.val fun j=>by rw[(Lm j).1,(Lm j).2]
  case Z =>
   have:=Ms 1 (fr.getD x.used 0:Nat) (zc x.W b) (by rw[kU _ _ w];decide);rw[DZ rfl I p.1 zo zo]at this;exact this
  case hD=>exact⟨by have:=(l7 (n:=headN (zc x.W b)) (fr.getD x.used 0) (yM _)).1;omega,(l7 (n:=headN (zc x.W b)) (fr.getD x.used 0) (yM _)).2⟩
  case ad =>
   have:=D7 0 (vI (vF (headN (zc x.W b)))) s.check (by rw[kb];decide);rw[s.headN]at this;exact this
  case P =>
   intro _ H2 a4;refine Xn (y:=x.cut b (fr.getD x.used 0)) (by rw[c.used];exact a4) (by rw[c.used];omega) d.fl (by rw[c.W];exact V) (fun f o=>by rw[c.W];exact d.frN f o) zo zo p.1 zo (by rw[c.W];exact a2) (by have:=c.L;omega) ?_ bm b5;rw[cb.1,rJ bo.1,bo.2];rfl
  case z=>intro h;omega
  case Q=>intro h;omega
  case S=>intro h;omega
  case r=>intro h;omega
 | cons a up ih =>
  intro b x d t hS a2 av v H id iW iP ah g q N G T B;have D:up.length+2<=ws.length:=by have:=congrArg List.length v;rw[ZC]at this;simp at this;omega
  rw[Wk.split]
  by_cases i:fr.length<=x.used
  .rw[if_pos i];exact yw.bad (by show ¬(221:Nat)=0;decide) (Mw N i (by have:=d.hu;have:=d.fl;omega) ah g q (up.length+2) ws G zo D B hwl)
  have m:=Yo d t hS zo;rw[if_neg i];have i:x.used<fr.length:=zo;have b0:=d.ful b rfl;have I:=d.chk b (by simp);have O:=(mC I).good;have c:=aK fr x b (fr.getD x.used 0) (yM _);have U:=d.to i;have p:=d.frN _ U;have w:=d.inn b (by simp);have J:=d.inn a (by simp);have V:=d.hN;have s:=BZ O zo;have a0:=Ae O zo;have b6:=zBM9.1 d.nd;have a1:∀k∈a::up,zc (x.cut b (fr.getD x.used 0)).W k=zc x.W k:=fun k C=>c.blk k (fun e=>b6.1 (e ▸ C)) fun e=>d.out _ U (e ▸ Zo _ C);have bs:wd (zc (x.cut b (fr.getD x.used 0)).W a)=0:=by rw[a1 a (by simp)];exact d.chk a (by simp)
  have a8:ws[up.length+1]?=some b:=by
   have:=congrArg (fun l=>l[up.length+1]?) v;rw[List.getElem?_take_of_lt (by simp),ZH (by simp)]at this;simpa using this
  have a9:ws[up.length]?=some a:=by
   have:=congrArg (fun l=>l[up.length]?) v;rw[List.getElem?_take_of_lt (by simp;omega),ZM (by simp)]at this;simpa using this
  have b2:ws.take (up.length+1)=up.reverse++[a]:=by
   have:=congrArg (fun l=>l.take (up.length+1)) v;rw[zCD9,zAT9 (by simp)]at this;simp only[Zp,zCV9,zBE9 (Nat.le_succ (up.length+1))]at this;rw[this,ZO (by simp)]
  have a3:=d.hL;simp only[Zp]at a3;rw[a0];have Z:FR 145 [wv 1 (zc x.W b),iv (fr.getD x.used 0)] (.tuple [wv 0 (vI (vF (headN (zc x.W b)))),.list 0 2 ((yh (headN (zc x.W b)) (fr.getD x.used 0)).map vd),iv 0]):=by
   have:=Ms 1 (fr.getD x.used 0:Nat) (zc x.W b) (by rw[kU _ _ w];decide);rw[DZ rfl I p.1 zo zo]at this;exact this
  have hD:=l7 (n:=headN (zc x.W b)) (fr.getD x.used 0) (yM _);have ad:FR 148 [wv 0 (vI (vF (headN (zc x.W b))))] (.tuple [vl 0 (vF (headN (zc x.W b))),iv 0]):=by
   have:=D7 0 (vI (vF (headN (zc x.W b)))) s.check (by rw[kb];decide);rw[s.headN]at this;exact this
  have K:(x.cut b (fr.getD x.used 0)).W.length=x.W.length:=c.W;have bb:FR 148 [wv 1 (zc (x.cut b (fr.getD x.used 0)).W a)] (.tuple [vl 0 (yn (zc (x.cut b (fr.getD x.used 0)).W a)),iv 0]):=by
   rw[rJ bs];exact D7 1 _ bs (by rw[kU _ _ (by rw[K];exact J)];decide)
  have r:∀(y:Wk) (u:Nat),64*u+64<=y.W.length->(wj (zc y.W u) ((vF (headN (zc x.W b))).low,fr.getD x.used 0)).2=0->FR 95 [wv 1 (zc y.W u),pv ((vF (headN (zc x.W b))).low,fr.getD x.used 0)] (bC ((wj (zc y.W u) ((vF (headN (zc x.W b))).low,fr.getD x.used 0)).1,0)):=fun y u z j=>by
   have:=Et 1 ((vF (headN (zc x.W b))).low,fr.getD x.used 0) (zc y.W u) (kU _ _ z);have e:wj (zc y.W u) ((vF (headN (zc x.W b))).low,fr.getD x.used 0)=((wj (zc y.W u) ((vF (headN (zc x.W b))).low,fr.getD x.used 0)).1,0):=Prod.ext rfl j;rw[e]at this;exact this
  have bw:=c.used
  by_cases o:27<=(yn (zc (x.cut b (fr.getD x.used 0)).W a)).pairs.length
  .have m:=m.2 o;rw[if_pos o];have bx:=d.cut i o;have b7:dN fr at' (x.cut b (fr.getD x.used 0)).W (a::up):=⟨fun k C ca=>t.way k (Zo _ C) (by rw[<- a1 k C];exact ca),t.fre,t.nd⟩
   have cc:=nM.same (w':=(x.cut b (fr.getD x.used 0)).W) (a::up) a1 hS.2;have ch:=ih a _ bx b7 cc (by rw[c.W];exact a2) (fun k C=>av k (Zo _ C)) b2;have io:=sd (at':=at') up a _ bx;have a5:=io.inn;have cs:=io.L;have a6:=io.W;have ck:=c.L;refine(E8 N i (by have:=d.fl;omega) V zo ah g q (up.length+2) ws G T zo D B hwl b (fr.getD x.used 0) a8 rfl w p.2
    (vI (vF (headN (zc x.W b)))) (yh (headN (zc x.W b)) (fr.getD x.used 0)) (vF (headN (zc x.W b)))
    Z (kb _) ⟨by omega,hD.2⟩ ad s.level (x.cut b (fr.getD x.used 0)).W (x.cut b (fr.getD x.used 0)).L (CU _ _ _) (CT _ _ _) _ _ _ _ ?P a
    (if(Wk.split fr at' (a::up) (x.cut b (fr.getD x.used 0))).2.2.1<=(vF (headN (zc x.W b))).low then(Wk.split fr at' (a::up) (x.cut b (fr.getD x.used 0))).2.1 else a)
    (yn (zc (x.cut b (fr.getD x.used 0)).W a)) (Wk.split fr at' (a::up) (x.cut b (fr.getD x.used 0))).1.W (Wk.split fr at' (a::up) (x.cut b (fr.getD x.used 0))).1.L (Wk.split fr at' (a::up) (x.cut b (fr.getD x.used 0))).1.used
    (Wk.split fr at' (a::up) (x.cut b (fr.getD x.used 0))).2.1 (Wk.split fr at' (a::up) (x.cut b (fr.getD x.used 0))).2.2.1 (Wk.split fr at' (a::up) (x.cut b (fr.getD x.used 0))).2.2.2
    (wj (zc (Wk.split fr at' (a::up) (x.cut b (fr.getD x.used 0))).1.W (if(Wk.split fr at' (a::up) (x.cut b (fr.getD x.used 0))).2.2.1<=(vF (headN (zc x.W b))).low then(Wk.split fr at' (a::up) (x.cut b (fr.getD x.used 0))).2.1 else a)) ((vF (headN (zc x.W b))).low,fr.getD x.used 0)).1
    ?z ?Q ?S ?r).mono fun e H' X=>X.val fun j=>?b3
   case P=>intro h;omega
   case z=>exact fun _=>⟨by rw[show up.length+2-2=up.length by omega];exact a9,J,bb⟩
   case S=>intro _ h;exact absurd o h
   case Q =>
    intro _ _;refine⟨fun H2 a4 b4=>ch H2 id iW iP ah g q (by rw[bw];exact a4) b4 T B,fun j=>?_,rfl⟩;rw[if_neg j]
   case b3 =>
    by_cases a7:(Wk.split fr at' (a::up) (x.cut b (fr.getD x.used 0))).2.2.2=0
    .rw[if_pos a7];rfl
    .rw[if_neg a7]at j;exact absurd j a7
   case r =>
    intro _ j;have m:=m j;have a5:=a5 j;rw[if_pos j];generalize Wk.split fr at' (a::up) (x.cut b (fr.getD x.used 0))=R at *
    obtain⟨A,t⟩:∃A,A=(if R.2.2.1<=(vF (headN (zc x.W b))).low then R.2.1 else a):=⟨_,rfl⟩
    rw[<- t]at m⊢;have M:64*A+64<=R.1.W.length:=by
     rw[a6,t]
     split
     .exact a5
     .rw[K];exact J
    have Y:=b9 (x:=((vF (headN (zc x.W b))).low,fr.getD x.used 0)) (kU R.1.W A M);refine⟨by rw[a6,K],by rw[<- K,<- a6];exact M,r R.1 A M m,Y.1,Y.2,?_,rfl,?_,?_,?_⟩
    .omega
    .unfold Wk.fin;rw[gq]
    .unfold Wk.fin;rw[bP]
    .unfold Wk.fin;rw[(xA _ _).2.2.2]
  .have m:=m.1 o;rw[if_neg o];have ck:=c.L;refine(E8 N i (by have:=d.fl;omega) V zo ah g q (up.length+2) ws G T zo D B hwl b (fr.getD x.used 0) a8 rfl w p.2
    (vI (vF (headN (zc x.W b)))) (yh (headN (zc x.W b)) (fr.getD x.used 0)) (vF (headN (zc x.W b)))
    Z (kb _) ⟨by omega,hD.2⟩ ad s.level (x.cut b (fr.getD x.used 0)).W (x.cut b (fr.getD x.used 0)).L (CU _ _ _) (CT _ _ _) _ _ _ _ ?P a a
    (yn (zc (x.cut b (fr.getD x.used 0)).W a)) (x.cut b (fr.getD x.used 0)).W (x.cut b (fr.getD x.used 0)).L (x.used+1) 0 0 0
    (wj (zc (x.cut b (fr.getD x.used 0)).W a) ((vF (headN (zc x.W b))).low,fr.getD x.used 0)).1
    ?z ?Q ?S ?r).mono fun e H' X=>X.val fun j=>rfl
   case P=>intro h;omega
   case z=>exact fun _=>⟨by rw[show up.length+2-2=up.length by omega];exact a9,J,bb⟩
   case S=>exact fun _ _=>⟨rfl,rfl,rfl,rfl,rfl⟩
   case Q=>intro _ h;exact absurd h o
   case r =>
    intro _ _;have M:64*a+64<=(x.cut b (fr.getD x.used 0)).W.length:=by rw[K];exact J
    have Y:=b9 (x:=((vF (headN (zc x.W b))).low,fr.getD x.used 0)) (kU (x.cut b (fr.getD x.used 0)).W a M);refine⟨K,J,r _ a M m,Y.1,Y.2,by omega,rfl,?_,?_,?_⟩
    .unfold Wk.fin;rw[gq]
    .unfold Wk.fin;rw[bP]
    .unfold Wk.fin;rw[(xA _ _).2.2.2];exact bw


theorem PX{a b:PV}(h1:H[1]?=some (ma a))(h2:H[2]?=some (mU b)):FO ET 92 [.ptr 1 0 0 0 1,.ptr 2 0 0 0 1] H false fun e H'=>e=.ret (.tuple [])/\H'=(H.set 1 (ma .nilsl)).set 2 (mU (iv 0)):=by
 refine wS (eG T92 func92) ?_;have c:(H.set 1 (ma .nilsl))[2]?=some (mU b):=get_set h2 zy;refine vp (zj h1 c) ?_;exact⟨[],rfl,rfl,rfl⟩
structure gW(H:LP)(id iW iP:Nat)(w:LN)(L:LJ)(F:PV)(u n:Nat)(x:Pr)(b3:PV):Prop where
 g0:H[0]?=some (.row 92 2 0 0 [pv x])
 g1:H[1]?=some (ma .nilsl)
 g2:H[2]?=some (mU (iv 0))
 g3:H[3]?=some (mb b3)
 und:wT H id iW iP w L F u n
 l1:4<=id
 l2:4<=iW
 l3:4<=iP
variable {H':LP}{b3:PV}{fr:LG}{h:dP}{n:Nat}{ws:LN}{x:Pr}(q1 p q2:Nat)(K:Nat×Nat)(l:List ub)(names:List (LN))(r:Nat)(bits m:Int)(bent:List (Int×Nat))
theorem wT.boxu(h:wT H id iW iP w L F u n)(k:Nat)(o:za)(h1:k<id)(h2:k<iW)(h3:k<iP):wT (H.set k o) id iW iP w L F u n :=
 h.other fun j a c b=>get_set b (by rcases a with rfl|rfl|rfl<;>omega)
theorem gW.set3(h:gW H id iW iP w L F u n x b3)(v:PV):gW (H.set 3 (mb v)) id iW iP w L F u n x v :=
 ⟨get_set h.g0 zy,get_set h.g1 zy,get_set h.g2 zy,Zw (Zh.1 h.g3).1,h.und.boxu 3 _ (by have:=h.l1;omega) (by have:=h.l2;omega) (by have:=h.l3;omega),h.l1,h.l2,h.l3⟩
theorem gW.keep{L':LJ}{u':Nat}(h:gW H id iW iP w L F u n x b3)(hU:wT H' id iW iP w' L' F u' n)(hk:uw [id,iW,iP] H H'):gW H' id iW iP w' L' F u' n x b3:=by
 obtain⟨a,b,c,d,_,e,f,g⟩:=h;exact⟨hk 0 _ (by simp;omega) a,hk 1 _ (by simp;omega) b,hk 2 _ (by simp;omega) c,hk 3 _ (by simp;omega) d,hU,e,f,g⟩
theorem gW.stay(h:gW H id iW iP w L F u n x b3)(hk:kv H H'):gW H' id iW iP w L F u n x b3 :=
 ⟨hk _ _ h.g0,hk _ _ h.g1,hk _ _ h.g2,hk _ _ h.g3,h.und.other fun j _ o a=>hk j o a,h.l1,h.l2,h.l3⟩
theorem En{R:PV}{tm:Nat->PV}{b c d:PV}(h1:H[1]?=some (ma b))(h2:H[2]?=some (mU c))(h3:H[3]?=some (mb d))(t8:tm 8=.ptr 1 0 0 0 1)(t9:tm 9=.ptr 2 0 0 0 1)(t10:tm 10=.ptr 3 0 0 0 1)(hR:R=pa ([],0,n)):
  yG ET T55 (fun e' H=>ve H 0 e' (.ret R)) (.panic (wy n)) ⟨tm,[.caught (.ptr 3 0 0 0 1) (.fn 92 [.ptr 1 0 0 0 1,.ptr 2 0 0 0 1])],H⟩:=by
 refine⟨n,92,[.ptr 1 0 0 0 1,.ptr 2 0 0 0 1],false,3,0,1,rfl,rfl,rfl,(PX h1 h2).mono fun e H' h=>?_⟩;obtain⟨rfl,rfl⟩:=h;refine⟨rfl,?_⟩;have i:=Zw (a:=ma .nilsl) (Zh.1 h1).1;have j:=(Zh.1 h2).1;have k:((H.set 1 (ma .nilsl)).set 2 (mU (iv 0)))[3]?=some (mb d):=get_set (get_set h3 zy) zy;obtain⟨f,g⟩:∃f,f=(H.set 1 (ma .nilsl)).set 2 (mU (iv 0)):=⟨_,rfl⟩
 have j1:f[1]?=some (ma .nilsl):=by rw[g];exact get_set i zy
 have j2:f[2]?=some (mU (iv 0)):=by rw[g];exact Zw (by simpa using j)
 have j3:f[3]?=some (mb d):=by rw[g];exact k
 rw[<- g];refine⟨⟨.tuple [],f.set 3 (mb (iv n)),[3]⟩,by simp[qB,j3,PV.cells,qr],[.nilsl,iv 0,iv n],?_,?_⟩
 .have l:(f.set 3 (mb (iv n)))[1]?=some (ma .nilsl):=get_set j1 zy;have m:(f.set 3 (mb (iv n)))[2]?=some (mU (iv 0)):=get_set j2 zy;have o:(f.set 3 (mb (iv n)))[3]?=some (mb (iv n)):=Zw (Zh.1 j3).1;simp[T55,xT,zr,zC,t8,t9,t10,zR,zF,zW,qd,l,m,o,PV.cells]
 .rw[hR];exact vN
theorem KJ(n:Nat)(x:Pr)(w:LN)(fr:LG)(ws:LN)(leaf:Nat)(pu:LJ×Nat)(T0:List vO)(S:Wk×Nat×Nat×Nat)(R:LJ×Nat×Nat)(W3:LN)(L3:LJ)(u3 lf:Nat)(tk:LJ)(hN:0<w.length/\w.length<=131072)(hn:n<w.length)(h82:FR 136 [wv p w,iv n,.list r 1 (fr.map iv)] (.tuple []))(h60:FR 137 [wv p w,iv n] (uV T0))(hW:om w (w.getD n 0) x.1 ws)(hlf:ws[ws.length-1]?=some leaf)(hwl:0<ws.length/\ws.length<=20)(hin:64*leaf+64<=w.length)(hpu:FR 95 [wv 1 (zc w leaf),pv x] (bC pu))(hbad:¬pu.2=0->¬pu.2=3->R=([],0,pu.2))(h3:pu.2=3->∀(H:LP) (id iW iP io g:Nat),wT H id iW iP w [] (.list r 1 (fr.map iv)) 0 n->H[io]?=some (.row 3 1 g 0 (ui ws))->io ∉ [id,iW,iP]->FO ET 98 [.ptr id 0 0 0 5,.sl io g 0 ws.length (2*ws.length) 1] H false (sK H id iW iP n (.list r 1 (fr.map iv)) S))(hb3:pu.2=3->¬S.2.2.2=0->R=([],0,S.2.2.2))(hS3:pu.2=3->S.2.2.2=0->W3=S.1.W/\L3=S.1.L/\u3=S.1.used/\lf=if S.2.2.1<=x.1 then S.2.1 else leaf)(hSn:pu.2=0->W3=w/\L3=[]/\u3=0/\lf=leaf)(hend:pu.2=0\/(pu.2=3/\S.2.2.2=0)->W3.length=w.length/\64*lf+64<=w.length/\FR 95 [wv 1 (zc W3 lf),pv x] (bC (tk,0))/\tk.length<=71/\(∀s∈tk,s.1<64)/\L3.length+71<=900000/\R=(L3++vx (64*lf) tk,u3,0)):
  FR 55 [wv p w,iv n,pv x,.list r 1 (fr.map iv)] (pa R):=by
 refine zn (eG T55 func55) (rc _) ?_;refine wI ?_;refine fK (f:=91) (p:=.ptr 3 0 0 0 1) (cl:=.fn 92 [.ptr 1 0 0 0 1,.ptr 2 0 0 0 1]) ?_ ?_ CH ?_
 .rfl
 .simp only[go_sem]<;>rfl
 refine zN ?_;refine zI ?_;refine wW (O9 p r w n fr T0 [.row 92 2 0 0 [pv x],ma .nilsl,mU (iv 0),mb (iv 0)] hN.1 hN.2 h82 h60) ?_;rintro e H ⟨id,iW,iP,rfl,hU,A,l1,l2,l3⟩;refine zN ?_;have c:gW H id iW iP w [] (.list r 1 (fr.map iv)) 0 n x (iv 0):=⟨A 0 _ rfl,A 1 _ rfl,A 2 _ rfl,A 3 _ rfl,hU,l1,l2,l3⟩
 clear A hU;refine xg (fun d=>d 6=.ptr 0 0 0 0 2/\d 8=.ptr 1 0 0 0 1/\d 9=.ptr 2 0 0 0 1/\d 10=.ptr 3 0 0 0 1/\d 11=.ptr id 0 0 0 5) ⟨zt,zt,zt,zt,by simp[zb]⟩ ?_;rintro d ⟨b,k,l,a,i⟩;have b0:=c.g0;refine vK (vh b i b0) ?_;refine wW (YX c.und x.1 ws hN.2 hn hW) ?_;rintro e H1 ⟨A,io,g,rfl,j⟩;refine zN ?_
 replace c:=c.stay A
 clear A b0;have e1:(ws.length:Int)-1=((ws.length-1:Nat):Int):=zo;have e2:ws.length-1<ws.length:=zo;have a3:(ui ws)[ws.length-1]?=some (iv leaf):=by rw[Zt,hlf];rfl
 refine vA (vz j e1 e2 a3) ?_;refine xg (fun d=>d 6=.ptr 0 0 0 0 2/\d 8=.ptr 1 0 0 0 1/\d 9=.ptr 2 0 0 0 1/\d 10=.ptr 3 0 0 0 1/\d 11=.ptr id 0 0 0 5/\d 12=.sl io g 0 ws.length (2*ws.length) 1/\d 13=iv leaf) ⟨zu b,zu k,zu l,zu a,zu i,zt,by simp[zb]⟩ ?_;clear b k l a i;rintro d ⟨b,k,l,a,i,t,o⟩;have b0:=c.g0;have b3:=c.g3;obtain⟨⟨gP,Y,MW,u,v,I,J,Z⟩,n1,n2,n3⟩:=c.und;refine wV ?_;refine cB (wQ b a i o u b0) (FO.pure f96 Eo (lE v I leaf hin hN.2)) ?_;rintro e H2 ⟨q,rfl,hq,rfl⟩;refine⟨_,by simp only[go_sem]<;>rfl,?_⟩;refine fJ (s1:=?_) (caps:=?_) (vs:=?_) (nm':=?_) ?_ ?_ rfl rfl ?_ ?_ hpu ?_ ?_ ?_;rotate_left 4;(first|exact trivial|(simp only[go_sem,b,b0]));(simp(disch:=omega)only[go_sem,b,b0]<;>rfl);(first|rfl|(simp only[go_sem,b,b0]<;>rfl));(simp only[go_sem,b,b0]<;>rfl);exact⟨ij v I leaf hin hq,ze.aggL ⟨.int _ _,.int _ _,trivial⟩,trivial⟩;(simp only[go_sem,b,b0]<;>rfl);refine vW (vh b a b3) ?_;refine vj b ?_;refine aG fun H3 V=>?_;have ad:=c;have c:gW H3 id iW iP w [] (.list r 1 (fr.map iv)) 0 n x (iv (pu.2:Nat)):=by rw[V];exact c.set3 _
 have ab:H3[io]?=some (.row 3 1 g 0 (ui ws)):=by rw[V];exact get_set j fun e=>by subst e;rw[ad.g3]at j;injection j with j;injection j with j;exact absurd j zy
 have a4:io ∉ [id,iW,iP]:=by
  intro h;simp only[ZD,zAX9,or_false]at h;rcases h with rfl|rfl|rfl
  .rw[u]at j;injection j with j;injection j with j;exact absurd j zy
  .rw[v]at j;injection j with j;injection j with j;exact absurd j zy
  .rw[J]at j;injection j with j;injection j with j;exact absurd j zy
 clear V j b0 b3 u v J ad;refine xg (fun d=>d 6=.ptr 0 0 0 0 2/\d 8=.ptr 1 0 0 0 1/\d 9=.ptr 2 0 0 0 1/\d 10=.ptr 3 0 0 0 1/\d 11=.ptr id 0 0 0 5/\d 12=.sl io g 0 ws.length (2*ws.length) 1/\d 13=iv leaf) ⟨zu b,zu k,zu l,zu a,zu i,zu t,zu o⟩ ?_;clear b k l a i t o;rintro d ⟨b,k,l,a,i,t,o⟩;have b3:=c.g3
 by_cases hg:pu.2=0\/pu.2=3
 rotate_left
 .have g0:¬(pu.2:Int)=0:=zo;have G:¬(pu.2:Int)=3:=zo;refine vK (vz a b3 g0 G) ?_;refine wE (pD (pu.2:Nat)) ?_;exact En c.g1 c.g2 c.g3 (by simp[aW,zb,k]) (by simp[aW,zb,l]) (by simp[aW,zb,a]) (by rw[hbad zo zo])
 refine vq (ur (Q:=fun K m=>K=.norm/\m.tm 6=.ptr 0 0 0 0 2/\m.tm 8=.ptr 1 0 0 0 1/\m.tm 9=.ptr 2 0 0 0 1/\m.tm 10=.ptr 3 0 0 0 1/\m.tm 11=.ptr id 0 0 0 5/\m.tm 12=.sl io g 0 ws.length (2*ws.length) 1/\m.tm 13=iv leaf/\m.df=[.caught (.ptr 3 0 0 0 1) (.fn 92 [.ptr 1 0 0 0 1,.ptr 2 0 0 0 1])]/\m.H=H3) ?_ ?_)
 .by_cases T:pu.2=0
  .rw[T]at b3;refine vK (zj a b3) ?_;refine vo (mB 0) ?_;refine yR ?_;exact⟨rfl,zu b,zu k,zu l,zu a,zu i,zu t,zu o,rfl,rfl⟩
  .have B:pu.2=3:=zo;have g0:¬(pu.2:Int)=0:=zo;have G:(pu.2:Int)=3:=zo;have a5:¬(3:Int)=0:=by decide
   have a6:ml (3:Int) 3=true:=by decide
   refine vK (vX a b3 G a5 a6) ?_;refine vo (mB 3) ?_;refine yR ?_;exact⟨rfl,zu b,zu k,zu l,zu a,zu i,zu t,zu o,rfl,rfl⟩
 clear b k l a i t o;rintro K ⟨d,df,bs⟩ ⟨rfl,b,k,l,a,i,t,o,rfl,rfl⟩;dsimp only at b k l a i t o;show W ET ET.caught none (vP.seq _ _) _ _;refine vq (ur (Q:=fun K m=>(K=.norm/\(pu.2=0\/(pu.2=3/\S.2.2.2=0))/\m.tm 6=.ptr 0 0 0 0 2/\m.tm 8=.ptr 1 0 0 0 1/\m.tm 9=.ptr 2 0 0 0 1/\m.tm 10=.ptr 3 0 0 0 1/\m.tm 11=.ptr id 0 0 0 5/\m.tm 13=iv lf/\m.df=[.caught (.ptr 3 0 0 0 1) (.fn 92 [.ptr 1 0 0 0 1,.ptr 2 0 0 0 1])]/\gW m.H id iW iP W3 L3 (.list r 1 (fr.map iv)) u3 n x (iv (pu.2:Nat))) \/
  (K=.panic (wy S.2.2.2)/\pu.2=3/\¬S.2.2.2=0/\m.tm 8=.ptr 1 0 0 0 1/\m.tm 9=.ptr 2 0 0 0 1/\m.tm 10=.ptr 3 0 0 0 1/\m.df=[.caught (.ptr 3 0 0 0 1) (.fn 92 [.ptr 1 0 0 0 1,.ptr 2 0 0 0 1])]/\m.H[1]?=some (ma .nilsl)/\m.H[2]?=some (mU (iv 0))/\m.H[3]?=some (mb (iv (pu.2:Nat))))) ?_ ?_)
 .by_cases T:pu.2=0
  .obtain⟨r1,r2,r3,M⟩:=hSn T;have G:¬(pu.2:Int)=3:=zo;refine kp (vh a b3 G) ?_;refine .inl ⟨rfl,.inl T,zu b,zu k,zu l,zu a,zu i,by simp[zb,o,M],rfl,?_⟩;rw[r1,r2,r3];exact c
  have B:pu.2=3:=zo;have G:(pu.2:Int)=3:=zo;refine wB (vh a b3 G) ?_;refine vK (zj i t) ?_;refine wW (h3 B _ id iW iP io g c.und ab a4) ?_;intro e H4 O;unfold sK yw at O;have a7:=c.l1;have a8:=c.l2;have a9:=c.l3
  by_cases C:S.2.2.2=0
  rotate_left
  .rw[if_neg C]at O;obtain⟨rfl,hk⟩:=O;exact .inr ⟨rfl,B,C,by simp[aW,zb,k],by simp[aW,zb,l],by simp[aW,zb,a],rfl,hk 1 _ (by simp;omega) c.g1,hk 2 _ (by simp;omega) c.g2,hk 3 _ (by simp;omega) c.g3⟩
  rw[if_pos C]at O;obtain⟨rfl,bb,bm⟩:=O;obtain⟨r1,r2,r3,M⟩:=hS3 B C;have P:=c.keep bb bm;rw[<- r1,<- r2,<- r3]at P;have b0:=P.g0;refine zN ?_
  by_cases ah:S.2.2.1<=x.1
  .have g5:(S.2.2.1:Int)<=(x.1:Nat):=zo;rw[if_pos ah]at M;refine wB (vh b b0 g5) ?_;refine zJ ?_;exact .inl ⟨rfl,.inr ⟨B,C⟩,zu b,zu k,zu l,zu a,zu i,by simp[zb,M],rfl,P⟩
  .have g5:¬(S.2.2.1:Int)<=(x.1:Nat):=zo;rw[if_neg ah]at M;refine kp (vh b b0 g5) ?_;exact .inl ⟨rfl,.inr ⟨B,C⟩,zu b,zu k,zu l,zu a,zu i,by simp[zb,o,M],rfl,P⟩
 clear b k l a i t o c b3 ab;rintro K ⟨d,df,H4⟩ (⟨rfl,bo,b,k,l,a,i,o,rfl,c⟩|⟨rfl,B,C,k,l,a,rfl,j1,j2,j3⟩);rotate_left
 .exact En j1 j2 j3 k l a (by rw[hb3 B C])
 obtain⟨p1,p2,p3,p4,p5,p6,rfl⟩:=hend bo;dsimp only at b k l a i o c;have v1:W3.length<=131072:=zo;have v2:64*lf+64<=W3.length:=zo;have b0:=c.g0;have b3:=c.g3;obtain⟨⟨gP,Y,MW,u,v,I,J,Z⟩,n1,n2,n3⟩:=c.und;show W ET ET.caught none (vP.seq _ _) _ _;refine vq ?_;refine wV ?_;refine cB (wQ b a i o u b0) (FO.pure f96 Eo (lE v I lf v2 v1)) ?_;rintro e H5 ⟨q,rfl,hq,rfl⟩;refine⟨_,by simp only[go_sem]<;>rfl,?_⟩;refine fJ (s1:=?_) (caps:=?_) (vs:=?_) (nm':=?_) ?_ ?_ rfl rfl ?_ ?_ p3 ?_ ?_ ?_;rotate_left 4;(first|exact trivial|(simp only[go_sem,b,b0]));(simp(disch:=omega)only[go_sem,b,b0]<;>rfl);(first|rfl|(simp only[go_sem,b,b0]<;>rfl));(simp only[go_sem,b,b0]<;>rfl);exact⟨ij v I lf v2 hq,ze.aggL ⟨.int _ _,.int _ _,trivial⟩,trivial⟩;(simp only[go_sem,b,b0]<;>rfl);refine vW (vh b a b3) ?_;refine vj b ?_;refine aG fun H6 av=>?_;have c:gW H6 id iW iP W3 L3 (.list r 1 (fr.map iv)) u3 n x (iv 0):=by rw[av];exact c.set3 _
 clear av b0 b3 u v J;have b3:=c.g3;refine xg (fun d=>d 8=.ptr 1 0 0 0 1/\d 9=.ptr 2 0 0 0 1/\d 10=.ptr 3 0 0 0 1/\d 11=.ptr id 0 0 0 5/\d 13=iv lf/\d 16=.list 0 2 (tk.map vd)) ⟨zu k,zu l,zu a,zu i,zu o,by simp[zb]⟩ ?_;clear b k l a i o;rintro d ⟨k,l,a,i,o,bp⟩;refine vK (vX a i o bp b3) ?_;refine wW (GY c.und lf tk (fun s hs=>by have:=p5 s hs;omega) zo v1 zo) ?_;rintro e H7 ⟨rfl,a0,a1⟩;refine zN ?_;have D:=c.keep a0 a1;clear c a0 a1 b3;generalize vx (64*lf) tk=L4 at *
 have b1:=D.g1;have b2:=D.g2;have b3:=D.g3;have a7:=D.l1;obtain⟨⟨gP,Y,MW,u,v,I,J,Z⟩,n1,n2,n3⟩:=D.und;have t1:∀y,(H7.set 1 y)[id]?=_:=fun y=>get_set u zo;have t2:∀y,(H7.set 1 y)[2]?=_:=fun y=>get_set b2 zy;have t3:∀y z,((H7.set 1 y).set 2 z)[3]?=_:=fun y z=>get_set (get_set b3 zy) zy;refine vR ?_;refine vW (vX k l i u b1) ?_;have X:(id==1)=false:=by simp;omega
 have a2:(id==2)=false:=by simp;omega
 refine uY (wQ k l i t1 t2 X) ?_;refine uY (vz a t3 X a2) ?_;refine kM (vh a X a2) ?_;refine wY ?_;simp only[go_sem];show W ET ET.caught none vP.ret _ _;have k1:=(Zh.1 b1).1;have k2:=(Zh.1 b2).1;have k3:=(Zh.1 b3).1;have a8:=D.l2;have a9:=D.l3;generalize L3++L4=L5 at *
 refine aG fun U N=>?_;have i1:U[1]?=some (ma (.sl iP gP 0 L5.length (2*L5.length) 2)):=by rw[N];exact get_set (get_set (Zw k1) zy) zy
 have i2:U[2]?=some (mU (iv u3)):=by rw[N];exact get_set (Zw (by simpa using k2)) zy
 have i3:U[3]?=some (mb (iv 0)):=by rw[N];exact Zw (by simpa using k3)
 have u6:U[iP]?=some (.row 120 2 gP Y (L5.map vd)):=by rw[N];exact get_set (get_set (get_set J zo) zo) zo
 clear N;refine vw ?_;refine⟨[.sl iP gP 0 L5.length (2*L5.length) 2,iv u3,iv 0],by simp[T55,xT,zr,zC,zb,k,l,a,zR,zF,zW,qd,i1,i2,i3,PV.cells],?_⟩;exact ze.tL ⟨ze.wM u6 Z rfl (by rw[ZB]) (by rw[ZB];exact Zi _) uG mf,.int _ _,.int _ _,trivial⟩
theorem Bp(w:LN)(a:Int)(x:Pr)(fr:LG)(no:Nat)(h:∀H,FO ET 93 [wv p w,iv a,.list r 1 (fr.map iv)] H false fun e H'=>e=.panic (wy no)/\H'=H):FR 55 [wv p w,iv a,pv x,.list r 1 (fr.map iv)] (pa ([],0,no)):=by
 refine zn (eG T55 func55) (rc _) ?_;refine wI ?_;refine fK (f:=91) (p:=.ptr 3 0 0 0 1) (cl:=.fn 92 [.ptr 1 0 0 0 1,.ptr 2 0 0 0 1]) ?_ ?_ CH ?_
 .rfl
 .simp only[go_sem]<;>rfl
 refine zN ?_;refine zI ?_;refine wW (h _) ?_;rintro e H ⟨rfl,rfl⟩;exact En rfl rfl rfl rfl rfl rfl rfl


def nz(l:LN):Nat:=((List.range 64).filter fun j=>decide (j≠24)&&decide (l.getD j 0≠0)).length
theorem Q3(P:LJ)(R:LN)(i:Nat)(c:Pr)(h:P[i]?=some c):(w7 P++R).getD (2*i) 0=c.1/\(w7 P++R).getD (2*i+1) 0=c.2:=by
 induction P generalizing i with
 | nil=>simp at h
 | cons a P b =>
  rw[show w7 (a::P)=a.1::a.2::w7 P from rfl]
  match i with
  | 0=>simp at h;subst h;exact⟨rfl,rfl⟩
  | i+1 =>
   have:=b i (by simpa using h);rw[show 2*(i+1)=2*i+1+1 by omega];simpa using this
theorem Hm(p q:Nat->Bool)(j0:Nat)(h:∀j,j≠j0->q j=p j):∀n,(List.range n).countP q<=(List.range n).countP p+(if j0<n then 1 else 0)
 | 0=>by simp
 | n+1=>by
  have a:=Hm p q j0 h n;rw[zAQ9,zCT9,zCT9]
  grind
def bf(w:LN):Nat:=(List.range 64).countP fun j=>decide (j≠24)&&decide (w.getD (576+j) 0≠0)
theorem Vh(hw:640<=w.length):nz (zc w 9)=bf w:=by
 unfold nz bf;rw[<- List.countP_eq_length_filter];refine List.countP_congr fun j a=>?_;rw[zAL9]at a;have:(zc w 9).getD j 0=w.getD (576+j) 0:=by
  unfold zc;rw[Zq,zAA9,ZY,if_pos zo,<- Zq]
 rw[this]
theorem gF(w:LN)(a v i:Nat):(w.set a v).getD i 0=if a=i/\i<w.length then v else w.getD i 0:=by
 grind
def Aa(x:Int×Nat):Bool:=decide (576<=x.1)&&decide (x.1<640)&&decide (x.1≠600)
theorem Vg(w:LN)(a v:Nat):bf (w.set a v)<=bf w+(if 576<=a/\a<640/\a≠600 then 1 else 0):=by
 unfold bf
 by_cases h:576<=a/\a<640
 .by_cases b:a=600
  .grind
  .rw[if_pos ⟨h.1,h.2,b⟩];refine Z0 (Hm (fun j=>decide (j≠24)&&decide (w.getD (576+j) 0≠0)) _ (a-576) (fun j c=>?_) 64) (by grind)
   grind
 .rw[if_neg (fun k=>h ⟨k.1,k.2.1⟩),zBA9];refine Nat.le_of_eq (List.countP_congr fun j c=>?_)
  grind
theorem J8:∀(l:List (Int×Nat)) (w:LN),bf (kx w l)<=bf w+l.countP Aa
 | [],w=>Zi _
 | x::l,w=>by
  have a:=J8 l (if 0<=x.1/\x.1<(w.length:Int)then w.set x.1.toNat x.2 else w);rw[List.countP_cons];have e:kx w (x::l)=kx (if 0<=x.1/\x.1<(w.length:Int)then w.set x.1.toNat x.2 else w) l:=rfl;rw[e]
  split at a
  .rename_i hx;rw[if_pos hx];have h1:=Vg w x.1.toNat x.2;have h2:(if 576<=x.1.toNat/\x.1.toNat<640/\x.1.toNat≠600 then 1 else 0)<=(if Aa x=true then 1 else 0):=by
    split
    .rw[if_pos (by unfold Aa;grind)];omega
    .omega
   omega
  grind


theorem W5{i:Nat}{nm:LN}:∀s∈dA i nm,704<=s.1:=fun s a=>by
 unfold dA gR at a
 grind
theorem JD:∀{l done:List (LN)} {w w':LN} {ps ps':LJ},xQ b done l w ps=some (w',ps')->∀i,i<704->w'.getD i 0=w.getD i 0
 | [],done,w,w',ps,ps',h,i,_=>by
  unfold xQ at h
  grind
 | nm::l,done,w,w',ps,ps',h,i,c=>by
  by_cases a:wC nm=0/\¬nm∈done
  rotate_left
  .rw[eO a]at h;cases h
  rw[iF a.1 a.2 rfl rfl]at h;rw[JD h i c];exact Cn i _ w fun s d e=>by have:=W5 s d;omega
theorem Wn{s:Pr}(h:s∈pb b ws):64*b<=s.1:=by
 unfold pb at h
 grind
theorem YH{N:Nat}{T:List vO}(h:∀b∈T.flatMap Prod.fst,N<=64*b):∀s∈pj T,N<=s.1:=fun s a=>by
 unfold pj at a;obtain⟨L,c,a⟩:=ZF.1 a;unfold ni at a;obtain⟨x,d,a⟩:=ZF.1 a;have h1:=Wn a;have h2:=h x.1 (ZF.2 ⟨L,c,(zCH9 d).1⟩);omega
theorem Ph{c:Nat}(hl:w.length=w'.length)(hc:64*c+64<=w.length)(h:∀j,j<64->w.getD (64*c+j) 0=w'.getD (64*c+j) 0):zc w c=zc w' c:=by
 refine zBD9 fun j=>?_;unfold zc;rw[zAA9,zAA9,ZY,ZY]
 grind
theorem Rg:xR [] yT=true:=by decide
theorem Rf:yT.map Int.toNat=(List.range 20).map (28 + ·):=by decide
structure NH(bent:List (Int×Nat))(w w1:LN)(T:List vO)(ps:LJ):Prop where
 w:w=kx w1 bent
 len:w1.length=3072
 low:∀i,i<704->i≠600->w1.getD i 0=0
 root:w1.getD 600 0=rU T
 kC:kC ps=true
 qg:dw ((List.range 20).map (28 + ·))=true
 built:B6 ps ((List.range 20).map (28 + ·)) T
 laid:∀M∈T,yH w1 M.1 M.2
theorem Uy(ho:n7 h b=some (w,fr,true)):h.bent.length<=20/\∃w1 T ps,NH h.bent w w1 T ps:=by
 unfold n7 at ho
 split at ho
 rotate_left
 .cases ho
 rename_i a
 split at ho
 .cases ho
 rename_i d ps o;have u:=DL o;simp only[Zz]at u;have J:=E7 ps;refine⟨a.2,(vH d (x9 (kI ps) yT).2.1).set 600 (x9 (kI ps) yT).1,?_⟩;have t:=JD o;obtain⟨K,_⟩:d.length=3072/\True:=⟨by
  have O:∀{l done:List (LN)} {w w':LN} {ps f:LJ},xQ b done l w ps=some (w',f)->w'.length=w.length:=fun{l}=>by
   induction l with
   | nil=>intro done w w' ps f h;unfold xQ at h;grind
   | cons p l z =>
    intro done w w' ps f h
    by_cases a:wC p=0/\¬p∈done
    rotate_left
    .rw[eO a]at h;cases h
    rw[iF a.1 a.2 rfl rfl]at h;exact(z h).trans (kw _ _)
  grind,trivial⟩
 generalize kI ps=sp at *
 unfold x9 at ho⊢;rw[Rg,zDQ9]at ho⊢
 by_cases g:kC sp=true
 rotate_left
 .grind
 rw[if_pos g]at ho⊢;rw[Rf]at ho⊢;have k:dw ((List.range 20).map (28 + ·))=true:=by decide
 cases q:aJ sp ((List.range 20).map (28 + ·))with
 | none=>grind
 | some T =>
  rw[q]at ho;dsimp only at ho⊢;have n:=GR g k zo q;refine⟨T,sp,?_⟩;obtain⟨G,R,e⟩:=n.blocks;have v:∀c∈T.reverse.flatMap Prod.fst,28<=c/\c<48:=fun c a=>by
   grind
  have P:=YH (N:=1792) (T:=T.reverse) fun c a=>by grind
  have Q:=kw (pj T.reverse) d;injection ho with ho;injection ho with h1 _;refine⟨h1.symm,by grind,fun i A B=>?_,?_,g,k,n,fun M r i c m a C=>?_⟩
  .rw[gF,if_neg (fun h=>B h.1.symm),Cn i _ d (fun s S e=>by grind),t i A,Zq,List.getElem?_replicate]
   grind
  .grind
  .have x:(T.reverse.flatMap Prod.fst).Nodup:=by rw[e];exact((lG _).1 k).2.sublist (zEV9 _ _)
   have I:=v c (ZF.2 ⟨M,zBT9.2 r,Zj a⟩);have y:=I5 T.reverse d (fun L D=>n.len L (zBT9.1 D)) x (fun c a=>by grind);refine⟨by grind,?_⟩;rw[<- y.1 M (zBT9.2 r) i c m a C];refine Ph (Z2 ..) (by grind) fun j U=>?_;rw[gF,if_neg (fun h=>by omega)]


theorem Jo:∀{T:List vO} (i:Nat) (L M:vO),yA w T=true->T[i]?=some L->T[i+1]?=some M->L.2.flatMap wL=uI M
 | [],i,L,M,_,h,_=>by simp at h
 | [K],i,L,M,_,h,h2=>by grind
 | K::b::T,i,L,M,a,h,h2=>by
  rw[yA,Zm,Zm]at a
  cases i with
  | zero =>
   grind
  | succ i =>
   simp only[ZJ]at h h2;exact Jo i L M a.2 h h2
theorem Yv{key:Nat}{fr:LN}(hw:w.length<=131072)(ht:(wg w n).2=true)(hs:kH w (wg w n).1=true)(hf:aa (wg w n).1 (fr.map fun(b:Nat)=>(b:Int))=true)(hW:om w (w.getD n 0) key ws):∀(i b c:Nat),ws[i]?=some b->ws[i+1]?=some c->aF w fr b c:=by
 obtain⟨f1,f2,f3,f4,f5⟩:=dI (w:=w) (T:=(wg w n).1) hw n (by rw[<- ht]);obtain⟨X,S,⟨U,x3,V,x5⟩,_⟩:=EH hw 14 [] [] (w.getD n 0) (-1) ht;have Y:(wg w n).1=X:=by rw[show (wg w n).1=[]++X from S,ZA]
 rw[Y]at hs f1 f2 f3 f5 hf;unfold kH at hs;rw[Zm]at hs;obtain⟨x,D,ab⟩:=U;have t:∀(i b c:Nat) (L:vO),X[i]?=some L->b∈L.1->yN (zc w b) key=(c,0)->∃M,X[i+1]?=some M/\c∈M.1/\aF w fr b c:=fun i b c L j g d=>by
  have o:=Zj j;have p:=f1 L o;have y:headN (zc w b)∈L.2:=by rw[p.lv.is];exact Zu.2 ⟨b,g,rfl⟩
  have G:=eW p.lv.len (rf hs.2 L o) b g;unfold yN at d;rw[if_pos G]at d;have u:¬(headN (zc w b)).level=0:=fun e=>by rw[if_pos e]at d;injection d with _ d;cases d
  rw[if_neg u]at d;injection d with d _;have I:=(Zh.1 j).1;have A:i+1<X.length:=by
   rcases zAO9 (i+1) X.length with h|h
   .exact h
   .exfalso
    have:X.getLast?=some L:=by rw[zAF9,show X.length-1=i by omega];exact j
    exact u (V L this _ y)
  obtain⟨M,k⟩:∃M,X[i+1]?=some M:=⟨_,Zg A⟩
  have r:=Zj k;have J:=f1 M r;have z:=Jo i L M hs.2 j k;have B:bK L:=f2 L (by
   have:X.dropLast[i]?=some L:=by rw[List.getElem?_dropLast,if_pos zo];exact j
   exact Zj this)
  have K:∀f∈fr,f ∉ M.1:=fun f N O=>by
   unfold aa at hf;have h1:=ZN.1 hf M r;unfold lC at h1;have h2:=ZN.1 h1 (f:Int) (Zu.2 ⟨f,N,rfl⟩);rw[CQ]at h2;simp[O]at h2
  have P:∃q∈wL (headN (zc w b)),c=q.2:=by
   rcases Dw (headN (zc w b)).pairs key (headN (zc w b)).left with h|⟨q,m,h⟩
   .exact⟨_,Zr ..,by omega⟩
   .exact⟨q,Zo _ m,by omega⟩
  obtain⟨q,m,rfl⟩:=P;refine⟨M,k,?_,Uf p J (rf hs.2 L o) (rf hs.2 M r) z B K g m⟩;have v:q∈uI M:=by rw[<- z];exact ZF.2 ⟨_,y,m⟩
  unfold uI at v;exact(zCH9 (show (q.1,q.2)∈_ from v)).2
 have C:∀(i b:Nat),ws[i]?=some b->∃L,X[i]?=some L/\b∈L.1:=by
  intro i
  induction i with
  | zero =>
   intro b g;have:=hW.first;rw[g]at this;injection this with this;refine⟨x,by rw[<- zDP9];exact D,?_⟩;rw[this]
   cases h:x.1 with
   | nil=>grind
   | cons a l=>grind
  | succ i Z =>
   intro c d;have I:=(Zh.1 d).1;obtain⟨b,g⟩:∃b,ws[i]?=some b:=⟨_,Zg zo⟩
   obtain⟨L,j,s⟩:=Z b g;obtain⟨M,k,Q,_⟩:=t i b c L j s (hW.next i b c g d)
   grind
 intro i b c g d;obtain⟨L,j,s⟩:=C i b g;obtain⟨M,k,Q,R⟩:=t i b c L j s (hW.next i b c g d);exact R
theorem ME{fr:LN}:∀(l:LN),(∀(i b c:Nat),l[i]?=some c->l[i+1]?=some b->aF w fr b c)->nM fr w l
 | [],_=>trivial
 | [_],_=>trivial
 | c::b::l,h=>⟨h 0 b c rfl rfl,ME (b::l) fun i b c h1 h2=>h (i+1) b c (by grind) (by grind)⟩
theorem Yw{fr:LN}(h:∀(i b c:Nat),ws[i]?=some b->ws[i+1]?=some c->aF w fr b c):nM fr w ws.reverse :=
 ME _ fun i b c h1 h2=>by
  have a:=(Zh.1 h1).1;have d:=(Zh.1 h2).1;rw[List.length_reverse]at a d;rw[List.getElem?_reverse zo]at h1 h2;exact h (ws.length-1-(i+1)) b c h2 (by grind)
theorem Vp(h:mE n fr fr.length=true):fr.Nodup:=by
 refine zBW9.2 fun i j c a b e=>?_;unfold mE at h;have h1:=ZN.1 h j (zAL9.2 a);unfold mD at h1;rw[Zq,Zg a,Zm,zAZ9,zDR9,zCM9,decide_eq_false_iff_not]at h1;refine h1.2 ?_;rw[<- e];refine Zj (i:=i) ?_
 grind
theorem O5{frN:LN}(h:nR w n (frN.map fun(b:Nat)=>(b:Int))=0):frN.Nodup/\aa (wg w n).1 (frN.map fun(b:Nat)=>(b:Int))=true:=by
 unfold nR at h
 split at h
 rotate_left
 .cases h
 rename_i d;rw[Z4]at h
 split at h
 rotate_left
 .cases h
 rename_i a;unfold fS at h;rw[if_pos d,Z4]at h
 split at h
 rotate_left
 .cases h
 rename_i c;unfold mg at a;obtain⟨e,f⟩:=sh w n;rw[e,c,f c,Zm,zES9,zCS9]at a;refine⟨?_,a.2⟩;have:=Vp a.1
 grind
theorem J9(q:Nat->Bool):∀k:Nat,(∀i,i<k->q (9+2*i)=true)->k<=(List.range (9+2*k)).countP q
 | 0,_=>Zn _
 | k+1,h=>by
  have a:=J9 q k fun i b=>h i zo;rw[show 9+2*(k+1)=(9+2*k)+1+1 by omega,zAQ9,zAQ9,zCT9,zCT9,List.countP_singleton,if_pos (h k zo)];omega
theorem Wl(ho:n7 h b=some (w,fr,true))(hck:wd (zc w 9)=0):(headN (zc w 9)).pairs.length<27:=by
 obtain⟨t,f,T,z,M⟩:=Uy ho;have u:w.length=3072:=by rw[M.w,Ct,M.len]
 rcases zAO9 (headN (zc w 9)).pairs.length 27 with a|a
 .exact a
 exfalso
 have m:=J8 h.bent f;rw[<- M.w]at m;have A:bf f=0:=by
  unfold bf;rw[List.countP_eq_zero];intro j n;rw[zAL9]at n
  by_cases e:j=24
  .grind
  .have:=M.low (576+j) zo zo
   grind
 have v:=List.countP_le_length (p:=Aa) (l:=h.bent);obtain⟨o,B,C,k,q,D,G⟩:=mC hck;have x:∀i,i<27->(zc w 9).getD (9+2*i) 0≠0:=fun i r=>by
  obtain⟨c,g⟩:∃c,(headN (zc w 9)).pairs[i]?=some c:=⟨_,Zg zo⟩
  have h1:=(Q3 (headN (zc w 9)).pairs k i c g).2;rw[<- q]at h1;have h2:=rt (o.may c (Zj g))
  grind
 have s:=J9 (fun j=>decide (j≠24)&&decide ((zc w 9).getD j 0≠0)) 27 fun i r=>by
  grind
 have d:nz (zc w 9)=bf w:=Vh zo;unfold nz at d;rw[<- List.countP_eq_length_filter]at d;have y:(List.range 64).countP (fun j=>decide (j≠24)&&decide ((zc w 9).getD j 0≠0))=(List.range (9+2*27)).countP (fun j=>decide (j≠24)&&decide ((zc w 9).getD j 0≠0)) + [63].countP (fun j=>decide (j≠24)&&decide ((zc w 9).getD j 0≠0)):=by
  rw[<- zCT9];rfl
 omega


theorem YF(w:LN)(hw:w.length<=3072)(n:Nat)(x:Pr)(fr:LG)(hfl:fr.length<=100)(hpl:wd (zc w (n/64))=0->(headN (zc w (n/64))).pairs.length<27)(hfre:∀f∈fr,f≠((n/64:Nat):Int))(p r:Nat):∃R:LJ×Nat×Nat,FR 55 [wv p w,iv n,pv x,.list r 1 (fr.map iv)] (pa R)/\FR 57 [wv p w,iv n,pv x,.list r 1 (fr.map iv)] (pa R)/\R.2.1<=fr.length/\R.1.length<=900000:=by
 have ad:vE w.length:=by unfold vE;omega
 have T:=O4 p r w n fr ad zo;have t:=Rb p r w n fr ad zo;have z:=XW p w n ad
 by_cases v:nR w n fr=0
 rotate_left
 .refine⟨([],0,nR w n fr),?_,Wg p r w n x fr _ v T,Zn _,Zn _⟩;unfold tT at t;unfold BO at z;unfold nR fS at v⊢
  by_cases hr:uK w.length n=true
  rotate_left
  .rw[if_neg hr]at t⊢;exact Bp p r w n x fr 2 fun H=>Gr p r w n fr 2 H t
  rw[if_pos hr]at t z v⊢
  by_cases C:mg w (n:Int).toNat fr=true
  rotate_left
  .rw[if_neg C]at t⊢;exact Bp p r w n x fr 2 fun H=>Gr p r w n fr 2 H t
  rw[if_pos C]at t v⊢;rw[if_pos hr]at v⊢
  by_cases U:(wg w (n:Int).toNat).2=true
  rotate_left
  .rw[if_neg U]at z⊢;exact Bp p r w n x fr 220 fun H=>Gs p r w n fr 220 H t z
  rw[if_pos U]at z v⊢
  by_cases hs:kH w (wg w (n:Int).toNat).1=true
  rotate_left
  .rw[if_neg hs]at z⊢;exact Bp p r w n x fr 220 fun H=>Gs p r w n fr 220 H t z
  grind
 obtain⟨i,m,ws,ch,J,ck,hN,b2,U,b0,hS⟩:=O6 x.1 v;obtain rfl:i=n:=zo;have cl:uK w.length (i:Int)=true:=by
  unfold nR at v;split at v
  all_goals omega
 have cs:mg w i fr=true:=by
  unfold nR at v
  grind
 have t:FR 136 [wv p w,iv i,.list r 1 (fr.map iv)] (.tuple []):=by
  unfold tT at t
  grind
 have z:FR 137 [wv p w,iv i] (uV (wg w i).1):=by
  unfold BO at z
  grind
 subst b2;obtain⟨b3,bw⟩:=O5 v;rw[v]at T;have ah:=Yw (Yv zo U b0 bw hS.way);generalize (wg w i).1=T0 at *
 obtain⟨s1,s2,s3,s4,s5,s6,s7,s8,s9⟩:=hS;have hW:=YY p w i x.1 ws hN J s1;obtain⟨b,a,rfl⟩:=Sj s6;have X:a∈b++[a]:=by simp
 have D:64*a+64<=w.length:=by have:=s3 a X;omega
 have Y:=kU w a D;have b4:=Es p (zc w a) x (by rw[Y];decide);have P:=Et 1 x (zc w a) Y;have bx:=U3 (w:=zc w a) (x:=x);have cu:m.length<=100:=by simpa using hfl
 have a8:=b9 (x:=x) Y;obtain⟨l,B⟩:∃l:Wk,l=⟨p,0,w,[],wz r m,0⟩:=⟨_,rfl⟩
 have u:l.W=w:=by rw[B]
 have av:l.L=[]:=by rw[B]
 have a0:l.used=0:=by rw[B]
 have I:(wj (zc w a) x).2=3->mQ m r l (a::b.reverse):=fun h=>by
  have cc:a::b.reverse=(b++[a]).reverse:=by simp
  refine⟨by rw[B],by rw[u];exact hN,fun c A=>?_,?_,fun c A=>?_,fun c A=>?_,fun f C=>?_,fun f C A=>?_,?_,?_,by rw[B];exact Zn _,by omega⟩
  .grind
  .grind
  .grind
  .grind
  .have:=s7 f C;rw[u];omega
  all_goals grind
 have a1:dN m i l.W (a::b.reverse):=⟨fun c A b5 e=>by
  have b6:c∈b++[a]:=by
   rcases ZD.1 A with rfl|A
   .exact X
   .exact zBX9 _ (zBT9.1 A)
  rw[u,e]at b5;have a9:=s2 c b6;rw[e]at a9;have:=hpl a9;omega,fun f C e=>hfre (f:Int) (Zu.2 ⟨f,C,rfl⟩) (by rw[e]),b3⟩
 have bb:nM m l.W (a::b.reverse):=by
  rw[u];rw[List.reverse_append]at ah;exact ah
 have b1:b.reverse.reverse++[a]=b++[a]:=by rw[List.reverse_reverse]
 have cx:(b.reverse.length+1)<=14:=by simpa using s5
 have bm:(b++[a]).length=b.reverse.length+1:=by simp
 have bo:(wj (zc w a) x).2=3->∀(H:LP) (id iW iP M g:Nat),wT H id iW iP w [] (wz r m) 0 i->H[M]?=some (.row 3 1 g 0 (ui (b++[a])))->M ∉ [id,iW,iP]->FO ET 98 [.ptr id 0 0 0 5,.sl M g 0 (b++[a]).length (2*(b++[a]).length) 1] H false (sK H id iW iP i (wz r m) (Wk.split m i (a::b.reverse) l)):=fun h H id iW iP M g hU b7 ca=>by
  have:=Yn m r i (b++[a]) zo b.reverse a l (I h) a1 bb (by rw[u];exact J) (fun c A=>s9 c (by
   rcases ZD.1 A with rfl|A
   .exact X
   .exact zBX9 _ (zBT9.1 A))) (by rw[List.reverse_reverse,<- bm,ZL]) H id iW iP M g (2*(b++[a]).length) (by rw[u,av,a0];exact hU) b7 ca (Zi _)
  rw[<- bm]at this;exact this
 have Z:=fun(h:(wj (zc w a) x).2=3)=>E9 (at':=i) _ _ _ (I h) a1;obtain⟨S,K⟩:∃S,S=Wk.split m i (a::b.reverse) l:=⟨_,rfl⟩
 have hO:(wj (zc w a) x).2=3->Cb m l (b.reverse.length+1) S:=fun h=>by rw[K];exact sd _ _ _ (I h)
 have hq:S.1.q=0:=by rw[K];exact Mz _ _ _ (by rw[B])
 have cb:(wj (zc w a) x).2=3->FP ET 104 [vT l,.list 0 1 (pm (b++[a])),iv i] (.ret (mK S)):=fun h=>by
  rw[<- b1,K];exact Mu m r i b.reverse a l 0 (I h) (by rw[u];exact J)
 rw[<- K]at bo Z;have V:(wj (zc w a) x).2=3->S.2.2.2=0->sH m r w.length S.1/\64*S.2.1+64<=w.length:=fun h h2=>by
  have o:=hO h;refine⟨⟨o.fr'.trans (by rw[B]),o.W.trans (by rw[u]),?_,hq⟩,by have:=o.inn h2;rw[u]at this;exact this⟩;have:=o.L
  grind
 have a6:(wj (zc w a) x).2=3->S.2.2.2=0->(wj (zc S.1.W (if S.2.2.1<=x.1 then S.2.1 else a)) x).2=0:=fun h h2=>by
  obtain⟨hu,i1,i2,i3,i4,i5⟩:=Z h h2;obtain⟨m1,m2⟩:=UK h;rw[u]at i2 i3 i4;have C:=(I h).to hu;have:=(s7 _ C)
  exact IC m1 (by have:=bx h;omega) zo m2 (by rw[i2,i1]) i3 i4
 clear K I Z ah bb a1;obtain⟨j,O⟩:∃j,j=if S.2.2.1<=x.1 then S.2.1 else a:=⟨_,rfl⟩
 rw[<- O]at a6;obtain⟨R,Q,a2,a3,a4⟩:∃R:LJ×Nat×Nat,(¬(wj (zc w a) x).2=0->¬(wj (zc w a) x).2=3->R=([],0,(wj (zc w a) x).2))/\((wj (zc w a) x).2=3->¬S.2.2.2=0->R=([],0,S.2.2.2))/\((wj (zc w a) x).2=3->S.2.2.2=0->R=S.1.put j x)/\((wj (zc w a) x).2=0->R=l.put a x):=by
  by_cases c0:(wj (zc w a) x).2=0
  .simp_all
  by_cases s:(wj (zc w a) x).2=3
  .by_cases N:S.2.2.2=0
   .simp_all
   simp_all
  simp_all
 have ab:(wj (zc w a) x).2=3->S.2.2.2=0->64*j+64<=w.length:=fun h h2=>by
  rw[O]
  split
  .exact(V h h2).2
  .exact D
 refine⟨R,?_,?_,?_⟩
 .by_cases s:(wj (zc w a) x).2=3
  .refine KJ p r i x w _ (b++[a]) a (wj (zc w a) x) T0 S R S.1.W S.1.L S.1.used j (wj (zc S.1.W j) x).1 ⟨by omega,by omega⟩ J t z s1 (by simp) ⟨by simp,by omega⟩ D P Q (fun h=>by rw[Az];exact bo h) a2 (fun _ _=>⟨rfl,rfl,rfl,O⟩) (fun h=>by omega) fun hh=>?_;have h2:S.2.2.2=0:=zo;have G:=(V s h2).1;have a7:64*j+64<=S.1.W.length:=by rw[G.W];exact ab s h2
   have bp:=b9 (x:=x) (kU S.1.W j a7);have bs:=Et 1 x (zc S.1.W j) (kU _ _ a7);have e:wj (zc S.1.W j) x=((wj (zc S.1.W j) x).1,0):=Prod.ext rfl (a6 s h2);rw[e]at bs;refine⟨G.W,ab s h2,bs,bp.1,bp.2,by have:=G.L;omega,?_⟩;rw[a3 s h2];unfold Wk.put;rw[bP]
  .refine KJ p r i x w _ (b++[a]) a (wj (zc w a) x) T0 S R w [] 0 a (wj (zc w a) x).1 ⟨by omega,by omega⟩ J t z s1 (by simp) ⟨by simp,by omega⟩ D P Q (fun h=>absurd h s) (fun h=>absurd h s) (fun h=>absurd h s) (fun _=>⟨rfl,rfl,rfl,rfl⟩) fun hh=>?_;have h2:(wj (zc w a) x).2=0:=zo;have e:wj (zc w a) x=((wj (zc w a) x).1,0):=Prod.ext rfl h2;rw[e]at P;refine⟨rfl,D,P,a8.1,a8.2,by simp,?_⟩;rw[a4 h2];unfold Wk.put;rw[bP,av,u,a0]
 .rw[Az]at T⊢;exact Wh p r i w x m (b++[a]) a l _ S R hN B T hW zo (by simp) (by simp) D b4 (fun h=>⟨cb h,(hO h).fr'.trans (by rw[B]),V h⟩) Q a2 (fun h1 h2=>by rw[<- O];exact a3 h1 h2) a4
 .rw[ZB];have a5:∀(y:Wk) (j:Nat),64*j+64<=y.W.length->y.L.length<=899900->y.used<=m.length->(y.put j x).2.1<=m.length/\(y.put j x).1.length<=900000:=fun y j h1 h2 h3=>by
   have k:=b9 (x:=x) (kU y.W j h1);have d:=xA (vx (64*j) (wj (zc y.W j) x).1) y;rw[dv]at d;unfold Wk.put;dsimp only;omega
  by_cases c0:(wj (zc w a) x).2=0
  .rw[a4 c0];exact a5 l a (by rw[u];exact D) (by rw[av];simp) (by rw[a0];exact Zn _)
  by_cases s:(wj (zc w a) x).2=3
  .by_cases N:S.2.2.2=0
   .rw[a3 s N];have G:=(V s N).1;exact a5 S.1 j (by rw[G.W];exact ab s N) G.L (hO s).used
   .rw[a2 s N];exact⟨Zn _,Zn _⟩
  .rw[Q c0 s];exact⟨Zn _,Zn _⟩


theorem f30:ET.funcs.get 30=some T30:=cW func30
def pF(m:Int)(x:ub):Bool:=decide ((x.num:Int)=m)
theorem Vf(b:Nat)(w:LN)(a m:Int)(h1:1<=m)(h2:m<=64):FR 53 [ay p w b a,iv m] (.tuple []):=by
 refine zn (eG T53 func53) Lb.unit ?_;refine zG ?_;refine vK (zj h1 h2) ?_;refine vo (aN 2) ?_;refine zK ?_;exact⟨[],rfl,ze.tL trivial⟩
theorem Ve(b:Nat)(w:LN)(a m:Int)(h:¬(1<=m/\m<=64)):FN ET 53 [ay p w b a,iv m] (.panic (wy 2)):=by
 refine zn (eG T53 func53) (.iface (.int _ _)) ?_;refine zG ?_
 by_cases h1:1<=m
 .have h2:¬m<=64:=fun h2=>h ⟨h1,h2⟩;refine vK (zj h1 h2) ?_;refine wE (nV 2) ?_;exact uy rfl
 .refine vK h1 ?_;refine wE (nV 2) ?_;exact uy rfl
theorem Sv(x:ub):FR 90 [ut x,.elem [iv m]] (.bool (pF m x)):=by
 refine zn (eG T90 func90) (.bool _) ?_;unfold pF;refine zO ?_;exact ze.bool _
theorem Yb(hl:vE l.length)(m:Int):FN ET 54 [esv 0 l,iv m] (if(l.find? (pF m)).isSome then .panic (wy 2)else .ret (.tuple [])):=by
 have a:=Io 0 l hl 90 [.elem [iv m]] (fun v e=>by obtain rfl:=ZI.1 e;exact .elem _) (pF m) (fun x _=>Sv m x);unfold oS at a
 cases d:l.find? (pF m)with
 | none =>
  rw[d]at a;dsimp only at a⊢;refine zn (eG T54 func54) Lb.unit ?_;refine wI ?_;refine pt (caps:=[]) (vs:=[esv 0 l,.fn 90 [.ptr 0 0 0 0 1]]) rfl ?_ a ?_ ?_
  .simp only[go_sem]
  .refine⟨.list _ _ _,ze.fnL ⟨.ptr (w:=iv m) rfl (Zi _) rfl fun j x y c b=>?_,trivial⟩,trivial⟩
   cases j with
   | zero=>simp[PV.cells]at c b;subst c;subst b;exact ze.int _ _
   | succ j=>simp at b
  refine zN ?_;refine zI ?_;refine vo (aN 2) ?_;refine zK ?_;exact⟨[],rfl,ze.tL trivial⟩
 | some x =>
  rw[d]at a;dsimp only at a⊢;refine zn (eG T54 func54) (.iface (.int _ _)) ?_;refine wI ?_;refine pt (caps:=[]) (vs:=[esv 0 l,.fn 90 [.ptr 0 0 0 0 1]]) rfl ?_ a ?_ ?_
  .simp only[go_sem]
  .refine⟨.list _ _ _,ze.fnL ⟨.ptr (w:=iv m) rfl (Zi _) rfl fun j x y c b=>?_,trivial⟩,trivial⟩
   cases j with
   | zero=>simp[PV.cells]at c b;subst c;subst b;exact ze.int _ _
   | succ j=>simp at b
  refine zN ?_;refine zI ?_;refine wE (nV 2) ?_;exact uy rfl


def cU(K:Nat×Nat)(m:Int)(has:Bool)(R:LJ×Nat×Nat):FE:=if 1<=m/\m<=64 then(if K.2=0 then(if has=true then .ret (pa ([],0,2))else .ret (pa R))else .ret (pa ([],0,K.2)))else .ret (pa ([],0,2))
theorem Jc(has:Bool)(R:LJ×Nat×Nat):gh (cU K m has R):=by
 unfold cU
 repeat' split
 all_goals exact rc _
theorem PU(x:za)(a b:PV)(G:LP):FO ET 52 [.ptr 1 0 0 0 1,.ptr 2 0 0 0 1] (x::.row 57 1 0 0 [a]::.row 3 1 0 0 [b]::G) false fun e H'=>e=.ret (.tuple [])/\H'=x::.row 57 1 0 0 [.nilsl]::.row 3 1 0 0 [iv 0]::G:=by
 refine wS (eG T52 func52) ?_;refine zJ ?_;exact⟨[],rfl,rfl,rfl⟩
theorem NT(b:Nat)(h:1<=b/\b<=40)(w:LN)(hs:vE w.length)(hw:WB w)(n:Nat)(hd:kz w.length 28 n=true)(name:LN)(hnb:wu name)(m:Int)(fr:LG)(R:LJ×Nat×Nat)(hla:vE (uh w b 28 n name).1.length)(hT:1<=m/\m<=64->(pP w b 28 n name).2=0->FR 55 [wv p w,iv n,pv ((pP w b 28 n name).1,m.toNat),.list r 1 (fr.map iv)] (pa R)):FN ET 20 [wv p w,wc b 28,iv n,.str name,iv m,.list r 1 (fr.map iv)] (cU (pP w b 28 n name) m ((uh w b 28 n name).1.find? (pF m)).isSome R):=by
 refine zn (eG T20 func20) (Jc _ _ _ _) ?_;have o:=Vl p b h w hs n hd;have hl:=Xg p b h w hs hw n hd name hnb;have g:=Yb (uh w b 28 n name).1 hla m;unfold rT at hl;unfold pP at hT⊢;generalize uh w b 28 n name=A at *
 obtain⟨l,q⟩:=A;dsimp only at *
 unfold wc uu at o⊢;refine wI ?_;refine fK (f:=38) (p:=.ptr 3 0 0 0 1) (cl:=.fn 52 [.ptr 1 0 0 0 1,.ptr 2 0 0 0 1]) ?_ ?_ Pv ?_
 .rfl
 .simp only[go_sem]<;>rfl
 refine zN ?_;have bad:∀(e:FE) (d:Nat->PV) (k:Nat) (x:za) (a b:PV) (G:LP),e=.ret (pa ([],0,k))->d 12=.ptr 1 0 0 0 1->d 13=.ptr 2 0 0 0 1->d 14=.ptr 3 0 0 0 1->yG ET T20 (fun z H=>ve H 0 z e) (.panic (wy k)) ⟨d,[.caught (.ptr 3 0 0 0 1) (.fn 52 [.ptr 1 0 0 0 1,.ptr 2 0 0 0 1])],x::.row 57 1 0 0 [a]::.row 3 1 0 0 [b]::.row 38 1 0 0 [iv 0]::G⟩:=fun e d k x a b G j u v y=>by
  refine⟨k,52,[.ptr 1 0 0 0 1,.ptr 2 0 0 0 1],false,3,0,1,rfl,rfl,rfl,(PU _ _ _ _).mono fun e H j=>?_⟩;obtain⟨rfl,rfl⟩:=j;refine⟨rfl,_,rfl,[.nilsl,iv 0,iv k],?_,?_⟩
  .simp[T20,xT,zr,zC,u,v,y,zR,zF,zW,qd];rfl
  .rw[j];exact vN
 refine zI ?_;refine fD o (hl:=⟨.list _ _ _,Dm b,.int _ _,trivial⟩) ?_;refine zN ?_;unfold cU
 by_cases c:1<=m/\m<=64
 rotate_left
 .rw[if_neg c];refine zI ?_;refine wE (Ve p b w n m c) ?_;exact bad _ _ 2 _ _ _ _ rfl rfl rfl rfl
 rw[if_pos c];refine zM (Vf p b w n m c.1 c.2) ?_
 by_cases i:q=0
 rotate_left
 .rw[if_neg i]at hl hT⊢;dsimp only;rw[if_neg i];refine zI ?_;refine wE hl ?_;exact bad _ _ q _ _ _ _ rfl rfl rfl rfl
 rw[if_pos i]at hl hT⊢;subst i
 cases s:l.find? (kY name)with
 | some x =>
  rw[s]at hl;dsimp only at hl⊢;refine zI ?_;refine wE hl ?_;exact bad _ _ 191 _ _ _ _ rfl rfl rfl rfl
 | none =>
  rw[s]at hl hT;dsimp only at hl hT⊢;have hT:=hT c rfl;rw[if_pos rfl];refine zM hl ?_
  by_cases t:(l.find? (pF m)).isSome=true
  .rw[if_pos t]at g⊢;refine zI ?_;refine wE g ?_;exact bad _ _ 2 _ _ _ _ rfl rfl rfl rfl
  rw[if_neg t]at g⊢;refine zM g ?_;obtain⟨k,rfl⟩:∃k:Nat,m=k:=⟨m.toNat,by omega⟩
  rw[Z4]at hT;have B:IntKind.u64.wrap (k:Int)=(k:Int):=ku;generalize pG l (65536*yr b name)=key at *
  refine vK B ?_;refine wD hT ?_;refine vw ?_;exact⟨[.list 0 2 (R.1.map vd),iv (R.2.1:Nat),iv (R.2.2:Nat)],rfl,ze.tL ⟨.list _ _ _,.int _ _,.int _ _,trivial⟩⟩


theorem f4:ET.funcs.get 4=some T4:=eG _ func4
theorem Uw(hn:∀s∈names,wu s/\s.length<9223372036854775808)(hbe:∀x∈bent,yQ x.2):
  (∃(w:LN) (lay:PV) (fr:LQ),vg lay/\lay.cells.length=10/\(∃c,lay=.agg c/\c.length=10)/\FR 10 [.agg [.list q1 1 (ph names),iv bits,.list q2 2 (pW bent)]] (.tuple [wv 0 w,lay,.list 0 1 fr,.bool false])) \/
  ∃(b:Nat) (w:LN) (fr:LG),bits=b/\(1<=b/\b<=40)/\n7 ⟨names,b,bent⟩ b=some (w,fr,true)/\w.length=3072/\WB w/\fr.length<=20/\FR 10 [.agg [.list q1 1 (ph names),iv b,.list q2 2 (pW bent)]] (.tuple [wv 0 w,wc b 28,.list 0 1 (fr.map iv),.bool true]):=by
 have a:=Uu q1 q2 names bits bent hn hbe;unfold rm at a;dsimp only at a
 by_cases e:1<=bits/\bits<=40
 rotate_left
 .rw[if_neg e]at a;exact .inl ⟨[],layZ,[],tZ,rfl,⟨_,rfl,rfl⟩,a⟩
 rw[if_pos e]at a;obtain⟨b,rfl⟩:∃b:Nat,bits=b:=⟨bits.toNat,by omega⟩
 rw[Z4]at a;have f:1<=b/\b<=40:=zo
 cases d:n7 ⟨names,b,bent⟩ b with
 | none=>rw[d]at a;exact .inl ⟨[],wc b 28,[],bX b 28,rfl,⟨_,rfl,rfl⟩,a⟩
 | some r =>
  obtain⟨w,fr,c⟩:=r;rw[d]at a
  cases c with
  | false=>exact .inl ⟨w,wc b 28,fr.map iv,bX b 28,rfl,⟨_,rfl,rfl⟩,a⟩
  | true =>
   obtain⟨g,i,h⟩:=Uv f d (fun s j=>(hn s j).1) hbe;exact .inr ⟨b,w,fr,rfl,f,d,g,i,h,a⟩


theorem f31:ET.funcs.get 31=some T31:=cW func31
theorem RM(hl:vE l.length):FR 56 [esv p l,iv m] (.bool (l.find? (pF m)).isSome):=by
 refine zn (eG T56 func56) (.bool _) ?_;refine zG ?_;refine vm (vy (fun k s=>∃i:Nat,k=l.length-i/\i<=l.length/\(l.find? (pF m)).isSome=((l.drop i).find? (pF m)).isSome/\s.tm 0=esv p l/\s.tm 1=iv m/\s.tm 5=iv i/\s.df=[]/\s.H=[]) (n:=l.length) ?_ ?_)
 .exact⟨0,by simp[zb,zq]⟩
 .rintro k ⟨tm,df,H⟩ ⟨i,rfl,hi,hc,h0,h1,h5,rfl,rfl⟩;dsimp only at h0 h1 h5;refine vu (zj h0 h5) ?_ ?_
  .intro a;have a:i<l.length:=vM a;obtain⟨q,d⟩:=wX (l:=l) a;have c:(l.map ut)[i]?=some (ut q):=vU d;have e:l.drop i=q::l.drop (i+1):=pX d;rw[e,List.find?_cons]at hc;refine vD ?_;refine zB ?_
   by_cases b:(q.num:Int)=m
   .rw[show pF m q=true from decide_eq_true b]at hc;refine zB ?_;refine vC (wQ h0 h1 h5 c a b) ?_;refine zU ?_;exact ve.bool (by rw[hc];rfl)
   .rw[show pF m q=false from decide_eq_false b]at hc;refine zB ?_;refine vC (wQ h0 h1 h5 c a b) ?_;refine zH ?_;refine vp h5 ?_;refine⟨_,?m,i+1,rfl,a,hc,zu h0,zu h1,zu h5,zt,zt⟩
    case m=>omega
  .intro a;have a:¬i<l.length:=vL a;obtain rfl:i=l.length:=zo;refine zO ?_;exact ve.bool (by rw[hc,ZS];rfl)


theorem WC(b:Nat)(h:1<=b/\b<=40)(w:LN)(hs:vE w.length)(hwl:w.length<=131072)(hw:WB w)(n:Nat)(hd:kz w.length 28 n=true)(name:LN)(hnb:wu name)(hnl:name.length<9223372036854775808)(m:Int)(fr:LG)(R:LJ×Nat×Nat)(hT:1<=m/\m<=64->(pP w b 28 n name).2=0->FR 57 [wv p w,iv n,pv ((pP w b 28 n name).1,m.toNat),.list r 1 (fr.map iv)] (pa R)):FN ET 21 [wv p w,wc b 28,iv n,.str name,iv m,.list r 1 (fr.map iv)] (cU (pP w b 28 n name) m ((uh w b 28 n name).1.find? (pF m)).isSome R):=by
 have f:=EB p b 28 h w hs n;rw[hd]at f;have c:=WE p b 28 h w hs hwl hw n name hnb hnl;have d:=KO p b 28 h w hs hw n;unfold EP at c;unfold bZ at d;have o:(pP w b 28 n name).2=0->(uh w b 28 n name).1=(ke w b 28 n).1:=fun i=>by
  have a:(uh w b 28 n name).2=0:=by
   unfold pP at i
   split at i
   .rename_i a;exact a
   .exact i
  unfold uh at a⊢;rw[if_pos hd]at a⊢
  split
  .rfl
  .rename_i hn;rw[if_neg hn]at a;exact absurd a hn
 have l:=RM 0 (ke w b 28 n).1 m (by have:=DG w b 28 n hwl;unfold vE;omega);generalize (ke w b 28 n).1=ll at *
 generalize (ke w b 28 n).2=ln at *
 refine zn (eG T21 func21) (Jc _ _ _ _) ?_;unfold cU;generalize pP w b 28 n name=K at *
 generalize (uh w b 28 n name).1=A at *
 obtain⟨x,q⟩:=K;dsimp only at c hT o⊢;unfold wc uu at f c d⊢;refine wI ?_;refine vo f ?_
 by_cases j:1<=m/\m<=64
 rotate_left
 .rw[if_neg j]
  by_cases h1:m<1
  .refine wN h1 ?_;refine zU ?_;exact vN
  .have h2:(64:Int)<m:=zo;refine wN (zj h1 h2) ?_;refine zU ?_;exact vN
 rw[if_pos j];have t:¬m<1:=zo;have u:¬(64:Int)<m:=zo;refine wN (zj t u) ?_;refine zH ?_;refine wl c ?_;refine zB ?_
 by_cases a:q=0
 rotate_left
 .have g:¬(q:Int)=0:=zo;rw[if_neg a];refine wB g ?_;refine zO ?_;exact vN
 subst a;rw[if_pos rfl]
 replace hT:=hT j rfl
 rw[<- o rfl]at d l;refine mL ?_;refine zB ?_;refine zM d ?_;refine zB ?_;refine zM l ?_
 by_cases e:(A.find? (pF m)).isSome=true
 .rw[if_pos e,e];refine zU ?_;exact vN
 have s:(A.find? (pF m)).isSome=false:=by simpa using e
 rw[if_neg e,s];obtain⟨k,rfl⟩:∃k:Nat,m=k:=⟨m.toNat,by omega⟩
 rw[Z4]at hT;have v:IntKind.u64.wrap (k:Int)=(k:Int):=ku;refine zH ?_;refine vK v ?_;refine vo hT ?_;refine zP ?_;exact vN


theorem f5:ET.funcs.get 5=some T5:=eG _ func5
theorem Re:∀f∈yT,(28:Int)<=f:=by decide
theorem Ux{c:Bool}(ho:n7 h b=some (w,fr,c)):∀f∈fr,(28:Int)<=f:=fun f a=>by
 unfold n7 at ho
 split at ho
 .split at ho
  .cases ho
  .injection ho with ho;injection ho with _ ho;injection ho with ho _;rw[<- ho]at a;exact Re f (ZQ a)
 .cases ho
theorem Qp(has:Bool)(R:LJ×Nat×Nat):∃R',cU K m has R=.ret (pa R')/\R'.1.length<=R.1.length:=by
 unfold cU
 repeat' split
 all_goals first|exact⟨_,rfl,Zi _⟩|exact⟨_,rfl,Zn _⟩
theorem Wm(name:LN)(m many:Int)(hn:∀s∈names,wu s/\s.length<9223372036854775808)(hbe:∀x∈bent,yQ x.2)(hnb:wu name)(hnl:name.length<9223372036854775808):FR 5 [.agg [.list q1 1 (ph names),iv bits,.list q2 2 (pW bent)],.str name,iv m,iv many] (.bool true):=by
 rcases Uw q1 q2 names bits bent hn hbe with⟨w,lay,fr,I,G,⟨c,rfl,r⟩,a⟩|⟨b,w,fr,rfl,n,d,u,o,J,a⟩
 .refine zn f5 (.bool _) ?_;refine wI ?_;refine vo a ?_;refine wN r ?_;refine zS ?_;refine zI ?_;refine vo f11 ?_;refine zP ?_;exact ze.bool _
 by_cases K:300<name.length
 .have g:(300:Int)<(name.length:Int):=zo;refine zn f5 (.bool _) ?_;unfold wc uu at a;refine wl a ?_;refine wB g ?_;refine zI ?_;refine vo f11 ?_;refine zP ?_;exact ze.bool _
 have g:¬(300:Int)<(name.length:Int):=zo;have p:vE w.length:=by unfold vE;omega
 have h:kz w.length 28 (600:Nat)=true:=fX.2 ⟨rfl,u,by decide,by decide⟩;have j:vE (uh w b 28 (600:Nat) name).1.length:=by have:=Cp w b 28 (600:Nat) name zo;unfold vE;omega
 obtain⟨k,A,v⟩:∃k:Nat,max 0 (min (fr.length:Int) many)=k/\k<=fr.length:=⟨(max 0 (min (fr.length:Int) many)).toNat,by omega,by omega⟩
 have B:List.take k (fr.map iv)=(fr.take k).map iv:=zAK9.symm;have y:(fr.take k).length<=100:=by rw[ZC];omega
 have t:∀f∈fr.take k,f≠((600/64:Nat):Int):=fun f C e=>by
  have:=Ux d f (ZU C);omega
 obtain⟨R,t1,t2,t3,t4⟩:=YF w zo 600 ((pP w b 28 (600:Nat) name).1,m.toNat) (fr.take k) y (fun D=>Wl d D) t 0 0;have h1:=NT 0 0 b n w p o 600 h name hnb m (fr.take k) R j fun _ _=>t1;have h2:=WC 0 0 b n w p zo o 600 h name hnb hnl m (fr.take k) R fun _ _=>t2;obtain⟨i,q,z⟩:=Qp (pP w b 28 (600:Nat) name) m ((uh w b 28 (600:Nat) name).1.find? (pF m)).isSome R;rw[q]at h1 h2;have l:=XH 0 0 i.1 i.1 (by unfold vE;omega) (by unfold vE;omega);rw[decide_eq_true rfl]at l;clear q z h d j t1 t2 t3 t4;refine zn f5 (.bool _) ?_;unfold wc uu at a h1 h2;refine wl a ?_;refine kp g ?_;refine vA (vh A v B) ?_;refine zB ?_;refine zM h1 ?_;refine zM h2 ?_;refine zB ?_;refine aB ?_ (by simp(disch:=omega)only[go_sem,QK]<;>rfl);refine vo l ?_;refine wq ?_;refine vo (Vd i.2.2) ?_;refine wq ?_;refine vo f11 ?_;refine zP ?_;exact ze.bool _
end Fv
open Go.ChangeShapes Go.WideShapes Go.ChangeAt Go.RowKit
theorem Cg(b o j:Nat):(⟨b,o,none⟩:Addr).add j=⟨b,o+j,none⟩:=by unfold Addr.add;split<;>simp_all
theorem Tb:ownKnob prog.godebug=none:=by kernel_rfl
theorem Ti:laidOutB prog=true:=by kernel_rfl
namespace Fv
variable {b c o p:Nat}{w:World}(s:ByteArray)
theorem IF{P:Program}{r:Reach}{base:Nat}{t e:TypeId}{a:Addr}{len cap:Nat}(ht:P.underlying t=some (.slice e))(h:Value.okWide P w r base t (.slice (some a) len cap)):a.block<w.heap.size/\a.spot=none:=by
 simp only[Value.okWide,ht,Cell.okWide,Cell.ok,World.has]at h;obtain⟨_,_,_,h2,row,cells,h3,_⟩:=h;refine⟨?_,h2⟩;unfold World.shape? at h3
 grind
def aV(l:List (Int×Nat)):LQ:=l.flatMap fun x=>[iv x.1,uv x.2]
def mZ(l:List (Int×Nat)):LE:=l.flatMap fun x=>[.int .i64 x.1,.int .u64 (x.2:Int)]
theorem tR:∀l:List (Int×Nat),(pW l).flatMap PV.cells=aV l
 | []=>rfl
 | x::l=>by have:=tR l;unfold pW aV at this⊢;rw[Z3,ZZ,this];rfl
theorem Ib:∀(l:List (Int×Nat)) (i:Nat) (x:PV) (y:Value),(aV l)[i]?=some x->(mZ l)[i]?=some y->(∃k n,x=.int k n/\y=.int k n)
 | [],i,x,y,b,_=>by simp[aV]at b
 | a::l,0,x,y,b,c=>by simp[aV]at b;simp[mZ]at c;subst b c;exact⟨_,_,rfl,rfl⟩
 | a::l,1,x,y,b,c=>by simp[aV]at b;simp[mZ]at c;subst b c;exact⟨_,_,rfl,rfl⟩
 | a::l,i+2,x,y,b,c=>Ib l i x y (by simpa[aV]using b) (by simpa[mZ]using c)
theorem Ia:∀(l:List (Int×Nat)) (o:Nat),(∀(i:Nat) (x:Int×Nat),l[i]?=some x->w.cell? ⟨b,o+i*2,none⟩=some (.int .i64 x.1)/\w.cell? ⟨b,o+(i*2+1),none⟩=some (.int .u64 x.2))->∀(j:Nat) (v:Value),(mZ l)[j]?=some v->w.cell? ⟨b,o+j,none⟩=some v
 | [],_,_,j,v,c=>by simp[mZ]at c
 | a::l,o,h,0,v,c=>by simp[mZ]at c;subst c;exact(h 0 a rfl).1
 | a::l,o,h,1,v,c=>by simp[mZ]at c;subst c;exact(h 0 a rfl).2
 | a::l,o,h,j+2,v,c=>by
  have:=Ia l (o+2) (fun i x d=>by
   have:=h (i+1) x (by simpa using d);rw[show o+2+i*2=o+(i+1)*2 by omega,show o+2+(i*2+1)=o+((i+1)*2+1) by omega];exact this) j v (by simpa[mZ]using c)
  rw[show o+(j+2)=o+2+j by omega];exact this
theorem PS{l:List (Int×Nat)}(hb:b<w.heap.size)(hlc:l.length<=c)(hcm:c<=maxLen)(hcell:∀(i:Nat) (x:Int×Nat),l[i]?=some x->w.cell? ⟨b,o+i*2,none⟩=some (.int .i64 x.1)/\w.cell? ⟨b,o+(i*2+1),none⟩=some (.int .u64 x.2)):CI w (.list p 2 (pW l)) (.slice (some ⟨b,o,none⟩) l.length c):=by
 have e:l.length=(pW l).length:=(ZB ..).symm;rw[e];have f:∀l:List (Int×Nat),(aV l).length=(mZ l).length:=fun l=>by
  induction l with
  | nil=>rfl
  | cons a l g=>simp[aV,mZ]at g⊢
 refine CI.list (cs:=mZ l) hb (by rw[ZB];exact hlc) hcm uG (by rw[tR];exact f l) (fun i x y d h=>?_) (Ia l o hcell) (fun x d=>?_)
 .rw[tR]at d;obtain⟨k,n,rfl,rfl⟩:=Ib l i x y d h;exact .int _ _
 .rw[tR]at d;unfold aV at d;obtain⟨y,_,d⟩:=ZF.1 d;simp at d;rcases d with rfl|rfl<;>rfl
def ft(s:ByteArray):LN:=s.data.toList.map (·.toNat)
theorem MH:(ft s).length=s.size:=(ZB ..).trans (zCC9 ..)
theorem MI:wu (ft s):=fun x a=>by
 unfold ft at a;obtain⟨y,_,rfl⟩:=Zu.1 a;exact y.toNat_lt
theorem tP:∀l:List (LN),(ph l).flatMap PV.cells=ph l
 | []=>rfl
 | x::l=>by have:=tP l;unfold ph at this⊢;rw[Z3,ZZ,this];rfl
theorem PQ{l:List ByteArray}(hb:b<w.heap.size)(hlc:l.length<=c)(hcm:c<=maxLen)(hcell:∀(i:Nat) (x:ByteArray),l[i]?=some x->w.cell? ⟨b,o+i,none⟩=some (.string x)):CI w (.list p 1 (ph (l.map ft))) (.slice (some ⟨b,o,none⟩) l.length c):=by
 have e:l.length=(ph (l.map ft)).length:=by unfold ph;rw[ZB,ZB]
 rw[e];refine CI.list (cs:=l.map Value.string) hb (by rw[<- e];exact hlc) hcm uG (by rw[tP];simp) (fun i x y a f=>?_) (fun j v d=>?_) (fun x a=>?_)
 .rw[tP]at a;unfold ph at a;rw[Zt,Zt]at a;rw[Zt]at f
  cases g:l[i]? with
  | none=>rw[g]at a;cases a
  | some n=>rw[g]at a f;injection a with a;injection f with f;subst a f;exact .str _
 .rw[Zt]at d
  cases a:l[j]? with
  | none=>rw[a]at d;cases d
  | some x=>rw[a]at d;injection d with d;subst d;exact hcell j x a
 .rw[tP]at a;obtain⟨n,_,rfl⟩:=Zu.1 a;rfl
end Fv
section
variable {H:Type}{enc:TypeId×Value->H}{w:World}{base:Nat}{spare:Nat->Bool}{held:Bool}{r:Reach}{b0:Nat}
variable {fuel:Nat}{v:Value}{x:DataW H×List MemPlace}
theorem Vv(hv:Value.okWide prog w r b0 23 v)(h:DataW.trod enc prog w base spare held fuel 23 [v]=some x):∃(l:List (Int×Nat)),(∀x∈l,Fv.yQ x.2)/\Fv.CI w (.list 0 2 (Fv.pW l)) v:=by
 rcases Go.Deep.open_slice_pairs underlying23 underlying96 (by kernel_rfl) rfl rfl (by kernel_rfl) (by kernel_rfl) h with⟨e,_⟩|⟨a,len,J,m,n,Q,R,S,T,U,V,e,_,B,L,K,_,j⟩
 .injection e with e;subst e;exact⟨[],fun x j=>by simp at j,.nilsl _ _⟩
 .injection e with e;subst e;have P:len<=m:=by
   rw[K];split
   .exact B
   .exact Zi _
  obtain⟨z,u⟩:=Fv.IF underlying23 hv;obtain⟨b,g,O⟩:=a;dsimp only at z u;subst u;have I:∀i,i<len->∃y:Int×Nat,Fv.yQ y.2/\w.cell? ⟨b,g+i*2,none⟩=some (.int .i64 y.1)/\w.cell? ⟨b,g+(i*2+1),none⟩=some (.int .u64 y.2):=fun i d=>by
   obtain⟨C,D,t0,t1⟩:=j i zo;obtain⟨M,q,_,X⟩:=DataW.trod_int underlying3 t0;obtain⟨s,t,_,N⟩:=DataW.trod_int underlying29 t1;injection q with q;injection t with t;have q1:=bounds_u64 N;refine⟨(M,s.toNat),show s.toNat<_ by omega,?_,?_⟩
   .rw[q]at C;rwa [Cg]at C
   .rw[t]at D;show _=some (Value.int .u64 ((s.toNat:Nat):Int));rw[Int.toNat_of_nonneg q1.1];rwa [Cg]at D
  haveI:Inhabited (Int×Nat):=⟨(0,0)⟩
  obtain⟨f,G⟩:=Go.Deep.choose_lt (p:=fun i (y:Int×Nat)=>Fv.yQ y.2/\w.cell? ⟨b,g+i*2,none⟩=some (.int .i64 y.1)/\w.cell? ⟨b,g+(i*2+1),none⟩=some (.int .u64 y.2)) I;refine⟨(List.range len).map f,fun x j=>by
   obtain⟨i,d,rfl⟩:=Zu.1 j;exact(G i (zAL9.1 d)).1,?_⟩
  have k:((List.range len).map f).length=len:=by simp
  have:=Fv.PS (w:=w) (p:=0) (l:=(List.range len).map f) (b:=b) (o:=g) (c:=J) z (by rw[k];exact B) L (fun i x d=>by
   have A:i<len:=by have:=(Zh.1 d).1;rwa [k]at this
   rw[Zt,List.getElem?_range A]at d;injection d with d;subst d;exact(G i A).2)
  rwa [k]at this
theorem Vu(hv:Value.okWide prog w r b0 22 v)(h:DataW.trod enc prog w base spare held fuel 22 [v]=some x):∃(l:List (LN)),(∀s∈l,Fv.wu s/\s.length<9223372036854775808)/\Fv.CI w (.list 0 1 (Fv.ph l)) v:=by
 rcases Go.Deep.open_strs underlying22 underlying9 (by kernel_rfl) h with⟨d,_⟩|⟨a,len,t,m,j,d,_,q,B,u,_,f⟩
 .injection d with d;subst d;exact⟨[],fun x f=>by simp at f,.nilsl _ _⟩
 .injection d with d;subst d;have G:len<=m:=by
   rw[u];split
   .exact q
   .exact Zi _
  obtain⟨n,k⟩:=Fv.IF underlying22 hv;obtain⟨b,z,D⟩:=a;dsimp only at n k;subst k;refine⟨((List.range len).map j).map Fv.ft,fun s C=>?_,?_⟩
  .obtain⟨y,hy,rfl⟩:=Zu.1 C;obtain⟨i,e,rfl⟩:=Zu.1 hy;refine⟨Fv.MI _,?_⟩;rw[Fv.MH];have:=(f i (by have:=zAL9.1 e;omega)).2;unfold maxLen at this;omega
  .have g:((List.range len).map j).length=len:=by simp
   have:=Fv.PQ (w:=w) (p:=0) (l:=(List.range len).map j) (b:=b) (o:=z) (c:=t) n (by rw[g];exact q) B (fun i x e=>by
    have A:i<len:=by have:=(Zh.1 e).1;rwa [g]at this
    rw[Zt,List.getElem?_range A]at e;injection e with e;subst e;have:=(f i zo).1
    rwa [Cg]at this)
   rwa [g]at this
theorem Vt(hv:Value.okWide prog w r b0 25 v)(h:DataW.trod enc prog w base spare held fuel 25 v.cells.toList=some x):∃(names:List (LN)) (bits:Int) (bent:List (Int×Nat)),(∀s∈names,Fv.wu s/\s.length<9223372036854775808)/\(∀x∈bent,Fv.yQ x.2)/\Fv.CI w (.agg [.list 0 1 (Fv.ph names),Fv.iv bits,.list 0 2 (Fv.pW bent)]) v:=by
 unfold Value.okWide at hv;rw[underlying25]at hv;obtain⟨cs,rfl,g,q,m,_,f⟩:=hv;obtain rfl:[22,3,23]=q:=Option.some.inj (Eq.trans (show prog.cellTypes prog.depth 25=some [22,3,23] by kernel_rfl).symm m);have g:cs.size=3:=g.trans (by kernel_rfl);obtain⟨c,e,d,rfl⟩:∃c e d,cs=#[c,e,d]:=⟨cs[0],cs[1],cs[2],by
  apply Array.ext
  .simp[g]
  .intro i h1 h2
   match i with
   | 0=>rfl
   | 1=>rfl
   | 2=>rfl
   | i+3=>omega⟩
 obtain⟨I,j,t⟩:=f 0 c rfl;obtain⟨J,k,K⟩:=f 1 e rfl;obtain⟨L,l,u⟩:=f 2 d rfl;injection j with j;injection k with k;injection l with l;subst j k l;have z:Value.okWide prog w r b0 22 c:=by unfold Value.okWide;rw[underlying22];exact t
 have A:Value.okWide prog w r b0 23 d:=by unfold Value.okWide;rw[underlying23];exact u
 obtain⟨M,N,O,n,_,_,t0,t1,t2⟩:=Go.Deep.trod_struct3 underlying25 h;have B:prog.cellsOf 22=1:=by kernel_rfl
 have q1:prog.cellsOf 3=1:=by kernel_rfl
 have q2:prog.cellsOf 23=1:=by kernel_rfl
 dsimp only at t0 t1 t2;rw[B]at t0;rw[q1]at t1;rw[q2]at t2;obtain⟨names,C,o⟩:=Vu z t0;obtain⟨bits,D,_,_⟩:=DataW.trod_int underlying3 t1;obtain rfl:e=.int .i64 bits:=(List.cons.inj D).1;obtain⟨bent,G,p⟩:=Vv A t2;refine⟨names,bits,bent,C,G,?_⟩;refine Fv.CI.agg (cs:=[c,.int .i64 bits,d]) rfl (fun i x y a b=>?_) (fun x a=>?_)
 .match i with
  | 0=>injection a with a;injection b with b;subst a b;exact o
  | 1=>injection a with a;injection b with b;subst a b;exact .int _ _
  | 2=>injection a with a;injection b with b;subst a b;exact p
  | i+3=>simp at a
 .simp only[ZD,zAX9,or_false]at a;rcases a with rfl|rfl|rfl<;>rfl
end
open Go.ChangeShapes Go.WideShapes
theorem ya{a b:Bool}(ha:a=true)(hb:b=true):(a&&b)=true:=by subst ha hb;rfl
theorem j1:(Rows.dirPutsRow.wf (OpenSpec.ofChange Rows.dirPutsSpec))=true:=by kernel_rfl
theorem j2:(laidOutB prog)=true:=by kernel_rfl
theorem j3:(mapsRowed prog)=true:=by kernel_rfl
theorem j4:(Tryz.f5.params.all (prog.readableRec ·))=true:=by kernel_rfl
theorem j5:(namedTie prog Rows.dirPutsRow.named Rows.dirPutsSpec.vars)=true:=by kernel_rfl
theorem j6:(Rows.dirPutsRow.stops == [])=true:=by kernel_rfl
theorem j7:(prog.stops == [])=true:=by kernel_rfl
theorem j8:(Rows.dirPutsRow.knobs == [])=true:=by kernel_rfl
theorem j9:(prog.stopKnobs == [])=true:=by kernel_rfl
theorem Sz:(Rows.dirPutsRow.inPlace==prog.inPlace 5)=true:=by kernel_rfl
theorem SA:(Rows.dirPutsRow.unfollowed==prog.unfollowed 5)=true:=by kernel_rfl
theorem SB:(Rows.dirPutsRow.recurses==prog.recurses 5)=true:=by kernel_rfl
theorem SC:(Rows.dirPutsRow.named==prog.varsNamed 5)=true:=by kernel_rfl
theorem SD:(Rows.dirPutsRow.maps==(Tryz.f5.params.toList++Rows.dirPutsSpec.plain.varTypes prog).any (prog.mapsRec ·))=true:=by kernel_rfl
theorem SE:(Rows.dirPutsRow.ifaces==(Tryz.f5.params.toList++Rows.dirPutsSpec.plain.varTypes prog).any (prog.ifacesRec ·))=true:=by kernel_rfl
theorem SF:(Rows.dirPutsRow.mapsOut==prog.mapsAmong Tryz.f5.resultTypes.toList)=true:=by kernel_rfl
theorem SG:(Rows.dirPutsRow.loops==(Tryz.f5.params.toList++Rows.dirPutsSpec.plain.varTypes prog).any (prog.loopsFrom ·))=true:=by kernel_rfl
theorem SH:(Rows.dirPutsRow.wideKeys==(Tryz.f5.params.toList++Rows.dirPutsSpec.plain.varTypes prog++Tryz.f5.resultTypes.toList).any (prog.wideKeysFrom ·))=true:=by kernel_rfl
theorem SI:(Rows.dirPutsSpec.vars.all (prog.varReadable ·))=true:=by kernel_rfl
theorem SJ:(Tryz.f5.resultTypes.all (fun t=>prog.readableRec t&&decide (t<prog.types.size)))=true:=by kernel_rfl
theorem SK:(Rows.dirPutsRow.ifacesOut==Tryz.f5.resultTypes.toList.any (prog.ifacesRec ·))=true:=by kernel_rfl
theorem SL:(Rows.dirPutsRow.loopsOut==Tryz.f5.resultTypes.toList.any (prog.loopsFrom ·))=true:=by kernel_rfl
theorem SM:(Rows.dirPutsRow.plainKeys==prog.plainKeys)=true:=by kernel_rfl
theorem SN:(Rows.dirPutsRow.shortTexts.isNone)=true:=by kernel_rfl
theorem SO:(prog.stopsHeard)=true:=by kernel_rfl
theorem SP:(prog.mayEnter)=true:=by kernel_rfl
theorem SQ:(Rows.dirPutsRow.lifted==prog.liftsFinal)=true:=by kernel_rfl
theorem SS:(prog.make==some Rows.dirPutsRow.make)=true:=by kernel_rfl
theorem SU:(Rows.dirPutsRow.kinds==(if Rows.dirPutsRow.domain.isEmpty then[]else Tryz.f5.params.toList.map fun t=>match prog.underlying t with|some (.int k)=>some k|_=>none))=true:=by kernel_rfl
theorem SV:(Rows.dirPutsRow.pinned==Rows.dirPutsRow.pinnedBy)=true:=by kernel_rfl
theorem SW:(Rows.dirPutsRow.veiled==(Tryz.f5.params.toList++Rows.dirPutsSpec.plain.varTypes prog++Tryz.f5.resultTypes.toList).any (prog.veiledRec ·))=true:=by kernel_rfl
theorem SX:(Rows.dirPutsRow.veiledFits prog Tryz.f5.params.toList (Tryz.f5.params.toList++Rows.dirPutsSpec.plain.varTypes prog++Tryz.f5.resultTypes.toList))=true:=by kernel_rfl
theorem SY:joinedFacts prog 5 Tryz.f5 Rows.dirPutsSpec Rows.dirPutsRow=true:=ya (ya (ya (ya (ya (ya (ya (ya (ya (ya (ya (ya (ya (ya (ya (ya (ya (ya (ya (ya (ya (ya (ya (ya (ya (ya (ya (ya (ya (ya (ya (j1) j2) j3) j4) j5) j6) j7) j8) j9) Sz) SA) SB) SC) SD) SE) SF) SG) SH) SI) SJ) SK) SL) SM) SN) SO) SP) SQ) SS) SU) SV) SW) SX
theorem Tm(os:Os)(started:os.Started)(H:Type)(enc:TypeId×Value->H) :
  ReturnsInHanded {} Tryz.checked os 5 .any (Rows.dirPutsSpec.pre6 enc prog Tryz.f5 Rows.dirPutsRow.domain false) (Rows.dirPutsSpec.post enc prog Tryz.f5 false true false false):=by
 refine returnsInHanded_of_change (C:=Tryz.checked) Tb started (by kernel_rfl) func5
  (ChangeSpec.witness6 (enc:=enc) (C:=Tryz.checked) false ⟨#[],#[.agg #[.slice none 0 0,.int .i64 0,.slice none 0 0],.string ⟨#[]⟩,.int .i64 0,.int .i64 0],[]⟩ 8 (by kernel_rfl) (by kernel_rfl) (by kernel_rfl) (by kernel_rfl)) ?_
 intro W base args M gs ab g n ah _;have c:∀(j:Nat) t v,Tryz.f5.params[j]?=some t->args[j]?=some v->Value.okWide prog W .any base t v:=g;have J:=n;obtain⟨p,q,k,N,rfl,av,a0⟩:=n;have o:DataW.TrodAll enc prog W 0 (fun _=>true) true Tryz.f5.params.toList args.toList M p:=k;rw[Tryz.params5]at o c;obtain⟨d,a1,d0,a2,O,q0,ad,rfl,rfl,r,P⟩:=trodAll_cons o;obtain⟨u,a3,d1,a4,p1,q1,rfl,rfl,rfl,h1,Q⟩:=trodAll_cons P;obtain⟨z,a5,d2,a6,p2,q2,rfl,rfl,rfl,h2,R⟩:=trodAll_cons Q;obtain⟨A,a7,d3,a8,p3,q3,rfl,rfl,rfl,h3,S⟩:=trodAll_cons R;obtain⟨rfl,rfl,rfl⟩:=trodAll_nil S;obtain rfl:args=#[d,u,z,A]:=by cases args;simp_all
 obtain⟨rfl,rfl⟩:=trodVars_none N;have T:=c 0 25 d rfl rfl;have B:=r;have K:∀x∈O,x.block<W.heap.size:=by obtain⟨m,U⟩:=B;exact DataW.trod_lt m _ _ _ U
 obtain⟨f,rfl,rfl,rfl,D⟩:=Go.ChangeMaps.open_string underlying9 (c 1 9 u rfl rfl) h1;obtain⟨G,rfl,rfl,rfl,V⟩:=open_int underlying3 (c 2 3 z rfl rfl) h2;obtain⟨I,rfl,rfl,rfl,X⟩:=open_int underlying3 (c 3 3 A rfl rfl) h3;obtain⟨names,bits,bent,Y,Z,L⟩:∃(names:List (LN)) (bits:Int) (bent:List (Int×Nat)),(∀s∈names,Fv.wu s/\s.length<9223372036854775808)/\(∀x∈bent,Fv.yQ x.2)/\Fv.CI W (.agg [.list 0 1 (Fv.ph names),Fv.iv bits,.list 0 2 (Fv.pW bent)]) d:=by
  obtain⟨fuel,hf⟩:=r;exact Vt T hf
 clear k g;refine(Fv.FP.calls (w:=W) Fv.Nv (Fv.FN.FP (Fv.Wm 0 0 names bits bent (Fv.ft f) G I Y Z (Fv.MI f) (by rw[Fv.MH];unfold maxLen at D;omega))) (args':=[d,.string f,.int .i64 G,.int .i64 I]) rfl (fun i x y a b=>?_)).mono fun e W' ⟨he,a⟩=>?_
 .match i with
  | 0=>injection a with a;injection b with b;subst a b;exact L
  | 1=>injection a with a;injection b with b;subst a b;exact .str _
  | 2=>injection a with a;injection b with b;subst a b;exact .int _ _
  | 3=>injection a with a;injection b with b;subst a b;exact .int _ _
  | i+4=>simp at a
 have l:Below W.heap.size W W':=a;subst he;exact⟨_,rfl,_,_,_,[],_,[],J,trodAll_mk1 (shut_bool underlying4 _),(trodAll_cons_mk (Below.trod Ti (by kernel_rfl) (of_decide_eq_true (by kernel_rfl)) B l K) (trodAll_cons_mk (Go.ChangeMaps.shut_string underlying9 D) (trodAll_cons_mk (shut_int underlying3 V) (trodAll_cons_mk (shut_int underlying3 X) trodAll_mk0)))),rfl,l.frame _,fun h=>by cases h⟩
theorem Tn:Rows.dirPutsRow.holds Tryz.pinned (OpenSpec.ofChange Rows.dirPutsSpec) :=
 OpenClaim.holds_of_wide 5 Tryz.f5 rfl rfl rfl rfl rfl rfl rfl ⟨rfl,rfl,rfl,rfl,rfl⟩ rfl rfl rfl rfl rfl (by kernel_rfl) func5 SY
  (of_decide_eq_true (by kernel_rfl)) (by unfold Func.isWrapper;first|(rw[if_pos (by decide +kernel)];kernel_rfl)|(rw[if_neg (by decide +kernel)];exact⟨rfl,rfl⟩))
  (fun b a H enc _=>Tm b a H enc)
theorem dir_puts:Rows.DirPutsSaid:=Tn
#print axioms dir_puts
end Go.Proofs.YtkeknmgnoceogaaGreat
