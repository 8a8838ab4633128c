/- DirHolds returns true for every input, and its input reads afterwards as it did. No condition. -/
import Derived.Test.YtkeknmgnoceogaaGreatDH8
import Derived.ProofKit
import Derived.OpenShut
import Derived.ShutString
import Derived.ChangeOld
import Derived.Deep.Strs
import Derived.Deep.SlicePairs
import Derived.JoinedOf
import Derived.KernelRfl
import Derived.Test.YtkeknmgnoceogaaGreatRows
import Derived.Test.YtkeknmgnoceogaaGreatChecked
import Derived.ChangeMaps5
set_option linter.unusedSimpArgs false
set_option linter.unusedVariables false
set_option maxRecDepth 100000
set_option maxHeartbeats 4000000
namespace Go.Proofs.YtkeknmgnoceogaaGreat
open Go.Proofs.Tryz
namespace Fv
open Tw


variable {r:wh}{w:LN}
theorem MG:∀(k:Nat) {c:LN},vH c->vT c/256 ^ k%256=c.getD k 0
 | k,[],_=>by simp[vT]
 | 0,x::l,h=>by
  have:=h x (Yp ..);rw[vT,Nat.pow_zero,Nat.div_one];show _=x;omega
 | k+1,x::l,h=>by
  have h1:=h x (Yp ..);have a:=MG k (c:=l) fun y b=>h y (Ys _ b);rw[vT,zBX9,zAN9 (256 ^ k) 256,<- Nat.div_div_eq_div_mul,show (x+256*vT l)/256=vT l by omega,a];rfl
theorem O2{c:LN}(h:vH c)(h8:c.length<=8):xW (vT c)=c++List.replicate (8-c.length) 0:=by
 unfold xW;refine Zn fun i=>?_;rw[YH]
 by_cases b:i<8
 rotate_left
 .rw[Za (by rw[List.length_range];omega),Za (by rw[Yn,Zb];omega)];rfl
 rw[zCG9 b];show some (vT c/2 ^ (8*i)%256)=_;rw[Nat.pow_mul,show (2:Nat) ^ 8=256 from rfl,MG i h,Yu]
 by_cases a:i<c.length
 .rw[YP a,Yk a];rfl
 .rw[YN zo,List.getElem?_replicate,if_pos zo,Za zo];rfl
theorem SO{s:LN}(h:s ≠ []):wV s=vT (s.take 8)::wV (s.drop 8):=by
 have a:=Zq.2 h;unfold wV;rw[show (s.length+7)/8=((s.drop 8).length+7)/8+1 by rw[Y0];omega,List.range_succ_eq_map,YL,zBD9];refine congrArg _ (Zh fun i _=>?_);show vT ((s.drop (8*(i+1))).take 8)=vT (((s.drop 8).drop (8*i)).take 8);rw[Z0,show 8+8*i=8*(i+1) by omega]
theorem F9:∀(n:Nat) (s:LN),s.length<=n->vH s->∃z,yk (wV s)=s++List.replicate z 0
 | _,[],_,_=>⟨0,rfl⟩
 | 0,_::_,h,_=>by simp at h
 | n+1,x::l,h,b=>by
  rw[SO (by simp)];generalize c:x::l=s at *
  have d:0<s.length:=by rw[<- c];simp
  obtain⟨z,hz⟩:=F9 n (s.drop 8) (by rw[Y0];omega) (b.sub fun y a=>Y5 a);have e:yk (vT (s.take 8)::wV (s.drop 8))=xW (vT (s.take 8))++yk (wV (s.drop 8)):=by unfold yk;rw[YT]
  rw[e,hz,O2 (b.sub fun y a=>YW a) (by rw[YF];omega),YF]
  by_cases f:8<=s.length
  .exact⟨z,by rw[show 8-min 8 s.length=0 by omega,zCF9,Y8,<- YI,Y3]⟩
  .rw[YV zo,Z2 zo,YC,YI,List.replicate_append_replicate];exact⟨_,rfl⟩
theorem Kw(h:r.name.length<=120):(uh r).length=16:=by
 unfold uh;rw[Yn,Yq,pP,Zb];omega
theorem VW(h:yn r=true)(hb:vH r.name):pW (uh r)=some r:=by
 obtain⟨f,g,a⟩:=(pV r).1 h;have hl:=(mz a).2;obtain⟨z,hz⟩:=F9 _ r.name (Ym _) hb;have b:(uh r).getD 0 0=r.ino+65536*r.name.length:=rfl;have c:(r.ino+65536*r.name.length)/65536%256=r.name.length:=zo;have d:(r.ino+65536*r.name.length)%65536=r.ino:=zo;have e:(yk ((uh r).drop 1)).take r.name.length=r.name:=by
  have:(uh r).drop 1=wV r.name++List.replicate (15-(r.name.length+7)/8) 0:=rfl;rw[this];unfold yk at hz⊢;rw[Zj,hz,YI,List.take_left'];rfl
 unfold pW;dsimp only;rw[b,c,d,e,if_pos ⟨hl,h,rfl⟩]
theorem Fp(i v:Nat):∀(l:LP) (w:LN),i<w.length->(∀s∈l,s.1=i->s.2=v)->((∃s∈l,s.1=i)\/w.getD i 0=v)->(jZ w l).getD i 0=v
 | [],w,_,_,h=>by
  rcases h with⟨s,c,_⟩|h
  .cases c
  .exact h
 | s::l,w,b,hl,h=>by
  show (jZ (w.set s.1 s.2) l).getD i 0=v;refine Fp i v l _ (by rw[Y1];exact b) (fun t a=>hl t (Ys _ a)) ?_
  by_cases e:s.1=i
  .refine .inr ?_;rw[<- hl s (Yp ..) e,e,Yu,Yz b];rfl
  .rcases h with⟨t,a,h⟩|h
   .rcases YA.1 a with rfl|a
    .exact absurd h e
    .exact .inl ⟨t,a,h⟩
   .refine .inr ?_;rw[Yu,YD e,<- Yu];exact h
theorem oW(hw:w.length=3072){n j:Nat}(hn:n<=64):(xu w n)[j]?=if j<16 then some (w.getD (704+16*(n-1)+j) 0)else none:=by
 unfold xu;rw[Y4,Zo]
 split
 .rw[Yu,Yk zo];rfl
 .rfl
theorem Lg{W:LN}(hw:w.length=3072)(hW:W.length=16){i:Nat}(hi:i<64):xu (jZ w (uq (704+16*i) W 16)) (i+1)=W/\∀n,n≠i->n<64->xu (jZ w (uq (704+16*i) W 16)) (n+1)=xu w (n+1):=by
 have hl:(jZ w (uq (704+16*i) W 16)).length=3072:=by rw[yZ];exact hw
 constructor
 .refine Zn fun j=>?_;rw[oW hl zo]
  split
  rotate_left
  .rw[Za zo]
  rename_i b;rw[ZM,Fp (704+16*i+j) (W.getD j 0) _ w zo,Yu,Yk zo]
  .rfl
  .intro s a e;unfold uq at a;obtain⟨k,_,rfl⟩:=Yx.1 a;dsimp only at e⊢;rw[show (k+1)%16=j by omega]
  .refine .inl ⟨(704+16*i+((j+15)%16+1)%16,W.getD (((j+15)%16+1)%16) 0),?_,by dsimp only;omega⟩;exact Yx.2 ⟨(j+15)%16,Zm.2 zo,rfl⟩
 .intro n hne hn;refine Zn fun j=>?_;rw[oW hl zo,oW hw zo]
  split
  rotate_left
  .rfl
  rw[eO];intro s a e;unfold uq at a;obtain⟨k,_,rfl⟩:=Yx.1 a;dsimp only at e;omega
structure pb(R:List wh)(w:LN):Prop where
 len:w.length=3072
 at':∀i r,R[i]?=some r->xu w (i+1)=uh r
 ok:∀r∈R,yn r=true/\vH r.name
 nd:(R.map wh.name).Nodup
 few:R.length<=64
def gf(b:Nat)(R:List wh)(ps:LP):Prop:=∀p∈ps,∃i r,R[i]?=some r/\p.2=i+1/\w8 b r.name=p.1/65536
variable {P:LP}{R:List wh}{b:Nat}(l:List (LN))
theorem pb.snoc(h:pb R w)(hr:yn r=true)(hb:vH r.name)(hl:R.length<64)(hn:r.name ∉ R.map wh.name):pb (R++[r]) (jZ w (uq (704+16*R.length) (uh r) 16)):=by
 have d:=Lg (w:=w) (W:=uh r) h.len (Kw (mz ((pV r).1 hr).2.2).2) hl;refine⟨by rw[yZ];exact h.len,fun i x b=>?_,fun x b=>?_,?_,by rw[Yn];exact hl⟩
 .rcases ZW i R.length with hi|hi
  .rw[YP hi]at b;rw[d.2 i zo (by have:=h.few;omega)];exact h.at' i x b
  .have g:=(Yl.1 b).1;rw[Yn,ZJ]at g;have:i=R.length:=zo;subst this;rw[YN (Ym _),zAG9]at b;injection b with b;subst b;exact d.1
 .rcases YM.1 b with b|b
  .exact h.ok x b
  .rw[YQ.1 b];exact⟨hr,hb⟩
 .rw[YJ,ZS];refine⟨h.nd,by simp,fun a j c f e=>?_⟩;rw[zCR9,YQ]at f;subst e f;exact hn j
theorem gf.snoc{ps:LP}(h:gf b R ps)(r:wh):gf b (R++[r]) ps:=fun p a=>by
 obtain⟨i,x,h1,h2⟩:=h p a;exact⟨i,x,by rw[YP (Yl.1 h1).1];exact h1,h2⟩
def yp(l:List (LN)):List wh:=l.mapIdx fun i s=>⟨1+i%8,s⟩
theorem D7(s:LN):yp (l++[s])=yp l++[⟨1+l.length%8,s⟩]:=List.mapIdx_concat
theorem oX:(yp l).length=l.length:=List.length_mapIdx
theorem D6:(yp l).map wh.name=l:=by
 refine Zn fun i=>?_;unfold yp;rw[YH,zBW9]
 cases l[i]? <;> rfl
theorem Ib{K S:Nat}(h1:65536*S<=K)(h2:K<=65536*S+64):S=K/65536:=zo
theorem I1:∀{l done:List (LN)} {w w':LN} {ps ps':LP},yC b done l w ps=some (w',ps')->(∀s∈l,vH s)->done.length+l.length<=64->pb (yp done) w->gf b (yp done) ps->pb (yp (done++l)) w'/\gf b (yp (done++l)) ps'
 | [],done,w,w',ps,ps',h,_,_,h1,h2=>by
  unfold yC at h;injection h with h;injection h with h i;subst h i;rw[Y8];exact⟨h1,h2⟩
 | nm::l,done,w,w',ps,ps',h,d,hl,h1,h2=>by
  by_cases c:vW nm=0/\¬nm∈done
  rotate_left
  .rw[aT c]at h;cases h
  rw[cd c.1 c.2 rfl rfl]at h;rw[Yq]at hl;have g:=d nm (Yp ..);have n:done.length%8<=7:=zo;have j:yn ⟨1+done.length%8,nm⟩=true:=(pV _).2 ⟨by dsimp only;omega,by dsimp only;omega,c.1⟩;have f:=h1.snoc j g (by rw[oX];omega) (by rw[D6];exact c.2);rw[<- D7,oX]at f;have e:done++nm::l=(done++[nm])++l:=by simp
  rw[e];refine I1 h (fun s m=>d s (Ys _ m)) (by rw[Yn,ZJ];omega) f fun p a=>?_;rcases YM.1 a with a|a
  .rw[D7];exact h2.snoc _ p a
  .rw[YQ]at a;subst a;refine⟨done.length,⟨1+done.length%8,nm⟩,?_,rfl,?_⟩
   .rw[D7,YN (by rw[oX];exact Ym _),oX,zAG9];rfl
   .have k:=sX b done (65536*w8 b nm);show w8 b nm=pp b done (65536*w8 b nm)/65536;generalize pp b done (65536*w8 b nm)=K at *
    generalize w8 b nm=S at *
    exact Ib k.1 zo
def ent(R:List wh)(p:Pr):vV:=⟨p.1,p.2,(R.getD (p.2-1) ⟨0,[]⟩).ino,(R.getD (p.2-1) ⟨0,[]⟩).name⟩
theorem Qk{p:Pr}(hR:pb R w){i:Nat}(hi:R[i]?=some r)(h2:p.2=i+1)(hs:w8 b r.name=p.1/65536):kM w b p=some (ent R p):=by
 have c:=(Yl.1 hi).1;have d:=hR.few;have a:=hR.ok r (Yt hi);have e:pW (xu w p.2)=some ⟨r.ino,r.name⟩:=by rw[h2,hR.at' i r hi,VW a.1 a.2]
 rw[GG zo e rfl rfl hs];unfold ent;rw[h2,ZM,Yu,hi];rfl
theorem II{f:Pr->vV}:∀(P:LP) (acc:List vV),(∀p∈P,kM w b p=some (f p))->(acc++P.map f).Pairwise (fun x y=>x.name≠y.name/\x.num≠y.num)->kR w b acc P=some (acc++P.map f)
 | [],acc,_,_=>by rw[ZU,Y8];rfl
 | p::P,acc,h,a=>by
  rw[C7,h p (Yp ..)];have c:cV acc (f p)=false:=by
   unfold cV;rw[zBJ9];intro y d;have:=(zAV9.1 a).2.2 y d (f p) (Yp ..);simp[this.1,this.2]
  dsimp only;rw[c,if_neg zy,II P (acc++[f p]) (fun q e=>h q (Ys _ e)) (by rw[YI];exact a),YI];rfl
theorem GF(hR:pb R w)(hP:gf b R P)(hn:(P.map Prod.snd).Nodup):P.Pairwise fun x y=>(ent R x).name≠(ent R y).name/\(ent R x).num≠(ent R y).num:=by
 have g:P.Pairwise fun a b=>a.2≠b.2:=zBL9.1 hn;refine List.Pairwise.imp_of_mem (fun{x y} o p c=>(?_:(ent R x).name≠(ent R y).name/\(ent R x).num≠(ent R y).num)) g;refine⟨fun e=>?_,c⟩;obtain⟨i,r,h1,h2,_⟩:=hP x o;obtain⟨j,s,d,f,_⟩:=hP y p;unfold ent at e;dsimp only at e;rw[h2,f,ZM,ZM,Yu,Yu,h1,d]at e
 replace e:r.name=s.name:=e
 have h:i≠j:=fun e=>c (by rw[h2,f,e]);obtain⟨k,l⟩:=Yl.1 h1;obtain⟨m,n⟩:=Yl.1 d;refine h ((List.getElem_inj hR.nd).1 (?_:(R.map wh.name)[i]'(by rw[Yw];exact k)=(R.map wh.name)[j]'(by rw[Yw];exact m)));rw[List.getElem_map,List.getElem_map,l,n,e]
theorem IK(hR:pb R w)(hP:gf b R P)(hn:(P.map Prod.snd).Nodup):kR w b [] P=some (P.map (ent R)):=by
 refine II P [] (fun p a=>?_) ?_
 .obtain⟨i,r,h1,h2,h3⟩:=hP p a;exact Qk hR h1 h2 h3
 .rw[YC,zBL9];exact GF hR hP hn
theorem J4{out:LP}{x y:Pr}(h:y=x\/y∈out):y∈xe out x:=by
 unfold xe;rw[YM,YA];rcases h with h|h
 .exact .inr (.inl h)
 .rw[<- Y3 (gM x out) out,YM]at h
  grind
theorem Hj:∀(l out:LP) (y:Pr),y∈out\/y∈l->y∈l.foldl xe out
 | [],_,_,h=>by simpa using h
 | x::l,out,y,h=>by
  rw[Z5];refine Hj l _ y ?_;rcases h with h|h
  .exact .inl (J4 (.inr h))
  .rcases YA.1 h with h|h
   .exact .inl (J4 (.inl h))
   .exact .inr h
theorem IX:∀{l done:List (LN)} {w w':LN} {ps ps':LP},yC b done l w ps=some (w',ps')->(∀i,i<done.length->∃p∈ps,p.2=i+1)->∀i,i<done.length+l.length->∃p∈ps',p.2=i+1
 | [],done,w,w',ps,ps',h,h1=>by
  unfold yC at h;injection h with h;injection h with h c;subst c;exact h1
 | nm::l,done,w,w',ps,ps',h,h1=>by
  by_cases a:vW nm=0/\¬nm∈done
  rotate_left
  .rw[aT a]at h;cases h
  rw[cd a.1 a.2 rfl rfl]at h;intro i d;refine IX h (fun j f=>?_) i (by rw[Yn,ZJ];rw[Yq]at d;omega);rw[Yn,ZJ]at f
  by_cases e:j=done.length
  .exact⟨_,Z3 _ (YQ.2 rfl),by rw[e]⟩
  .obtain⟨p,h2,h3⟩:=h1 j zo;exact⟨p,ZO _ h2,h3⟩


theorem f17:ET.funcs.get 17=some T17:=mX func17
theorem f19:ET.funcs.get 19=some T19:=mX func19
def ww(w:LN)(b d:Nat)(a:Int)(name:LN):List vV×Nat:=if xY w.length d a=true then if vW name=0 then yl w b d a else([],vW name)else([],2)
variable {a:Int}{d:Nat}
theorem N9(w:LN)(b d:Nat)(a:Int)(name:LN)(hw:w.length<=131072):(ww w b d a name).1.length<=60000:=by
 have:=IJ w b d a hw;unfold ww
 grind
theorem Tk(h:¬(yl w b d a).2=0):(yl w b d a).1=[]:=by
 unfold yl at h⊢
 grind
theorem Oa{name:LN}(h:¬(ww w b d a name).2=0):(ww w b d a name).1=[]:=by
 unfold ww at h⊢
 split
 .rename_i h1;rw[if_pos h1]at h
  split
  .rename_i h2;rw[if_pos h2]at h;exact Tk h
  .rfl
 .rfl
def xM(name:LN)(y:vV):Bool:=decide (y.name=name)
variable {H:LQ}{k:Nat}{l:List vV}{left:Nat}(p:Nat)(w:LN)(P:LP)(b:Nat)(a:Int)(i:Nat)(x:Pr)(name:LN)
theorem RF(pr:vV->Bool)(l:List vV):(l.find? pr=none/\pN pr l=-1)\/∃(i:Nat) (x:vV),l.find? pr=some x/\l[i]?=some x/\i<l.length/\pN pr l=i:=by
 unfold pN
 cases h:l.findIdx? pr with
 | none =>
  grind
 | some i =>
  right
  obtain⟨a,h1,h2⟩:=List.findIdx?_eq_some_iff_getElem.1 h;refine⟨i,l[i],?_,Yk a,a,rfl⟩;rw[List.find?_eq_some_iff_getElem]
  grind
@[reducible] def zE:vV:=⟨0,0,0,[]⟩
def aK(w:LN)(b d:Nat)(a:Int)(name:LN):vV×Bool×Nat:=match(ww w b d a name).1.find? (xM name)with
 | some x=>(x,true,0)
 | none=>(zE,false,(ww w b d a name).2)
def pL(w:LN)(b d:Nat)(a:Int)(name:LN):FE:=.ret (.tuple [wP (aK w b d a name).1,.bool (aK w b d a name).2.1,iv ((aK w b d a name).2.2:Nat)])
theorem Ob{w:LN}{b d:Nat}{a:Int}{name:LN}(h:(ww w b d a name).2=0):xY w.length d a=true/\vW name=0/\ww w b d a name=yl w b d a:=by
 unfold ww at h⊢
 grind
def kV:List vV->Nat->Nat
 | [],k=>k
 | x::l,k=>kV l (if x.key=k then k+1 else k)
theorem Ec:∀(l:List vV) (k:Nat),k<=kV l k/\kV l k<=k+l.length
 | [],k=>⟨Ym _,Ym _⟩
 | x::l,k=>by
  unfold kV;have h1:=Ec l k;have h2:=Ec l (k+1)
  grind
theorem Wg{x:vV}(h:x.key=k):kV (x::l) k=kV l (k+1):=by
 conv=>lhs;unfold kV
 grind
theorem Wh{x:vV}(h:¬x.key=k):kV (x::l) k=kV l k:=by
 conv=>lhs;unfold kV
 grind
def dM(w:LN)(b d:Nat)(a:Int)(name:LN):Nat×Nat:=if(ww w b d a name).2=0 then match(ww w b d a name).1.find? (xM name)with
  | some _=>(0,191)
  | none=>(kV (ww w b d a name).1 (65536*w8 b name),0)
 else(0,(ww w b d a name).2)


theorem f47:ET.funcs.get 47=some T47:=eG _ func47
theorem f16:ET.funcs.get 16=some T16:=mX func16
theorem Rx(x:vV):vL (wP x):=.agg fun v a=>by
 simp at a;rcases a with rfl|rfl|rfl|rfl
 .exact .int _ _
 .exact .int _ _
 .exact .int _ _
 .exact .str _
theorem RI(l:List vV)(hl:vx l.length)(g:Nat)(caps:LJ)(hc:∀v∈caps,vL v)(pr:vV->Bool)(hg:∀x∈l,FN ET g (wP x::caps) (.ret (.bool (pr x)))):FR 134 [esv p l,.fn g caps] (iv (pN pr l)):=by
 refine qv (eG T134 func134) (.int _ _) ?_;refine zG ?_;refine vo (vG (fun m s=>∃i:Nat,m=l.length-i/\i<=l.length/\l.findIdx? pr=((l.drop i).findIdx? pr).map (· + i)/\s.tm 0=esv p l/\s.tm 1=.fn g caps/\s.tm 7=iv l.length/\s.tm 8=iv i/\s.df=[]/\s.H=[]) (n:=l.length) ?_ ?_)
 .exact⟨0,by simp[zb,zr]⟩
 .rintro m ⟨tm,df,H⟩ ⟨i,rfl,hi,hf,h0,h1,h7,h8,rfl,rfl⟩;dsimp only at *
  refine vJ (wd h0 h1 h7 h8) ?_ ?_
  .intro a;have a:i<l.length:=wa a;have c:(l.map wP)[i]?=some (wP l[i]):=by rw[YH,Yk a];rfl
   refine vj (vo ?_);refine vI h8 ?_;refine vp (wd h0 h1 c a) ?_;refine pc (caps:=caps) (vs:=[wP l[i]]) rfl ?_ (hg _ (YX a)) (oq _ (fun v c=>?_)) ?_
   .simp only[go_sem,h1]
   .rcases YA.1 c with rfl|c
    .exact Rx _
    .exact hc v c
   refine zN ?_;rw[YE a,zAQ9]at hf;refine wA ?_ ?_
   .intro b;have b:pr l[i]=true:=b;refine zO ?_;rw[if_pos b]at hf;exact va.int (by simp[pN,hf])
   .intro b;have b:pr l[i]=false:=b;refine wY ?_;refine vu h8 ?_;refine⟨_,?_,i+1,rfl,a,?_,zu h0,zu h1,zu h7,zt,zt,zt⟩
    .omega
    .rw[hf,b]
     cases (l.drop (i+1)).findIdx? pr with
     | none=>rfl
     | some j=>simp;omega
  .intro a;have a:¬i<l.length:=vZ a;obtain rfl:i=l.length:=zo;rw[Y9]at hf;refine zO ?_;exact va.int (by simp[pN,hf])
def lZ(pr:vV->Bool)(l:List vV):FE:=match l.find? pr with
 | some x=>.ret (.tuple [wP x,.bool true])
 | none=>.ret (.tuple [wP zE,.bool false])
theorem Hq(l:List vV)(hl:vx l.length)(g:Nat)(caps:LJ)(hc:∀v∈caps,vL v)(pr:vV->Bool)(hg:∀x∈l,FN ET g (wP x::caps) (.ret (.bool (pr x)))):FN ET 87 [esv p l,.fn g caps] (lZ pr l):=by
 have e:=RI p l hl g caps hc pr hg;refine qv (eG T87 func87) ?_ ?_
 .unfold lZ;split
  .exact Lb.two (Lb.ent _) (.bool _)
  .exact Lb.two (Lb.ent _) (.bool _)
 unfold lZ;refine wu ?_;refine pc (caps:=[]) (vs:=[esv p l,.fn g caps]) rfl ?_ e ?_ ?_
 .simp only[go_sem]
 .exact oq _ fun v a=>by
   rcases YA.1 a with rfl|a
   .exact .list _ _ _
   .obtain rfl:=YQ.1 a;exact .fn hc
 refine zN ?_;rcases RF pr l with⟨b,c⟩|⟨i,x,b,c,f,h⟩
 .rw[b,c];refine bi ?_;refine zO ?_;exact wq
 .rw[b,h];have j:(0:Int)<=i:=zo;have d:(l.map wP)[i]?=some (wP x):=wB c;refine yv j ?_;refine uf (jX d f) ?_;exact wq
theorem RY(x:vV):FR 88 [wP x,.elem [.str name]] (.bool (xM name x)):=by
 refine qv (eG T88 func88) (.bool _) ?_;unfold xM;refine zO ?_;exact zf.bool _
theorem Tl{w:LN}{b:Nat}{a:Int}(hd:xY w.length 28 a=true):ou w b a=if(yl w b 28 a).2=0 then .ret (esv 0 (yl w b 28 a).1)else .panic (vN ((yl w b 28 a).2:Nat)):=by
 unfold ou yl
 grind
def pT(w:LN)(b:Nat)(a:Int)(name:LN):FE:=if(ww w b 28 a name).2=0 then match(ww w b 28 a name).1.find? (xM name)with
  | some x=>.ret (.tuple [esv 0 (ww w b 28 a name).1,wP x,.bool true])
  | none=>.ret (.tuple [esv 0 (ww w b 28 a name).1,wP zE,.bool false])
 else .panic (vN ((ww w b 28 a name).2:Nat))
theorem S3:kI (pT w b a name):=by
 unfold pT
 split
 .split
  .exact Lb.three (Lb.esv _) (Lb.ent _) (.bool _)
  .exact Lb.three (Lb.esv _) (Lb.ent _) (.bool _)
 .exact .iface (.int _ _)
theorem IT(h:1<=b/\b<=40)(w:LN)(hs:vx w.length)(hw:WB w)(a:Int)(hd:xY w.length 28 a=true)(name:LN):FN ET 47 [mF p w b a,.str name] (pT w b a name):=by
 obtain⟨_,m,_,_⟩:=cX.1 hd;have i:=Dk name;have hl:=IF p b h w m hw hs a;rw[Tl hd]at hl;have c:=S3 w b a name
 by_cases hn:vW name=0
 rotate_left
 .have n:pT w b a name=.panic (vN (vW name:Nat)):=by unfold pT ww;rw[if_pos hd,if_neg hn,if_neg hn]
  rw[n]at c⊢;have g:¬(vW name:Int)=0:=fun h=>hn (Int.ofNat.inj h);refine qv f47 c ?_;refine wu ?_;refine vi i ?_;refine wg ?_;refine vB (Cc _ g) ?_;exact wG rfl
 have o:ww w b 28 a name=yl w b 28 a:=by unfold ww;rw[if_pos hd,if_pos hn]
 rw[hn]at i;have r:=IJ w b 28 a zo;unfold pT at c⊢;rw[o]at c⊢;generalize yl w b 28 a=L at *
 obtain⟨l,no⟩:=L;dsimp only at *
 by_cases h0:no=0
 rotate_left
 .rw[if_neg h0]at hl c⊢;refine qv f47 c ?_;refine wu ?_;refine vi i ?_;refine wg ?_;refine wj lR ?_;refine zI ?_;refine vB hl ?_;exact wG rfl
 rw[if_pos h0]at hl c⊢;have d:=Hq 0 l (by unfold vx;omega) 88 [.elem [.str name]] (fun v q=>by obtain rfl:=YQ.1 q;exact .elem _) (xM name) (fun x _=>RY name x);refine qv f47 c ?_;refine wu ?_;refine vi i ?_;refine wg ?_;refine wj lR ?_;refine zM hl ?_;unfold lZ at d;refine zB ?_
 cases k:l.find? (xM name)with
 | none =>
  rw[k]at d;dsimp only at d;refine zI ?_;refine pc (caps:=[]) (vs:=[esv 0 l,.fn 88 [.ptr 1 0 0 0 1]]) rfl ?_ d ?_ ?_
  .simp only[go_sem]
  .refine⟨.list _ _ _,zf.fnL ⟨.ptr (w:=.str name) rfl (Ym _) rfl fun j x y f e=>?_,trivial⟩,trivial⟩
   cases j with
   | zero=>simp[PV.cells]at f e;subst f;subst e;exact zf.str _
   | succ j=>simp at e
  refine zN ?_;refine wH ?_;refine vS hl ?_;refine vq hl ?_;refine vt (we ?_);exact wq
 | some x =>
  rw[k]at d;dsimp only at d;refine zI ?_;refine pc (caps:=[]) (vs:=[esv 0 l,.fn 88 [.ptr 1 0 0 0 1]]) rfl ?_ d ?_ ?_
  .simp only[go_sem]
  .refine⟨.list _ _ _,zf.fnL ⟨.ptr (w:=.str name) rfl (Ym _) rfl fun j x y f e=>?_,trivial⟩,trivial⟩
   cases j with
   | zero=>simp[PV.cells]at f e;subst f;subst e;exact zf.str _
   | succ j=>simp at e
  refine zN ?_;refine wH ?_;refine vS hl ?_;refine vq hl ?_;refine vt (we ?_);exact wq


theorem f51:ET.funcs.get 51=some T51:=eG _ func51
theorem f18:ET.funcs.get 18=some T18:=mX func18
theorem Nb(s:LN)(R V:Nat)(e1:R*2 ^ 16%18446744073709551616=V)(e2:Nat.lor V 0=V)(hV:(V:Int)<18446744073709551616)(hc:FR 130 [vD b 28,.str s] (.tuple [uv R,iv 0])):FR 89 [vD b 28,.str s,iv 0] (.tuple [uv V,iv 0]):=by
 have h1:=HJ 0 0 65535;rw[show (decide ((0:Int)<=0)&&decide ((0:Int)<=65535))=true from rfl]at h1;refine qv (eG T89 func89) (Lb.two (.int _ _) (.int _ _)) ?_;unfold vD wU at hc⊢;refine wN h1 ?_;refine zH ?_;refine zB ?_;refine zM hc ?_;refine bi ?_;refine zB ?_;refine zB ?_;refine vF (vn e1 e2 hV) ?_;refine vt (we ?_);exact wq
theorem Nc(h:1<=b/\b<=40)(s:LN)(hb:vH s)(hs:vW s=0)(V:Nat)(hV:V=65536*w8 b s):FR 89 [vD b 28,.str s,iv 0] (.tuple [uv V,iv 0]):=by
 have a:=lc b h s;exact Nb b s (w8 b s) V zo (Nat.or_zero V) zo (E1 b h s hb hs)
def oZ(w:LN)(b:Nat)(a:Int)(name:LN):FE:=if(ww w b 28 a name).2=0 then match(ww w b 28 a name).1.find? (xM name)with
  | some _=>.panic (vN 191)
  | none=>.ret (.tuple [esv 0 (ww w b 28 a name).1,uv (kV (ww w b 28 a name).1 (65536*w8 b name))])
 else .panic (vN ((ww w b 28 a name).2:Nat))
theorem S7:kI (oZ w b a name):=by
 unfold oZ
 split
 .split
  .exact .iface (.int _ _)
  .exact Lb.two (Lb.esv _) (.int _ _)
 .exact .iface (.int _ _)
theorem Wf(h:1<=b/\b<=40)(w:LN)(hs:vx w.length)(hw:WB w)(a:Int)(hd:xY w.length 28 a=true)(name:LN)(hnb:vH name):FN ET 51 [mF p w b a,.str name] (oZ w b a name):=by
 obtain⟨_,P,_,_⟩:=cX.1 hd;have hl:=IT p b h w hs hw a hd name;have c:=S7 w b a name;have A:=N9 w b 28 a name zo;have r:=Ob (w:=w) (b:=b) (d:=28) (a:=a) (name:=name);unfold oZ at c⊢;unfold pT at hl;obtain⟨L,M⟩:∃L,ww w b 28 a name=L:=⟨_,rfl⟩
 rw[M]at hl c A r⊢;obtain⟨l,no⟩:=L;dsimp only at hl c A r⊢
 by_cases h0:no=0
 rotate_left
 .rw[if_neg h0]at hl c⊢;refine qv f51 c ?_;refine wu ?_;refine vB hl ?_;exact wG rfl
 rw[if_pos h0]at hl c⊢;obtain⟨_,hn,_⟩:=r h0;obtain⟨V,v⟩:∃V,V=65536*w8 b name:=⟨_,rfl⟩
 have B:=Nc b h name hnb hn V v;have Q:V<72057594037927936:=by have:=lc b h name;omega
 unfold vD wU at B;rw[<- v]at c⊢;clear v
 cases C:l.find? (xM name)with
 | some x =>
  rw[C]at hl c;dsimp only at hl c⊢;refine qv f51 c ?_;refine wN hl ?_;refine zI ?_;refine vB (kL 191) ?_;exact wG rfl
 | none =>
  rw[C]at hl c;dsimp only at hl c⊢;refine qv f51 c ?_;refine wN hl ?_;refine zM (mV 191) ?_;refine zM B ?_;refine zM lR ?_;refine zG ?_;refine vo (vG (fun m s=>∃(i k:Nat) (G:LQ),m=l.length-i/\i<=l.length/\kV l V=kV (l.drop i) k/\k<=V+i/\s.tm 6=esv 0 l/\s.tm 9=uv k/\s.tm 32=esv 0 l/\s.tm 33=iv l.length/\s.tm 34=iv i/\s.df=[]/\s.H=G) (n:=l.length) ?_ ?_)
  .exact⟨0,V,_,rfl,Yv _,rfl,Ym _,zt,zt,zt,zt,zt,rfl,rfl⟩
  rintro m ⟨R,S,H⟩ ⟨i,k,G,rfl,T,f,U,z,j,t,u,o,rfl,rfl⟩;dsimp only at *
  refine vJ (jX u o) ?_ ?_
  .intro e;have e:i<l.length:=wa e;obtain⟨y,D⟩:=uM (l:=l) e;have I:(l.map wP)[i]?=some (wP y):=wB D;obtain⟨J,K⟩:=Yl.1 D;rw[YE J,K]at f;refine vP ?_;refine vI (wd t o e I) ?_;refine zB ?_
   by_cases q:y.key=k
   .have g:(y.key:Int)=(k:Int):=congrArg Nat.cast q;rw[Wg q]at f;have N:(k:Int)+1=((k+1:Nat):Int):=rfl;have O:((k+1:Nat):Int)<18446744073709551616:=zo;refine zB ?_;refine vF (jX j g) ?_;refine uF ?_;refine vu (vn j N O) ?_;refine vu o ?_;exact⟨_,by omega,i+1,k+1,_,rfl,e,f,by omega,zu z,zt,zu t,zu u,zt,rfl,rfl⟩
   .have g:¬(y.key:Int)=(k:Int):=fun h=>q (Int.ofNat.inj h);rw[Wh q]at f;refine zB ?_;refine vF (jX j g) ?_;refine zH ?_;refine vu o ?_;exact⟨_,by omega,i+1,k,_,rfl,e,f,by omega,zu z,zu j,zu t,zu u,zt,rfl,rfl⟩
  intro e;have e:¬i<l.length:=vZ e;rw[Z2 zo]at f;have f:kV l V=k:=f;rw[f];refine uf (jX z j) ?_;exact wq


theorem f59:ET.funcs.get 59=some T59:=eG _ func59
def rk(w:LN)(b:Nat)(a:Int)(name:LN):FE:=if(ww w b 28 a name).2=0 then match(ww w b 28 a name).1.find? (xM name)with
  | some x=>.ret (.tuple [esv 0 (ww w b 28 a name).1,wP x])
  | none=>.panic (vN 5)
 else .panic (vN ((ww w b 28 a name).2:Nat))
theorem S8:kI (rk w b a name):=by
 unfold rk
 split
 .split
  .exact Lb.two (Lb.esv _) (Lb.ent _)
  .exact .iface (.int _ _)
 .exact .iface (.int _ _)
theorem XE(h:1<=b/\b<=40)(w:LN)(hs:vx w.length)(hw:WB w)(a:Int)(hd:xY w.length 28 a=true)(name:LN):FN ET 59 [mF p w b a,.str name] (rk w b a name):=by
 have hl:=IT p b h w hs hw a hd name;have c:=S8 w b a name;unfold rk at c⊢;unfold pT at hl;generalize ww w b 28 a name=L at *
 obtain⟨l,no⟩:=L;dsimp only at *
 by_cases h0:no=0
 rotate_left
 .rw[if_neg h0]at hl c⊢;refine qv f59 c ?_;refine wu ?_;refine vB hl ?_;exact wG rfl
 rw[if_pos h0]at hl c⊢
 cases d:l.find? (xM name)with
 | none =>
  rw[d]at hl c;dsimp only at hl c⊢;refine qv f59 c ?_;refine wN hl ?_;refine zI ?_;refine vB (kL 5) ?_;exact wG rfl
 | some x =>
  rw[d]at hl c;dsimp only at hl c⊢;refine qv f59 c ?_;refine wN hl ?_;refine zM (mV 5) ?_;refine wH ?_;refine vS hl ?_;refine vq hl ?_;refine vt (we ?_);exact wq
@[reducible] def cZ (x:vV) (L:LP) (u:Nat) (bl:LN) (no:Nat):PV:=.tuple [wP x,.list 0 2 (L.map vm),iv u,.list 0 1 (wo bl),iv no]
theorem ta(x:vV)(L:LP)(u:Nat)(bl:LN)(no:Nat):Lb (cZ x L u bl no):=.tuple fun v b=>by
 simp only[YA,Zl,or_false]at b;rcases b with rfl|rfl|rfl|rfl|rfl
 .exact Lb.ent _
 .exact nW _
 .exact .int _ _
 .refine .list fun x a=>?_;obtain⟨y,c,a⟩:=YG.1 a;obtain⟨n,_,rfl⟩:=Yx.1 c;simp[PV.cells]at a;subst a;exact .int _ _
 .exact .int _ _
def fb(F:vV×Bool×Nat)(L:LP)(u:Nat)(bl:LN)(no:Nat):FE:=if F.2.2=0 then(if F.2.1=true then(if no=0 then .ret (cZ F.1 L u bl 0)else .ret (cZ zE [] 0 [] no))else .ret (cZ zE [] 0 [] 5))else .ret (cZ zE [] 0 [] F.2.2)
theorem SY(F:vV×Bool×Nat)(L:LP)(u:Nat)(bl:LN)(no:Nat):kI (fb F L u bl no):=by
 unfold fb
 split
 .split
  .split
   .exact ta _ _ _ _ _
   .exact ta _ _ _ _ _
  .exact ta _ _ _ _ _
 .exact ta _ _ _ _ _
theorem Pz(x:za)(a b c d:PV)(ha:a.cells.length=4):FO ET 58 [.ptr 1 0 0 0 4,.ptr 2 0 0 0 1,.ptr 3 0 0 0 1,.ptr 4 0 0 0 1] [x,.row 47 4 0 0 [a],.row 57 1 0 0 [b],.row 3 1 0 0 [c],.row 33 1 0 0 [d],.row 38 1 0 0 [iv 0]] false fun e H'=>e=.ret (.tuple [])/\H'=[x,.row 47 4 0 0 [wP zE],.row 57 1 0 0 [.nilsl],.row 3 1 0 0 [iv 0],.row 33 1 0 0 [.nilsl],.row 38 1 0 0 [iv 0]]:=by
 refine wF (eG T58 func58) ?_;refine vu ha ?_;exact⟨[],rfl,rfl,rfl⟩
theorem E2(r b:Nat)(h:1<=b/\b<=40)(w:LN)(hs:vx w.length)(hw:WB w)(n:Nat)(hd:xY w.length 28 n=true)(name:LN)(fr:LH)(L:LP)(u:Nat)(bl:LN)(no:Nat)(hT:∀x,(ww w b 28 n name).1.find? (xM name)=some x->FR 60 [wv p w,iv n,uv x.key,.list r 1 (fr.map iv)] (nA L u bl no)):FN ET 23 [wv p w,vD b 28,iv n,.str name,.list r 1 (fr.map iv)] (fb (aK w b 28 n name) L u bl no):=by
 refine qv (eG T23 func23) (SY _ _ _ _ _) ?_;have q:=Dr p b h w hs n hd;have hl:=XE p b h w hs hw n hd name;unfold rk at hl;have s:=Oa (w:=w) (b:=b) (d:=28) (a:=n) (name:=name);unfold aK;generalize ww w b 28 n name=A at *
 obtain⟨l,m⟩:=A;dsimp only at *
 unfold vD wU at q⊢;refine wu ?_;refine gZ (f:=38) (p:=.ptr 5 0 0 0 1) (cl:=.fn 58 [.ptr 1 0 0 0 4,.ptr 2 0 0 0 1,.ptr 3 0 0 0 1,.ptr 4 0 0 0 1]) ?_ ?_ BY ?_
 .rfl
 .simp only[go_sem]<;>rfl
 refine zN ?_;have bad:∀(e:FE) (j:Nat->PV) (k:Nat) (x:za) (a b c d:PV),a.cells.length=4->e=.ret (cZ zE [] 0 [] k)->j 10=.ptr 1 0 0 0 4->j 11=.ptr 2 0 0 0 1->j 12=.ptr 3 0 0 0 1->j 13=.ptr 4 0 0 0 1->j 14=.ptr 5 0 0 0 1->ye ET T23 (fun C H=>va H 0 C e) (.panic (vN k)) ⟨j,[.caught (.ptr 5 0 0 0 1) (.fn 58 [.ptr 1 0 0 0 4,.ptr 2 0 0 0 1,.ptr 3 0 0 0 1,.ptr 4 0 0 0 1])],[x,.row 47 4 0 0 [a],.row 57 1 0 0 [b],.row 3 1 0 0 [c],.row 33 1 0 0 [d],.row 38 1 0 0 [iv 0]]⟩:=fun e j k x a b c d D o t v y z B=>by
  refine⟨k,58,[.ptr 1 0 0 0 4,.ptr 2 0 0 0 1,.ptr 3 0 0 0 1,.ptr 4 0 0 0 1],false,5,0,1,rfl,rfl,rfl,(Pz _ _ _ _ _ D).mono fun e H o=>?_⟩;obtain⟨rfl,rfl⟩:=o;refine⟨rfl,_,rfl,[wP zE,.nilsl,iv 0,.nilsl,iv k],?_,?_⟩
  .simp[T23,xT,zj,zq,t,v,y,z,B,zD,zA,zF];rfl
  .rw[o];exact wq
 refine zI ?_;refine bj q (hl:=⟨.list _ _ _,CE b,.int _ _,trivial⟩) ?_;refine wg ?_;unfold fb
 by_cases hz:m=0
 rotate_left
 .rw[if_neg hz]at hl;obtain rfl:l=[]:=s hz;refine vB hl ?_;refine bad _ _ m _ _ _ _ _ rfl ?_ rfl rfl rfl rfl rfl;show (if m=0 then _ else _)=_;rw[if_neg hz];rfl
 rw[if_pos hz]at hl;subst hz
 cases i:l.find? (xM name)with
 | none =>
  rw[i]at hl;dsimp only at hl⊢;refine vB hl ?_;refine bad _ _ 5 _ _ _ _ _ rfl rfl rfl rfl rfl rfl rfl
 | some x =>
  rw[i]at hl;have hT:=hT x i;dsimp only at hl⊢;refine wj hl ?_;refine zM hT ?_
  by_cases hn:no=0
  rotate_left
  .have g:¬(no:Int)=0:=zo;refine zI ?_;refine vB (Cc no g) ?_;refine bad _ _ no _ _ _ _ _ rfl ?_ rfl rfl rfl rfl rfl
   grind
  subst hn;refine zM lR ?_;refine wH ?_;refine vS i ?_;refine vS i ?_;refine vS i ?_;refine vS i ?_;refine vS i ?_;refine vq i ?_;refine vt ?_;exact⟨[wP x,.list 0 2 (L.map vm),iv u,.list 0 1 (wo bl),iv 0],rfl,zf.tL ⟨zf.aggL ⟨.int _ _,.int _ _,.int _ _,.str _,trivial⟩,.list _ _ _,.int _ _,.list _ _ _,.int _ _,trivial⟩⟩


theorem WL(q:Pr):FR 258 [pv q,.elem [uv x.1,uv x.2]] (.bool (decide (q.2=x.2))):=by
 refine qv (eG T258 func258) (.bool _) ?_
 by_cases h:q.2=x.2
 .have g:(q.2:Int)=x.2:=zo;refine uf g ?_;exact va.bool (decide_eq_true h).symm
 .have g:¬(q.2:Int)=x.2:=zo;refine uf g ?_;exact va.bool (decide_eq_false h).symm
theorem Rj(l:LP)(x:Nat):(l.any fun q=>decide (q.2=x))=nT l x:=by
 unfold nT
 induction l with
 | nil=>rfl
 | cons a l b=>simp only[List.any_cons,YL,zCO9,b];congr 1;by_cases h:a.2=x<;>grind
def aH(left:Nat)(w:LN)(x:Pr):FE:=if xP left w x=0 then .ret (.tuple [vO 0 (vg left w),iv (wQ (vg left w) x.1:Nat),.bool (yc (vg left w) x.1)])else .panic (vN (xP left w x:Nat))
theorem Hu{i:Nat}{x:Pr}{lab:Nat}(h:zA H i 0 0=some (pv x)):zf H lab (.ptr i 0 0 0 2) (.elem [uv x.1,uv x.2]) :=
 .ptr (w:=pv x) h (Ym _) rfl fun j a b d c=>by
  match j with
  | 0=>simp[PV.cells]at d c;subst d;subst c;exact zf.int _ _
  | 1=>simp[PV.cells]at d c;subst d;subst c;exact zf.int _ _
  | j+2=>simp at c
theorem PI(left:Nat)(w:LN)(x:Pr)(hw:vx w.length):FN ET 203 [xR p w left,pv x] (aH left w x):=by
 have hR:=D9 p w left hw;have e:=En p w left hw;refine qv (eG T203 func203) ?_ ?_
 .unfold aH;split
  .exact Lb.three (Lb.pvs _) (.int _ _) (.bool _)
  .exact .iface (.int _ _)
 have bad:(uj left w.length && !decide (x.2=0) && !decide (x.2=left))=false->aH left w x=.panic (vN (2:Nat)):=fun h=>by
  have:xP left w x=2:=by unfold xP;rw[h];rfl
  unfold aH;rw[this];rfl
 refine wu ?_;refine vi hR ?_
 by_cases a:uj left w.length=true
 rotate_left
 .have a:uj left w.length=false:=by simpa using a
  rw[a];refine wg ?_;refine vB (gS 2) ?_;rw[bad (by rw[a];rfl)];exact wG rfl
 rw[a]
 by_cases h0:x.2=0
 .have f:(x.2:Int)=0:=zo;refine vU f ?_;refine vB (gS 2) ?_;rw[bad (by rw[a,h0];rfl)];exact wG rfl
 have f:¬(x.2:Int)=0:=zo
 by_cases h1:x.2=left
 .have k:(x.2:Int)=left:=zo;have u:¬(left:Int)=0:=zo;refine vU (vn f u k) ?_;refine vB (gS 2) ?_;rw[bad (by rw[a,decide_eq_true h1];simp)];exact wG rfl
 have k:¬(x.2:Int)=left:=zo;refine vU (jX f k) ?_;refine wj (an 2) ?_;have l:(uj left w.length && !decide (x.2=0) && !decide (x.2=left))=true:=by rw[a,decide_eq_false h0,decide_eq_false h1];rfl
 have d:xP left w x=if(decide (w7 left w=0)&&nT (vg left w) x.2)=true then 2 else w7 left w:=by unfold xP;rw[if_pos l]
 by_cases h2:pX left w=true
 rotate_left
 .have b:yr left w=.panic (vN 190):=by simp[yr,a,h2]
  have g:w7 left w=190:=by simp[w7,a,h2]
  have A:xP left w x=190:=by rw[d,g];rfl
  have B:aH left w x=.panic (vN (190:Nat)):=by unfold aH;rw[A];rfl
  rw[b]at e;refine zI ?_;refine vB e ?_;rw[B];exact wG rfl
 have b:yr left w=.ret (vO 0 (wy left w)):=by simp[yr,a,h2]
 have g:w7 left w=0:=by simp[w7,a,h2]
 have m:wy left w=vg left w:=by unfold wy;rw[if_pos a]
 have y:=dQ left w;have j:=h2;unfold pX at j;simp only[Yr,decide_eq_true_eq]at j;obtain⟨⟨⟨⟨n,_⟩,_⟩,t⟩,_⟩:=j;rw[m]at b y n;rw[b]at e;have o:=Gr 0 (vg left w) (by unfold vx;omega) 258 [.elem [uv x.1,uv x.2]] (fun v C=>by obtain rfl:=YQ.1 C;exact .elem _) (fun q=>decide (q.2=x.2)) (fun q _=>WL x q);rw[Rj]at o;have z:=JU 0 (vg left w) x.1 n zo;rw[g]at d;have r:aH left w x=if nT (vg left w) x.2=true then .panic (vN (2:Nat))else .ret (.tuple [vO 0 (vg left w),iv (wQ (vg left w) x.1:Nat),.bool (yc (vg left w) x.1)]):=by
  unfold aH;rw[d]
  by_cases c:nT (vg left w) x.2=true
  .rw[c];rfl
  .have c:nT (vg left w) x.2=false:=by simpa using c
   rw[c];rfl
 rw[r];clear bad r b d l hR h2 g m t;generalize c:nT (vg left w) x.2=hb at *
 generalize vg left w=L at *
 generalize wQ L x.1=i at *
 generalize yc L x.1=s at *
 refine zM e ?_;refine zI ?_;refine pc (caps:=[]) (vs:=[vO 0 L,.fn 258 [.ptr 1 0 0 0 2]]) rfl ?_ o ?_ ?_
 .simp only[go_sem]
 .exact⟨.list _ _ _,zf.fnL ⟨Hu rfl,trivial⟩,trivial⟩
 cases hb with
 | true =>
  refine wg ?_;refine vB (gS 2) ?_;exact wG rfl
 | false =>
  refine wg ?_;refine wj (an 2) ?_;refine zM z ?_;refine zO ?_;exact wq


theorem PG(c:Nat)(hc:¬c=0)(hC:FR 197 [wv p w] (.tuple [wb 0 kF,iv c])):FR 140 [wv p w,pv x] (iv (c:Nat)):=by
 refine qv (eG T140 func140) (.int _ _) ?_;refine wN hC ?_;have g:¬(c:Int)=0:=zo;refine vP ?_;refine yv g ?_;refine zO ?_;exact zf.int _ _
theorem PF(n:zi)(hC:FR 197 [wv p w] (.tuple [wb 0 n,iv 0])):FR 140 [wv p w,pv x] (iv ((if uT n x=true then 0 else 2:Nat))):=by
 refine qv (eG T140 func140) (.int _ _) ?_;have a:=I5 0 n x;refine wN hC ?_;refine vP ?_;refine zT ?_
 cases b:uT n x with
 | false =>
  rw[b]at a;refine zM a ?_;refine zU ?_;exact zf.int _ _
 | true =>
  rw[b]at a;refine zM a ?_;refine zH ?_;refine zO ?_;exact zf.int _ _
theorem PH(hw:vx w.length):FR 140 [wv p w,pv x] (iv (gu w x:Nat)):=by
 have b:=Em p w hw;unfold gu
 by_cases a:wi w=0
 .rw[if_pos a];rw[Jg w a]at b;exact PF p w x _ b
 .rw[if_neg a];rw[Jh w a]at b;exact PG p w x _ a b


theorem J1:iQ T96.body=true:=by kernel_rfl


theorem Pt(X:LQ)(x:za)(y:PV)(hy:y.cells.length=1):FO ET 202 [.ptr 1 0 0 0 1] (x::.row 57 1 0 0 [y]::X) false fun e H'=>e=.ret (.tuple [])/\H'=x::.row 57 1 0 0 [.nilsl]::X:=by
 refine wF (eG T202 func202) ?_;refine vu hy ?_;exact⟨[],rfl,rfl,rfl⟩
theorem XS(j:Nat)(hij:i<=j)(hj:j<P.length)(a b:Nat)(hp:P[j]?=some (a,b)):xy P i (j+1)=(2*j+3,b)::(2*j+2,a)::xy P i j:=by
 rw[xy,if_pos hij]
 grind
theorem XT:xy P i i=[]:=by
 cases i with
 | zero=>rfl
 | succ n=>rw[xy,if_neg zo]
theorem Ww{w:LN}{x:Pr}(h:xP left w x=0):yd left w x=if yc (vg left w) x.1=true then([],191)else if w.length/2<=(vg left w).length+1 then([],3)else(ai left w (vg left w) (wQ (vg left w) x.1) x,0):=by unfold yd;grind
theorem Vl(left:Nat)(x:Pr)(w:LN)(hw:w.length<1000000):FR 143 [uv left,wv p w,pv x] (pY (yd left w x)):=by
 refine qv (eG T143 func143) (bY _) ?_;refine wu ?_;refine gZ (f:=201) (p:=.ptr 2 0 0 0 1) (cl:=.fn 202 [.ptr 1 0 0 0 1]) ?_ ?_ BX ?_
 .rfl
 .simp only[go_sem]<;>rfl
 refine zN ?_;have R:=PI p left w x (by unfold vx;omega);have bad:∀(l:Nat->PV) (n:Nat) (X:LQ) (y:za),yd left w x=([],n)->l 6=.ptr 1 0 0 0 1->l 7=.ptr 2 0 0 0 1->ye ET T143 (fun e' H=>va H 0 e' (.ret (pY (yd left w x)))) (.panic (vN n)) ⟨l,[.caught (.ptr 2 0 0 0 1) (.fn 202 [.ptr 1 0 0 0 1])],y::.row 57 1 0 0 [.nilsl]::.row 38 1 0 0 [iv 0]::X⟩:=fun l n X y hn c I=>by
  refine⟨n,202,[.ptr 1 0 0 0 1],false,2,0,1,rfl,rfl,rfl,(Pt _ y _ rfl).mono fun e H he=>?_⟩;obtain⟨rfl,rfl⟩:=he;refine⟨rfl,_,rfl,[.nilsl,iv n],?_,?_⟩
  .simp[T143,xT,zj,zq,c,I,zD,zA,zF];rfl
  .rw[hn];exact wq
 unfold aH at R;refine wu ?_
 by_cases U:xP left w x=0
 rotate_left
 .rw[if_neg U]at R;refine vB R ?_;exact bad _ (xP left w x) _ _ (by unfold yd;rw[if_neg U]) rfl rfl
 rw[if_pos U]at R;have N:=Ww U;obtain⟨hr,bp⟩:=JV U;have bs:=KP hr;have a9:=Ar (vg left w) x.1;have a4:=fD p w (by unfold vx;omega);refine wj R ?_
 cases hI:yc (vg left w) x.1 with
 | true =>
  rw[hI,if_pos rfl]at N;refine wu ?_;refine vB (gS 191) ?_;exact bad _ 191 _ _ N rfl rfl
 | false =>
  rw[hI,if_neg zy]at N;refine wN (an 191) ?_;refine zI ?_;refine vi a4 ?_
  by_cases a5:w.length/2<=(vg left w).length+1
  .rw[if_pos a5]at N;have g:¬((vg left w).length:Int)+1<(w.length/2:Nat):=zo;refine vU g ?_;refine vB (gS 3) ?_;exact bad _ 3 _ _ N rfl rfl
  have g:((vg left w).length:Int)+1<(w.length/2:Nat):=zo;rw[if_neg a5]at N;refine vU g ?_;refine wj (an 3) ?_;have bb:=BF p w left (wQ (vg left w) x.1) (by unfold vx;omega) zo;clear bad R a4;rw[N];unfold ai;generalize yU left w (wQ (vg left w) x.1)=ah at *
  generalize wQ (vg left w) x.1=i at *
  generalize vg left w=P at *
  refine eI 120 2 (id:=1) (v:=.nilsl) (v':=.sl 4 0 0 0 0 2) rfl rfl (fun k u v hu hv=>?_) ?_
  .cases k with
   | zero=>simp[PV.cells]at hu hv;subst hu hv;exact .inr ⟨rfl,rfl⟩
   | succ k=>simp[PV.cells]at hu
  refine kJ (fun l=>l 5=.ptr 0 0 0 0 2/\l 6=.ptr 1 0 0 0 1/\l 7=.ptr 2 0 0 0 1/\l 8=.ptr 3 0 0 0 2/\l 9=vO 0 P/\l 10=iv i/\l 12=iv P.length) ⟨zt,zt,zt,zt,zt,zt,by simp[zb]⟩ ?_;rintro l ⟨A,c,I,D,O,z,Z⟩;have G:=iN (P.length+1) zo;have S:(P.length:Int)+1=((P.length+1:Nat):Int):=zo;have bm:2*(P.length+1)+1=2*P.length+3:=zo;rw[bm]at G;have Q:=iR (H:=[.row 92 2 0 0 [pv x],.row 57 1 0 0 [.sl 4 0 0 0 0 2],.row 38 1 0 0 [iv 0],.row 299 2 0 0 [xR p w left],.row 120 2 0 0 [],.row 29 1 0 0 [uv (2*P.length+3:Nat),uv 0]]) (idL:=4) (g:=0) (M:=0) (k:=1) (L:=[]) (more:=[2*P.length+3,0]) (.inr ⟨5,by decide,rfl,rfl⟩) rfl zy rfl zy (fun j x hx=>by
   match j with
   | 0=>simp at hx;omega
   | j+1=>rw[Za (by simp;omega)]at hx;cases hx)
  simp only[ZX,ZE,Yy,YC];refine wH ?_;refine wD (wd A c Z S) G ?_;refine bk (vn c Z S) Q ?_;rintro e Y ⟨rfl,d,a6⟩;refine⟨_,by simp only[go_sem]<;>rfl,?_⟩;have B:=d 1 _ zy rfl;refine vS (jX c B) ?_;refine vq c ?_;have b0:(Y.set 1 (.row 57 1 0 0 [.sl 4 1 0 1 2 2]))[0]?=some (.row 92 2 0 0 [pv x]):=get_set (d 0 _ zy rfl) zy;have o:(Y.set 1 (.row 57 1 0 0 [.sl 4 1 0 1 2 2]))[1]?=some (.row 57 1 0 0 [.sl 4 1 0 1 2 2]):=Yz (Yl.1 B).1;have T:(Y.set 1 (.row 57 1 0 0 [.sl 4 1 0 1 2 2]))[2]?=some (.row 38 1 0 0 [iv 0]):=get_set (d 2 _ zy rfl) zy;have b3:(Y.set 1 (.row 57 1 0 0 [.sl 4 1 0 1 2 2]))[3]?=some (.row 299 2 0 0 [xR p w left]):=get_set (d 3 _ zy rfl) zy;have J:(Y.set 1 (.row 57 1 0 0 [.sl 4 1 0 1 2 2]))[4]?=some (.row 120 2 1 0 ([(2*P.length+3,0)].map vm)):=get_set a6 zy;refine pG fun H2 a7=>?_;rw[<- a7]at b0 o T b3 J;clear a7 d a6 B Q;refine vI Z ?_;refine vo (vG (fun mm s=>∃(r:Nat) (V:LP) (t:LQ),mm=r-i/\i<=r/\r<=P.length/\(2*P.length+3,0)::xy P i P.length=V++xy P i r/\V.length+2*r=1+2*P.length/\t[0]?=some (.row 92 2 0 0 [pv x])/\t[1]?=some (.row 57 1 0 0 [.sl 4 V.length 0 V.length (2*V.length) 2])/\t[2]?=some (.row 38 1 0 0 [iv 0])/\t[3]?=some (.row 299 2 0 0 [xR p w left])/\t[4]?=some (.row 120 2 V.length 0 (V.map vm))/\s.tm 5=.ptr 0 0 0 0 2/\s.tm 6=.ptr 1 0 0 0 1/\s.tm 7=.ptr 2 0 0 0 1/\s.tm 8=.ptr 3 0 0 0 2/\s.tm 9=vO 0 P/\s.tm 10=iv i/\s.tm 13=iv ((r:Int)-1)/\s.df=[.caught (.ptr 2 0 0 0 1) (.fn 202 [.ptr 1 0 0 0 1])]/\s.H=t) (n:=P.length-i) ?_ ?_)
  .exact⟨P.length,[(2*P.length+3,0)],_,rfl,a9,Ym _,rfl,by simp,b0,o,T,b3,J,zu A,zu c,zu I,zu D,zu O,zu z,zt,rfl,rfl⟩
  clear b0 o T b3 J A c I D O z Z;rintro mm ⟨l,df,t⟩ ⟨r,V,bw,rfl,bx,b5,hU,b6,b0,o,T,b3,J,A,c,I,D,O,z,K,rfl,rfl⟩;dsimp only at *
  by_cases b7:i<r
  .obtain⟨j,rfl⟩:∃j,r=j+1:=⟨r-1,by omega⟩
   have ej:(((j+1:Nat):Int)-1)=(j:Int):=zo;rw[ej]at K;have g1:(i:Int)<=(j:Int):=zo;refine vJ (vn z K g1) ?_ ?_;rotate_left
   .intro h;cases h
   intro _;obtain⟨⟨a,b⟩,a8⟩:∃y,P[j]?=some y:=⟨_,Yk zo⟩
   have a1:(P.map pv)[j]?=some (pv (a,b)):=wB a8;have ab:j<P.length:=zo;have G:=iN (j+1) zo;have ad:=CT (j+1) zo;have S:(j:Int)+1=((j+1:Nat):Int):=zo;rw[show 2*(j+1)+1=2*j+3 by omega]at G;rw[show 2*(j+1)=2*j+2 by omega]at ad;have bo:4<t.length:=(Yl.1 J).1;have Q:=iR (H:=t++[.row 29 1 0 0 [uv (2*j+3:Nat),uv b,uv (2*j+2:Nat),uv a]]) (idL:=4) (g:=V.length) (M:=0) (k:=2) (L:=V) (more:=[2*j+3,b,2*j+2,a]) (.inr ⟨t.length,by omega,rfl,by simp⟩) (vM J) zo rfl zy (fun q y C=>by
    match q with
    | 0=>simp at C;omega
    | 1=>simp at C;omega
    | q+2=>rw[Za (by simp;omega)]at C;cases C)
   refine vP ?_;refine ua ?_;refine wD (uc c O K o a1 ab S) G ?_;refine wD (uc c O K o a1 ab S) ad ?_;refine bk (uc c O K o a1 ab S) Q ?_;rintro e H3 ⟨rfl,d,av⟩;refine⟨_,by simp only[go_sem]<;>rfl,?_⟩;have B:=d 1 _ zy (vM o);refine vS (jX c B) ?_;refine vq c ?_;refine vu K ?_;have a2:V.length+2=(V++xq [2*j+3,b,2*j+2,a]).length:=by rw[Yn];rfl
   refine⟨_,?m,j,V++xq [2*j+3,b,2*j+2,a],_,rfl,by omega,by omega,?eU,by rw[<- a2];omega,get_set (d 0 _ zy (vM b0)) zy,?c1,get_set (d 2 _ zy (vM T)) zy,get_set (d 3 _ zy (vM b3)) zy,?c4,zu A,zu c,zu I,zu D,zu O,zu z,zt,rfl,rfl⟩
   case m=>omega
   case eU=>rw[hU,XS P i j zo ab a b a8,YI];rfl
   case c1=>rw[<- a2];exact Yz (Yl.1 B).1
   case c4=>rw[<- a2];exact get_set av zy
  .obtain rfl:r=i:=zo;have g1:¬(r:Int)<=(r:Int)-1:=zo;refine vJ (vn z K g1) ?_ ?_
   .intro h;cases h
   intro _;rw[XT,Y8]at hU;have G:=iN r zo;have ad:=CT r zo;have bo:4<t.length:=(Yl.1 J).1;have Q:=iR (H:=t++[.row 29 1 0 0 [uv (2*r+1:Nat),uv ah,uv (2*r:Nat),uv x.1,uv (2*r+1:Nat),uv x.2]]) (idL:=4) (g:=V.length) (M:=0) (k:=3) (L:=V) (more:=[2*r+1,ah,2*r,x.1,2*r+1,x.2]) (.inr ⟨t.length,by omega,rfl,by simp⟩) (vM J) zo rfl zy (fun q y C=>by
    match q with
    | 0=>simp at C;omega
    | 1=>simp at C;omega
    | 2=>simp at C;omega
    | q+3=>rw[Za (by simp;omega)]at C;cases C)
   refine wH ?_;refine wD (uc A c D z b0 o b3) G ?_;refine wD (uc A c D z b0 o b3) bb ?_;refine wD (uc A c D z b0 o b3) ad ?_;refine wD (uc A c D z b0 o b3) G ?_;refine bk (uc A c D z b0 o b3) Q ?_;rintro e H3 ⟨rfl,d,av⟩;refine⟨_,by simp only[go_sem]<;>rfl,?_⟩;have B:=d 1 _ zy (vM o);have k2:=d 2 _ zy (vM T);have a3:∀y,(H3.set 1 y)[2]?=_:=fun y=>get_set k2 zy;refine vS (jX c B) ?_;refine vS (jX I a3) ?_;refine vq c ?_;refine pG fun H5 a0=>?_;have i1:H5[1]?=some (.row 57 1 0 0 [.sl 4 (V.length+3) 0 (V.length+3) (2*(V.length+3)) 2]):=by rw[a0];exact get_set (Yz (Yl.1 B).1) zy
   have i2:H5[2]?=some (.row 38 1 0 0 [iv 0]):=by rw[a0];exact Yz (Yl.1 (a3 _)).1
   have i4:H5[4]?=some (.row 120 2 (V.length+3) 0 ((V++xq [2*r+1,ah,2*r,x.1,2*r+1,x.2]).map vm)):=by rw[a0];exact get_set (get_set av zy) zy
   clear a0 a3 B k2 d av;refine vt ?_;refine⟨[.sl 4 (V.length+3) 0 (V.length+3) (2*(V.length+3)) 2,iv 0],by simp[zj,zq,zb,c,I,zD,zA,zF,i1,i2,PV.cells],?_⟩;have hL:(2*P.length+3,0)::(xy P r P.length++[(2*r+1,ah),(2*r,x.1),(2*r+1,x.2)])=V++xq [2*r+1,ah,2*r,x.1,2*r+1,x.2]:=by rw[<- hU];rfl
   rw[hL];exact zf.tL ⟨zf.wh i4 rfl (by simp[xq]) (by simp[xq]) uo m6,.int _ _,trivial⟩


theorem Vk(left:Nat)(x:Pr)(w:LN)(hw:w.length<1000000):FR 142 [uv left,wv p w,.elem [uv x.1,uv x.2]] (pY (yd left w x)):=by
 refine qv (eG T142 func142) (bY _) ?_;have h:=Vl p left x w hw;refine wu ?_;refine vi h ?_;refine zP ?_;exact wq
theorem Wy{w:LN}{x:Pr}(hw:w.length=56)(h:(yd left w x).2=0):0<(yd left w x).1.length/\(yd left w x).1.length<=70/\∀y∈(yd left w x).1,y.1<56:=by
 obtain⟨h1,h2⟩:=KQ hw h;refine⟨?_,h1,h2⟩;unfold yd at h⊢
 split
 .rename_i hp;rw[if_pos hp]at h
  split
  .rename_i hs;rw[if_pos hs]at h
   cases h
  .rename_i hs;rw[if_neg hs]at h
   split
   .rename_i hf;rw[if_pos hf]at h
    cases h
   .unfold ai;simp
 .rename_i hp;rw[if_neg hp]at h;exact absurd h hp
theorem Ph(w:LN)(hw:w.length=64):FR 141 [wv p w,iv 1,.fn 142 [.elem [uv x.1,uv x.2]]] (pY (yF w 1 0 (yd (w.getD 3 0) (w.drop 8) x))):=by
 refine qv (eG T141 func141) (bY _) ?_;have h3:(w.map uv)[3]?=some (uv (w.getD 3 0)):=by rw[YH,Yk zo,Yu,Yk zo];rfl
 have h4:(w.map uv)[4]?=some (uv (w.getD 4 0)):=by rw[YH,Yk zo,Yu,Yk zo];rfl
 have hd:List.drop 8 (w.map uv)=(w.drop 8).map uv:=by rw[Zv]
 have k:3<w.length:=zo;have l:4<w.length:=zo;have s:8<=w.length:=zo;have o:(w.drop 8).length=56:=by rw[Y0];omega
 have t:=Vk p (w.getD 3 0) x (w.drop 8) (by rw[Y0];omega);have j:=fun h=>Wy (left:=w.getD 3 0) (w:=w.drop 8) (x:=x) o h;have q:kh w 1=if w.getD 4 0=1 then[]else[(4,1)]:=rfl;generalize yd (w.getD 3 0) (w.drop 8) x=S at *
 obtain⟨S,no⟩:=S;dsimp only at j;refine zG ?_;refine ua ?_;refine wD (wd h3 hd k s) t ?_;refine vq k ?_;unfold yF;rw[if_pos rfl]
 by_cases d:no=0
 rotate_left
 .have g:¬(no:Int)=0:=zo;rw[if_neg d];refine yv g ?_;refine zO ?_;exact wq
 have g:(no:Int)=0:=zo;rw[if_pos d];obtain⟨u,A,v⟩:=j d;have a:=Ja 0 S zo u fun x y=>by have:=v x y;omega
 have r:(uJ S).map vm ≠ []:=fun h=>by
  have:=congrArg List.length h;rw[Yw,oD,YK]at this;omega
 have a:=FO.own1 (H:=[]) (args:=[.list 0 2 (S.map vm)]) a ⟨.list _ _ _,trivial⟩ (CL _) r;have b:=oD S;generalize uJ S=N at *
 refine cH g ?_;refine uL ?_;refine zI ?_;refine wI a ?_;rintro e H' ⟨z,M,rfl,a,rfl⟩;refine zN ?_;rw[q];have m:¬(1:Int)=0:=by decide
 by_cases i:w.getD 4 0=1
 .have f:((w.getD 4 0:Nat):Int)=1:=zo;rw[if_pos i];refine cH (wd h4 l f m) ?_;refine uL ?_;refine zO ?_;rw[YC];exact zf.tL ⟨zf.wM rfl a rfl (by rw[Yw,b]) (by rw[Yw,b];exact Ym _) uo m6,.int _ _,trivial⟩
 .have f:¬((w.getD 4 0:Nat):Int)=1:=zo;rw[if_neg i];have n:=EP (c:=(4,1)) GL Lf (H:=[.row 120 2 z M (N.map vm),.row 120 2 0 0 [vm (4,1)]]) (id:=0) (ix:=1) (L:=N) rfl a rfl (Ym _) zy zo zo;rw[b]at n;refine yv (wd h4 l f m) ?_;refine zI ?_;refine wI n ?_;rintro e H' ⟨rfl,rfl⟩;refine zN ?_;refine zO ?_;exact zf.tL ⟨zf.wM rfl (Ym _) rfl (by simp[b]) (by simp[b]) uo m6,.int _ _,trivial⟩
theorem Vp(w:LN)(hw:w.length=64):FR 95 [wv p w,pv x] (pY (uD w x)):=by
 refine qv (eG T95 func95) (bY _) ?_;have d:=PH p w x (by unfold vx;omega);have f:=Ph p x w hw;have b:uD w x=yF w 1 (gu w x) (yd (w.getD 3 0) (w.drop 8) x):=rfl;rw[b];generalize gu w x=c at *
 generalize yd (w.getD 3 0) (w.drop 8) x=S at *
 refine wN d ?_
 by_cases a:c=0
 rotate_left
 .have g:¬(c:Int)=0:=zo;have e:yF w 1 c S=([],c):=by unfold yF;rw[if_neg a]
  rw[e];refine yv g ?_;refine zO ?_;exact wq
 have g:(c:Int)=0:=zo;rw[a];refine cH g ?_;refine uL ?_;refine zI ?_;refine gV f ?_ ?_;(repeat(first|exact trivial|refine And.intro ?_ ?_|exact .int _ _|exact .bool _|exact .list _ _ _|exact .elem _|exact .nilsl|exact .nil _ _|exact .str _|refine zf.aggL ?_|refine zf.fnL ?_|refine zf.tL ?_|refine .iface ?_|exact mu rfl rfl (by assumption)))
 .exact Hu rfl
 .exact trivial
 .exact trivial
 refine zP ?_;exact wq


theorem f144:ET.funcs.get 144=some T144:=mX func144
theorem yf.lt{id iW iP:Nat}{w:LN}{L:LP}{F:PV}{u a:Nat}(h:yf H id iW iP w L F u a):id<H.length/\iW<H.length/\iP<H.length:=by
 obtain⟨⟨gP,b,c,h1,h2,h3,h4,d⟩,e,f,g⟩:=h;exact⟨(Yl.1 h1).1,(Yl.1 h2).1,(Yl.1 h4).1⟩


def aD(H:LQ)(id iW iP a:Nat)(F:PV)(no:Nat)(W:LN)(L:LP)(u:Nat)(v:PV)(e:FE)(H':LQ):Prop:=if no=0 then e=.ret v/\yf H' id iW iP W L F u a/\yX [id,iW,iP] H H' else e=.panic (vN no)/\yX [id,iW,iP] H H'


theorem KT(rest:LN):∀Q:LP,(∀p∈Q,p.2≠0)->vR (vA Q++rest)=Q.length+vR rest
 | [],_=>by show vR rest=0+_;omega
 | a::Q,h=>by
  have b:=KT rest Q fun p c=>h p (Ys _ c);have h1:=h a (Yp ..);rw[mZ,Yy,Yy,vR,if_neg h1,b,Yq];omega
structure Br(w:LN)(n:zi):Prop where
 good:uO n
 len:w.length=64
 head:headB w=true
 row:∃rest,w.drop 8=vA n.pairs++rest/\vR rest=0/\xw rest=true
theorem aU{w:LN}(h:wi w=0):Br w (headN w):=by
 have a:=tH h;obtain⟨m,n,b3⟩:=sU a;unfold wi at h;rw[if_pos a]at h;have b:nZ w=true:=by grind
 unfold nZ at b;rw[Yr,decide_eq_true_eq]at b;obtain⟨d,r⟩:=b;have f:=Ei d;have i:(headN w).pairs=vg (headN w).left (w.drop 8):=by
  have:(headN w).pairs=wy (headN w).left (w.drop 8):=by unfold headN;rfl
  rw[this];unfold wy;rw[if_pos f]
 unfold w7 at d;rw[if_pos f]at d;have c:pX (headN w).left (w.drop 8)=true:=by grind
 unfold pX wy at c;rw[if_pos f,<- i]at c;simp only[Yr,decide_eq_true_eq]at c;obtain⟨⟨⟨⟨h1,h2⟩,h3⟩,h4⟩,s⟩:=c;obtain⟨g,e,o,q⟩:=KO (w.drop 8) (headN w).left (by grind);rw[<- i]at e q;have hl:w.length=64:=by
  unfold headB at a;simp only[Yr,decide_eq_true_eq]at a;exact a.1.1
 have j:yK 3 (kS (w.getD 0 0)) (w.getD 3 0)=true:=by
  unfold headB at a;rw[Yr,YZ]at a;exact a.2 3 zy
 have k:(headN w).level=kS (w.getD 0 0):=by unfold headN;rfl
 have l:(headN w).left=w.getD 3 0:=by unfold headN;rfl
 rw[<- k,<- l]at j;rw[yK]at j;refine⟨⟨m,n,b3,by grind,h1,h2,fun p b=>?_,?_⟩,hl,a,g,e,o,?_⟩
 .grind
 .grind
 .have:(w.drop 8).drop (2*(headN w).pairs.length)=g:=by
   conv=>lhs;rw[e]
   rw[<- pM,zAT9]
  grind
theorem Us{w:LN}{n:zi}(hl:w.length=64)(h0:kS (w.getD 0 0)=n.level)(h1:w.getD 1 0=n.sib)(h2:w.getD 2 0=n.low)(h3:w.getD 3 0=n.left)(h4:w.getD 4 0=n.way)(hB:headB w=true)(hg:uO n){rest:LN}(hr:w.drop 8=vA n.pairs++rest)(hr0:vR rest=0)(hz:xw rest=true):wi w=0/\headN w=n:=by
 have b:∀p∈n.pairs,p.2≠0:=fun p a=>oB (hg.may p a);have hR:uj n.left (w.drop 8).length=true:=by
  rw[Y0,hl];unfold uj;simp[hg.left0]
 have e:vg n.left (vA n.pairs++rest)=n.pairs:=by
  rw[i9 rest n.pairs n.left (DI hg.ptrs) b];have:=Aw rest (wT n.left n.pairs);rw[hr0]at this;rw[Zg.1 (by omega:(vg (wT n.left n.pairs) rest).length=0),Y8]
 have c:wy n.left (w.drop 8)=n.pairs:=by unfold wy;rw[if_pos hR,hr,e]
 have hn:headN w=n:=CC h0 h1 h2 h3 h4 c;refine⟨?_,hn⟩;have d:(vA n.pairs++rest).length=56:=by rw[<- hr,Y0,hl]
 have f:w7 n.left (w.drop 8)=0:=by
  unfold w7;rw[if_pos hR,if_pos];unfold pX;rw[c,hg.rise,hg.ptrs,hr,KT _ _ b,hr0,d];have hd:(vA n.pairs++rest).drop (2*n.pairs.length)=rest:=by rw[<- pM,zAT9]
  rw[hd,hz];have:=hg.few;simp;omega
 unfold wi nZ;rw[if_pos hB,if_pos];rw[hn,f];simp only[decide_true,ZH,ZA,zBJ9];intro p a;rw[hg.may p a];simp


def uP(P:LN->Prop):LN->LP->Prop
 | w,[]=>P w
 | w,s::l=>P w/\uP P (w.set s.1 s.2) l
section
variable {P Q:LN->Prop}
theorem uP.append:∀{a b:LP} {w:LN},uP P w a->uP P (jZ w a) b->uP P w (a++b)
 | [],_,_,_,h2=>h2
 | _::_,_,_,h1,h2=>⟨h1.1,h1.2.append h2⟩
theorem uP.first:∀{l:LP} {w:LN},uP P w l->P w
 | [],_,h=>h
 | _::_,_,h=>h.1
theorem uP.last:∀{l:LP} {w:LN},uP P w l->P (jZ w l)
 | [],_,h=>h
 | _::_,_,h=>h.2.last
theorem uP.mono(h:∀w,P w->Q w):∀{l:LP} {w:LN},uP P w l->uP Q w l
 | [],_,k=>h _ k
 | _::_,_,k=>⟨h _ k.1,uP.mono h k.2⟩
theorem uP.take:∀{l:LP} {w:LN} (k:Nat),uP P w l->P (jZ w (l.take k))
 | _,_,0,h=>by rw[zCH9];exact h.first
 | [],_,_+1,h=>h
 | _::_,_,k+1,h=>uP.take k h.2
end
def tS(A:LP)(k p:Nat)(C:LP)(R:LN):LN:=vA A++k::p::(vA C++R)
theorem Ce:∀(A:LP) (prev:Nat),wT prev A∈prev::A.map (·.2)
 | [],_=>Yp ..
 | a::A,prev=>Ys _ (Ce A a.2)
theorem Qe{A:LP}{left:Nat}(hl:left≠0)(h:∀p∈A,p.2≠0):wT left A≠0:=by
 rcases YA.1 (Ce A left)with e|e
 .rw[e];exact hl
 .obtain⟨p,hp,e⟩:=Yx.1 e;rw[<- e];exact h p hp
section
variable {A C:LP}{left k p:Nat}{R:LN}(hn:(left::(A++C).map (·.2)).Nodup)(h0:∀p∈A++C,p.2≠0)(hl:left≠0)(hR:vR R=0)
include hn
theorem Pf:(left::A.map (·.2)).Nodup:=hn.sublist (by simp)
theorem Pg:(wT left A::C.map (·.2)).Nodup:=by
 rw[YJ,<- Yy,ZS]at hn;exact ZF.2 ⟨fun h=>hn.2.2 _ (Ce A left) _ h rfl,hn.2.1⟩
omit hn in
theorem VG:vR R=0->∀q,vg q R=[]:=fun h q=>Zg.1 (by have:=Aw R q;omega)
include h0 hl hR
theorem fk:vg left (tS A k (wT left A) C R)=A++C:=by
 have h1:=Qe (A:=A) hl fun p a=>h0 p (by simp[a]);unfold tS;rw[i9 _ A left (Pf hn) fun p a=>h0 p (by simp[a]),vg,if_neg h1,if_pos rfl,i9 _ C _ (Pg hn) fun p a=>h0 p (by simp[a]),VG hR,Y8]
end
variable (A C:LP)(R:LN)(k p q n:Nat)
theorem rh(hn:n=2*A.length+1):(tS A k p C R).set n q=tS A k q C R:=I6 _ _ _ _ _ _ (by rw[pM];exact hn)
theorem Ey(hn:n=2*A.length):(tS A k p C R).set n q=tS A q p C R:=by
 have:n=(vA A).length:=by rw[pM];exact hn
 subst this;unfold tS;simp
theorem Lt(a:Pr)(R:LN)(k p:Nat):tS (A++[a]) a.1 a.2 C R=tS A a.1 a.2 (a::C) R:=by
 unfold tS;rw[sD,mZ];simp
section
variable {left:Nat}{l:LP}{R:LN}(hn:(left::l.map (·.2)).Nodup)(h0:∀p∈l,p.2≠0)(hl:left≠0)(hR:vR R=0)
include hn h0 hl hR
theorem Mr(i:Nat):∀(m:Nat) (A C:LP) (k p:Nat),l=A++C->A.length=m->i<=m->vg left (tS A k p C R)=l->∃k' p',uP (fun v=>vg left v=l) (tS A k p C R) (xy l i m)/\jZ (tS A k p C R) (xy l i m)=tS (l.take i) k' p' (l.drop i) R
 | 0,A,C,k,p,e,c,n,d=>by
  have:A=[]:=Zg.1 c;have:i=0:=zo
  subst_vars
  exact⟨k,p,d,rfl⟩
 | m+1,A,C,k,p,e,c,n,d=>by
  rw[xy]
  by_cases f:i<=m
  rotate_left
  .have:i=A.length:=zo;rw[if_neg f,e,this,List.take_left,zAT9];exact⟨k,p,by rw[<- e];exact d,rfl⟩
  rw[if_pos f];obtain⟨b,a,rfl⟩:∃b a,A=b++[a]:=⟨A.dropLast,A.getLast (fun h=>by rw[h]at c;simp at c),(Z1 _).symm⟩
  have g:b.length=m:=by simpa using c
  have o:l.getD m (0,0)=a:=by
   rw[e,Yu,<- g];simp
  have j:=rh (b++[a]) C R k p a.2 (2*m+3) (by rw[c];omega);have q:=Ey (b++[a]) C R k a.2 a.1 (2*m+2) (by rw[c];omega);have r:∀k,vg left (tS (b++[a]) k a.2 C R)=l:=fun k=>by
   have:=fk (A:=b++[a]) (C:=C) (left:=left) (k:=k) (R:=R) (by rw[<- e];exact hn) (by rw[<- e];exact h0) hl hR;rw[sw]at this;rw[this,e]
  rw[o];obtain⟨k',p',t1,t2⟩:=Mr i m b (a::C) a.1 a.2 (by rw[e];simp) g f (by rw[<- Lt b C a R k p];exact r _);rw[<- Lt b C a R k p,<- q,<- j]at t1 t2;exact⟨k',p',⟨d,by rw[j];exact r _,t1⟩,t2⟩
theorem GA(A C:LP)(x:Pr)(w:LN)(e:l=A++C)(hw:w=vA A++x.1::x.2::(vA C++R)):∀q,q<=C.length->uP (fun v=>vg left v=l) (tS A x.1 (wT left A) C R) (xZ w A.length q)
 | 0,_=>by
  rw[show xZ w A.length 0=[]from rfl];show vg left _=l;rw[fk (by rw[<- e];exact hn) (by rw[<- e];exact h0) hl hR,e]
 | q+1,h=>by
  have i:=GA A C x w e hw q zo;obtain⟨k,j⟩:=sq left A C x R w hw q zo;obtain⟨m,d⟩:=sq left A C x R w hw (q+1) h;have a:l=A++C.take q++C.drop q:=by rw[e,YI,Y3]
  have b:l=A++C.take (q+1)++C.drop (q+1):=by rw[e,YI,Y3]
  rw[so]at d⊢;refine i.append ?_;have f:(A++C.take q).length=A.length+q:=by rw[Yn,YF];omega
  have g:jZ (tS A x.1 (wT left A) C R) (xZ w A.length q)=tS (A++C.take q) k (wT left (A++C.take q)) (C.drop q) R:=j;have c:jZ (tS A x.1 (wT left A) C R) (xZ w A.length q++_)=tS (A++C.take (q+1)) m (wT left (A++C.take (q+1))) (C.drop (q+1)) R:=d;rw[pg]at c;rw[g]at c⊢;have n:=Ey (A++C.take q) (C.drop q) R k (wT left (A++C.take q)) (w.getD (2*(A.length+q)+2) 0) (2*(A.length+q)) (by rw[f]);refine⟨?_,?_,?_⟩
  .show vg left _=l;rw[fk (by rw[<- a];exact hn) (by rw[<- a];exact h0) hl hR,<- a]
  .dsimp only;rw[n,fk (by rw[<- a];exact hn) (by rw[<- a];exact h0) hl hR,<- a]
  .show vg left (jZ (tS (A++C.take q) k (wT left (A++C.take q)) (C.drop q) R) [(2*(A.length+q),w.getD (2*(A.length+q)+2) 0),(2*(A.length+q)+1,w.getD (2*(A.length+q)+3) 0)])=l;rw[c,fk (by rw[<- b];exact hn) (by rw[<- b];exact h0) hl hR,<- b]
end


variable {x:Pr}
def uG(x:Pr):LP->LP
 | []=>[x]
 | a::l=>if a.1<x.1 then a::uG x l else x::a::l
theorem oa(x:Pr):∀l:LP,uG x l=l.take (wQ l x.1)++x::l.drop (wQ l x.1)
 | []=>rfl
 | a::l=>by
  rw[uG];unfold wQ
  by_cases h:a.1<x.1
  .rw[if_pos h,oa x l,List.takeWhile_cons_of_pos (by simpa using h)];rfl
  .rw[if_neg h,List.takeWhile_cons_of_neg (by simpa using h)];rfl
theorem dv{y:Pr}:∀{l:LP},y∈uG x l↔y=x\/y∈l
 | []=>by simp[uG]
 | a::l=>by
  rw[uG]
  split
  .rw[YA,dv,YA];grind
  .simp
theorem CG(x:Pr):∀l:LP,(uG x l).length=l.length+1
 | []=>rfl
 | a::l=>by
  rw[uG]
  split
  .rw[Yq,CG x l];rfl
  .rfl
theorem dL:∀{l:LP},vz l=true↔l.Pairwise fun a b=>a.1<b.1
 | []=>⟨fun _=>.nil,fun _=>rfl⟩
 | [_]=>⟨fun _=>zBG9 _ _,fun _=>rfl⟩
 | a::b::l=>by
  rw[vz,Yr,dL,decide_eq_true_eq,Zu (a:=a)];refine and_congr_left fun h2=>⟨fun h1 c d=>?_,fun h=>h b (Yp ..)⟩
  rcases YA.1 d with rfl|d
  .exact h1
  .exact Nat.lt_trans h1 ((Zu.1 h2).1 c d)
theorem CH:∀{l:LP},vz l=true->(∀q∈l,¬q.1=x.1)->vz (uG x l)=true
 | [],_,_=>rfl
 | a::l,h,d=>by
  have e:=Zu.1 (dL.1 h);have g:=d a (Yp ..);rw[uG]
  split
  .refine dL.2 (Zu.2 ⟨fun b c=>?_,dL.1 (CH (dL.2 e.2) fun q f=>d q (Ys _ f))⟩);rcases dv.1 c with rfl|c
   .assumption
   .exact e.1 b c
  .rw[vz,h,zBN9,decide_eq_true_eq];omega
theorem HK:∀{A B:LP},(∀a∈A,a.1<x.1)->uG x (A++B)=A++uG x B
 | [],_,_=>rfl
 | a::A,B,h=>by
  rw[Yy,uG,if_pos (h a (Yp ..)),HK fun b c=>h b (Ys _ c)];rfl
theorem HM:∀{A B:LP},(∀b∈B.head?,¬b.1<x.1)->uG x (A++B)=uG x A++B
 | [],[],_=>rfl
 | [],b::B,h=>by
  rw[YC,show uG x (b::B)=if b.1<x.1 then b::uG x B else x::b::B from rfl,if_neg (h b rfl)];rfl
 | a::A,B,h=>by
  rw[Yy,uG,uG,HM h]
  split<;>rfl
structure Hd(n:zi)(v:LN):Prop where
 len:v.length=64
 head:headB v=true
 h0:kS (v.getD 0 0)=n.level
 h1:v.getD 1 0=n.sib
 h2:v.getD 2 0=n.low
 h3:v.getD 3 0=n.left
 l0:n.left≠0
variable {a k:Nat}{l:LP}{n:zi}{v:LN}
def Nd(n:zi)(v:LN):Prop:=headB v=true/\∃y,headN v={ n with way:=y }
theorem Hd.nd(h:Hd n v)(hl:vg n.left (v.drop 8)=l):Nd { n with pairs:=l } v:=by
 refine⟨h.head,v.getD 4 0,CC h.h0 h.h1 h.h2 h.h3 rfl ?_⟩;unfold wy;rw[if_pos,hl];rw[Y0,h.len];unfold uj;simp[h.l0]
theorem sO(v:LN)(i j a:Nat)(h:i≠j):(v.set i a).getD j 0=v.getD j 0:=by
 rw[Yu,Yu,YD h]
theorem Rp(h:headB v=true)(hk:1<=k/\k<5/\yK k (kS (v.getD 0 0)) a=true\/8<=k):headB (v.set k a)=true:=by
 unfold headB at h⊢;rw[Yr,Yr,decide_eq_true_eq]at h⊢;obtain⟨⟨h1,h2⟩,h3⟩:=h;rw[YZ]at h3;have e:((v.set k a).take 8).drop 5=(v.take 8).drop 5:=by
  apply Zn
  intro j;rw[Zo,Zo,Y4,Y4]
  by_cases b:5+j<8
  .rw[if_pos b,if_pos b,YD zo]
  .rw[if_neg b,if_neg b]
 refine⟨⟨by rw[Y1];exact h1,by rw[e];exact h2⟩,YZ.2 fun i d=>?_⟩;have h4:=h3 i d;have:=Zm.1 d;rw[sO _ _ _ _ zo]
 by_cases c:i=k
 .subst c;have:(v.set i a).getD i 0=a:=by rw[Yu,Yz zo];rfl
  rw[this];rcases hk with hk|hk
  .exact hk.2.2
  .omega
 .rw[sO _ _ _ _ (Ne.symm c)];exact h4
theorem Hd.set(h:Hd n v)(hk:k=4/\a<=2\/8<=k):Hd n (v.set k a):=by
 obtain⟨b,c,e,f,g,i,d⟩:=h;refine⟨by rw[Y1];exact b,Rp c ?_,?_,?_,?_,?_,d⟩
 .rcases hk with⟨rfl,h⟩|hk
  .exact .inl ⟨by decide,by decide,decide_eq_true h⟩
  .exact .inr hk
 all_goals rw[sO _ _ _ _ zo];assumption
theorem Hd.thru:∀{S:LP} {v:LN},Hd n v->uP (fun u=>vg n.left u=l) (v.drop 8) S->uP (Nd { n with pairs:=l }) v (uJ S)/\Hd n (jZ v (uJ S))
 | [],_,h,t=>⟨h.nd t,h⟩
 | s::S,v,h,t=>by
  have b:=h.set (k:=s.1+8) (a:=s.2) (.inr zo);have:=b.thru (S:=S) (by rw[sv];exact t.2);exact⟨⟨h.nd t.1,this.1⟩,this.2⟩
theorem Hd.way{S:LP}(h:Hd n v)(y:Nat)(hy:y<=2)(t:uP (fun u=>vg n.left u=l) (v.drop 8) S):uP (Nd { n with pairs:=l }) v (kh v y++uJ S)/\Hd n (jZ v (kh v y++uJ S)):=by
 have a:=pg v (kh v y) (uJ S);unfold kh at a⊢
 split
 .exact h.thru t
 rename_i b;rw[if_neg b]at a;have c:=h.set (k:=4) (a:=y) (.inl ⟨rfl,hy⟩);have e:(v.set 4 y).drop 8=v.drop 8:=by rw[List.drop_set,if_pos zy]
 have:=c.thru (S:=S) (by rw[e];exact t);exact⟨⟨h.nd t.first,this.1⟩,this.2⟩
theorem Br.hd{w:LN}(h:Br w n)(e:headN w=n):Hd n w:=by
 subst e;exact⟨h.len,h.head,rfl,rfl,rfl,rfl,h.good.left0⟩
theorem Hd.done(h:Hd n v){R:LN}(hv:v.drop 8=vA l++R)(hR:vR R=0)(hz:xw R=true)(hg:∀y,y<=2->uO { n with way:=y,pairs:=l }):wi v=0/\Nd { n with pairs:=l } v:=by
 have a:v.getD 4 0<=2:=(sU h.head).2.2;have:=Us (n:={ n with way:=v.getD 4 0,pairs:=l }) h.len h.h0 h.h1 h.h2 h.h3 rfl h.head (hg _ a) hv hR hz;exact⟨this.1,h.head,_,this.2⟩


def pF(P Q:LN->Prop)(w:LN)(l:LP):Prop:=∃I s J,l=I++s::J/\uP P w I/\uP Q ((jZ w I).set s.1 s.2) J
theorem pF.last{P Q:LN->Prop}{w:LN}{l:LP}(h:pF P Q w l):Q (jZ w l):=by
 obtain⟨I,s,J,rfl,_,h⟩:=h;rw[pg];exact h.last
theorem KJ{left:Nat}{A:LP}{Y:LN}:yU left (vA A++Y) A.length=wT left A:=by
 unfold yU
 by_cases h0:A.length=0
 .rw[if_pos h0,Zg.1 h0];rfl
 rw[if_neg h0];obtain⟨a,y,rfl⟩:∃a y,A=a++[y]:=⟨A.dropLast,A.getLast (fun h=>h0 (by rw[h];rfl)),(Z1 _).symm⟩
 rw[sw,sD,YI];have:=(oC (vA a) Y y.1 y.2).2;rw[pM]at this
 simp_all
section
variable {left:Nat}{l:LP}{R:LN}(hn:(left::l.map (·.2)).Nodup)(h0:∀p∈l,p.2≠0)(hl:left≠0)(hR:vR R=0)(hz:xw R=true)
include hn h0 hl hR hz
theorem Xo(hRl:4<=R.length)(i:Nat)(hi:i<=l.length)(x:Pr):∃I s,ai left (vA l++R) l i x=I++[s]/\uP (fun v=>vg left v=l) (vA l++R) I/\∃R',jZ (vA l++R) (ai left (vA l++R) l i x)=vA (l.take i++x::l.drop i)++R'/\vR R'=0/\xw R'=true:=by
 match R,hRl with
 | k0::j::a::u::B,_ =>
 have q:j=0:=by
  rw[vR]at hR
  by_cases h:j=0
  .exact h
  .rw[if_neg h]at hR;omega
 subst q;rw[xw,xw]at hz;simp only[decide_true,ZH,Yr,decide_eq_true_eq]at hz;obtain⟨rfl,hz⟩:=hz;have f:yU left (vA l++k0::0::a::0::B) i=wT left (l.take i):=by
  have:=KJ (left:=left) (A:=l.take i) (Y:=vA (l.drop i)++k0::0::a::0::B);rw[<- YI,<- lY,Y3,YF,ZK hi]at this;exact this
 have c:vR (a::0::B)=0:=by rw[vR,if_pos rfl]
 have b:vA l++k0::0::a::0::B=tS l k0 0 [] (a::0::B):=rfl;have m:vg left (tS l k0 0 [] (a::0::B))=l:=by
  rw[<- b,i9 _ l left hn h0,vg,if_pos rfl,Y8]
 have n:(tS l k0 0 [] (a::0::B)).set (2*l.length+3) 0=tS l k0 0 [] (a::0::B):=by
  rw[<- b];have:2*l.length+3=(vA l++[k0,0]).length+1:=by rw[Yn,pM];rfl
  have h:=I6 (vA l++[k0,0]) B a 0 0 _ this;simpa using h
 obtain⟨o,r,t1,t2⟩:=Mr hn h0 hl c i l.length l [] k0 0 (by simp) rfl hi m;have d:(l.take i).length=i:=by rw[YF];omega
 have g:∀k,vg left (tS (l.take i) k (wT left (l.take i)) (l.drop i) (a::0::B))=l:=fun k=>by
  rw[fk (by rw[Y3];exact hn) (by rw[Y3];exact h0) hl c,Y3]
 have e:=rh (l.take i) (l.drop i) (a::0::B) o r (wT left (l.take i)) (2*i+1) (by rw[d]);have p:=Ey (l.take i) (l.drop i) (a::0::B) o (wT left (l.take i)) x.1 (2*i) (by rw[d]);have t:=rh (l.take i) (l.drop i) (a::0::B) x.1 (wT left (l.take i)) x.2 (2*i+1) (by rw[d]);refine⟨(2*l.length+3,0)::(xy l i l.length++[(2*i+1,wT left (l.take i)),(2*i,x.1)]),(2*i+1,x.2),?_,⟨by rw[b];exact m,?_⟩,a::0::B,?_,c,by rw[xw,hz];rfl⟩
 .unfold ai;rw[f];simp
 .rw[b,n];refine t1.append ?_;rw[t2];refine⟨?_,?_,?_⟩
  .rw[<- t2];exact t1.last
  .rw[e];exact g _
  .dsimp only;rw[e,p];exact g _
 .unfold ai;rw[f,b];show jZ ((tS l k0 0 [] (a::0::B)).set _ _) _=_;rw[n,pg,t2];show (((tS _ _ _ _ _).set _ _).set _ _).set _ _=_;rw[e,p,t];unfold tS;rw[lY,mZ];simp
theorem Xr(hRl:2<=R.length){A C:LP}{x:Pr}(e:l=A++x::C):∃J,(2*A.length+1,yU left (vA l++R) A.length)::xx (vA l++R) A.length l.length=(2*A.length+1,wT left A)::J/\uP (fun v=>vg left v=A++C) ((vA l++R).set (2*A.length+1) (wT left A)) J/\∃R',jZ (vA l++R) ((2*A.length+1,wT left A)::J)=vA (A++C)++R'/\vR R'=0/\xw R'=true:=by
 have a:vA l++R=vA A++x.1::x.2::(vA C++R):=by rw[e,lY,mZ];simp
 have d:(left::(A++C).map (·.2)).Nodup:=hn.sublist (by rw[e];simp);have f:∀p∈A++C,p.2≠0:=fun p m=>h0 p (by rw[e];grind);have g:yU left (vA l++R) A.length=wT left A:=by rw[a];exact KJ
 have c:(vA l++R).set (2*A.length+1) (wT left A)=tS A x.1 (wT left A) C R:=by
  rw[a];exact rh A C R x.1 x.2 _ _ rfl
 have h:l.length=A.length+1+C.length:=by rw[e,Yn,Yq];omega
 obtain⟨k,i⟩:=sq left A C x R _ a C.length (Ym _);have b:jZ (tS A x.1 (wT left A) C R) (xZ (vA l++R) A.length C.length)=tS (A++C) k (wT left (A++C)) [] R:=by
  have:=i;rw[YR,Y9]at this;exact this
 have t:=GA d f hl hR A C x _ rfl a C.length (Ym _);have z:=rh (A++C) [] R k (wT left (A++C)) 0 (2*l.length-1) (by rw[h,Yn];omega);have j:vg left (tS (A++C) k 0 [] R)=A++C:=by
  show vg left (vA (A++C)++k::0::R)=_;rw[i9 _ _ left d f,vg,if_pos rfl,Y8]
 refine⟨xx (vA l++R) A.length l.length,by rw[g],?_,k::0::R,?_,by rw[vR,if_pos rfl],by rw[xw,hz];rfl⟩
 .rw[c];unfold xx;rw[show l.length-1-A.length=C.length by omega];refine t.append ?_;rw[b];refine⟨by rw[<- b];exact t.last,?_⟩;show vg left _=_;rw[z];exact j
 .show jZ ((vA l++R).set _ _) _=_;rw[c];unfold xx;rw[show l.length-1-A.length=C.length by omega,pg,b];show (tS _ _ _ _ _).set _ _=_;rw[z];rfl
end


theorem Ws(a:Pr)(l:LP)(key:Nat):yc (a::l) key=if a.1<key then yc l key else decide (a.1=key):=by
 unfold yc wQ
 by_cases h:a.1<key
 .rw[if_pos h,zCE9,if_pos (decide_eq_true h),Yq,Y2]
 .rw[if_neg h,zCE9,if_neg (by simpa using h)];rfl
theorem KK:∀(l:LP) (key:Nat),vz l=true->yc l key=false->∀q∈l,¬q.1=key
 | [],_,_,_,q,b=>by cases b
 | a::l,key,c,h,q,b=>by
  rw[Ws]at h;have hl:∀y∈l,a.1<y.1:=fun y f=>by
   obtain⟨j,g⟩:=ZI.1 f;exact ba c j 0 a y rfl (by rw[Y6,Y2];exact g)
  have e:vz l=true:=oY c 1
  by_cases d:a.1<key
  .rw[if_pos d]at h;rcases YA.1 b with rfl|b
   .omega
   .exact KK l key e h q b
  .rw[if_neg d,decide_eq_false_iff_not]at h;rcases YA.1 b with rfl|b
   .exact h
   .have:=hl q b;omega
theorem PK{w:LN}{x:Pr}(h:gu w x=0):wi w=0/\uT (headN w) x=true:=by
 unfold gu at h
 split at h
 .rename_i h1
  split at h
  .rename_i h2;exact⟨h1,h2⟩
  .cases h
 .rename_i h1;exact absurd h h1
structure EU(n:zi)(x:Pr):Prop where
 may:uT n x=true
 left:¬x.2=n.left
 ptr:∀q∈n.pairs,¬q.2=x.2
 key:∀q∈n.pairs,¬q.1=x.1
variable {w:LN}
theorem SK(h:vz l=true)(hx:x∈l):∃p,l.getLast?=some p/\x.1<=p.1:=by
 obtain⟨i,a⟩:=ZI.1 hx;have b:=(Yl.1 a).1;refine⟨l[l.length-1],by rw[Z4,Yk zo],?_⟩
 by_cases e:i=l.length-1
 .subst e;rw[Yk b]at a;injection a with a;rw[a];exact Ym _
 .have:=ba h (l.length-1-i-1) i x l[l.length-1] a (by rw[show i+(l.length-1-i-1)+1=l.length-1 by omega,Yk zo]);omega


theorem Js(h:wi w=0):w.getD 3 0=(headN w).left/\vg (headN w).left (w.drop 8)=(headN w).pairs/\w7 (headN w).left (w.drop 8)=0:=by
 have b:=tH h;have hl:w.length=64:=Jd h;have a:=(aU h).good;refine⟨rfl,?_,?_⟩
 .have:(headN w).pairs=wy (headN w).left (w.drop 8):=rfl;rw[this];unfold wy;rw[if_pos];rw[Y0,hl];unfold uj;simp[a.left0]
 .unfold wi nZ at h
  grind
theorem Q6(h:uO n)(hm:EU n x)(hr:n.pairs.length<27)(y:Nat)(hy:y<=2):uO { n with way:=y,pairs:=uG x n.pairs }:=by
 refine⟨h.level,h.sib,hy,?_,CH h.rise hm.key,(af _ _).2 ⟨?_,fun p a=>?_⟩,fun p a=>?_,h.left⟩
 .show (uG x n.pairs).length<=27;rw[CG];omega
 .have a:=(af _ _).1 h.ptrs;have e:((uG x n.pairs).map (·.2)).Perm ((x::n.pairs).map (·.2)):=by
   rw[oa];refine List.Perm.map _ (List.perm_middle.trans ?_);rw[Y3]
  refine e.nodup_iff.2 (ZF.2 ⟨fun c=>?_,a.1⟩);obtain⟨q,h1,h2⟩:=Yx.1 c;exact hm.ptr q h1 h2
 .have b:=(af _ _).1 h.ptrs;rcases dv.1 a with rfl|a
  .simpa using hm.left
  .exact b.2 p a
 .rcases dv.1 a with rfl|a
  .exact hm.may
  .exact h.may p a
theorem Q7(h:uO n)(hl:l.Sublist n.pairs)(y:Nat)(hy:y<=2):uO { n with way:=y,pairs:=l }:=by
 have b:=(af _ _).1 h.ptrs;exact⟨h.level,h.sib,hy,YY hl.length_le h.few,KC hl h.rise,(af _ _).2 ⟨b.1.sublist (hl.map _),fun p a=>b.2 p (hl.subset a)⟩,fun p a=>h.may p (hl.subset a),h.left⟩
theorem J5(h:(uD w x).2=0):wi w=0/\EU (headN w) x/\(headN w).pairs.length<27/\(uD w x).1=kh w 1++uJ (ai (headN w).left (w.drop 8) (headN w).pairs (wQ (headN w).pairs x.1) x):=by
 have b:gu w x=0:=by
  unfold uD yF at h
  by_cases b:gu w x=0
  .exact b
  .rw[if_neg b]at h;exact absurd h b
 have d:=PK b;obtain⟨l,j,m⟩:=Js d.1;obtain⟨n,k,r,p,s,t,u⟩:=aU d.1;unfold uD yF at h⊢;rw[if_pos b,l]at h⊢;have a:(yd (headN w).left (w.drop 8) x).2=0:=by grind
 rw[if_pos a];unfold yd at a⊢;rw[j]at a⊢
 by_cases c:xP (headN w).left (w.drop 8) x=0
 rotate_left
 .rw[if_neg c]at a;exact absurd a c
 rw[if_pos c]at a⊢;have g:yc (headN w).pairs x.1=false:=by
  by_cases e:yc (headN w).pairs x.1=true
  .rw[if_pos e]at a;dsimp only at a;omega
  .simpa using e
 have f:¬(w.drop 8).length/2<=(headN w).pairs.length+1:=fun f=>by
  rw[g,if_neg zy,if_pos f]at a;cases a
 rw[g,if_neg zy,if_neg f];have i:¬x.2=(headN w).left/\nT (headN w).pairs x.2=false:=by
  unfold xP at c;rw[j,m]at c
  grind
 refine⟨d.1,⟨d.2,i.1,fun q o e=>?_,KK _ _ n.rise g⟩,?_,rfl⟩
 .have h2:=i.2;unfold nT at h2;rw[zCB9,decide_eq_false_iff_not]at h2;exact h2 (Yx.2 ⟨q,o,e⟩)
 .rw[Y0,k]at f;omega
theorem Vr(h:(uD w x).2=0):pF (Nd (headN w)) (fun v=>wi v=0/\Nd { headN w with pairs:=uG x (headN w).pairs } v) w (uD w x).1:=by
 obtain⟨i,j,m,e⟩:=J5 h;have c:=aU i;have n:=c.hd rfl;obtain⟨b,z,A,f,d,o,q⟩:=c;have g:4<=f.length:=by
  have:=congrArg List.length d;rw[Y0,Yn,pM]at this;omega
 obtain⟨I,s,t1,t2,r,t3,t4,t5⟩:=Xo (DI b.ptrs) (fun p t=>oB (b.may p t)) b.left0 o q g (wQ (headN w).pairs x.1) (Ar _ _) x;rw[<- d]at t1 t2 t3;rw[t1]at t3;have a:=n.way (l:=(headN w).pairs) 1 zy t2;refine⟨kh w 1++uJ I,(s.1+8,s.2),[],?_,a.1,?_⟩
 .rw[e,t1];unfold uJ;simp
 .have hd:=a.2.set (k:=s.1+8) (a:=s.2) (.inr zo);show _/\_;refine hd.done (R:=r) ?_ t4 t5 fun y u=>Q6 b j m y u;rw[sv,pg,Cb,GB,oa,<- t3,pg];rfl
theorem XB{key:Nat}(h:(yR w key).2=0):∃(A C:LP) (x:Pr),(headN w).pairs=A++x::C/\x.1=key/\pF (Nd (headN w)) (fun v=>Nd { headN w with pairs:=A++C } v) w (yR w key).1/\wi (jZ w (yR w key).1)=0:=by
 have c:wi w=0:=by
  unfold yR yF at h
  by_cases c:wi w=0
  .exact c
  .rw[if_neg c]at h;exact absurd h c
 have j:=aU c;have B:=j.hd rfl;obtain⟨D,m,G⟩:=Js c;obtain⟨d,P,Q,q,n,I,K⟩:=j;unfold yR yF at h⊢;rw[if_pos c,D]at h⊢;have f:(yu (headN w).left (w.drop 8) key).2=0:=by grind
 rw[if_pos f];unfold yu at f⊢;rw[if_pos G,m]at f⊢;have e:yc (headN w).pairs key=true:=by grind
 rw[if_pos e];have i:=As e;obtain⟨x,L⟩:∃x,(headN w).pairs[wQ (headN w).pairs key]?=some x:=⟨_,Yk i⟩
 have s:x.1=key:=by
  unfold yc at e;rw[L]at e;simpa using e
 have g:(headN w).pairs=(headN w).pairs.take (wQ (headN w).pairs key)++x::(headN w).pairs.drop (wQ (headN w).pairs key+1):=by
  conv=>lhs;rw[<- Y3 (wQ (headN w).pairs key) (headN w).pairs,YE i]
  grind
 have t:((headN w).pairs.take (wQ (headN w).pairs key)).length=wQ (headN w).pairs key:=by rw[YF];omega
 generalize (headN w).pairs.drop (wQ (headN w).pairs key+1)=C at *
 generalize (headN w).pairs.take (wQ (headN w).pairs key)=A at *
 have z:2<=q.length:=by
  have:=congrArg List.length n;have:=d.few;rw[Y0,Yn,pM]at *;omega
 obtain⟨J,t1,t2,M,t3,t4,t5⟩:=Xr (DI d.ptrs) (fun p N=>oB (d.may p N)) d.left0 I K z g;rw[<- n]at t1 t2 t3;rw[<- t,t1];have r:uP (fun u=>vg (headN w).left u=(headN w).pairs) (w.drop 8) []:=m;have a:=B.way (l:=(headN w).pairs) 2 (Ym _) r;rw[show uJ []=[]from rfl,Y8]at a;have hd:=a.2.set (k:=2*A.length+1+8) (a:=wT (headN w).left A) (.inr zo);have o:((jZ w (kh w 2)).set (2*A.length+1+8) (wT (headN w).left A)).drop 8=(w.drop 8).set (2*A.length+1) (wT (headN w).left A):=by rw[sv,GB]
 have b:=hd.thru (S:=J) (l:=A++C) (by rw[o];exact t2);have el:kh w 2++uJ ((2*A.length+1,wT (headN w).left A)::J)=kh w 2++(2*A.length+1+8,wT (headN w).left A)::uJ J:=rfl;refine⟨A,C,x,g,s,⟨_,_,_,el,a.1,b.1⟩,?_⟩;rw[el,pg];refine(b.2.done (l:=A++C) (R:=M) ?_ t4 t5 fun y O=>Q7 d (by rw[g];simp) y O).1;rw[Cb,o,<- t3];rfl


@[reducible] def EZ (H:LQ) (id iW iP a:Nat) (F:PV) (S:Wk × Nat × Nat × Nat):FE->LQ->Prop:=aD H id iW iP a F S.2.2.2 S.1.W S.1.L S.1.used (.tuple [iv S.2.1,uv S.2.2.1])
variable {F:PV}{L:LP}{iP iW id no u:Nat}{v:PV}
theorem aD.bad{W:LN}{f:Nat}{args:LJ}{H0:LQ}(hno:¬no=0)(h:FO ET f args H0 false fun e H'=>e=.panic (vN no)/\yX [id,iW,iP] H H'):FO ET f args H0 false (aD H id iW iP a F no W L u v):=h.mono fun e H' b=>by
 unfold aD;rw[if_neg hno];exact b
theorem aD.val{W:LN}{v':PV}{e:FE}{H':LQ}(h:no=0->v=v')(k:aD H id iW iP a F no W L u v e H'):aD H id iW iP a F no W L u v' e H':=by
 unfold aD at k⊢
 by_cases b:no=0
 .rw[if_pos b]at k⊢;rw[<- h b];exact k
 .rw[if_neg b]at k⊢;exact k


theorem PA{a b:PV}(h1:H[1]?=some (yj a))(h2:H[2]?=some (yz b)):FO ET 92 [.ptr 1 0 0 0 1,.ptr 2 0 0 0 1] H false fun e H'=>e=.ret (.tuple [])/\H'=(H.set 1 (yj .nilsl)).set 2 (yz (iv 0)):=by
 refine wF (eG T92 func92) ?_;have c:(H.set 1 (yj .nilsl))[2]?=some (yz b):=get_set h2 zy;refine vu (jX h1 c) ?_;exact⟨[],rfl,rfl,rfl⟩
structure gh(H:LQ)(id iW iP:Nat)(w:LN)(L:LP)(F:PV)(u n:Nat)(x:Pr)(b3:PV):Prop where
 g0:H[0]?=some (.row 92 2 0 0 [pv x])
 g1:H[1]?=some (yj .nilsl)
 g2:H[2]?=some (yz (iv 0))
 g3:H[3]?=some (yq b3)
 und:yf H id iW iP w L F u n
 l1:4<=id
 l2:4<=iW
 l3:4<=iP
variable {H':LQ}{b3:PV}{n:Nat}(p r:Nat)
theorem yf.boxu(h:yf H id iW iP w L F u n)(k:Nat)(o:za)(h1:k<id)(h2:k<iW)(h3:k<iP):yf (H.set k o) id iW iP w L F u n :=
 h.other fun j a c b=>get_set b (by rcases a with rfl|rfl|rfl<;>omega)
theorem gh.set3(h:gh H id iW iP w L F u n x b3)(v:PV):gh (H.set 3 (yq v)) id iW iP w L F u n x v :=
 ⟨get_set h.g0 zy,get_set h.g1 zy,get_set h.g2 zy,Yz (Yl.1 h.g3).1,h.und.boxu 3 _ (by have:=h.l1;omega) (by have:=h.l2;omega) (by have:=h.l3;omega),h.l1,h.l2,h.l3⟩
theorem gh.keep{w':LN}{L':LP}{u':Nat}(h:gh H id iW iP w L F u n x b3)(hU:yf H' id iW iP w' L' F u' n)(hk:yX [id,iW,iP] H H'):gh H' id iW iP w' L' F u' n x b3:=by
 obtain⟨a,b,c,d,_,e,f,g⟩:=h;exact⟨hk 0 _ (by simp;omega) a,hk 1 _ (by simp;omega) b,hk 2 _ (by simp;omega) c,hk 3 _ (by simp;omega) d,hU,e,f,g⟩
theorem gh.stay(h:gh H id iW iP w L F u n x b3)(hk:xG H H'):gh H' id iW iP w L F u n x b3 :=
 ⟨hk _ _ h.g0,hk _ _ h.g1,hk _ _ h.g2,hk _ _ h.g3,h.und.other fun j _ o a=>hk j o a,h.l1,h.l2,h.l3⟩
theorem DJ{R:PV}{tm:Nat->PV}{b c d:PV}(h1:H[1]?=some (yj b))(h2:H[2]?=some (yz c))(h3:H[3]?=some (yq d))(t8:tm 8=.ptr 1 0 0 0 1)(t9:tm 9=.ptr 2 0 0 0 1)(t10:tm 10=.ptr 3 0 0 0 1)(hR:R=pU ([],0,n)):
  ye ET T55 (fun e' H=>va H 0 e' (.ret R)) (.panic (vN n)) ⟨tm,[.caught (.ptr 3 0 0 0 1) (.fn 92 [.ptr 1 0 0 0 1,.ptr 2 0 0 0 1])],H⟩:=by
 refine⟨n,92,[.ptr 1 0 0 0 1,.ptr 2 0 0 0 1],false,3,0,1,rfl,rfl,rfl,(PA h1 h2).mono fun e H' h=>?_⟩;obtain⟨rfl,rfl⟩:=h;refine⟨rfl,?_⟩;have i:=Yz (a:=yj .nilsl) (Yl.1 h1).1;have j:=(Yl.1 h2).1;have k:((H.set 1 (yj .nilsl)).set 2 (yz (iv 0)))[3]?=some (yq d):=get_set (get_set h3 zy) zy;obtain⟨f,g⟩:∃f,f=(H.set 1 (yj .nilsl)).set 2 (yz (iv 0)):=⟨_,rfl⟩
 have j1:f[1]?=some (yj .nilsl):=by rw[g];exact get_set i zy
 have j2:f[2]?=some (yz (iv 0)):=by rw[g];exact Yz (by simpa using j)
 have j3:f[3]?=some (yq d):=by rw[g];exact k
 rw[<- g];refine⟨⟨.tuple [],f.set 3 (yq (iv n)),[3]⟩,by simp[qs,j3,PV.cells,qj],[.nilsl,iv 0,iv n],?_,?_⟩
 .have l:(f.set 3 (yq (iv n)))[1]?=some (yj .nilsl):=get_set j1 zy;have m:(f.set 3 (yq (iv n)))[2]?=some (yz (iv 0)):=get_set j2 zy;have o:(f.set 3 (yq (iv n)))[3]?=some (yq (iv n)):=Yz (Yl.1 j3).1;simp[T55,xT,zj,zq,t8,t9,t10,zD,zA,zF,zW,l,m,o,PV.cells]
 .rw[hR];exact wq
theorem Vo(n:Nat)(x:Pr)(w:LN)(fr:LH)(ws:LN)(leaf:Nat)(pu:LP×Nat)(T0:List vh)(S:Wk×Nat×Nat×Nat)(R:LP×Nat×Nat)(W3:LN)(L3:LP)(u3 lf:Nat)(tk:LP)(hN:0<w.length/\w.length<=131072)(hn:n<w.length)(h82:FR 136 [wv p w,iv n,.list r 1 (fr.map iv)] (.tuple []))(h60:FR 137 [wv p w,iv n] (yJ T0))(hW:eB w (w.getD n 0) x.1 ws)(hlf:ws[ws.length-1]?=some leaf)(hwl:0<ws.length/\ws.length<=20)(hin:64*leaf+64<=w.length)(hpu:FR 95 [wv 1 (jW w leaf),pv x] (pY pu))(hbad:¬pu.2=0->¬pu.2=3->R=([],0,pu.2))(h3:pu.2=3->∀(H:LQ) (id iW iP io g:Nat),yf H id iW iP w [] (.list r 1 (fr.map iv)) 0 n->H[io]?=some (.row 3 1 g 0 (wo ws))->io ∉ [id,iW,iP]->FO ET 98 [.ptr id 0 0 0 5,.sl io g 0 ws.length (2*ws.length) 1] H false (EZ H id iW iP n (.list r 1 (fr.map iv)) S))(hb3:pu.2=3->¬S.2.2.2=0->R=([],0,S.2.2.2))(hS3:pu.2=3->S.2.2.2=0->W3=S.1.W/\L3=S.1.L/\u3=S.1.used/\lf=if S.2.2.1<=x.1 then S.2.1 else leaf)(hSn:pu.2=0->W3=w/\L3=[]/\u3=0/\lf=leaf)(hend:pu.2=0\/(pu.2=3/\S.2.2.2=0)->W3.length=w.length/\64*lf+64<=w.length/\FR 95 [wv 1 (jW W3 lf),pv x] (pY (tk,0))/\tk.length<=71/\(∀s∈tk,s.1<64)/\L3.length+71<=900000/\R=(L3++vY (64*lf) tk,u3,0)):
  FR 55 [wv p w,iv n,pv x,.list r 1 (fr.map iv)] (pU R):=by
 refine qv (eG T55 func55) (C0 _) ?_;refine wu ?_;refine gZ (f:=91) (p:=.ptr 3 0 0 0 1) (cl:=.fn 92 [.ptr 1 0 0 0 1,.ptr 2 0 0 0 1]) ?_ ?_ eS ?_
 .rfl
 .simp only[go_sem]<;>rfl
 refine zN ?_;refine zI ?_;refine wI (Fy p r w n fr T0 [.row 92 2 0 0 [pv x],yj .nilsl,yz (iv 0),yq (iv 0)] hN.1 hN.2 h82 h60) ?_;rintro e H ⟨id,iW,iP,rfl,hU,A,l1,l2,l3⟩;refine zN ?_;have c:gh H id iW iP w [] (.list r 1 (fr.map iv)) 0 n x (iv 0):=⟨A 0 _ rfl,A 1 _ rfl,A 2 _ rfl,A 3 _ rfl,hU,l1,l2,l3⟩
 clear A hU;refine kJ (fun d=>d 6=.ptr 0 0 0 0 2/\d 8=.ptr 1 0 0 0 1/\d 9=.ptr 2 0 0 0 1/\d 10=.ptr 3 0 0 0 1/\d 11=.ptr id 0 0 0 5) ⟨zt,zt,zt,zt,by simp[zb]⟩ ?_;rintro d ⟨b,k,l,a,i⟩;have b0:=c.g0;refine vp (vn b i b0) ?_;refine wI (Ms c.und x.1 ws hN.2 hn hW) ?_;rintro e H1 ⟨A,io,g,rfl,j⟩;refine zN ?_
 replace c:=c.stay A
 clear A b0;have e1:(ws.length:Int)-1=((ws.length-1:Nat):Int):=zo;have e2:ws.length-1<ws.length:=zo;have a3:(wo ws)[ws.length-1]?=some (iv leaf):=by rw[YH,hlf];rfl
 refine vI (wd j e1 e2 a3) ?_;refine kJ (fun d=>d 6=.ptr 0 0 0 0 2/\d 8=.ptr 1 0 0 0 1/\d 9=.ptr 2 0 0 0 1/\d 10=.ptr 3 0 0 0 1/\d 11=.ptr id 0 0 0 5/\d 12=.sl io g 0 ws.length (2*ws.length) 1/\d 13=iv leaf) ⟨zu b,zu k,zu l,zu a,zu i,zt,by simp[zb]⟩ ?_;clear b k l a i;rintro d ⟨b,k,l,a,i,t,o⟩;have b0:=c.g0;have b3:=c.g3;obtain⟨⟨gP,X,MW,u,v,I,J,Y⟩,n1,n2,n3⟩:=c.und;refine ua ?_;refine bk (uN b a i o u b0) (FO.pure f96 J1 (tT v I leaf hin hN.2)) ?_;rintro e H2 ⟨q,rfl,Z,rfl⟩;refine⟨_,by simp only[go_sem]<;>rfl,?_⟩;refine lE (s1:=?_) (caps:=?_) (vs:=?_) (nm':=?_) ?_ ?_ rfl rfl ?_ ?_ hpu ?_ ?_ ?_;rotate_left 4;(first|exact trivial|(simp only[go_sem,b,b0]));(simp(disch:=omega)only[go_sem,b,b0]<;>rfl);(first|rfl|(simp only[go_sem,b,b0]<;>rfl));(simp only[go_sem,b,b0]<;>rfl);exact⟨sM v I leaf hin Z,zf.aggL ⟨.int _ _,.int _ _,trivial⟩,trivial⟩;(simp only[go_sem,b,b0]<;>rfl);refine vS (vn b a b3) ?_;refine vq b ?_;refine pG fun H3 U=>?_;have ad:=c;have c:gh H3 id iW iP w [] (.list r 1 (fr.map iv)) 0 n x (iv (pu.2:Nat)):=by rw[U];exact c.set3 _
 have ab:H3[io]?=some (.row 3 1 g 0 (wo ws)):=by rw[U];exact get_set j fun e=>by subst e;rw[ad.g3]at j;injection j with j;injection j with j;exact absurd j zy
 have a4:io ∉ [id,iW,iP]:=by
  intro h;simp only[YA,Zl,or_false]at h;rcases h with rfl|rfl|rfl
  .rw[u]at j;injection j with j;injection j with j;exact absurd j zy
  .rw[v]at j;injection j with j;injection j with j;exact absurd j zy
  .rw[J]at j;injection j with j;injection j with j;exact absurd j zy
 clear U j b0 b3 u v J ad;refine kJ (fun d=>d 6=.ptr 0 0 0 0 2/\d 8=.ptr 1 0 0 0 1/\d 9=.ptr 2 0 0 0 1/\d 10=.ptr 3 0 0 0 1/\d 11=.ptr id 0 0 0 5/\d 12=.sl io g 0 ws.length (2*ws.length) 1/\d 13=iv leaf) ⟨zu b,zu k,zu l,zu a,zu i,zu t,zu o⟩ ?_;clear b k l a i t o;rintro d ⟨b,k,l,a,i,t,o⟩;have b3:=c.g3
 by_cases hg:pu.2=0\/pu.2=3
 rotate_left
 .have g0:¬(pu.2:Int)=0:=zo;have G:¬(pu.2:Int)=3:=zo;refine vp (wd a b3 g0 G) ?_;refine vB (pt (pu.2:Nat)) ?_;exact DJ c.g1 c.g2 c.g3 (by simp[x7,zb,k]) (by simp[x7,zb,l]) (by simp[x7,zb,a]) (by rw[hbad zo zo])
 refine vj (xH (Q:=fun K m=>K=.norm/\m.tm 6=.ptr 0 0 0 0 2/\m.tm 8=.ptr 1 0 0 0 1/\m.tm 9=.ptr 2 0 0 0 1/\m.tm 10=.ptr 3 0 0 0 1/\m.tm 11=.ptr id 0 0 0 5/\m.tm 12=.sl io g 0 ws.length (2*ws.length) 1/\m.tm 13=iv leaf/\m.df=[.caught (.ptr 3 0 0 0 1) (.fn 92 [.ptr 1 0 0 0 1,.ptr 2 0 0 0 1])]/\m.H=H3) ?_ ?_)
 .by_cases h0:pu.2=0
  .rw[h0]at b3;refine vp (jX a b3) ?_;refine vi (nf 0) ?_;refine km ?_;exact⟨rfl,zu b,zu k,zu l,zu a,zu i,zu t,zu o,rfl,rfl⟩
  .have B:pu.2=3:=zo;have g0:¬(pu.2:Int)=0:=zo;have G:(pu.2:Int)=3:=zo;have a5:¬(3:Int)=0:=by decide
   have a6:gH (3:Int) 3=true:=by decide
   refine vp (wc a b3 G a5 a6) ?_;refine vi (nf 3) ?_;refine km ?_;exact⟨rfl,zu b,zu k,zu l,zu a,zu i,zu t,zu o,rfl,rfl⟩
 clear b k l a i t o;rintro K ⟨d,df,bs⟩ ⟨rfl,b,k,l,a,i,t,o,rfl,rfl⟩;dsimp only at b k l a i t o;show W ET ET.caught none (vw.seq _ _) _ _;refine vj (xH (Q:=fun K m=>(K=.norm/\(pu.2=0\/(pu.2=3/\S.2.2.2=0))/\m.tm 6=.ptr 0 0 0 0 2/\m.tm 8=.ptr 1 0 0 0 1/\m.tm 9=.ptr 2 0 0 0 1/\m.tm 10=.ptr 3 0 0 0 1/\m.tm 11=.ptr id 0 0 0 5/\m.tm 13=iv lf/\m.df=[.caught (.ptr 3 0 0 0 1) (.fn 92 [.ptr 1 0 0 0 1,.ptr 2 0 0 0 1])]/\gh m.H id iW iP W3 L3 (.list r 1 (fr.map iv)) u3 n x (iv (pu.2:Nat))) \/
  (K=.panic (vN S.2.2.2)/\pu.2=3/\¬S.2.2.2=0/\m.tm 8=.ptr 1 0 0 0 1/\m.tm 9=.ptr 2 0 0 0 1/\m.tm 10=.ptr 3 0 0 0 1/\m.df=[.caught (.ptr 3 0 0 0 1) (.fn 92 [.ptr 1 0 0 0 1,.ptr 2 0 0 0 1])]/\m.H[1]?=some (yj .nilsl)/\m.H[2]?=some (yz (iv 0))/\m.H[3]?=some (yq (iv (pu.2:Nat))))) ?_ ?_)
 .by_cases h0:pu.2=0
  .obtain⟨r1,r2,r3,M⟩:=hSn h0;have G:¬(pu.2:Int)=3:=zo;refine pD (vn a b3 G) ?_;refine .inl ⟨rfl,.inl h0,zu b,zu k,zu l,zu a,zu i,by simp[zb,o,M],rfl,?_⟩;rw[r1,r2,r3];exact c
  have B:pu.2=3:=zo;have G:(pu.2:Int)=3:=zo;refine yv (vn a b3 G) ?_;refine vp (jX i t) ?_;refine wI (h3 B _ id iW iP io g c.und ab a4) ?_;intro e H4 O;unfold EZ aD at O;have a7:=c.l1;have a8:=c.l2;have a9:=c.l3
  by_cases C:S.2.2.2=0
  rotate_left
  .rw[if_neg C]at O;obtain⟨rfl,hk⟩:=O;exact .inr ⟨rfl,B,C,by simp[x7,zb,k],by simp[x7,zb,l],by simp[x7,zb,a],rfl,hk 1 _ (by simp;omega) c.g1,hk 2 _ (by simp;omega) c.g2,hk 3 _ (by simp;omega) c.g3⟩
  rw[if_pos C]at O;obtain⟨rfl,bb,bm⟩:=O;obtain⟨r1,r2,r3,M⟩:=hS3 B C;have P:=c.keep bb bm;rw[<- r1,<- r2,<- r3]at P;have b0:=P.g0;refine zN ?_
  by_cases ah:S.2.2.1<=x.1
  .have g5:(S.2.2.1:Int)<=(x.1:Nat):=zo;rw[if_pos ah]at M;refine yv (vn b b0 g5) ?_;refine zJ ?_;exact .inl ⟨rfl,.inr ⟨B,C⟩,zu b,zu k,zu l,zu a,zu i,by simp[zb,M],rfl,P⟩
  .have g5:¬(S.2.2.1:Int)<=(x.1:Nat):=zo;rw[if_neg ah]at M;refine pD (vn b b0 g5) ?_;exact .inl ⟨rfl,.inr ⟨B,C⟩,zu b,zu k,zu l,zu a,zu i,by simp[zb,o,M],rfl,P⟩
 clear b k l a i t o c b3 ab;rintro K ⟨d,df,H4⟩ (⟨rfl,bo,b,k,l,a,i,o,rfl,c⟩|⟨rfl,B,C,k,l,a,rfl,j1,j2,j3⟩);rotate_left
 .exact DJ j1 j2 j3 k l a (by rw[hb3 B C])
 obtain⟨p1,p2,p3,p4,p5,p6,rfl⟩:=hend bo;dsimp only at b k l a i o c;have v1:W3.length<=131072:=zo;have v2:64*lf+64<=W3.length:=zo;have b0:=c.g0;have b3:=c.g3;obtain⟨⟨gP,X,MW,u,v,I,J,Y⟩,n1,n2,n3⟩:=c.und;show W ET ET.caught none (vw.seq _ _) _ _;refine vj ?_;refine ua ?_;refine bk (uN b a i o u b0) (FO.pure f96 J1 (tT v I lf v2 v1)) ?_;rintro e H5 ⟨q,rfl,Z,rfl⟩;refine⟨_,by simp only[go_sem]<;>rfl,?_⟩;refine lE (s1:=?_) (caps:=?_) (vs:=?_) (nm':=?_) ?_ ?_ rfl rfl ?_ ?_ p3 ?_ ?_ ?_;rotate_left 4;(first|exact trivial|(simp only[go_sem,b,b0]));(simp(disch:=omega)only[go_sem,b,b0]<;>rfl);(first|rfl|(simp only[go_sem,b,b0]<;>rfl));(simp only[go_sem,b,b0]<;>rfl);exact⟨sM v I lf v2 Z,zf.aggL ⟨.int _ _,.int _ _,trivial⟩,trivial⟩;(simp only[go_sem,b,b0]<;>rfl);refine vS (vn b a b3) ?_;refine vq b ?_;refine pG fun H6 av=>?_;have c:gh H6 id iW iP W3 L3 (.list r 1 (fr.map iv)) u3 n x (iv 0):=by rw[av];exact c.set3 _
 clear av b0 b3 u v J;have b3:=c.g3;refine kJ (fun d=>d 8=.ptr 1 0 0 0 1/\d 9=.ptr 2 0 0 0 1/\d 10=.ptr 3 0 0 0 1/\d 11=.ptr id 0 0 0 5/\d 13=iv lf/\d 16=.list 0 2 (tk.map vm)) ⟨zu k,zu l,zu a,zu i,zu o,by simp[zb]⟩ ?_;clear b k l a i o;rintro d ⟨k,l,a,i,o,bp⟩;refine vp (wc a i o bp b3) ?_;refine wI (Gd c.und lf tk (fun s hs=>by have:=p5 s hs;omega) zo v1 zo) ?_;rintro e H7 ⟨rfl,a0,a1⟩;refine zN ?_;have D:=c.keep a0 a1;clear c a0 a1 b3;generalize vY (64*lf) tk=L4 at *
 have b1:=D.g1;have b2:=D.g2;have b3:=D.g3;have a7:=D.l1;obtain⟨⟨gP,X,MW,u,v,I,J,Y⟩,n1,n2,n3⟩:=D.und;have t1:∀y,(H7.set 1 y)[id]?=_:=fun y=>get_set u zo;have t2:∀y,(H7.set 1 y)[2]?=_:=fun y=>get_set b2 zy;have t3:∀y z,((H7.set 1 y).set 2 z)[3]?=_:=fun y z=>get_set (get_set b3 zy) zy;refine wH ?_;refine vS (wc k l i u b1) ?_;have V:(id==1)=false:=by simp;omega
 have a2:(id==2)=false:=by simp;omega
 refine ki (uN k l i t1 t2 V) ?_;refine ki (wd a t3 V a2) ?_;refine rE (vn a V a2) ?_;refine gm ?_;simp only[go_sem];show W ET ET.caught none vw.ret _ _;have k1:=(Yl.1 b1).1;have k2:=(Yl.1 b2).1;have k3:=(Yl.1 b3).1;have a8:=D.l2;have a9:=D.l3;generalize L3++L4=L5 at *
 refine pG fun T N=>?_;have i1:T[1]?=some (yj (.sl iP gP 0 L5.length (2*L5.length) 2)):=by rw[N];exact get_set (get_set (Yz k1) zy) zy
 have i2:T[2]?=some (yz (iv u3)):=by rw[N];exact get_set (Yz (by simpa using k2)) zy
 have i3:T[3]?=some (yq (iv 0)):=by rw[N];exact Yz (by simpa using k3)
 have u6:T[iP]?=some (.row 120 2 gP X (L5.map vm)):=by rw[N];exact get_set (get_set (get_set J zo) zo) zo
 clear N;refine vt ?_;refine⟨[.sl iP gP 0 L5.length (2*L5.length) 2,iv u3,iv 0],by simp[T55,xT,zj,zq,zb,k,l,a,zD,zA,zF,zW,i1,i2,i3,PV.cells],?_⟩;exact zf.tL ⟨zf.wM u6 Y rfl (by rw[Yw]) (by rw[Yw];exact Ym _) uo m6,.int _ _,.int _ _,trivial⟩
theorem Vn(w:LN)(a:Int)(x:Pr)(fr:LH)(no:Nat)(h:∀H,FO ET 93 [wv p w,iv a,.list r 1 (fr.map iv)] H false fun e H'=>e=.panic (vN no)/\H'=H):FR 55 [wv p w,iv a,pv x,.list r 1 (fr.map iv)] (pU ([],0,no)):=by
 refine qv (eG T55 func55) (C0 _) ?_;refine wu ?_;refine gZ (f:=91) (p:=.ptr 3 0 0 0 1) (cl:=.fn 92 [.ptr 1 0 0 0 1,.ptr 2 0 0 0 1]) ?_ ?_ eS ?_
 .rfl
 .simp only[go_sem]<;>rfl
 refine zN ?_;refine zI ?_;refine wI (h _) ?_;rintro e H ⟨rfl,rfl⟩;exact DJ rfl rfl rfl rfl rfl rfl rfl


@[reducible] def nd (w:LN) (b:Nat):zi:=headN (jW w b)
def Lv(w:LN)(lv:Nat):LB->LN->Prop
 | _,[]=>True
 | pl,b::bs=>(1<=b/\64*b+64<=w.length)/\headB (jW w b)=true/\(nd w b).level=lv/\(nd w b).sib=bs.headD 0/\after pl (nd w b).low/\Lv w lv (some (nd w b).low) bs
def my(w:LN)(A:LN):LP:=A.map fun b=>((nd w b).low,b)
def yI(w:LN)(A:LN):vh:=(A,A.map (nd w))
def Lo(w:LN)(n:Nat)(P:LP):Nat->Nat->LP->List (LN)->Prop
 | _,c,_,[]=>w.getD n 0=c
 | lv,c,has,A::U=>A ≠ []/\Lv w lv none A/\(match lv with
   | 0=>vQ (A.map (nd w))=P/\∀b∈A,∀p∈(nd w b).pairs,(nd w b).low<=p.1
   | _+1=>(nd w (A.headD 0)).left=c/\∀b∈A,∀q∈uH (nd w b),∃l,(l,q.2)∈has/\l<=q.1)/\Lo w n P (lv+1) (A.headD 0) (my w A) U
theorem D3(w:LN)(lv:Nat)(wM:Int)(hwant:wM<0\/(lv:Int)=wM):∀(bs:LN) (pl:LB) (accb:LN) (accn:LC) (seen:LN) (k:Nat),Lv w lv pl bs->(accn.getLast?.map zi.low=pl)->(∀z,accn.getLast?=some z->z.level=lv)->bs.Nodup->(∀b∈bs,b ∉ seen)->kZ (w.length/64) seen<=k->wW w wM k seen accb accn (bs.headD 0)=some (bs.reverse++seen,accb++bs,accn++bs.map (nd w))
 | [],pl,accb,accn,seen,k,_,_,_,_,_,_=>by cases k<;>simp[wW]
 | b::bs,pl,accb,accn,seen,k,d,a,m,f,g,q=>by
  obtain⟨⟨h1,h2⟩,o,hl,l,h,j⟩:=d;have i:¬seen.contains b=true:=by rw[zBP9];exact g b (Yp ..)
  have p:=Bh (w.length/64) b seen zo i;rw[ZF]at f
  match k with
  | 0=>omega
  | k+1 =>
   rw[zAZ9,wW,if_neg zo,if_neg (by simp only[Z6,decide_eq_true_eq,not_or];exact⟨by omega,i⟩),o,if_pos]
   .rw[l,D3 w lv wM hwant bs (some (nd w b).low) (accb++[b]) (accn++[nd w b]) (b::seen) k j (by simp) (fun z hz=>by simp at hz;subst hz;exact hl) f.2 ?_ zo]
    .simp
    .intro c d;have n:¬c=b:=by intro e;subst e;exact f.1 d
     have:=g c (Ys _ d);simpa[n]using this
   .rw[ZH];unfold pi
    cases hz:accn.getLast? with
    | none =>
     rw[hz]at a;simp at a;subst a;simp only[Yr,Z6,decide_eq_true_eq];exact⟨h,by rw[hl];exact hwant⟩
    | some z =>
     rw[hz]at a;simp at a;subst a;simp only[Yr,decide_eq_true_eq];exact⟨h,by rw[hl,m z hz]⟩
theorem Lv.node{lv:Nat}:∀{A:LN} {pl:LB},Lv w lv pl A->∀b∈A,(1<=b/\64*b+64<=w.length)/\headB (jW w b)=true/\(nd w b).level=lv
 | a::A,pl,h,b,c=>by
  rcases YA.1 c with rfl|c
  .exact⟨h.1,h.2.1,h.2.2.1⟩
  .exact Lv.node h.2.2.2.2.2 b c
theorem IP{n:Nat}{P:LP}:∀(U:List (LN)) (lv c:Nat) (has:LP),Lo w n P (lv+1) c has U->U.flatten.Nodup->U.length<=13->∃seen wM,vK w n=wZ w (14-U.length) seen (U.reverse.map (yI w)) c wM/\(wM<0\/(lv:Int)=wM)/\∀x∈seen,x∈U.flatten
 | [],lv,c,has,h,_,_=>⟨[],-1,by unfold vK;rw[show w.getD n 0=c from h];rfl,.inl zy,fun x a=>by cases a⟩
 | A::U,lv,c,has,h,g,hl=>by
  obtain⟨l,j,⟨i,_⟩,m⟩:=h;rw[zAA9,ZS]at g;rw[Yq]at hl;obtain⟨seen,wM,e,o,k⟩:=IP U (lv+1) _ _ m g.2.1 zo;have r:=D3 w (lv+1) wM o A none [] [] seen (w.length/64) j rfl (by simp) g.1 (fun b p a=>g.2.2 b p b (k b a) rfl) (rt _ _);obtain⟨d,hd⟩:∃d,14-U.length=d+1:=⟨13-U.length,by omega⟩
  obtain⟨b,f,rfl⟩:∃b f,A=b::f:=by
   cases A with
   | nil=>exact absurd rfl l
   | cons b f=>exact⟨b,f,rfl⟩
  refine⟨(b::f).reverse++seen,(lv+1:Nat)-1,?_,.inr zo,fun x a=>?_⟩
  .have h1:=(j.node b (Yp ..)).2.2;rw[e,hd,wZ,r];simp only[YC,YL];have q:((b::f)::U).reverse.map (yI w)=U.reverse.map (yI w)++[yI w (b::f)]:=by rw[ZT,YJ];rfl
   replace i:(nd w b).left=c:=i
   rw[if_neg zo,show 14-((b::f)::U).length=d by rw[Yq];omega,q,i,h1];rfl
  .rw[zAA9,YM];rcases YM.1 a with a|a
   .exact .inl (zAE9.1 a)
   .exact .inr (k x a)
structure Rd(w:LN)(n:Nat)(P:LP)(B:List (LN)):Prop where
 lo:Lo w n P 0 0 [] B
 ne:B ≠ []
 nodup:B.flatten.Nodup
 few:B.length<=14
 rise:vz P=true
variable {P:LP}
theorem Rd.read{B:List (LN)}(h:Rd w n P B):vK w n=(B.reverse.map (yI w),true):=by
 obtain⟨i,j,c,l,m⟩:=h
 match B,j with
 | A::U,_ =>
 obtain⟨k,f,⟨g,_⟩,o⟩:=i;rw[zAA9,ZS]at c;rw[Yq]at l;obtain⟨seen,wM,e,p,q⟩:=IP U 0 _ _ o c.2.1 zo;have r:=D3 w 0 wM p A none [] [] seen (w.length/64) f rfl (by simp) c.1 (fun b s t=>c.2.2 b s b (q b t) rfl) (rt _ _);obtain⟨d,hd⟩:∃d,14-U.length=d+1:=⟨13-U.length,by omega⟩
 obtain⟨b,a,rfl⟩:∃b a,A=b::a:=by
  cases A with
  | nil=>exact absurd rfl k
  | cons b a=>exact⟨b,a,rfl⟩
 have h1:=(f.node b (Yp ..)).2.2;rw[e,hd,wZ,r];simp only[YC,YL];rw[YL]at g;have u:((b::a)::U).reverse.map (yI w)=U.reverse.map (yI w)++[yI w (b::a)]:=by rw[ZT,YJ];rfl
 rw[if_pos h1,g,m,u];rfl
theorem Rd.pairs{A:LN}{U:List (LN)}(h:Rd w n P (A::U)):vQ (A.map (nd w))=P:=h.lo.2.2.1.1


def Dn(w:LN)(P:LP):Nat->List (LN)->Prop
 | _,[]=>False
 | b,A::X=>A ≠ []/\A.headD 0=b/\Lv w X.length none A/\(match X with
   | []=>vQ (A.map (nd w))=P
   | _::_=>Dn w P (nd w (A.headD 0)).left X)
theorem Kp{wM:Int}:∀(k:Nat) (seen bs:LN) (ns:LC) (b:Nat) (r:LN×LN×LC),wW w wM k seen bs ns b=some r->∃X,r.2.1=bs++X/\r.2.2=ns++X.map (nd w)/\b=X.headD 0/\(∀z,ns.getLast?=some z->Lv w z.level (some z.low) X)/\(ns=[]->∀c Y,X=c::Y->Lv w (nd w c).level none X/\(wM<0\/((nd w c).level:Int)=wM))
 | 0,seen,bs,ns,b,r,h=>by
  rw[wW]at h
  split at h
  .injection h with h;subst h;exact⟨[],by simp,by simp,by assumption,fun _ _=>trivial,fun _ c Y e=>by cases e⟩
  .cases h
 | k+1,seen,bs,ns,b,r,h=>by
  rw[wW]at h
  split at h
  .injection h with h;subst h;exact⟨[],by simp,by simp,by assumption,fun _ _=>trivial,fun _ c Y e=>by cases e⟩
  rename_i m
  split at h
  .cases h
  rename_i i;simp only[Z6,decide_eq_true_eq,not_or]at i
  split at h
  rotate_left
  .cases h
  rename_i a;rw[Yr]at a;obtain⟨X,j,l,g,d,_⟩:=Kp k _ _ _ _ r h;have d:=d (nd w b) (by simp);have f:1<=b/\64*b+64<=w.length:=zo;refine⟨b::X,by rw[j];simp,by rw[l];simp,rfl,fun z hz=>?_,fun hn c Y e=>?_⟩
  .have h2:=a.2;unfold pi at h2;rw[hz]at h2;simp only[Yr,decide_eq_true_eq]at h2;exact⟨f,a.1,h2.2,g,h2.1,by rw[<- h2.2];exact d⟩
  .injection e with e _;subst e;have h2:=a.2;unfold pi at h2;rw[hn]at h2;simp only[List.getLast?_nil,Yr,Z6,decide_eq_true_eq]at h2;exact⟨⟨f,a.1,rfl,g,h2.1,d⟩,h2.2⟩
theorem Kj:∀(d:Nat) (seen:LN) (acc:List vh) (b:Nat) (wM:Int),(wZ w d seen acc b wM).2=true->∃X P,(wZ w d seen acc b wM).1=acc++X.map (yI w)/\Dn w P b X/\vz P=true/\X.length<=d/\(0<=wM->(X.length:Int)=wM+1)
 | 0,_,_,_,_,h=>by cases h
 | d+1,seen,acc,b,wM,h=>by
  rw[wZ]at h⊢
  cases f:wW w wM (w.length/64) seen [] [] b with
  | none=>rw[f]at h;cases h
  | some r =>
   obtain⟨X,g,i,j,_,a⟩:=Kp _ _ _ _ _ r f;obtain⟨s,m,t⟩:=r;rw[f]at h;simp only[YC]at g i;subst g i
   cases m with
   | nil=>cases h
   | cons c Y =>
    obtain⟨a,e⟩:=a rfl c Y rfl;rw[YL]at h⊢;dsimp only at h⊢
    by_cases h0:(nd w c).level=0
    .rw[if_pos h0]at h⊢;rw[h0]at a;exact⟨[c::Y],_,by simp[yI],⟨by simp,j.symm,a,rfl⟩,h,by simp,fun n=>by
      rw[h0]at e;show ((1:Nat):Int)=_;omega⟩
    .rw[if_neg h0]at h⊢;obtain⟨X,P,o,k,p,u,l⟩:=Kj d _ _ _ _ h;have l:=l zo;have q:X.length=(nd w c).level:=zo;refine⟨(c::Y)::X,P,by rw[o];simp[yI],⟨by simp,j.symm,by rw[q];exact a,?_⟩,p,by rw[Yq];omega,fun n=>by
      rw[Yq];rcases e with e|e
      .omega
      .omega⟩
     cases X with
     | nil=>exact k.elim
     | cons A X=>exact k
def cP(w:LN):List (LN)->Prop
 | []=>True
 | A::X=>(∀b∈A,wi (jW w b)=0)/\(∀(A1 A2:LN) (b c:Nat),A=A1++b::c::A2->∀p∈(nd w b).pairs,p.1<(nd w c).low)/\(∀M∈X.head?,(A.map (nd w)).flatMap uH=my w M)/\cP w X
theorem To(w:LN)(A:LN):yB (yI w A)=my w A:=by
 unfold yB yI my;dsimp only
 induction A with
 | nil=>rfl
 | cons a A b=>rw[YL,YL,List.zip_cons_cons,b,YL]
theorem Dp:∀(A:LN),kb w A (A.map (nd w))=true->(∀b∈A,wi (jW w b)=0)/\∀(A1 A2:LN) (b c:Nat),A=A1++b::c::A2->∀p∈(nd w b).pairs,p.1<(nd w c).low
 | [],_=>⟨fun b d=>(by cases d),fun A1 A2 b c e=>(by cases A1<;>cases e)⟩
 | a::A,h=>by
  rw[YL,kb,Yr,Yr,decide_eq_true_eq]at h;obtain⟨⟨h1,h2⟩,h3⟩:=h;obtain⟨j,k⟩:=Dp A h3;refine⟨fun b d=>?_,fun A1 A2 b c e p g=>?_⟩
  .rcases YA.1 d with rfl|d
   .exact h1
   .exact j b d
  .cases A1 with
   | nil =>
    injection e with i f;subst i f;obtain⟨q,l,m⟩:=SK (aU h1).good.rise g;unfold nV at h2;rw[l]at h2;have:=of_decide_eq_true h2;exact zBB9 m this
   | cons x A1 =>
    injection e with i f;exact k A1 A2 b c f p g
theorem IB:∀(X:List (LN)),ka w (X.map (yI w))=true->cP w X
 | [],_=>trivial
 | [A],h=>by
  have:=Dp A h;exact⟨this.1,this.2,fun M b=>by simp at b,trivial⟩
 | A::M::X,h=>by
  rw[YL,YL,ka,Yr,Yr,decide_eq_true_eq]at h;have:=Dp A h.1.1;refine⟨this.1,this.2,fun N a=>?_,IB (M::X) (by rw[YL];exact h.2)⟩;simp at a;subst a;rw[<- To];exact h.1.2
theorem Gz{n:Nat}{P:LP}:∀(X:List (LN)) (b:Nat) (U:List (LN)),Dn w P b X->cP w X->Lo w n P X.length b (my w (X.headD [])) U->Lo w n P 0 0 [] (X.reverse++U)
 | [],_,_,h,_,_=>h.elim
 | [A],b,U,h,a,e=>by
  obtain⟨h1,h2,h3,h4⟩:=h;refine⟨h1,h3,⟨h4,fun c d p g=>?_⟩,by rw[h2];exact e⟩;have:=(aU (a.1 c d)).good.may p g;have f:(headN (jW w c)).level=0:=(h3.node c d).2.2;unfold uT at this;rw[if_pos f]at this;simp only[Yr,decide_eq_true_eq]at this;exact this.2
 | A::M::X,b,U,h,a,e=>by
  obtain⟨h1,h2,h3,h4⟩:=h;rw[ZT,YI];refine Gz (M::X) _ _ h4 a.2.2.2 ⟨h1,h3,⟨rfl,fun c d q i=>⟨q.1,?_,Ym _⟩⟩,by rw[h2];exact e⟩;have:=a.2.2.1 M rfl;show (q.1,q.2)∈my w M;rw[<- this];exact YG.2 ⟨nd w c,Yx.2 ⟨c,d,rfl⟩,i⟩
theorem Ie(key:Nat):∀(l:LP) (k0 left:Nat),k0<=key->vz l=true->∃K1 k c K2,(k0,left)::l=K1++(k,c)::K2/\kQ left l key=c/\k<=key/\∀q∈K2,key<q.1
 | [],k0,left,h,_=>⟨[],k0,left,[],rfl,rfl,h,fun q b=>by cases b⟩
 | a::l,k0,left,h,e=>by
  by_cases f:a.1<=key
  .obtain⟨K1,k,c,K2,i1,i2,i3⟩:=Ie key l a.1 a.2 f (oY e 1);refine⟨(k0,left)::K1,k,c,K2,by rw[Yy,<- i1],?_,i3⟩;unfold kQ at i2⊢;rw[Z5,if_pos f];exact i2
  .have i:=Zu.1 (dL.1 e);have d:∀q∈a::l,key<q.1:=fun q b=>by
    rcases YA.1 b with rfl|b
    .omega
    .have:=i.1 q b;omega
   refine⟨[],k0,left,a::l,rfl,?_,h,d⟩;unfold kQ
   suffices ∀m:LP,(∀q∈m,key<q.1)->m.foldl (fun a q=>if q.1<=key then q.2 else a) left=left from this _ d
   intro m g
   induction m with
   | nil=>rfl
   | cons q m j =>
    rw[Z5,if_neg (by have:=g q (Yp ..);omega)];exact j fun q b=>g q (Ys _ b)
def ew(w:LN)(key b:Nat)(A:LN):Prop:=∃A1 A2,A=A1++b::A2/\(nd w b).low<=key/\∀d,A2.head?=some d->key<(nd w d).low
variable {key:Nat}
theorem Mu{P:LP}:∀(X:List (LN)) (b0 b:Nat) (ws:LN),Dn w P b0 X->cP w X->ew w key b (X.headD [])->ws[0]?=some b->(∀(i:Nat) (b c:Nat),ws[i]?=some b->ws[i+1]?=some c->yL (jW w b) key=(c,0))->(∀b,ws.getLast?=some b->¬(yL (jW w b) key).2=0)->∃leaf A,ws.getLast?=some leaf/\X.getLast?=some A/\ew w key leaf A
 | [],_,_,_,h,_,_,_,_,_=>h.elim
 | A::X,b0,b,ws,h,u,v,o,B,L=>by
  obtain⟨h1,h2,h3,h4⟩:=h;have I:b∈A:=by
   obtain⟨p,j,e,_⟩:=v;rw[show A=p++b::j from e];simp
  have t:=u.1 b I;have J:=(h3.node b I).2.2;obtain⟨n,rfl⟩:∃n,ws=b::n:=by
   cases ws with
   | nil=>cases o
   | cons a l=>injection o with o;exact⟨l,by rw[o]⟩
  cases X with
  | nil =>
   have hl:yL (jW w b) key=(0,2):=by
    have S:(headN (jW w b)).level=0:=J;unfold yL;rw[if_pos t,if_pos S]
   cases n with
   | nil=>exact⟨b,A,rfl,rfl,v⟩
   | cons c r =>
    have:=B 0 b c rfl rfl;rw[hl]at this
    cases this
  | cons M X =>
   have N:yL (jW w b) key=(kQ (nd w b).left (nd w b).pairs key,0):=by
    unfold yL;rw[if_pos t,if_neg (by rw[J,Yq];omega)]
   cases n with
   | nil =>
    have:=L b rfl;rw[N]at this;exact absurd rfl this
   | cons c r =>
    have e:=B 0 b c rfl rfl;rw[N]at e;injection e with e _;have V:=(aU t).good;obtain⟨p,j,C,T,U⟩:=v
    replace C:A=p++b::j:=C
    obtain⟨O,k,c',s,Y,Q,i3,Z⟩:=Ie key (nd w b).pairs (nd w b).low (nd w b).left T V.rise;rw[e]at Q;subst Q;have K:=u.2.2.1 M rfl;rw[C,YJ,Zj,YL,YT,show uH (nd w b)=O++(k,c)::s from Y]at K;have G:my w M=((p.map (nd w)).flatMap uH++O)++(k,c)::(s++(j.map (nd w)).flatMap uH):=by rw[<- K];simp
    unfold my at G;obtain⟨D,M',rfl,m1,m2⟩:=List.map_eq_append_iff.1 G;obtain⟨d,m,rfl,R,f⟩:=List.map_eq_cons_iff.1 m2;injection R with R m5;subst m5;have hH:ew w key d (D++d::m):=by
     refine⟨D,m,rfl,by omega,fun x g=>?_⟩
     cases m with
     | nil=>cases g
     | cons y m =>
      injection g with g;subst g;rw[YL]at f
      cases s with
      | cons q s =>
       rw[Yy]at f;injection f with f _;have:=Z q (Yp ..);rw[<- f]at this;exact this
      | nil =>
       cases j with
       | nil=>cases f
       | cons z j =>
        rw[YC,YL,YT]at f;injection f with f _;have:=U z rfl;injection f with f _;rw[f];exact this
    obtain⟨leaf,A',j1,j2,j3⟩:=Mu ((D++d::m)::X) _ d (d::r) h4 u.2.2.2 hH rfl (fun i x y g hy=>B (i+1) x y g hy) fun x g=>L x (by rw[ZB];exact g);exact⟨leaf,A',by rw[ZB];exact j1,by rw[ZB];exact j2,j3⟩
theorem WY{n:Nat}{ws:LN}(ht:(vK w n).2=true)(hs:pz w (vK w n).1=true)(hnd:((vK w n).1.flatMap Prod.fst).Nodup)(hlen:(vK w n).1.length<=14)(hW:eB w (w.getD n 0) key ws):∃P A U leaf,Rd w n P (A::U)/\cP w (A::U).reverse/\ws.getLast?=some leaf/\ew w key leaf A:=by
 obtain⟨X,P,e,hd,m,_,_⟩:=Kj 14 [] [] (w.getD n 0) (-1) ht;have i:(vK w n).1=X.map (yI w):=e;unfold pz at hs;rw[Yr,i]at hs;have g:=IB X hs.2;have h:=Gz (n:=n) X _ [] hd g (by show w.getD n 0=_;rfl);rw[Y8]at h;have o:ew w key (w.getD n 0) (X.headD []):=by
  cases X with
  | nil=>exact hd.elim
  | cons A X =>
   obtain⟨h1,h2,h3,_⟩:=hd;obtain⟨b,f,rfl⟩:∃b f,A=b::f:=by
    cases A with
    | nil=>exact absurd rfl h1
    | cons b f=>exact⟨b,f,rfl⟩
   have k:(nd w b).low=0:=h3.2.2.2.2.1;have ht:=hs.1;rw[YL]at ht;have s:(nd w b).sib=0:=of_decide_eq_true ht;have l:f=[]:=by
    have p:=h3.2.2.2.1
    cases f with
    | nil=>rfl
    | cons c f =>
     have:=h3.2.2.2.2.2.1;rw[zAZ9]at p;omega
   subst l;rw[zAZ9]at h2;subst h2;exact⟨[],[],rfl,by rw[k];exact Yv _,fun d hd=>by cases hd⟩
 obtain⟨leaf,A,j1,j2,j3⟩:=Mu X _ _ ws hd g o hW.first hW.next hW.last;obtain⟨Y,rfl⟩:∃Y,X=Y++[A]:=⟨X.dropLast,by
  have j:X ≠ []:=fun e=>by rw[e]at j2;cases j2
  have h1:=Z1 j;rw[zAC9 j]at j2;injection j2 with j2;rw[<- j2];exact h1.symm⟩
 rw[List.reverse_append,List.reverse_singleton]at h;refine⟨P,A,Y.reverse,leaf,⟨h,by simp,?_,?_,m⟩,by simpa using g,j1,j3⟩
 .rw[i,List.flatMap_map]at hnd;have q:((Y++[A]).flatMap fun a=>(yI w a).1)=(Y++[A]).flatten:=List.flatMap_id';rw[q]at hnd;have r:(A::Y.reverse).Perm (Y++[A]):=by
   have:=(List.reverse_perm (Y++[A]))
   rwa [List.reverse_append,List.reverse_singleton]at this
  exact(r.flatten).nodup_iff.2 hnd
 .rw[i,Yw,Yn]at hlen;simpa using hlen


structure kl(w:LN)(b:Nat)(v:LN):Prop where
 len:v.length=w.length
 blk:∀c,c≠b->jW v c=jW w c
 get:∀n,n/64≠b->v.getD n 0=w.getD n 0
variable {A:LN}{B:LN->Prop}{b lv:Nat}{v:LN}
theorem kl.step{s a:Nat}(h:kl w b v)(hs:s<64)(hb:64*b+64<=w.length):kl w b (v.set (64*b+s) a)/\jW (v.set (64*b+s) a) b=(jW v b).set s a:=by
 have hl:∀t∈[(s,a)],t.1<64:=fun t e=>by rw[YQ.1 e];exact hs
 refine⟨⟨by rw[Y1];exact h.len,fun c d=>?_,fun n hn=>?_⟩,BS b [(s,a)] v (by rw[h.len];exact hb) hl⟩
 .rw[<- h.blk c d];exact Ow (Ne.symm d) [(s,a)] v hl
 .rw[sO _ _ _ _ zo];exact h.get n hn
theorem EA(hb:64*b+64<=w.length):∀(S:LP) (v:LN),kl w b v->(∀s∈S,s.1<64)->uP B (jW v b) S->uP (fun v=>kl w b v/\B (jW v b)) v (vY (64*b) S)
 | [],v,h,_,t=>⟨h,t⟩
 | s::S,v,h,c,t=>by
  have d:=h.step (a:=s.2) (c s (Yp ..)) hb;exact⟨⟨h,t.1⟩,EA hb S _ d.1 (fun x e=>c x (Ys _ e)) (by rw[d.2];exact t.2)⟩
theorem Mk{C:LN->Prop}{S:LP}(hb:64*b+64<=w.length)(hs:∀s∈S,s.1<64)(t:pF B C (jW w b) S):pF (fun v=>kl w b v/\B (jW v b)) (fun v=>kl w b v/\C (jW v b)) w (vY (64*b) S):=by
 obtain⟨I,s,J,rfl,t1,t2⟩:=t;have h1:=EA hb I w ⟨rfl,fun _ _=>rfl,fun _ _=>rfl⟩ (fun x c=>hs x (ZO _ c)) t1;have e:jW (jZ w (vY (64*b) I)) b=jZ (jW w b) I:=BS b I w hb fun x c=>hs x (ZO _ c);have d:=h1.last.1.step (a:=s.2) (hs s (by simp)) hb;rw[e]at d;refine⟨vY (64*b) I,(64*b+s.1,s.2),vY (64*b) J,by unfold vY;simp,h1,?_⟩;exact EA hb J _ d.1 (fun x c=>hs x (by simp[c])) (by rw[d.2];exact t2)
theorem pF.mono{P P' Q Q':LN->Prop}(h1:∀w,P w->P' w)(h2:∀w,Q w->Q' w)(t:pF P Q w l):pF P' Q' w l:=by
 obtain⟨I,s,J,e,t1,t2⟩:=t;exact⟨I,s,J,e,t1.mono h1,t2.mono h2⟩
theorem Dc(hl:v.length=w.length):∀{A:LN} {pl:LB},(∀c∈A,headB (jW v c)=true/\(nd v c).level=(nd w c).level/\(nd v c).sib=(nd w c).sib/\(nd v c).low=(nd w c).low)->Lv w lv pl A->Lv v lv pl A
 | [],_,_,_=>trivial
 | a::A,pl,b,h=>by
  obtain⟨h1,h2,h3,h4,e,f⟩:=h;obtain⟨g,i,j,d⟩:=b a (Yp ..);exact⟨by rw[hl];exact h1,g,i.trans h3,j.trans h4,by rw[d];exact e,by rw[d];exact Dc hl (fun c k=>b c (Ys _ k)) f⟩
theorem Rm(h:A ≠ []):A.headD 0∈A:=by
 cases A with
 | nil=>exact absurd rfl h
 | cons a A=>exact Yp ..
theorem IN{P P':LP}(hl:v.length=w.length)(hn:v.getD n 0=w.getD n 0):∀(U:List (LN)) (lv c:Nat) (has:LP),(∀b∈U.flatten,jW v b=jW w b)->Lo w n P (lv+1) c has U->Lo v n P' (lv+1) c has U
 | [],_,_,_,_,h=>hn.trans h
 | A::U,lv,c,has,f,h=>by
  obtain⟨h1,h2,⟨h3,h4⟩,g⟩:=h;have e:∀b∈A,jW v b=jW w b:=fun b a=>f b (by rw[zAA9];exact ZO _ a);have d:∀b∈A,nd v b=nd w b:=fun b a=>by show headN _=headN _;rw[e b a]
  have el:my v A=my w A:=Zh fun b a=>by rw[d b a]
  refine⟨h1,Dc hl (fun b a=>?_) h2,⟨by rw[d _ (Rm h1)];exact h3,fun b a=>by rw[d b a];exact h4 b a⟩,?_⟩
  .rw[e b a,d b a];exact⟨(h2.node b a).2.1,rfl,rfl,rfl⟩
  .rw[el];exact IN hl hn U _ _ _ (fun b i=>f b (by rw[zAA9];exact Z3 _ i)) g
theorem Ai{P P':LP}{U:List (LN)}(h:Rd w n P (A::U))(hb:b∈A)(hu:kl w b v)(hn:n/64≠b)(hN:Nd { nd w b with pairs:=l } (jW v b))(hl:∀p∈l,(nd w b).low<=p.1)(hP:vQ (A.map (nd v))=P')(hr:vz P'=true):Rd v n P' (A::U):=by
 obtain⟨⟨h1,h2,⟨h3,h4⟩,j⟩,_,g,k,_⟩:=h;obtain⟨m,y,i⟩:=hN;have hd:∀c∈A,headB (jW v c)=true/\(nd v c).level=(nd w c).level/\(nd v c).sib=(nd w c).sib/\(nd v c).low=(nd w c).low:=fun c a=>by
  by_cases e:c=b
  .subst e;show _/\(headN (jW v c)).level=_/\(headN (jW v c)).sib=_/\(headN (jW v c)).low=_;rw[i];exact⟨m,rfl,rfl,rfl⟩
  .show _/\(headN (jW v c)).level=_/\(headN (jW v c)).sib=_/\(headN (jW v c)).low=_;rw[hu.blk c e];exact⟨(h2.node c a).2.1,rfl,rfl,rfl⟩
 have el:my v A=my w A:=Zh fun c a=>by rw[(hd c a).2.2.2]
 have f:=g;rw[zAA9,ZS]at f;refine⟨⟨h1,Dc hu.len hd h2,⟨hP,fun c a p d=>?_⟩,by rw[el];exact IN hu.len (hu.get n hn) U _ _ _ (fun c a=>hu.blk c fun e=>f.2.2 b hb c a e.symm) j⟩,by simp,g,k,hr⟩
 by_cases e:c=b
 .subst e;have o:(nd v c).pairs=l:=by show (headN (jW v c)).pairs=l;rw[i]
  rw[(hd c a).2.2.2];rw[o]at d;exact hl p d
 .have:nd v c=nd w c:=by show headN _=headN _;rw[hu.blk c e]
  rw[this]at d⊢;exact h4 c a p d
@[reducible] def Cd (l:Nat):zi:=⟨0,0,l,0,0,[]⟩
theorem Iw(x:zi)(M2:LC):∀M1:LC,vQ (M1++x::M2)=vQ (M1++[Cd x.low])++vQ (x::M2)
 | []=>by simp[vQ]
 | n::M=>by
  rw[Yy,Yy,vQ,vQ,Iw x M2 M,YI]
  congr 2
  cases M<;>rfl
theorem Lv.lt{l:Nat}:∀{A:LN},Lv w lv (some l) A->∀b∈A,l<(nd w b).low
 | a::A,h,b,c=>by
  have d:l<(nd w a).low:=h.2.2.2.2.1;rcases YA.1 c with rfl|c
  .exact d
  .have:=Lv.lt h.2.2.2.2.2 b c;omega
theorem Iy{A2:LN}:∀(A1:LN) (pl:LB),Lv w lv pl (A1++b::A2)->∀p∈vQ (A1.map (nd w)++[Cd (nd w b).low]),p.1<(nd w b).low
 | [],_,_,p,d=>by simp[vQ]at d
 | a::A1,pl,h,p,d=>by
  rw[YL,Yy,vQ,YM]at d;rcases d with d|d
  .have e:=(Zk.1 d).2
   cases A1 with
   | nil =>
    unfold pO at e;simpa using e
   | cons c A1 =>
    unfold pO at e;simp only[YL,Yy,List.head?_cons,ZA,decide_eq_false_iff_not]at e;have f:Lv w lv (some (nd w a).low) (c::(A1++b::A2)):=h.2.2.2.2.2;have:=f.2.2.2.2.2.lt b (by simp);omega
  .exact Iy A1 _ h.2.2.2.2.2 p d
theorem Iv:∀(A:LN),∀p∈vQ (A.map (nd w)),∃c∈A,p∈(nd w c).pairs
 | [],p,b=>by simp[vQ]at b
 | a::A,p,b=>by
  rw[YL,vQ,YM]at b;rcases b with b|b
  .exact⟨a,Yp ..,(Zk.1 b).1⟩
  .obtain⟨c,h1,h2⟩:=Iv A p b;exact⟨c,Ys _ h1,h2⟩
theorem Lv.drop:∀(A1:LN) {b:Nat} {A2:LN} {pl:LB},Lv w lv pl (A1++b::A2)->Lv w lv (some (nd w b).low) A2
 | [],_,_,_,h=>h.2.2.2.2.2
 | _::A1,_,_,_,h=>Lv.drop A1 h.2.2.2.2.2
structure eC(w:LN)(n:Nat)(P:LP)(A:LN)(U:List (LN))(b key:Nat)(pre post:LP):Prop where
 rd:Rd w n P (A::U)
 mem:b∈A
 n':n/64≠b
 inn:64*b+64<=w.length
 lo:(nd w b).low<=key
 P':P=pre++((nd w b).pairs++post)
 pre':∀p∈pre,p.1<key
 post':∀p∈post,key<p.1
 other:∀v l,kl w b v->Nd { nd w b with pairs:=l } (jW v b)->(∀p∈l,p.1<=key\/p∈(nd w b).pairs)->vQ (A.map (nd v))=pre++(l++post)
variable {U:List (LN)}{post pre:LP}
theorem S9(h:Rd w n P (A::U))(hs:cP w (A::U).reverse)(hH:ew w key b A)(hn:n/64≠b):∃pre post,eC w n P A U b key pre post:=by
 obtain⟨f,a,rfl,k,o⟩:=hH;obtain⟨⟨h1,h2,⟨h3,h4⟩,M⟩,_,t,N,O⟩:=id h;have u:∀(X:List (LN)) (A:LN),cP w X->A∈X->(∀(f a:LN) (b c:Nat),A=f++b::c::a->∀p∈(nd w b).pairs,p.1<(nd w c).low):=fun X=>by
  induction X with
  | nil=>intro A _ h;cases h
  | cons B X C =>
   intro A hs j;rcases YA.1 j with rfl|j
   .exact hs.2.1
   .exact C A hs.2.2.2 j
 have x:=u _ (f++b::a) hs (by simp);have r:∀l:LP,(∀p∈l,p.1<=key\/p∈(nd w b).pairs)->l.filter (pO ((a.map (nd w)).head?))=l:=fun l hl=>zCD9.2 fun p g=>by
  cases a with
  | nil=>rfl
  | cons c a =>
   unfold pO;simp only[YL,List.head?_cons,ZA,decide_eq_false_iff_not,Nat.not_le];rcases hl p g with h|h
   .have:=o c rfl;omega
   .exact x f a b c rfl p h
 have j:=t;rw[zAA9,ZS,ZS]at j;have z:=ZF.1 j.1.2.1;have m:∀v l,kl w b v->Nd { nd w b with pairs:=l } (jW v b)->(∀p∈l,p.1<=key\/p∈(nd w b).pairs)->vQ ((f++b::a).map (nd v))=vQ (f.map (nd w)++[Cd (nd w b).low])++(l++vQ (a.map (nd w))):=fun v l q G hl=>by
  obtain⟨_,y,I⟩:=G;have J:f.map (nd v)=f.map (nd w):=Zh fun c i=>by
   show headN _=headN _;rw[q.blk c fun e=>j.1.2.2 c i b (Yp ..) e]
  have K:a.map (nd v)=a.map (nd w):=Zh fun c i=>by
   show headN _=headN _;rw[q.blk c fun e=>z.1 (by rw[<- e];exact i)]
  have L:nd v b={ nd w b with pairs:=l,way:=y }:=I;rw[YJ,YL,Iw,J,K,L,vQ];dsimp only;rw[r l hl]
 have s:=m w (nd w b).pairs ⟨rfl,fun _ _=>rfl,fun _ _=>rfl⟩ ⟨(h2.node b (by simp)).2.1,(nd w b).way,rfl⟩ fun p g=>.inr g;refine⟨_,_,⟨h,by simp,hn,(h2.node b (by simp)).1.2,k,h3.symm.trans s,fun p g=>YS (Iy f _ h2 p g) k,fun p g=>?_,m⟩⟩;obtain⟨c,i,g⟩:=Iv a p g;have Q:=h4 c (by simp[i]) p g;obtain⟨d,D,rfl⟩:∃d D,a=d::D:=by
  cases a with
  | nil=>cases i
  | cons d D=>exact⟨d,D,rfl⟩
 have R:=o d rfl;rcases YA.1 i with rfl|i
 .omega
 .have:=(h2.drop f).2.2.2.2.2.lt c i;omega
theorem Vs{x:Pr}(h:eC w n P A U b x.1 pre post)(h0:(nd w b).level=0)(hz:(uD (jW w b) x).2=0):(∀q∈P,¬q.1=x.1)/\pF (fun v=>kl w b v/\Rd v n P (A::U)) (fun v=>kl w b v/\Rd v n (uG x P) (A::U)) w (vY (64*b) (uD (jW w b) x).1):=by
 obtain⟨k,i,_⟩:=J5 hz;have f:∀p,uT (nd w b) p=true->(nd w b).low<=p.1:=fun p a=>by
  unfold uT at a;rw[if_pos h0]at a;simp only[Yr,decide_eq_true_eq]at a;exact a.2
 have j:=(aU k).good;have g:∀q∈P,¬q.1=x.1:=fun q d e=>by
  rw[h.P',YM,YM]at d;rcases d with d|d|d
  .have:=h.pre' q d;omega
  .exact i.key q d e
  .have:=h.post' q d;omega
 have m:uG x P=pre++(uG x (nd w b).pairs++post):=by
  rw[h.P',HK h.pre',HM fun q d=>by have:=h.post' q (List.mem_of_mem_head? d);omega]
 refine⟨g,(Mk h.inn (Jf (sf w b h.inn)).2 (Vr hz)).mono (fun v c=>⟨c.1,?_⟩) fun v c=>⟨c.1,?_⟩⟩
 .refine Ai (l:=(nd w b).pairs) h.rd h.mem c.1 h.n' c.2 (fun p a=>f p (j.may p a)) ?_ h.rd.rise;exact(h.other v _ c.1 c.2 fun p a=>.inr a).trans h.P'.symm
 .refine Ai (l:=uG x (nd w b).pairs) h.rd h.mem c.1 h.n' c.2.2 (fun p a=>?_) ?_ (CH h.rd.rise g)
  .rcases dv.1 a with rfl|a
   .exact f _ i.may
   .exact f p (j.may p a)
  .rw[h.other v _ c.1 c.2.2 fun p a=>?_,m];rcases dv.1 a with rfl|a
   .exact .inl (Ym _)
   .exact .inr a
theorem Ly(h:eC w n P A U b key pre post)(h0:(nd w b).level=0)(hz:(yR (jW w b) key).2=0):∃(P1 P2:LP) (x:Pr),P=P1++x::P2/\x.1=key/\pF (fun v=>kl w b v/\Rd v n P (A::U)) (fun v=>kl w b v/\Rd v n (P1++P2) (A::U)) w (vY (64*b) (yR (jW w b) key).1):=by
 obtain⟨C,D,x,e,j,t,_⟩:=XB hz;have d:wi (jW w b)=0:=by
  unfold yR yF at hz
  by_cases d:wi (jW w b)=0
  .exact d
  .rw[if_neg d]at hz;exact absurd hz d
 have k:=(aU d).good;have g:∀p∈(nd w b).pairs,(nd w b).low<=p.1:=fun p c=>by
  have:=k.may p c;unfold uT at this;rw[if_pos h0]at this;simp only[Yr,decide_eq_true_eq]at this;exact this.2
 have f:∀p∈C++D,p∈(nd w b).pairs:=fun p c=>by
  show p∈(headN (jW w b)).pairs;rw[e];grind
 have i:P=(pre++C)++x::(D++post):=by
  have:(nd w b).pairs=C++x::D:=e;rw[h.P',this];simp
 refine⟨pre++C,D++post,x,i,j,(Mk h.inn (Ji (sf w b h.inn)).2 t).mono (fun v a=>⟨a.1,?_⟩) fun v a=>⟨a.1,?_⟩⟩
 .refine Ai (l:=(nd w b).pairs) h.rd h.mem a.1 h.n' a.2 g ?_ h.rd.rise;exact(h.other v _ a.1 a.2 fun p c=>.inr c).trans h.P'.symm
 .refine Ai (l:=C++D) h.rd h.mem a.1 h.n' a.2 (fun p c=>g p (f p c)) ?_ (KC (by rw[i];simp) h.rd.rise);rw[h.other v _ a.1 a.2 fun p c=>.inr (f p c)];simp


theorem FU(free:LN):∀(k:Nat) (l:LC) (used:Nat) (T T':List vh) (M:vh),T.getLast?=some M->pI free k l used T=some T'->T'.getLast?=some M
 | 0,_,_,_,_,_,_,h=>by cases h
 | k+1,l,used,T,T',M,b,h=>by
  have c:∀X:vh,(X::T).getLast?=some M:=fun X=>by
   cases T with
   | nil=>cases b
   | cons a T=>rw[ZB];exact b
  rw[pI]at h
  split at h
  .cases h
  split at h
  .injection h with h;subst h;exact c _
  .exact FU free k _ _ _ _ M (c _) h
theorem Oq{free:LN}{k:Nat}{l:LC}{T:List vh}(h:pI free (k+1) l 0 []=some T):∃bs,bs.length=l.length/\T.getLast?=some (bs,wz bs l)/\(l.length=1->T.length=1):=by
 rw[pI]at h
 split at h
 .cases h
 rename_i b;have a:((free.drop 0).take l.length).length=l.length:=by rw[zAJ9,YF];omega
 split at h
 .injection h with h;subst h;exact⟨_,a,rfl,fun _=>rfl⟩
 .rename_i h1;exact⟨_,a,FU _ _ _ _ _ _ _ rfl h,fun e=>absurd e h1⟩
theorem IE:∀(bs:LN) (ns:LC),bs.length=ns.length->∀m∈wz bs ns,∃n∈ns,m.pairs=n.pairs
 | [],[],_,m,a=>by cases a
 | [],_::_,h,_,_=>by simp at h
 | _::_,[],h,_,_=>by simp at h
 | b::bs,n::ns,h,m,a=>by
  rw[wz,YA]at a;rcases a with rfl|a
  .exact⟨n,Yp ..,rfl⟩
  .obtain⟨x,h1,h2⟩:=IE bs ns (by simpa using h) m a;exact⟨x,Ys _ h1,h2⟩
structure kG(b:Nat)(R:List wh)(w:LN)(P:LP)(T:List vh):Prop where
 recs:pb R w
 ps:gf b R P
 okP:okP P=true
 st:aE T
 laid:∀M∈T,uA w M.1 M.2
 root:w.getD 600 0=dN T
 in':∀c∈T.flatMap Prod.fst,28<=c/\c<48
 nd:(T.flatMap Prod.fst).Nodup
 few:T.length<=3
 one:EB T=true
 last:∃bs ns,T.getLast?=some (bs,ns)/\vQ ns=P/\ns.length=max 1 ((P.length+17)/18)/\(∀m∈ns,m.pairs.length<=18)/\(ns.length=1->T.length=1)
variable {R:List wh}{T:List vh}{fr:LH}(p:Nat)
theorem kG.tree(h:kG b R w P T):vK w 600=(T,true)/\pz w T=true:=by
 obtain⟨i,j,h1,h2,_⟩:=h.last
 match T,h.st,h.one,h with
 | ([],[])::_,a,_,_=>exact absurd rfl a.chain.2
 | ([],_::_)::_,a,_,_=>exact a.chain.1.elim
 | (c::f,d)::g,a,k,h =>
  have l:=Km w g (c::f,d) [] [] 14 (-1) a h.laid h.nd (fun K _ c _ h=>by simp at h) (.inl zy) (by have:=h.few;simp at this;omega);refine⟨?_,?_⟩
  .unfold vK;rw[h.root];refine Eq.trans l ?_;rw[YC];refine Prod.ext rfl ?_;have e:((c::f,d)::g).getLast (by simp)=(i,j):=by
    rw[zAC9 (by simp)]at h1;injection h1
   show vz (vQ (((c::f,d)::g).getLast _).2)=true;rw[e,h2];exact((oQ _).1 h.okP).1
  .unfold pz;rw[k,ZH];exact Li w _ a h.laid
theorem Kx(h:pb R w)(hl:v.length=3072)(he:∀i,704<=i->i<1728->v.getD i 0=w.getD i 0):pb R v:=by
 refine⟨hl,fun i r a=>?_,h.ok,h.nd,h.few⟩;rw[<- h.at' i r a];have b:=(Yl.1 a).1;have:=h.few;refine Zn fun j=>?_;rw[oW hl zo,oW h.len zo]
 split
 .rw[he _ zo zo]
 .rfl
theorem De{names:List (LN)}{bits:Int}(ho:nc ⟨names,bits,[]⟩ b=some (w,fr,true))(hn:∀s∈names,vH s):∃P T,kG b (yp names) w P T/\P.length=names.length/\∀i,i<names.length->∃p∈P,p.2=i+1:=by
 obtain⟨_,z,T,P,K,I,a,d⟩:=Tz ho;have A:w=z:=a.w;subst A;have g:=d.go;have t:=d.len;dsimp only at g t;obtain⟨hR,u⟩:=I1 g hn (by simp;omega) ⟨Zb ..,fun i r h=>(by cases h),fun r h=>(by cases h),List.nodup_nil,Yv _⟩ (fun p h=>by cases h);rw[YC]at hR u;obtain⟨G,L,x⟩:=a.built.blocks;have y:(T.reverse.flatMap Prod.fst).Nodup:=by rw[x];exact((dF _).1 a.okF).2.sublist (zBK9 _ _)
 have q:(T.reverse.flatMap Prod.fst).Perm (T.flatMap Prod.fst):=List.Perm.flatMap_right _ (List.reverse_perm _);obtain⟨f,j,v,b3⟩:=Oq (k:=3) d.tree;obtain⟨_,J⟩:=Ir a.okP;refine⟨P,T,⟨Kx hR a.len fun i h1 h2=>?_,?_,a.okP,a.built.st,a.laid,a.root,fun c l=>d.at' c (q.mem_iff.2 l),q.nodup y,a.built.few,?_,f,wz f (yH P),v,a.built.last _ v,?_,fun m B=>?_,fun e=>b3 (by rw[<- aR f _ j];exact e)⟩,t.1,fun i C=>?_⟩
 .rw[d.words,kO,if_neg zo,eO];intro s o e;have:=Mh (N:=1792) (T:=T.reverse) (fun c l=>by have:=d.at' c l;omega) s o;omega
 .rw[d.sort];exact fun p D=>u p (Er p D)
 .obtain⟨c,n,T',e,o⟩:=a.built.one;rw[e];exact decide_eq_true o
 .rw[aR f _ j,dt]
 .obtain⟨n,h1,h2⟩:=IE f _ j m B;rw[h2];rw[om]at h1;obtain⟨i,_,rfl⟩:=Yx.1 h1;show ((P.drop (18*i)).take 18).length<=18;rw[YF];omega
 .obtain⟨p,h1,h2⟩:=IX g (fun i h=>by cases h) i (by simpa using C);exact⟨p,by rw[d.sort];exact Hj _ _ _ (.inr h1),h2⟩
theorem kG.keep(h:kG b R w P T){W:LN}(hW:W.length=16)(hl:R.length<64){R':List wh}(hR':pb R' (jZ w (uq (704+16*R.length) W 16)))(hP:gf b R' P):kG b R' (jZ w (uq (704+16*R.length) W 16)) P T:=by
 have d:∀s∈uq (704+16*R.length) W 16,704<=s.1/\s.1<1728:=fun s a=>by
  unfold uq at a;obtain⟨k,_,rfl⟩:=Yx.1 a;dsimp only;omega
 refine⟨hR',hP,h.okP,h.st,fun M f i c m g j=>?_,?_,h.in',h.nd,h.few,h.one,h.last⟩
 .have:=h.in' c (YG.2 ⟨M,f,Yt g⟩);obtain⟨l,n⟩:=h.laid M f i c m g j;refine⟨by rw[yZ];exact l,?_⟩;rw[BR c _ _ fun s a=>.inl (by have:=d s a;omega)];exact n
 .rw[eO _ _ _ fun s a e=>by have:=d s a;omega];exact h.root
theorem kG.same(h:kG b R w P T){W:LN}(hW:W.length=16)(hl:R.length<64):kG b R (jZ w (uq (704+16*R.length) W 16)) P T:=by
 refine h.keep hW hl ⟨by rw[yZ];exact h.recs.len,fun i r a=>?_,h.recs.ok,h.recs.nd,h.recs.few⟩ h.ps;have:=(Yl.1 a).1;rw[(Lg h.recs.len hW hl).2 i zo zo];exact h.recs.at' i r a
theorem kG.snd(h:kG b R w P T):(P.map Prod.snd).Nodup:=((oQ _).1 h.okP).2.1
theorem kG.list(h:kG b R w P T):yl w b 28 600=(P.map (ent R),0):=by
 obtain⟨t1,_⟩:=h.tree;obtain⟨f,g,c,d,_⟩:=h.last;have a:yY w (600:Int)=(P,0):=by
  have e:(600:Int).toNat=600:=rfl;unfold yY;rw[h.recs.len,show uK 3072 600=true from rfl,if_pos rfl,e,t1,if_pos rfl];refine Prod.ext ?_ rfl;show vQ (xK T).2=P;unfold xK;rw[List.getLastD_eq_getLast?,c];exact d
 unfold yl;rw[h.recs.len,show xY 3072 28 600=true from rfl,if_pos rfl,a,if_pos rfl,IK h.recs h.ps h.snd]
theorem IL{A:LN}{U:List (LN)}{leaf:Nat}(hR:pb R w)(hb:1<=b/\b<=40)(ho:kl w leaf v)(h28:28<=leaf)(hrd:Rd v 600 P (A::U))(hP:gf b R P)(hn:(P.map Prod.snd).Nodup):yl v b 28 600=(P.map (ent R),0):=by
 have a:v.length=3072:=ho.len.trans hR.len;have f:=hrd.read;have c:yY v (600:Int)=(P,0):=by
  have e:(600:Int).toNat=600:=rfl;unfold yY;rw[a,show uK 3072 600=true from rfl,if_pos rfl,e,f,if_pos rfl];refine Prod.ext ?_ rfl;show vQ (xK ((A::U).reverse.map (yI v))).2=P;unfold xK;rw[ZT,YJ,zCR9,List.getLastD_concat];exact hrd.pairs
 have d:pb R v:=Kx hR a fun i h1 h2=>ho.get i zo;have g:=IK d hP hn;unfold yl;rw[a,show xY 3072 28 600=true from rfl,if_pos rfl,c,if_pos rfl,g]


structure MU(w:LN)(P:LP)(T:List vh)(key:Nat)(A:LN)(U:List (LN))(leaf:Nat)(pre post:LP)(init:LN):Prop where
 way:eB w (w.getD 600 0) key (init++[leaf])
 few:init.length<=13
 at':eC w 600 P A U leaf key pre post
 lv:(nd w leaf).level=0
 ge:28<=leaf
 p18:(nd w leaf).pairs.length<=18
 len:A.length=max 1 ((P.length+17)/18)
 one:A.length=1->U=[]
 U3:U.length<=2
theorem Gy(h:kG b R w P T)(key:Nat)(hf:aN w 600 fr=true):∃A U leaf pre post init,MU w P T key A U leaf pre post init:=by
 have o:=h.recs.len;obtain⟨t1,t2⟩:=h.tree;have h0:sb w (600:Int) fr=0:=by
  have e:(600:Int).toNat=600:=rfl;unfold sb B3;rw[o,show uK 3072 600=true from rfl,e,if_pos rfl,if_pos hf,if_pos rfl,t1,if_pos rfl,t2,if_pos rfl]
 obtain⟨r,D,i,G,I,J,M,K,s,n,a⟩:=Od key h0;obtain rfl:r=600:=zo;obtain⟨t,A,U,leaf,c,u,d,l⟩:=WY s n (by rw[t1];exact h.nd) (by rw[t1];have:=h.few;dsimp only;omega) a.way;have e:=c.read;rw[t1]at e;injection e with e _;obtain⟨N,m,f,v,x,y,z⟩:=h.last;have hl:T.getLast?=some (yI w A):=by rw[e,ZT,YJ,zCR9,Z8]
 rw[hl]at f;injection f with f;have g:A.map (nd w)=m:=congrArg Prod.snd f;have B:t=P:=by rw[<- c.pairs,g,v]
 subst B;have j:leaf∈A:=by
  obtain⟨O,Q,e,_⟩:=l;rw[e];simp
 have p:=h.in' leaf (by
  rw[e];exact YG.2 ⟨yI w A,by simp,j⟩)
 obtain⟨pre,post,C⟩:=S9 c u l zo;obtain⟨init,rfl⟩:∃init,i=init++[leaf]:=by
  have k:i ≠ []:=a.ne;rw[zAC9 k]at d;injection d with d;exact⟨i.dropLast,by rw[<- d];exact(Z1 k).symm⟩
 have q:A.length=m.length:=by rw[<- g,Yw]
 have L:T.length=U.length+1:=by rw[e];simp
 have h3:=h.few;refine⟨A,U,leaf,pre,post,init,a.way,by have:=a.few;rw[Yn]at this;simp at this;omega,C,(c.lo.2.1.node leaf j).2.2,p.1,y _ (by rw[<- g];exact Yx.2 ⟨leaf,j,rfl⟩),by rw[q];exact x,fun h1=>?_,by omega⟩;have:=z zo;exact Zg.1 zo
structure Nq(w:LN)(P:LP)(x:Pr)(S:LP×Nat×Nat):Prop where
 few:S.1.length<=71
 no:¬S.2.2=0->S.1=[]
 yes:S.2.2=0->∃A U leaf pre post,eC w 600 P A U leaf x.1 pre post/\(nd w leaf).level=0/\28<=leaf/\(uD (jW w leaf) x).2=0/\S.1=vY (64*leaf) (uD (jW w leaf) x).1
theorem bM(h:kG b R w P T)(x:Pr)(fr:LH)(hfl:fr.length<=100):∃S:LP×Nat×Nat,Nq w P x S/\∀p r,FR 55 [wv p w,iv (600:Nat),pv x,.list r 1 (fr.map iv)] (pU S):=by
 have u:=h.recs.len;have n:vx w.length:=by unfold vx;omega
 have f:=fun p r=>Hs p r w (600:Nat) fr n zo;have g:=fun p=>K8 p w (600:Nat) n;obtain⟨t1,t2⟩:=h.tree;have v:((600:Nat):Int).toNat=600:=rfl;unfold sL at f;unfold A6 at g;rw[u,show uK 3072 (600:Nat)=true from rfl,if_pos rfl,v]at f g;rw[t1,if_pos rfl,t2,if_pos rfl]at g
 by_cases l:aN w 600 fr=true
 rotate_left
 .rw[if_neg l]at f;exact⟨([],0,2),⟨Yv _,fun _=>rfl,fun e=>by cases e⟩,fun p r=>Vn p r w _ x fr 2 fun H=>Fx p r w _ fr 2 H (f p r)⟩
 rw[if_pos l]at f;obtain⟨A,U,a,pre,post,t,d⟩:=Gy h x.1 l;have i:=d.at'.inn;have s:=sf w a i;have j:=Jf (x:=x) s;have k:=Vp 1 x (jW w a) s;have m:¬(uD (jW w a) x).2=3:=fun e=>by
  have:=Un e;have:(headN (jW w a)).pairs.length<=18:=d.p18;omega
 obtain⟨S,o,q⟩:∃S:LP×Nat×Nat,((uD (jW w a) x).2=0->S=(vY (64*a) (uD (jW w a) x).1,0,0))/\(¬(uD (jW w a) x).2=0->S=([],0,(uD (jW w a) x).2)):=by
  by_cases c:(uD (jW w a) x).2=0
  .exact⟨_,fun _=>rfl,fun e=>absurd c e⟩
  .exact⟨_,fun e=>absurd e c,fun _=>rfl⟩
 refine⟨S,?_,fun p r=>Vo p r 600 x w fr (t++[a]) a (uD (jW w a) x) T (⟨0,0,[],[],.nilsl,0⟩,0,0,0) S w [] 0 a (uD (jW w a) x).1 ⟨by omega,by omega⟩ zo (f p r) (g p) d.way (by simp) ⟨by simp,by have:=d.few;simp;omega⟩ i k (fun c _=>q c) (fun h=>absurd h m) (fun h=>absurd h m) (fun h=>absurd h m) (fun _=>⟨rfl,rfl,rfl,rfl⟩) fun y=>?_⟩
 .by_cases c:(uD (jW w a) x).2=0
  .rw[o c];exact⟨by rw[Jz];exact j.1,fun e=>absurd rfl e,fun _=>⟨A,U,a,pre,post,d.at',d.lv,d.ge,c,rfl⟩⟩
  .rw[q c];exact⟨Yv _,fun _=>rfl,fun e=>absurd e c⟩
 .have h2:(uD (jW w a) x).2=0:=zo;have e:uD (jW w a) x=((uD (jW w a) x).1,0):=Prod.ext rfl h2;rw[e]at k;exact⟨rfl,i,k,j.1,j.2,by simp,by rw[o h2];rfl⟩
structure Nz(w:LN)(P:LP)(key:Nat)(L:LP)(no:Nat):Prop where
 few:L.length<=71
 no':¬no=0->L=[]
 yes:no=0->∃A U leaf pre post,eC w 600 P A U leaf key pre post/\(nd w leaf).level=0/\28<=leaf/\(yR (jW w leaf) key).2=0/\L=vY (64*leaf) (yR (jW w leaf) key).1
theorem Qa(h:kG b R w P T)(hP60:P.length<=60)(key:Nat)(fr:LH)(hfl:fr.length<=100):∃(L:LP) (no:Nat),Nz w P key L no/\∀p r,FR 60 [wv p w,iv (600:Nat),uv key,.list r 1 (fr.map iv)] (nA L 0 [] no):=by
 have o:=h.recs.len;have q:vx w.length:=by unfold vx;omega
 have g:=fun p r=>Hs p r w (600:Nat) fr q zo;have i:=fun p=>K8 p w (600:Nat) q;obtain⟨t1,t2⟩:=h.tree;have v:((600:Nat):Int).toNat=600:=rfl;unfold sL at g;unfold A6 at i;rw[o,show uK 3072 (600:Nat)=true from rfl,if_pos rfl,v]at g i;rw[t1,if_pos rfl,t2,if_pos rfl]at i
 by_cases y:aN w 600 fr=true
 rotate_left
 .rw[if_neg y]at g;exact⟨[],2,⟨Yv _,fun _=>rfl,fun e=>by cases e⟩,fun p r=>Xx p r w _ key fr 2 fun H=>Fx p r w _ fr 2 H (g p r)⟩
 rw[if_pos y]at g;obtain⟨A,U,a,pre,post,D,d⟩:=Gy h key y;have s:=d.at'.inn;have I:=sf w a s;have t:=Ji (key:=key) I;have G:=Xy 1 key (jW w a) I;have k:=fun p=>MT p w (600:Nat) q;unfold nN at k;rw[o,show uK 3072 (600:Nat)=true from rfl,if_pos rfl,v,t1,if_pos rfl]at k;have K:¬(yR (jW w a) key).2=0->(yR (jW w a) key).1=[]:=fun h=>by
  unfold yR yF at h⊢
  split
  .rename_i h1;rw[if_pos h1]at h
   split
   all_goals grind
  .rfl
 by_cases f:(yR (jW w a) key).2=0
 rotate_left
 .exact⟨[],(yR (jW w a) key).2,⟨Yv _,fun _=>rfl,fun e=>absurd e f⟩,fun p r=>Lu p r 600 key w fr (D++[a]) a _ T [([],[kF])] ([],[kF]) [] _ 0 0 1 [] (nA [] 0 [] (yR (jW w a) key).2) ⟨by omega,by omega⟩ zo (g p r) (i p) d.way (by simp) ⟨by simp,by have:=d.few;simp;omega⟩ s G ⟨by omega,t.2⟩ (fun h=>⟨K h,rfl⟩) (fun h=>absurd h f) rfl ⟨by decide,by decide⟩ zy (tp 0 0 [] [kF] zy zy zy) zy (fun h=>absurd h f) (fun h=>absurd h f) (fun h=>absurd h f) (k p) (fun h=>absurd h f) (C1 _ _ _ _)⟩
 obtain⟨z,B,x,J,_,Q⟩:=Ly d.at' d.lv f;have j:=Q.last.2;obtain⟨V,C⟩:∃V,V=jZ w (vY (64*a) (yR (jW w a) key).1):=⟨_,rfl⟩
 have O:V.length=3072:=by rw[C,yZ];exact o
 rw[<- C]at j;have S:=j.read;have u:=tu 1 V (600:Nat) (by unfold vx;omega);unfold fy at u;rw[O,show uK 3072 (600:Nat)=true from rfl,if_pos rfl,v,S,if_pos rfl]at u;have X:1<=A.length/\A.length<=4:=by have:=d.len;omega
 have l:=tp 0 0 A (A.map (nd V)) (by rw[Yw];omega) (fun n hn=>by
  obtain⟨c,_,rfl⟩:=Yx.1 hn;exact CD _) (by rw[j.pairs];have:=congrArg List.length J;simp at this⊢;omega)
 unfold b8 at l;rw[j.pairs,j.rise,if_pos rfl]at l;have M:=congrArg List.length J;rw[Yn,Yq]at M;have m:((A::U).reverse.map (yI V)).length=1\/6*(yI V A).2.length<(z++B).length:=by
  show ((A::U).reverse.map (yI V)).length=1\/6*(A.map (nd V)).length<(z++B).length;rw[Yw,Yw,List.length_reverse,Yq,Yn];have h1:=d.len
  by_cases N:A.length=1
  .rw[d.one N];exact .inl rfl
  .refine .inr ?_;omega
 refine⟨_,0,⟨by rw[Jz];exact t.1,fun e=>absurd rfl e,fun _=>⟨A,U,a,pre,post,d.at',d.lv,d.ge,f,rfl⟩⟩,fun p r=>Lu p r 600 key w fr (D++[a]) a _ T ((A::U).reverse.map (yI V)) (yI V A) (z++B) _ 0 0 1 [] (nA (vY (64*a) (yR (jW w a) key).1) 0 [] 0) ⟨by omega,by omega⟩ zo (g p r) (i p) d.way (by simp) ⟨by simp,by have:=d.few;simp;omega⟩ s G ⟨by omega,t.2⟩ (fun h=>absurd f h) (fun _=>by rw[<- C];exact u) ?_ ⟨by simp,by have:=d.U3;simp;omega⟩ (by show (A.map (nd V)).length<=2048;rw[Yw];omega) l (by rw[Yn];omega) (fun _ _=>rfl) (fun _ hn=>absurd m hn) (fun _ hn=>absurd m hn) (k p) (fun _ hn=>absurd m hn) (C1 _ _ _ _)⟩;rw[ZT,YJ,Yn];simp


theorem f30:ET.funcs.get 30=some T30:=mX func30
def ct(m:Int)(x:vV):Bool:=decide ((x.num:Int)=m)
theorem Uz(b:Nat)(w:LN)(a m:Int)(h1:1<=m)(h2:m<=64):FR 53 [mF p w b a,iv m] (.tuple []):=by
 refine qv (eG T53 func53) Lb.unit ?_;refine zG ?_;refine vp (jX h1 h2) ?_;refine vi (mV 2) ?_;refine zK ?_;exact⟨[],rfl,zf.tL trivial⟩
theorem Uy(b:Nat)(w:LN)(a m:Int)(h:¬(1<=m/\m<=64)):FN ET 53 [mF p w b a,iv m] (.panic (vN 2)):=by
 refine qv (eG T53 func53) (.iface (.int _ _)) ?_;refine zG ?_
 by_cases h1:1<=m
 .have h2:¬m<=64:=fun h2=>h ⟨h1,h2⟩;refine vp (jX h1 h2) ?_;refine vB (kL 2) ?_;exact wG rfl
 .refine vp h1 ?_;refine vB (kL 2) ?_;exact wG rfl
theorem RZ(m:Int)(x:vV):FR 90 [wP x,.elem [iv m]] (.bool (ct m x)):=by
 refine qv (eG T90 func90) (.bool _) ?_;unfold ct;refine zO ?_;exact zf.bool _
theorem Xh(l:List vV)(hl:vx l.length)(m:Int):FN ET 54 [esv 0 l,iv m] (if(l.find? (ct m)).isSome then .panic (vN 2)else .ret (.tuple [])):=by
 have a:=Hq 0 l hl 90 [.elem [iv m]] (fun v e=>by obtain rfl:=YQ.1 e;exact .elem _) (ct m) (fun x _=>RZ m x);unfold lZ at a
 cases d:l.find? (ct m)with
 | none =>
  rw[d]at a;dsimp only at a⊢;refine qv (eG T54 func54) Lb.unit ?_;refine wu ?_;refine pc (caps:=[]) (vs:=[esv 0 l,.fn 90 [.ptr 0 0 0 0 1]]) rfl ?_ a ?_ ?_
  .simp only[go_sem]
  .refine⟨.list _ _ _,zf.fnL ⟨.ptr (w:=iv m) rfl (Ym _) rfl fun j x y c b=>?_,trivial⟩,trivial⟩
   cases j with
   | zero=>simp[PV.cells]at c b;subst c;subst b;exact zf.int _ _
   | succ j=>simp at b
  refine zN ?_;refine zI ?_;refine vi (mV 2) ?_;refine zK ?_;exact⟨[],rfl,zf.tL trivial⟩
 | some x =>
  rw[d]at a;dsimp only at a⊢;refine qv (eG T54 func54) (.iface (.int _ _)) ?_;refine wu ?_;refine pc (caps:=[]) (vs:=[esv 0 l,.fn 90 [.ptr 0 0 0 0 1]]) rfl ?_ a ?_ ?_
  .simp only[go_sem]
  .refine⟨.list _ _ _,zf.fnL ⟨.ptr (w:=iv m) rfl (Ym _) rfl fun j x y c b=>?_,trivial⟩,trivial⟩
   cases j with
   | zero=>simp[PV.cells]at c b;subst c;subst b;exact zf.int _ _
   | succ j=>simp at b
  refine zN ?_;refine zI ?_;refine vB (kL 2) ?_;exact wG rfl


def eZ(K:Nat×Nat)(m:Int)(has:Bool)(R:LP×Nat×Nat):FE:=if 1<=m/\m<=64 then(if K.2=0 then(if has=true then .ret (pU ([],0,2))else .ret (pU R))else .ret (pU ([],0,K.2)))else .ret (pU ([],0,2))
theorem SX(K:Nat×Nat)(m:Int)(has:Bool)(R:LP×Nat×Nat):kI (eZ K m has R):=by
 unfold eZ
 repeat' split
 all_goals exact C0 _
theorem Pw(x:za)(a b:PV)(G:LQ):FO ET 52 [.ptr 1 0 0 0 1,.ptr 2 0 0 0 1] (x::.row 57 1 0 0 [a]::.row 3 1 0 0 [b]::G) false fun e H'=>e=.ret (.tuple [])/\H'=x::.row 57 1 0 0 [.nilsl]::.row 3 1 0 0 [iv 0]::G:=by
 refine wF (eG T52 func52) ?_;refine zJ ?_;exact⟨[],rfl,rfl,rfl⟩
theorem Np(r b:Nat)(h:1<=b/\b<=40)(w:LN)(hs:vx w.length)(hw:WB w)(n:Nat)(hd:xY w.length 28 n=true)(name:LN)(hnb:vH name)(m:Int)(fr:LH)(R:LP×Nat×Nat)(hla:vx (ww w b 28 n name).1.length)(hT:1<=m/\m<=64->(dM w b 28 n name).2=0->FR 55 [wv p w,iv n,pv ((dM w b 28 n name).1,m.toNat),.list r 1 (fr.map iv)] (pU R)):FN ET 20 [wv p w,vD b 28,iv n,.str name,iv m,.list r 1 (fr.map iv)] (eZ (dM w b 28 n name) m ((ww w b 28 n name).1.find? (ct m)).isSome R):=by
 refine qv (eG T20 func20) (SX _ _ _ _) ?_;have j:=Dr p b h w hs n hd;have hl:=Wf p b h w hs hw n hd name hnb;have g:=Xh (ww w b 28 n name).1 hla m;unfold oZ at hl;unfold dM at hT⊢;generalize ww w b 28 n name=A at *
 obtain⟨l,o⟩:=A;dsimp only at *
 unfold vD wU at j⊢;refine wu ?_;refine gZ (f:=38) (p:=.ptr 3 0 0 0 1) (cl:=.fn 52 [.ptr 1 0 0 0 1,.ptr 2 0 0 0 1]) ?_ ?_ BY ?_
 .rfl
 .simp only[go_sem]<;>rfl
 refine zN ?_;have bad:∀(e:FE) (d:Nat->PV) (k:Nat) (x:za) (a b:PV) (G:LQ),e=.ret (pU ([],0,k))->d 12=.ptr 1 0 0 0 1->d 13=.ptr 2 0 0 0 1->d 14=.ptr 3 0 0 0 1->ye ET T20 (fun y H=>va H 0 y e) (.panic (vN k)) ⟨d,[.caught (.ptr 3 0 0 0 1) (.fn 52 [.ptr 1 0 0 0 1,.ptr 2 0 0 0 1])],x::.row 57 1 0 0 [a]::.row 3 1 0 0 [b]::.row 38 1 0 0 [iv 0]::G⟩:=fun e d k x a b G i t u v=>by
  refine⟨k,52,[.ptr 1 0 0 0 1,.ptr 2 0 0 0 1],false,3,0,1,rfl,rfl,rfl,(Pw _ _ _ _).mono fun e H i=>?_⟩;obtain⟨rfl,rfl⟩:=i;refine⟨rfl,_,rfl,[.nilsl,iv 0,iv k],?_,?_⟩
  .simp[T20,xT,zj,zq,t,u,v,zD,zA,zF,zW];rfl
  .rw[i];exact wq
 refine zI ?_;refine bj j (hl:=⟨.list _ _ _,CE b,.int _ _,trivial⟩) ?_;refine zN ?_;unfold eZ
 by_cases c:1<=m/\m<=64
 rotate_left
 .rw[if_neg c];refine zI ?_;refine vB (Uy p b w n m c) ?_;exact bad _ _ 2 _ _ _ _ rfl rfl rfl rfl
 rw[if_pos c];refine zM (Uz p b w n m c.1 c.2) ?_
 by_cases hz:o=0
 rotate_left
 .rw[if_neg hz]at hl hT⊢;dsimp only;rw[if_neg hz];refine zI ?_;refine vB hl ?_;exact bad _ _ o _ _ _ _ rfl rfl rfl rfl
 rw[if_pos hz]at hl hT⊢;subst hz
 cases q:l.find? (xM name)with
 | some x =>
  rw[q]at hl;dsimp only at hl⊢;refine zI ?_;refine vB hl ?_;exact bad _ _ 191 _ _ _ _ rfl rfl rfl rfl
 | none =>
  rw[q]at hl hT;dsimp only at hl hT⊢;have hT:=hT c rfl;rw[if_pos rfl];refine zM hl ?_
  by_cases s:(l.find? (ct m)).isSome=true
  .rw[if_pos s]at g⊢;refine zI ?_;refine vB g ?_;exact bad _ _ 2 _ _ _ _ rfl rfl rfl rfl
  rw[if_neg s]at g⊢;refine zM g ?_;obtain⟨k,rfl⟩:∃k:Nat,m=k:=⟨m.toNat,by omega⟩
  rw[Zz]at hT;have z:IntKind.u64.wrap (k:Int)=(k:Int):=ep;generalize kV l (65536*w8 b name)=key at *
  refine vp z ?_;refine wj hT ?_;refine vt ?_;exact⟨[.list 0 2 (R.1.map vm),iv (R.2.1:Nat),iv (R.2.2:Nat)],rfl,zf.tL ⟨.list _ _ _,.int _ _,.int _ _,trivial⟩⟩


theorem N5(w:LN)(s:Pr)(l:LP):jZ w (s::l)=jZ (w.set s.1 s.2) l:=rfl
theorem pF.at{P Q:LN->Prop}{L:LP}(h:pF P Q w L):∃t,t<L.length/\∀k,k<=L.length->(k<=t->P (jZ w (L.take k)))/\(t<k->Q (jZ w (L.take k))):=by
 obtain⟨I,s,J,rfl,h1,h2⟩:=h;refine⟨I.length,by simp,fun k b=>⟨fun h=>?_,fun h=>?_⟩⟩
 .rw[ZG h];exact h1.take k
 .rw[List.take_append,YV zo,pg];obtain⟨j,a⟩:∃j,k-I.length=j+1:=⟨k-I.length-1,by omega⟩
  rw[a,zAY9,N5];exact h2.take j
structure lD(b:Nat)(w:LN)(L:LP)(was will:List vV)(t:Nat):Prop where
 lt:t<L.length
 at':∀k,k<=L.length->yl (jZ w (L.take k)) b 28 600=(if k<=t then was else will,0)
variable {bits:Int}{l:List vV}{name:LN}{names:List (LN)}
theorem lD.all{was will:List vV}{t:Nat}(h:lD b w L was will t):yl (jZ w L) b 28 600=(will,0):=by
 have:=h.at' L.length (Ym _);rw[YR,if_neg (by have:=h.lt;omega)]at this;exact this
theorem Ml{R:List wh}{P P':LP}{A:LN}{U:List (LN)}{leaf:Nat}(hR:pb R w)(hb:1<=b/\b<=40)(h28:28<=leaf)(hP:gf b R P)(hn:(P.map Prod.snd).Nodup)(hP':gf b R P')(hn':(P'.map Prod.snd).Nodup)(h:pF (fun v=>kl w leaf v/\Rd v 600 P (A::U)) (fun v=>kl w leaf v/\Rd v 600 P' (A::U)) w L):∃t,lD b w L (P.map (ent R)) (P'.map (ent R)) t:=by
 obtain⟨t,h1,h2⟩:=h.at
 refine⟨t,h1,fun k a=>?_⟩;obtain⟨h3,h4⟩:=h2 k a
 split
 .rename_i h;exact IL hR hb (h3 h).1 h28 (h3 h).2 hP hn
 .rename_i h;exact IL hR hb (h4 zo).1 h28 (h4 zo).2 hP' hn'
def xg(name:LN)(l:List vV):List vV:=l.filter fun y=>decide (y.name≠name)
theorem MA(h:∀y∈l,y.name≠name):xg name l=l:=zCD9.2 fun y a=>decide_eq_true (h y a)
theorem MC{m:List vV}{x:vV}(hl:∀y∈l,y.name≠name)(hm:∀y∈m,y.name≠name)(hx:x.name=name):xg name (l++x::m)=l++m:=by
 unfold xg;rw[zCL9,List.filter_cons_of_neg (by simp[hx])];exact congr (congrArg _ (MA hl)) (MA hm)
theorem P4(K:Nat×Nat)(m:Int)(has:Bool)(S:LP×Nat×Nat):∃S',eZ K m has S=.ret (pU S')/\((S'=S/\K.2=0/\1<=m/\m<=64)\/(S'.1=[]/\¬S'.2.2=0)):=by
 unfold eZ
 split
 .split
  .split
   .exact⟨_,rfl,.inr ⟨rfl,by decide⟩⟩
   .exact⟨_,rfl,.inl ⟨rfl,by assumption,by assumption⟩⟩
  .exact⟨_,rfl,.inr ⟨rfl,by assumption⟩⟩
 .exact⟨_,rfl,.inr ⟨rfl,by decide⟩⟩
theorem PX(hb:1<=b/\b<=40)(ho:nc ⟨names,bits,[]⟩ b=some (w,fr,true))(hn:∀s∈names,vH s)(hw:WB w)(hfr:fr.length<=100)(h59:names.length<=59)(hnb:vH name)(h0:vW name=0):∃(was:List vV) (S:LP×Nat×Nat),was.length<=60/\yl w b 28 600=(was,0)/\(∀p r,FR 20 [wv p (jZ w (uq (704+16*names.length) (uh ⟨3,name⟩) 16)),vD b 28,iv (600:Nat),.str name,iv (names.length+1:Nat),.list r 1 (fr.map iv)] (pU S))/\S.1.length<=71/\(¬S.2.2=0->S.1=[])/\BB S.1/\(S.2.2=0->∃will t,lD b (jZ w (uq (704+16*names.length) (uh ⟨3,name⟩) 16)) S.1 was will t/\will.length=was.length+1/\xg name will=was):=by
 obtain⟨P,T,q,a9,X⟩:=De ho hn;have hr:yn ⟨3,name⟩=true:=(pV _).2 ⟨show 1<=3 by decide,show 3<=256 by decide,h0⟩;have f:=oX names;have hW:=Kw (r:=⟨3,name⟩) (mz h0).2;have c:=q.same hW zo;rw[f]at c;have B:=c.list;have m:WB (jZ w (uq (704+16*names.length) (uh ⟨3,name⟩) 16)):=sa hw (Eu (D5 hnb (show 3<65536 by decide) (mz h0).2) _);have x:=c.recs.len;obtain⟨v,O⟩:∃v,v=jZ w (uq (704+16*names.length) (uh ⟨3,name⟩) 16):=⟨_,rfl⟩
 rw[<- O]at c B m x⊢;have ab:vx v.length:=by unfold vx;omega
 have hd:xY v.length 28 (600:Nat)=true:=cX.2 ⟨rfl,x,by decide,by decide⟩;have z:ww v b 28 (600:Nat) name=(P.map (ent (yp names)),0):=by
  unfold ww;rw[if_pos hd,if_pos h0];exact B
 obtain⟨K,d⟩:∃K,K=(dM v b 28 (600:Nat) name).1:=⟨_,rfl⟩
 obtain⟨S0,j,hF⟩:=bM c (K,((names.length+1:Nat):Int).toNat) fr hfr;have C:=fun p r=>Np p r b hb v ab m 600 hd name hnb (names.length+1:Nat) fr S0 (by rw[z];unfold vx;simp;omega) fun _ _=>by rw[<- d];exact hF p r
 obtain⟨S,hE,hc⟩:=P4 (dM v b 28 (600:Nat) name) (names.length+1:Nat) ((ww v b 28 (600:Nat) name).1.find? (ct (names.length+1:Nat))).isSome S0;rw[hE]at C;refine⟨P.map (ent (yp names)),S,by rw[Yw];omega,q.list,C,?_⟩;rcases hc with⟨ad,g,_⟩|⟨h1,h2⟩;rotate_left
 .exact⟨by rw[h1];exact Yv _,fun _=>h1,by rw[h1];exact BB.nil,fun e=>absurd e h2⟩
 subst ad
 by_cases hz:S.2.2=0
 rotate_left
 .exact⟨j.few,j.no,by rw[j.no hz];exact BB.nil,fun e=>absurd e hz⟩
 obtain⟨A,U,Y,pre,post,hL,ah,av,a0,D⟩:=j.yes hz;unfold dM at g d;rw[z]at g d;dsimp only at g d;rw[if_pos rfl]at g d;have u:(P.map (ent (yp names))).find? (xM name)=none:=by
  cases hf:(P.map (ent (yp names))).find? (xM name)with
  | none=>rfl
  | some y=>rw[hf]at g;cases g
 rw[u]at d;dsimp only at d;have n:∀p∈P,(ent (yp names) p).name≠name:=fun p a e=>by
  have:=List.find?_eq_none.1 u _ (Yx.2 ⟨p,a,rfl⟩);unfold xM at this;exact this (decide_eq_true e)
 have Z:name ∉ names:=fun a1=>by
  obtain⟨i,Q,e⟩:=YU.1 a1;obtain⟨p,a,a2⟩:=X i Q;refine n p a ?_;unfold ent;dsimp only;have k:((yp names).map wh.name)[i]?=some name:=by rw[D6,Yk Q,e]
  rw[YH]at k;rw[a2,ZM,Yu]
  cases G:(yp names)[i]? with
  | none=>rw[G]at k;cases k
  | some r=>rw[G]at k;injection k
 have I:=q.recs.snoc hr hnb zo (by rw[D6];exact Z);rw[f,<- O]at I;have J:=c.ps.snoc ⟨3,name⟩;have o:((names.length+1:Nat):Int).toNat=names.length+1:=Zz _;have L:=Ec (P.map (ent (yp names))) (65536*w8 b name);rw[<- d,Yw]at L;have a8:=lc b hb name;have a3:w8 b name=K/65536:=by
  generalize w8 b name=s at *
  exact Ib L.1 zo
 have a4:gf b (yp names++[⟨3,name⟩]) (uG (K,((names.length+1:Nat):Int).toNat) P):=fun p a=>by
  rcases dv.1 a with rfl|a
  .exact⟨names.length,⟨3,name⟩,by rw[YN (by rw[f];exact Ym _),f,zAG9];rfl,o,a3⟩
  .exact J p a
 have M:∀p∈P,p.2<=names.length/\1<=p.2:=fun p a=>by
  obtain⟨i,r,h1,h2,_⟩:=c.ps p a;have:=(Yl.1 h1).1;omega
 have l:∀p∈P,ent (yp names++[⟨3,name⟩]) p=ent (yp names) p:=fun p a=>by
  have:=M p a;unfold ent;rw[Yu,YP zo,<- Yu]
 have a5:((uG (K,((names.length+1:Nat):Int).toNat) P).map Prod.snd).Nodup:=by
  have e:((uG (K,((names.length+1:Nat):Int).toNat) P).map Prod.snd).Perm (((K,((names.length+1:Nat):Int).toNat)::P).map Prod.snd):=by
   rw[oa];refine List.Perm.map _ (List.perm_middle.trans ?_);rw[Y3]
  refine e.nodup_iff.2 (ZF.2 ⟨fun h=>?_,c.snd⟩);obtain⟨p,h1,h2⟩:=Yx.1 h;have:=M p h1;omega
 have N:P.map (ent (yp names++[⟨3,name⟩]))=P.map (ent (yp names)):=Zh l;obtain⟨_,R⟩:=Vs hL ah a0;rw[<- D]at R;obtain⟨t,V⟩:=Ml I hb av J c.snd a4 a5 R;rw[N]at V;have a6:uk K:=by
  generalize w8 b name=s at *
  show K<_;omega
 refine⟨j.few,j.no,by rw[D];exact(Um (m.block Y) ⟨a6,by rw[o];show _<_;omega⟩).off _,fun _=>⟨_,t,V,by rw[Yw,Yw,CG],?_⟩⟩;have a7:(ent (yp names++[⟨3,name⟩]) (K,((names.length+1:Nat):Int).toNat)).name=name:=by
  unfold ent;dsimp only;rw[o,ZM,Yu,YN (by rw[f];exact Ym _),f,zAG9];rfl
 rw[oa,YJ,YL,MC ?_ ?_ a7,<- YJ,Y3,N]
 .intro y hy;obtain⟨p,a,rfl⟩:=Yx.1 hy;have a:=YW a;rw[l p a];exact n p a
 .intro y hy;obtain⟨p,a,rfl⟩:=Yx.1 hy;have a:=Y5 a;rw[l p a];exact n p a
theorem PY(hb:1<=b/\b<=40)(ho:nc ⟨names,bits,[]⟩ b=some (w,fr,true))(hn:∀s∈names,vH s)(hw:WB w)(hfr:fr.length<=100)(h59:names.length<=59):∃(was:List vV) (X:vV) (L:LP) (no:Nat),was.length<=60/\yl w b 28 600=(was,0)/\(∀p r,FR 23 [wv p w,vD b 28,iv (600:Nat),.str name,.list r 1 (fr.map iv)] (cZ X L 0 [] no))/\L.length<=71/\(¬no=0->L=[])/\BB L/\(no=0->∃will t,lD b w L was will t/\will.length<was.length/\will=xg name was):=by
 obtain⟨P,T,c,ab,Z⟩:=De ho hn;have M:=c.recs.len;have o:vx w.length:=by unfold vx;omega
 have hd:xY w.length 28 (600:Nat)=true:=cX.2 ⟨rfl,M,by decide,by decide⟩;have hl:=c.list;have J:vW name=0->ww w b 28 (600:Nat) name=(P.map (ent (yp names)),0):=fun h0=>by
  unfold ww;rw[if_pos hd,if_pos h0];exact hl
 have N:¬vW name=0->ww w b 28 (600:Nat) name=([],vW name):=fun h0=>by
  unfold ww;rw[if_pos hd,if_neg h0]
 refine⟨P.map (ent (yp names)),?_⟩
 cases d:(ww w b 28 (600:Nat) name).1.find? (xM name)with
 | none =>
  have a:=fun p r=>E2 p r b hb w o hw 600 hd name fr [] 0 [] 0 fun x g=>by rw[d]at g;cases g
  have k:aK w b 28 (600:Nat) name=(zE,false,(ww w b 28 (600:Nat) name).2):=by unfold aK;rw[d]
  rw[k]at a;unfold fb at a;dsimp only at a
  by_cases hz:(ww w b 28 (600:Nat) name).2=0
  .rw[if_pos hz,if_neg zy]at a;exact⟨zE,[],5,by rw[Yw];omega,hl,a,Yv _,fun _=>rfl,BB.nil,fun e=>by cases e⟩
  .rw[if_neg hz]at a;exact⟨zE,[],_,by rw[Yw];omega,hl,a,Yv _,fun _=>rfl,BB.nil,fun e=>absurd e hz⟩
 | some y =>
  have h0:vW name=0:=by
   by_cases h0:vW name=0
   .exact h0
   .rw[N h0]at d;cases d
  have l:=J h0;rw[l]at d;dsimp only at d;have j:y.name=name:=by
   have:=List.find?_some d;unfold xM at this;exact of_decide_eq_true this
  obtain⟨p,f,rfl⟩:=Yx.1 (List.mem_of_find?_eq_some d);obtain⟨L,no,m,k⟩:=Qa c zo p.1 fr hfr;have a:=fun q r=>E2 q r b hb w o hw 600 hd name fr L 0 [] no fun x g=>by
   rw[l,d]at g;injection g with g;subst g;exact k q r
  have O:aK w b 28 (600:Nat) name=(ent (yp names) p,true,0):=by unfold aK;rw[l,d]
  rw[O]at a;unfold fb at a;dsimp only at a;rw[if_pos rfl,if_pos rfl]at a
  by_cases hz:no=0
  rotate_left
  .rw[if_neg hz]at a;exact⟨zE,[],no,by rw[Yw];omega,hl,a,Yv _,fun _=>rfl,BB.nil,fun e=>absurd e hz⟩
  rw[if_pos hz]at a;subst hz;obtain⟨A,U,K,pre,post,C,Q,R,S,u⟩:=m.yes rfl;refine⟨_,L,0,by rw[Yw];omega,hl,a,m.few,m.no',by rw[u];exact(Up (hw.block K) p.1).off _,fun _=>?_⟩;obtain⟨D,G,z,h,ad,I⟩:=Ly C Q S;rw[<- u]at I;have n:=zAV9.1 (by have:=dL.1 C.rd.rise;rwa [h]at this);have V:z=p:=by
   rw[h,YM,YA]at f;rcases f with f|f|f
   .have:=n.2.2 p f z (Yp ..);omega
   .exact f.symm
   .have:=(Zu.1 n.2.1).1 p f;omega
  subst V;have v:=zAV9.1 (by have:=GF c.recs c.ps c.snd;rwa [h]at this);have B:(D++G).Sublist P:=by rw[h];simp
  obtain⟨t,Y⟩:=Ml c.recs hb R c.ps c.snd (P':=D++G) (fun q i=>c.ps q (B.subset i)) (c.snd.sublist (B.map _)) I;refine⟨_,t,Y,by rw[Yw,Yw,h];simp,?_⟩
  conv=>rhs;rw[h]
  rw[YJ,YJ,YL,MC ?_ ?_ j]
  .intro y hy;obtain⟨q,i,rfl⟩:=Yx.1 hy;rw[<- j];exact(v.2.2 q i z (Yp ..)).1
  .intro y hy;obtain⟨q,i,rfl⟩:=Yx.1 hy;rw[<- j];exact fun e=>((Zu.1 v.2.1).1 q i).1 e.symm


theorem Xu(a:Nat)(ha:a<1000000000)(r:wh)(hl:r.name.length<1000000000)(h:yn r=false):FR 26 [iv a,kU r] (.tuple [.list 0 2 (([]:LP).map vm),iv 250]):=by
 refine qv (eG T26 func26) (Lb.two (nW _) (.int _ _)) ?_;have c:=VD r hl h;refine zG ?_;refine zB ?_;refine zM c ?_;refine zG ?_;refine kp 120 2 (i:=8) rfl ?_;simp only[ya,Yq,YK,Yy,YC];refine zG ?_;refine vo (vG (fun m s=>m=0/\s.tm 6=wv 0 []/\s.tm 7=iv 250/\s.tm 8=.sl 1 0 0 0 0 2/\s.tm 9=iv (1:Nat)/\s.df=[]/\∃G,s.H=.row 73 2 0 0 [kU r]::.row 120 2 0 0 []::G) (n:=0) ?_ ?_)
 .exact⟨rfl,zt,zt,zt,zt,rfl,[],rfl⟩
 .rintro m ⟨tm,df,H⟩ ⟨rfl,h6,h7,h8,h9,rfl,G,rfl⟩;dsimp only at h6 h7 h8 h9;refine vJ (jX h6 h9) ?_ ?_
  .intro hlt
   cases hlt
  .intro hlt;refine vI (jX h7 h8) ?_;refine vt (we ?_ (by simp only[go_sem,h8]<;>rfl));exact zf.tL ⟨zf.wh (l:=[]) rfl rfl rfl (Ym _) (fun v b=>by cases b) (fun v b=>by cases b),.int _ _,trivial⟩
theorem Mz(p:Nat)(l:List vV)(hl:l.length<=100000)(name:LN):FR 28 [esv p l,.str name] (esv 0 (xg name l)):=by
 refine qv (eG T28 func28) (Lb.esv _) ?_;refine zG ?_;refine kp 47 4 (i:=5) rfl ?_;simp only[ya,Yq,YK,Yy,YC];refine zG ?_;refine vo (vG (fun m s=>∃(i:Nat) (G:LQ),m=l.length-i/\i<=l.length/\s.tm 0=esv p l/\s.tm 1=.str name/\s.tm 5=.sl 0 (xg name (l.take i)).length 0 (xg name (l.take i)).length (2*(xg name (l.take i)).length) 4/\s.tm 6=iv i/\s.df=[]/\s.H=.row 47 4 (xg name (l.take i)).length 0 ((xg name (l.take i)).map wP)::G) (n:=l.length) ?_ ?_)
 .exact⟨0,[],rfl,Yv _,zt,zt,by simp[zb,xg],zt,rfl,by simp[xg]⟩
 rintro m ⟨o,q,H⟩ ⟨i,G,rfl,r,h0,h1,c,b,rfl,rfl⟩;dsimp only at h0 h1 c b;refine vJ (jX h0 b) ?_ ?_;rotate_left
 .intro a;have a:¬i<l.length:=vZ a;obtain rfl:i=l.length:=zo;rw[YR]at c⊢;refine vI c ?_;refine vt (we ?_ (by simp only[go_sem,c]<;>rfl));exact zf.wh rfl rfl (by rw[Yw]) (by rw[Yw];exact Ym _) (fun v f=>by rw[Yx]at f;obtain⟨x,_,rfl⟩:=f;rfl) Hf
 intro a;have a:i<l.length:=wa a;obtain⟨y,g⟩:=uM (l:=l) a;have e:(l.map wP)[i]?=some (wP y):=wB g;have j:l.take (i+1)=l.take i++[y]:=by rw[YO,g];rfl
 have d:xg name (l.take (i+1))=if y.name=name then xg name (l.take i)else xg name (l.take i)++[y]:=by
  rw[j];unfold xg;rw[zCL9]
  by_cases hn:y.name=name
  .rw[if_pos hn,List.filter_cons_of_neg (by simp[hn])];simp
  .rw[if_neg hn,List.filter_cons_of_pos (by simp[hn])];simp
 have k:(xg name (l.take i)).length<=i:=by
  unfold xg;refine YY (List.length_filter_le _ _) ?_;rw[YF];omega
 have h:((xg name (l.take i)).length+1)*41<=140737488355328:=zo;generalize xg name (l.take i)=out at *
 refine vP ?_;refine zB ?_
 by_cases hn:y.name=name
 .rw[if_pos hn]at d;refine zB ?_;refine vF (uN h0 h1 b a e hn) ?_;refine zH ?_;refine vu b ?_;exact⟨_,by omega,i+1,G,rfl,a,zu h0,zu h1,by simp[zb,c,d],zt,rfl,by rw[d]⟩
 rw[if_neg hn]at d;refine zB ?_;refine vF (uN h0 h1 b a e hn) ?_;refine uF ?_;refine vu (uN h0 c b a e h) ?_;refine vu b ?_;refine⟨_,?m,i+1,?G,rfl,a,zu h0,zu h1,by simp[zb,d],zt,rfl,?H⟩
 case m=>omega
 case H=>rw[d,YJ];simp only[Yn,Yq,YK,YL,ZU,Y6];rfl


theorem f4:ET.funcs.get 4=some T4:=eG _ func4
theorem Ty(q1 q2:Nat)(names:List (LN))(bits:Int)(bent:List (Int×Nat))(hn:∀s∈names,vH s/\s.length<9223372036854775808)(hbe:∀x∈bent,uk x.2) :
  (∃(w:LN) (lay:PV) (fr:LJ),vL lay/\lay.cells.length=10/\(∃c,lay=.agg c/\c.length=10)/\FR 10 [.agg [.list q1 1 (kB names),iv bits,.list q2 2 (kC bent)]] (.tuple [wv 0 w,lay,.list 0 1 fr,.bool false])) \/
  ∃(b:Nat) (w:LN) (fr:LH),bits=b/\(1<=b/\b<=40)/\nc ⟨names,b,bent⟩ b=some (w,fr,true)/\w.length=3072/\WB w/\fr.length<=20/\FR 10 [.agg [.list q1 1 (kB names),iv b,.list q2 2 (kC bent)]] (.tuple [wv 0 w,vD b 28,.list 0 1 (fr.map iv),.bool true]):=by
 have a:=Tv q1 q2 names bits bent hn hbe;unfold oy at a;dsimp only at a
 by_cases e:1<=bits/\bits<=40
 rotate_left
 .rw[if_neg e]at a;exact .inl ⟨[],layZ,[],sV,rfl,⟨_,rfl,rfl⟩,a⟩
 rw[if_pos e]at a;obtain⟨b,rfl⟩:∃b:Nat,bits=b:=⟨bits.toNat,by omega⟩
 rw[Zz]at a;have f:1<=b/\b<=40:=zo
 cases d:nc ⟨names,b,bent⟩ b with
 | none=>rw[d]at a;exact .inl ⟨[],vD b 28,[],aP b 28,rfl,⟨_,rfl,rfl⟩,a⟩
 | some r =>
  obtain⟨w,fr,c⟩:=r;rw[d]at a
  cases c with
  | false=>exact .inl ⟨w,vD b 28,fr.map iv,aP b 28,rfl,⟨_,rfl,rfl⟩,a⟩
  | true =>
   obtain⟨g,i,h⟩:=Tx f d (fun s j=>(hn s j).1) hbe;exact .inr ⟨b,w,fr,rfl,f,d,g,i,h,a⟩


theorem f7:ET.funcs.get 7=some T7:=eG _ func7
def c7_0:vw:=xC (ke 0 T7.body)
def sS(hv:PV)(b:Nat)(G:LQ):LQ:=.row 25 3 0 0 [hv]::.row 32 10 0 0 [.agg (wU b 28)]::G
theorem Ga(b:Nat)(w:LN)(L:LP)(was will:List vV)(t:Nat)(ht:t<L.length)(hL:L.length<=71)(hne:¬was=will)(hsm:was.length<=100/\will.length<=100)(hA:∀k,k<=L.length->FR 27 [wv 0 w,.list 0 2 ((L.take k).map vm)] (wv 0 (jZ w (L.take k))))(hLs:∀k,k<=L.length->FR 12 [wv 0 (jZ w (L.take k)),vD b 28,iv 600] (.tuple [esv 0 (if k<=t then was else will),iv 0]))
  (hv:PV) (G0:LQ) (nB:Nat->PV) (g7:nB 7=wv 0 w) (g8:nB 8=.ptr 1 0 0 0 10) (g11:nB 11=esv 0 was) (g13:nB 13=.list 0 2 (L.map vm)) (g17:nB 17=esv 0 will) (g19:nB 19=.bool false) (g20:nB 20=iv 0) {Q:FX->vd->Prop}
  (hQ:∀(tm:Nat->PV) (G:LQ),tm 19=.bool true->Q .norm ⟨tm,[],sS hv b G⟩):W ET ET.caught none c7_0 ⟨nB,[],sS hv b G0⟩ Q:=by
 have d:∀l:List vV,l.length<=100->vx l.length:=fun l h=>by unfold vx;omega
 have q:=oU 0 0 was will (d _ hsm.1) (d _ hsm.2);have r:=oU 0 0 was was (d _ hsm.1) (d _ hsm.1);have u:=oU 0 0 will will (d _ hsm.2) (d _ hsm.2);rw[decide_eq_false hne]at q;rw[decide_eq_true rfl]at r u;refine vo (vG (fun m s=>∃(k:Nat) (G:LQ),m=L.length+1-k/\k<=L.length+1/\s.tm 7=wv 0 w/\s.tm 8=.ptr 1 0 0 0 10/\s.tm 11=esv 0 was/\s.tm 13=.list 0 2 (L.map vm)/\s.tm 17=esv 0 will/\s.tm 19=.bool (decide (t+1<k))/\s.tm 20=iv k/\s.df=[]/\s.H=sS hv b G) (n:=L.length+1) ?_ ?_)
 .exact⟨0,G0,rfl,Yv _,g7,g8,g11,g13,g17,g19,g20,rfl,rfl⟩
 rintro m ⟨tm,y,H⟩ ⟨k,G,rfl,z,o,e,j,f,g,c,i,rfl,rfl⟩;dsimp only at o e j f g c i;refine vJ (jX f i) ?_ ?_;rotate_left
 .intro a;have a:¬k<=L.length:=vZ a;have:decide (t+1<k)=true:=decide_eq_true zo;rw[this]at c;exact hQ _ _ (by simp[zb,c])
 intro a;have a:k<=L.length:=wa a;have hA:=hA k a;have hLs:=hLs k a;unfold vD wU at hLs;have x:List.take k (L.map vm)=(L.take k).map vm:=ZY.symm;unfold sS wU;refine vP ?_;refine wH ?_;refine wD (uN o e f i a x) hA ?_;refine wD e hLs ?_;refine vq e ?_;have v:=tR 0;refine zM v ?_;refine zH ?_
 by_cases p:k<=t
 .rw[if_pos p];have hd:decide (t+1<k)=false:=decide_eq_false zo;rw[hd]at c;refine vp g ?_;refine wj q ?_;refine yO ?_;refine vp (jX j c) ?_;refine wj r ?_;refine zH ?_;refine vu i ?_;refine⟨_,?m,k+1,?G,rfl,by omega,zu o,zu e,zu j,zu f,zu g,by simp[zb,c];omega,zt,rfl,?H⟩
  case m=>omega
  case H=>rfl
 rw[if_neg p];refine vp g ?_;refine wj u ?_;refine uF ?_;refine zJ ?_;refine vu i ?_;refine⟨_,?m,k+1,?G,rfl,by omega,zu o,zu e,zu j,zu f,zu g,by simp[zb];omega,zt,rfl,?H⟩
 case m=>omega
 case H=>rfl
theorem Rt(q1 q2:Nat)(names:List (LN))(bits:Int)(bent:List (Int×Nat))(name:LN)(comes:Bool)(hn:∀s∈names,vH s/\s.length<9223372036854775808)(_:∀x∈bent,uk x.2)(hnb:vH name)(hnl:name.length<9223372036854775808):FR 7 [.agg [.list q1 1 (kB names),iv bits,.list q2 2 (kC bent)],.str name,.bool comes] (.bool true):=by
 rcases Ty q1 0 names bits [] hn (fun x hx=>by cases hx)with⟨w,lay,fr,hil,hl10,⟨c,rfl,hc10⟩,hM⟩|⟨b,w,fr,rfl,hb,ho,hwl,hw,hfr,hM⟩
 .rw[show kC []=[]from rfl]at hM;refine qv f7 (.bool _) ?_;refine wu ?_;refine vi hM ?_;refine uy hc10 ?_;refine zS ?_;refine zI ?_;refine vi f11 ?_;refine zP ?_;exact zf.bool _
 rw[show kC []=[]from rfl]at hM
 by_cases Y:names.length<=59
 rotate_left
 .have g:(59:Int)<(names.length:Int):=zo;refine qv f7 (.bool _) ?_;unfold vD wU at hM;refine wN hM ?_;refine yv g ?_;refine zI ?_;refine vi f11 ?_;refine zP ?_;exact zf.bool _
 have I:¬(59:Int)<(names.length:Int):=zo
 by_cases a4:300<name.length
 .have g:(300:Int)<(name.length:Int):=zo;refine qv f7 (.bool _) ?_;unfold vD wU at hM;refine wN hM ?_;refine yv (jX g I) ?_;refine zI ?_;refine vi f11 ?_;refine zP ?_;exact zf.bool _
 have g:¬(300:Int)<(name.length:Int):=zo;have M:∀s∈names,vH s:=fun s hs=>(hn s hs).1;have z:=tR 0
 cases comes with
 | false =>
  obtain⟨f,X,L,no,ad,J,B,A,C,D,n⟩:=PY (name:=name) hb ho M hw zo Y;have a:=lA 0 b 28 hb w (by unfold vx;omega) hw 600;unfold pS at a;rw[J]at a;have B:=B 0 0;have o:=tR (no:Nat);refine qv f7 (.bool _) ?_;unfold vD wU at hM a B;refine wN hM ?_;refine pD (jX g I) ?_;refine zB ?_;refine zM a ?_;refine zT ?_;refine zM B ?_;refine zM z ?_;refine zH ?_
  by_cases hz:no=0
  rotate_left
  .obtain rfl:=C hz;have R:¬(no:Int)=0:=zo;refine zI ?_;refine vi o ?_;refine uy R ?_;refine uF ?_;refine zI ?_;refine vi f11 ?_;refine zP ?_;exact zf.bool _
  subst hz;obtain⟨d,t,l,N,K⟩:=n rfl;have y:=fun k=>BH 0 0 w (L.take k) zo (by rw[YF];omega);have p:∀k,k<=L.length->FR 12 [wv 0 (jZ w (L.take k)),vD b 28,iv 600] (.tuple [esv 0 (if k<=t then f else d),iv 0]):=fun k U=>by
   have h:=lA 0 b 28 hb (jZ w (L.take k)) (by rw[yZ];unfold vx;omega) (sa hw fun c V=>D c (YW V)) 600;unfold pS at h;rw[l.at' k U]at h;exact h
  have q:=y L.length;have i:=p L.length (Ym _);rw[YR]at q i;rw[if_neg (by have:=l.lt;omega)]at i;have r:=Mz 0 f zo name;rw[<- K]at r;have m:=oU 0 0 d d (by unfold vx;omega) (by unfold vx;omega);rw[decide_eq_true rfl]at m;have O:¬f=d:=fun e=>by rw[e]at N;omega
  unfold vD wU at i;refine zM o ?_;refine zH ?_;refine wH ?_;refine eo q ?_ (by simp(disch:=omega)only[go_sem]<;>rfl);refine eo i ?_ (by simp(disch:=omega)only[go_sem]<;>rfl);refine zQ ?_;refine zI ?_;refine vi z ?_;refine wg ?_;refine vi r ?_;refine wg ?_;refine wj m ?_;refine zH ?_;refine zG ?_;refine Ga b w L f d t l.lt A O ⟨by omega,by omega⟩ (fun k _=>y k) p _ _ _ (by simp[zb]) (by simp[zb]) (by simp[zb]) (by simp[zb]) (by simp[zb]) (by simp[zb]) (by simp[zb]) ?_;intro tm G Q;refine vp Q ?_;refine vi f11 ?_;refine zP ?_;exact zf.bool _
 | true =>
  have a1:(16:Int)*(names.length:Int)=((16*names.length:Nat):Int):=zo;have a2:(704:Int)+((16*names.length:Nat):Int)=((704+16*names.length:Nat):Int):=zo;have a3:(names.length:Int)+1=((names.length+1:Nat):Int):=zo
  by_cases h0:vW name=0
  rotate_left
  .obtain⟨P,T,hD,hPl,_⟩:=De ho M;have a:=lA 0 b 28 hb w (by unfold vx;omega) hw 600;unfold pS at a;rw[hD.list]at a;have ah:=Xu (704+16*names.length) zo ⟨3,name⟩ (by dsimp only;omega) (by
    cases h:yn ⟨3,name⟩with
    | false=>rfl
    | true=>exact absurd ((pV _).1 h).2.2 h0)
   refine qv f7 (.bool _) ?_;unfold vD wU at hM a;refine wN hM ?_;refine pD (jX g I) ?_;refine zB ?_;refine zM a ?_;refine zS ?_;refine vp (jX a1 a2) ?_;refine wj ah ?_;refine zS ?_;refine zI ?_;refine vi f11 ?_;refine zP ?_;exact zf.bool _
  obtain⟨f,S,ad,J,j,A,C,D,n⟩:=PX hb ho M hw zo Y hnb h0;have a:=lA 0 b 28 hb w (by unfold vx;omega) hw 600;unfold pS at a;rw[J]at a;have j:=j 0 0;have av:=Kb (704+16*names.length) zo ⟨3,name⟩ ((pV _).2 ⟨show 1<=3 by decide,show 3<=256 by decide,h0⟩) hnb;have Z:=BH 0 0 w (uq (704+16*names.length) (uh ⟨3,name⟩) 16) zo (by rw[rf];omega);have ab:WB (jZ w (uq (704+16*names.length) (uh ⟨3,name⟩) 16)):=sa hw (Eu (D5 hnb (show 3<65536 by decide) (mz h0).2) _);have a0:(jZ w (uq (704+16*names.length) (uh ⟨3,name⟩) 16)).length=3072:=by rw[yZ];exact hwl
  generalize uq (704+16*names.length) (uh ⟨3,name⟩) 16=X at *
  obtain⟨v,hv⟩:∃v,v=jZ w X:=⟨_,rfl⟩
  rw[<- hv]at Z j n ab a0;obtain⟨L,u,no⟩:=S;dsimp only at j A C D n;have o:=tR (no:Nat);unfold pU at j;refine qv f7 (.bool _) ?_;unfold vD wU at hM a j;refine wN hM ?_;refine pD (jX g I) ?_;refine zB ?_;refine zM a ?_;refine zS ?_;refine vp (jX a1 a2) ?_;refine wj av ?_;refine bi ?_;refine zB ?_;refine zM Z ?_;refine vp a3 ?_;refine wj j ?_;refine zM z ?_;refine zH ?_
  by_cases hz:no=0
  rotate_left
  .obtain rfl:=C hz;have R:¬(no:Int)=0:=zo;refine zI ?_;refine vi o ?_;refine uy R ?_;refine uF ?_;refine zI ?_;refine vi f11 ?_;refine zP ?_;exact zf.bool _
  subst hz;obtain⟨d,t,l,N,K⟩:=n rfl;have y:=fun k=>BH 0 0 v (L.take k) zo (by rw[YF];omega);have p:∀k,k<=L.length->FR 12 [wv 0 (jZ v (L.take k)),vD b 28,iv 600] (.tuple [esv 0 (if k<=t then f else d),iv 0]):=fun k U=>by
   have h:=lA 0 b 28 hb (jZ v (L.take k)) (by rw[yZ];unfold vx;omega) (sa ab fun c V=>D c (YW V)) 600;unfold pS at h;rw[l.at' k U]at h;exact h
  have q:=y L.length;have i:=p L.length (Ym _);rw[YR]at q i;rw[if_neg (by have:=l.lt;omega)]at i;have r:=Mz 0 d zo name;rw[K]at r;have m:=oU 0 0 f f (by unfold vx;omega) (by unfold vx;omega);rw[decide_eq_true rfl]at m;have e1:(d.length:Int)=(f.length:Int)+1:=zo;have O:¬f=d:=fun e=>by rw[e]at N;omega
  unfold vD wU at i;refine zM o ?_;refine zH ?_;refine wH ?_;refine eo q ?_ (by simp(disch:=omega)only[go_sem]<;>rfl);refine eo i ?_ (by simp(disch:=omega)only[go_sem]<;>rfl);refine zQ ?_;refine zI ?_;refine vi z ?_;refine vU e1 ?_;refine vi r ?_;refine wg ?_;refine wj m ?_;refine zH ?_;refine zG ?_;refine Ga b v L f d t l.lt A O ⟨by omega,by omega⟩ (fun k _=>y k) p _ _ _ (by simp[zb]) (by simp[zb]) (by simp[zb]) (by simp[zb]) (by simp[zb]) (by simp[zb]) (by simp[zb]) ?_;intro tm G Q;refine vp Q ?_;refine vi f11 ?_;refine zP ?_;exact zf.bool _
end Fv
open Go.ChangeShapes Go.WideShapes Go.ChangeAt Go.RowKit
theorem BC(b o j:Nat):(⟨b,o,none⟩:Addr).add j=⟨b,o+j,none⟩:=by unfold Addr.add;split<;>simp_all
theorem SA:ownKnob prog.godebug=none:=by kernel_rfl
theorem SH:laidOutB prog=true:=by kernel_rfl
namespace Fv
variable {b c o p:Nat}{w:World}(s:ByteArray)
theorem HD{P:Program}{r:Reach}{base:Nat}{t e:TypeId}{a:Addr}{len cap:Nat}(ht:P.underlying t=some (.slice e))(h:Value.okWide P w r base t (.slice (some a) len cap)):a.block<w.heap.size/\a.spot=none:=by
 simp only[Value.okWide,ht,Cell.okWide,Cell.ok,World.has]at h;obtain⟨_,_,_,h2,row,cells,h3,_⟩:=h;refine⟨?_,h2⟩;unfold World.shape? at h3
 grind
def nS(l:List (Int×Nat)):LJ:=l.flatMap fun x=>[iv x.1,uv x.2]
def ml(l:List (Int×Nat)):LG:=l.flatMap fun x=>[.int .i64 x.1,.int .u64 (x.2:Int)]
theorem sJ:∀l:List (Int×Nat),(kC l).flatMap PV.cells=nS l
 | []=>rfl
 | x::l=>by have:=sJ l;unfold kC nS at this⊢;rw[YL,YT,this];rfl
theorem Ha:∀(l:List (Int×Nat)) (i:Nat) (x:PV) (y:Value),(nS l)[i]?=some x->(ml l)[i]?=some y->(∃k n,x=.int k n/\y=.int k n)
 | [],i,x,y,b,_=>by simp[nS]at b
 | a::l,0,x,y,b,c=>by simp[nS]at b;simp[ml]at c;subst b c;exact⟨_,_,rfl,rfl⟩
 | a::l,1,x,y,b,c=>by simp[nS]at b;simp[ml]at c;subst b c;exact⟨_,_,rfl,rfl⟩
 | a::l,i+2,x,y,b,c=>Ha l i x y (by simpa[nS]using b) (by simpa[ml]using c)
theorem G9:∀(l:List (Int×Nat)) (o:Nat),(∀(i:Nat) (x:Int×Nat),l[i]?=some x->w.cell? ⟨b,o+i*2,none⟩=some (.int .i64 x.1)/\w.cell? ⟨b,o+(i*2+1),none⟩=some (.int .u64 x.2))->∀(j:Nat) (v:Value),(ml l)[j]?=some v->w.cell? ⟨b,o+j,none⟩=some v
 | [],_,_,j,v,c=>by simp[ml]at c
 | a::l,o,h,0,v,c=>by simp[ml]at c;subst c;exact(h 0 a rfl).1
 | a::l,o,h,1,v,c=>by simp[ml]at c;subst c;exact(h 0 a rfl).2
 | a::l,o,h,j+2,v,c=>by
  have:=G9 l (o+2) (fun i x d=>by
   have:=h (i+1) x (by simpa using d);rw[show o+2+i*2=o+(i+1)*2 by omega,show o+2+(i*2+1)=o+((i+1)*2+1) by omega];exact this) j v (by simpa[ml]using c)
  rw[show o+(j+2)=o+2+j by omega];exact this
theorem Pq{l:List (Int×Nat)}(hb:b<w.heap.size)(hlc:l.length<=c)(hcm:c<=maxLen)(hcell:∀(i:Nat) (x:Int×Nat),l[i]?=some x->w.cell? ⟨b,o+i*2,none⟩=some (.int .i64 x.1)/\w.cell? ⟨b,o+(i*2+1),none⟩=some (.int .u64 x.2)):CI w (.list p 2 (kC l)) (.slice (some ⟨b,o,none⟩) l.length c):=by
 have e:l.length=(kC l).length:=(Yw ..).symm;rw[e];have f:∀l:List (Int×Nat),(nS l).length=(ml l).length:=fun l=>by
  induction l with
  | nil=>rfl
  | cons a l g=>simp[nS,ml]at g⊢
 refine CI.list (cs:=ml l) hb (by rw[Yw];exact hlc) hcm uo (by rw[sJ];exact f l) (fun i x y d h=>?_) (G9 l o hcell) (fun x d=>?_)
 .rw[sJ]at d;obtain⟨k,n,rfl,rfl⟩:=Ha l i x y d h;exact .int _ _
 .rw[sJ]at d;unfold nS at d;obtain⟨y,_,d⟩:=YG.1 d;simp at d;rcases d with rfl|rfl<;>rfl
def dW(s:ByteArray):LN:=s.data.toList.map (·.toNat)
theorem Lp:(dW s).length=s.size:=(Yw ..).trans (zAD9 ..)
theorem Lq:vH (dW s):=fun x a=>by
 unfold dW at a;obtain⟨y,_,rfl⟩:=Yx.1 a;exact y.toNat_lt
theorem sI:∀l:List (LN),(kB l).flatMap PV.cells=kB l
 | []=>rfl
 | x::l=>by have:=sI l;unfold kB at this⊢;rw[YL,YT,this];rfl
theorem Pp{l:List ByteArray}(hb:b<w.heap.size)(hlc:l.length<=c)(hcm:c<=maxLen)(hcell:∀(i:Nat) (x:ByteArray),l[i]?=some x->w.cell? ⟨b,o+i,none⟩=some (.string x)):CI w (.list p 1 (kB (l.map dW))) (.slice (some ⟨b,o,none⟩) l.length c):=by
 have e:l.length=(kB (l.map dW)).length:=by unfold kB;rw[Yw,Yw]
 rw[e];refine CI.list (cs:=l.map Value.string) hb (by rw[<- e];exact hlc) hcm uo (by rw[sI];simp) (fun i x y a f=>?_) (fun j v d=>?_) (fun x a=>?_)
 .rw[sI]at a;unfold kB at a;rw[YH,YH]at a;rw[YH]at f
  cases hn:l[i]? with
  | none=>rw[hn]at a;cases a
  | some n=>rw[hn]at a f;injection a with a;injection f with f;subst a f;exact .str _
 .rw[YH]at d
  cases a:l[j]? with
  | none=>rw[a]at d;cases d
  | some x=>rw[a]at d;injection d with d;subst d;exact hcell j x a
 .rw[sI]at a;obtain⟨n,_,rfl⟩:=Yx.1 a;rfl
end Fv
section
variable {H:Type}{enc:TypeId×Value->H}{w:World}{base:Nat}{spare:Nat->Bool}{held:Bool}{r:Reach}{b0:Nat}
variable {fuel:Nat}{v:Value}{x:DataW H×List MemPlace}
theorem UL(hv:Value.okWide prog w r b0 23 v)(h:DataW.trod enc prog w base spare held fuel 23 [v]=some x):∃(l:List (Int×Nat)),(∀x∈l,Fv.uk x.2)/\Fv.CI w (.list 0 2 (Fv.kC l)) v:=by
 rcases Go.Deep.open_slice_pairs underlying23 underlying96 (by kernel_rfl) rfl rfl (by kernel_rfl) (by kernel_rfl) h with⟨e,_⟩|⟨a,len,G,m,n,P,Q,R,S,T,U,e,_,hl,J,I,_,g⟩
 .injection e with e;subst e;exact⟨[],fun x g=>by simp at g,.nilsl _ _⟩
 .injection e with e;subst e;have O:len<=m:=by
   rw[I];split
   .exact hl
   .exact Ym _
  obtain⟨u,t⟩:=Fv.HD underlying23 hv;obtain⟨b,off,N⟩:=a;dsimp only at u t;subst t;have D:∀i,i<len->∃y:Int×Nat,Fv.uk y.2/\w.cell? ⟨b,off+i*2,none⟩=some (.int .i64 y.1)/\w.cell? ⟨b,off+(i*2+1),none⟩=some (.int .u64 y.2):=fun i d=>by
   obtain⟨A,B,t0,t1⟩:=g i zo;obtain⟨K,k,_,V⟩:=DataW.trod_int underlying3 t0;obtain⟨q,s,_,L⟩:=DataW.trod_int underlying29 t1;injection k with k;injection s with s;have M:=bounds_u64 L;refine⟨(K,q.toNat),show q.toNat<_ by omega,?_,?_⟩
   .rw[k]at A;rwa [BC]at A
   .rw[s]at B;show _=some (Value.int .u64 ((q.toNat:Nat):Int));rw[Int.toNat_of_nonneg M.1];rwa [BC]at B
  haveI:Inhabited (Int×Nat):=⟨(0,0)⟩
  obtain⟨f,C⟩:=Go.Deep.choose_lt (p:=fun i (y:Int×Nat)=>Fv.uk y.2/\w.cell? ⟨b,off+i*2,none⟩=some (.int .i64 y.1)/\w.cell? ⟨b,off+(i*2+1),none⟩=some (.int .u64 y.2)) D;refine⟨(List.range len).map f,fun x g=>by
   obtain⟨i,d,rfl⟩:=Yx.1 g;exact(C i (Zm.1 d)).1,?_⟩
  have j:((List.range len).map f).length=len:=by simp
  have:=Fv.Pq (w:=w) (p:=0) (l:=(List.range len).map f) (b:=b) (o:=off) (c:=G) u (by rw[j];exact hl) J (fun i x d=>by
   have z:i<len:=by have:=(Yl.1 d).1;rwa [j]at this
   rw[YH,zCG9 z]at d;injection d with d;subst d;exact(C i z).2)
  rwa [j]at this
theorem UK(hv:Value.okWide prog w r b0 22 v)(h:DataW.trod enc prog w base spare held fuel 22 [v]=some x):∃(l:List (LN)),(∀s∈l,Fv.vH s/\s.length<9223372036854775808)/\Fv.CI w (.list 0 1 (Fv.kB l)) v:=by
 rcases Go.Deep.open_strs underlying22 underlying9 (by kernel_rfl) h with⟨d,_⟩|⟨a,len,q,m,j,d,_,hl,z,t,_,f⟩
 .injection d with d;subst d;exact⟨[],fun x f=>by simp at f,.nilsl _ _⟩
 .injection d with d;subst d;have C:len<=m:=by
   rw[t];split
   .exact hl
   .exact Ym _
  obtain⟨n,k⟩:=Fv.HD underlying22 hv;obtain⟨b,off,B⟩:=a;dsimp only at n k;subst k;refine⟨((List.range len).map j).map Fv.dW,fun s A=>?_,?_⟩
  .obtain⟨y,hy,rfl⟩:=Yx.1 A;obtain⟨i,e,rfl⟩:=Yx.1 hy;refine⟨Fv.Lq _,?_⟩;rw[Fv.Lp];have:=(f i (by have:=Zm.1 e;omega)).2;unfold maxLen at this;omega
  .have g:((List.range len).map j).length=len:=by simp
   have:=Fv.Pp (w:=w) (p:=0) (l:=(List.range len).map j) (b:=b) (o:=off) (c:=q) n (by rw[g];exact hl) z (fun i x e=>by
    have u:i<len:=by have:=(Yl.1 e).1;rwa [g]at this
    rw[YH,zCG9 u]at e;injection e with e;subst e;have:=(f i zo).1
    rwa [BC]at this)
   rwa [g]at this
theorem UJ(hv:Value.okWide prog w r b0 25 v)(h:DataW.trod enc prog w base spare held fuel 25 v.cells.toList=some x):∃(names:List (LN)) (bits:Int) (bent:List (Int×Nat)),(∀s∈names,Fv.vH s/\s.length<9223372036854775808)/\(∀x∈bent,Fv.uk x.2)/\Fv.CI w (.agg [.list 0 1 (Fv.kB names),Fv.iv bits,.list 0 2 (Fv.kC bent)]) v:=by
 unfold Value.okWide at hv;rw[underlying25]at hv;obtain⟨cs,rfl,g,q,m,_,f⟩:=hv;obtain rfl:[22,3,23]=q:=Option.some.inj (Eq.trans (show prog.cellTypes prog.depth 25=some [22,3,23] by kernel_rfl).symm m);have g:cs.size=3:=g.trans (by kernel_rfl);obtain⟨c,e,d,rfl⟩:∃c e d,cs=#[c,e,d]:=⟨cs[0],cs[1],cs[2],by
  apply Array.ext
  .simp[g]
  .intro i h1 h2
   match i with
   | 0=>rfl
   | 1=>rfl
   | 2=>rfl
   | i+3=>omega⟩
 obtain⟨J,j,t⟩:=f 0 c rfl;obtain⟨K,k,L⟩:=f 1 e rfl;obtain⟨M,l,u⟩:=f 2 d rfl;injection j with j;injection k with k;injection l with l;subst j k l;have z:Value.okWide prog w r b0 22 c:=by unfold Value.okWide;rw[underlying22];exact t
 have A:Value.okWide prog w r b0 23 d:=by unfold Value.okWide;rw[underlying23];exact u
 obtain⟨N,O,P,n,_,_,t0,t1,t2⟩:=Go.Deep.trod_struct3 underlying25 h;have B:prog.cellsOf 22=1:=by kernel_rfl
 have C:prog.cellsOf 3=1:=by kernel_rfl
 have D:prog.cellsOf 23=1:=by kernel_rfl
 dsimp only at t0 t1 t2;rw[B]at t0;rw[C]at t1;rw[D]at t2;obtain⟨names,hn,o⟩:=UK z t0;obtain⟨bits,G,_,_⟩:=DataW.trod_int underlying3 t1;obtain rfl:e=.int .i64 bits:=(List.cons.inj G).1;obtain⟨bent,I,p⟩:=UL A t2;refine⟨names,bits,bent,hn,I,?_⟩;refine Fv.CI.agg (cs:=[c,.int .i64 bits,d]) rfl (fun i x y a b=>?_) (fun x a=>?_)
 .match i with
  | 0=>injection a with a;injection b with b;subst a b;exact o
  | 1=>injection a with a;injection b with b;subst a b;exact .int _ _
  | 2=>injection a with a;injection b with b;subst a b;exact p
  | i+3=>simp at a
 .simp only[YA,Zl,or_false]at a;rcases a with rfl|rfl|rfl<;>rfl
end
open Go.ChangeShapes Go.WideShapes
theorem uC{a b:Bool}(ha:a=true)(hb:b=true):(a&&b)=true:=by subst ha hb;rfl
theorem j1:(Rows.dirHoldsRow.wf (OpenSpec.ofChange Rows.dirHoldsSpec))=true:=by kernel_rfl
theorem j2:(laidOutB prog)=true:=by kernel_rfl
theorem j3:(mapsRowed prog)=true:=by kernel_rfl
theorem j4:(Tryz.f7.params.all (prog.readableRec ·))=true:=by kernel_rfl
theorem j5:(namedTie prog Rows.dirHoldsRow.named Rows.dirHoldsSpec.vars)=true:=by kernel_rfl
theorem j6:(Rows.dirHoldsRow.stops == [])=true:=by kernel_rfl
theorem j7:(prog.stops == [])=true:=by kernel_rfl
theorem j8:(Rows.dirHoldsRow.knobs == [])=true:=by kernel_rfl
theorem j9:(prog.stopKnobs == [])=true:=by kernel_rfl
theorem R3:(Rows.dirHoldsRow.inPlace==prog.inPlace 7)=true:=by kernel_rfl
theorem R4:(Rows.dirHoldsRow.unfollowed==prog.unfollowed 7)=true:=by kernel_rfl
theorem R5:(Rows.dirHoldsRow.recurses==prog.recurses 7)=true:=by kernel_rfl
theorem R6:(Rows.dirHoldsRow.named==prog.varsNamed 7)=true:=by kernel_rfl
theorem R7:(Rows.dirHoldsRow.maps==(Tryz.f7.params.toList++Rows.dirHoldsSpec.plain.varTypes prog).any (prog.mapsRec ·))=true:=by kernel_rfl
theorem R8:(Rows.dirHoldsRow.ifaces==(Tryz.f7.params.toList++Rows.dirHoldsSpec.plain.varTypes prog).any (prog.ifacesRec ·))=true:=by kernel_rfl
theorem R9:(Rows.dirHoldsRow.mapsOut==prog.mapsAmong Tryz.f7.resultTypes.toList)=true:=by kernel_rfl
theorem Sa:(Rows.dirHoldsRow.loops==(Tryz.f7.params.toList++Rows.dirHoldsSpec.plain.varTypes prog).any (prog.loopsFrom ·))=true:=by kernel_rfl
theorem Sb:(Rows.dirHoldsRow.wideKeys==(Tryz.f7.params.toList++Rows.dirHoldsSpec.plain.varTypes prog++Tryz.f7.resultTypes.toList).any (prog.wideKeysFrom ·))=true:=by kernel_rfl
theorem Sc:(Rows.dirHoldsSpec.vars.all (prog.varReadable ·))=true:=by kernel_rfl
theorem Sd:(Tryz.f7.resultTypes.all (fun t=>prog.readableRec t&&decide (t<prog.types.size)))=true:=by kernel_rfl
theorem Se:(Rows.dirHoldsRow.ifacesOut==Tryz.f7.resultTypes.toList.any (prog.ifacesRec ·))=true:=by kernel_rfl
theorem Sf:(Rows.dirHoldsRow.loopsOut==Tryz.f7.resultTypes.toList.any (prog.loopsFrom ·))=true:=by kernel_rfl
theorem Sg:(Rows.dirHoldsRow.plainKeys==prog.plainKeys)=true:=by kernel_rfl
theorem Sh:(Rows.dirHoldsRow.shortTexts.isNone)=true:=by kernel_rfl
theorem Si:(prog.stopsHeard)=true:=by kernel_rfl
theorem Sj:(prog.mayEnter)=true:=by kernel_rfl
theorem Sk:(Rows.dirHoldsRow.lifted==prog.liftsFinal)=true:=by kernel_rfl
theorem Sl:(prog.make==some Rows.dirHoldsRow.make)=true:=by kernel_rfl
theorem Sm:(Rows.dirHoldsRow.kinds==(if Rows.dirHoldsRow.domain.isEmpty then[]else Tryz.f7.params.toList.map fun t=>match prog.underlying t with|some (.int k)=>some k|_=>none))=true:=by kernel_rfl
theorem Sn:(Rows.dirHoldsRow.pinned==Rows.dirHoldsRow.pinnedBy)=true:=by kernel_rfl
theorem Sp:(Rows.dirHoldsRow.veiled==(Tryz.f7.params.toList++Rows.dirHoldsSpec.plain.varTypes prog++Tryz.f7.resultTypes.toList).any (prog.veiledRec ·))=true:=by kernel_rfl
theorem Sq:(Rows.dirHoldsRow.veiledFits prog Tryz.f7.params.toList (Tryz.f7.params.toList++Rows.dirHoldsSpec.plain.varTypes prog++Tryz.f7.resultTypes.toList))=true:=by kernel_rfl
theorem Sr:joinedFacts prog 7 Tryz.f7 Rows.dirHoldsSpec Rows.dirHoldsRow=true:=uC (uC (uC (uC (uC (uC (uC (uC (uC (uC (uC (uC (uC (uC (uC (uC (uC (uC (uC (uC (uC (uC (uC (uC (uC (uC (uC (uC (uC (uC (uC (j1) j2) j3) j4) j5) j6) j7) j8) j9) R3) R4) R5) R6) R7) R8) R9) Sa) Sb) Sc) Sd) Se) Sf) Sg) Sh) Si) Sj) Sk) Sl) Sm) Sn) Sp) Sq
theorem SM(os:Os)(started:os.Started)(H:Type)(enc:TypeId×Value->H) :
  ReturnsInHanded {} Tryz.checked os 7 .any (Rows.dirHoldsSpec.pre6 enc prog Tryz.f7 Rows.dirHoldsRow.domain false) (Rows.dirHoldsSpec.post enc prog Tryz.f7 false true false false):=by
 refine returnsInHanded_of_change (C:=Tryz.checked) SA started (by kernel_rfl) func7
  (ChangeSpec.witness6 (enc:=enc) (C:=Tryz.checked) false ⟨#[],#[.agg #[.slice none 0 0,.int .i64 0,.slice none 0 0],.string ⟨#[]⟩,.bool false],[]⟩ 8 (by kernel_rfl) (by kernel_rfl) (by kernel_rfl) (by kernel_rfl)) ?_
 intro W base args K gs X k o Z _;have c:∀(j:Nat) t v,Tryz.f7.params[j]?=some t->args[j]?=some v->Value.okWide prog W .any base t v:=k;have G:=o;obtain⟨p,q,l,L,rfl,ab,ad⟩:=o;have r:DataW.TrodAll enc prog W 0 (fun _=>true) true Tryz.f7.params.toList args.toList K p:=l;rw[Tryz.params7]at r c;obtain⟨f,ah,d0,av,M,q0,Y,rfl,rfl,h0,N⟩:=trodAll_cons r;obtain⟨u,a0,d1,a1,p1,q1,rfl,rfl,rfl,h1,O⟩:=trodAll_cons N;obtain⟨z,a2,d2,a3,p2,q2,rfl,rfl,rfl,h2,P⟩:=trodAll_cons O;obtain⟨rfl,rfl,rfl⟩:=trodAll_nil P;obtain rfl:args=#[f,u,z]:=by cases args;simp_all
 obtain⟨rfl,rfl⟩:=trodVars_none L;have Q:=c 0 25 f rfl rfl;have A:=h0;have I:∀x∈M,x.block<W.heap.size:=by obtain⟨m,R⟩:=A;exact DataW.trod_lt m _ _ _ R
 obtain⟨g,rfl,rfl,rfl,B⟩:=Go.ChangeMaps.open_string underlying9 (c 1 9 u rfl rfl) h1;obtain⟨D,rfl,rfl,rfl⟩:=open_bool underlying4 (c 2 4 z rfl rfl) h2;obtain⟨names,bits,d,hn,S,J⟩:∃(names:List (LN)) (bits:Int) (d:List (Int×Nat)),(∀s∈names,Fv.vH s/\s.length<9223372036854775808)/\(∀x∈d,Fv.uk x.2)/\Fv.CI W (.agg [.list 0 1 (Fv.kB names),Fv.iv bits,.list 0 2 (Fv.kC d)]) f:=by
  obtain⟨fuel,T⟩:=h0;exact UJ Q T
 clear l k;refine(Fv.FP.calls (w:=W) Fv.MX (Fv.FN.FP (Fv.Rt 0 0 names bits d (Fv.dW g) D hn S (Fv.Lq g) (by rw[Fv.Lp];unfold maxLen at B;omega))) (args':=[f,.string g,.bool D]) rfl (fun i x y a b=>?_)).mono fun e U ⟨V,a⟩=>?_
 .match i with
  | 0=>injection a with a;injection b with b;subst a b;exact J
  | 1=>injection a with a;injection b with b;subst a b;exact .str _
  | 2=>injection a with a;injection b with b;subst a b;exact .bool _
  | i+3=>simp at a
 have n:Below W.heap.size W U:=a;subst V;exact⟨_,rfl,_,_,_,[],_,[],G,trodAll_mk1 (shut_bool underlying4 _),(trodAll_cons_mk (Below.trod SH (by kernel_rfl) (of_decide_eq_true (by kernel_rfl)) A n I) (trodAll_cons_mk (Go.ChangeMaps.shut_string underlying9 B) (trodAll_cons_mk (shut_bool underlying4 _) trodAll_mk0))),rfl,n.frame _,fun h=>by cases h⟩
theorem SN:Rows.dirHoldsRow.holds Tryz.pinned (OpenSpec.ofChange Rows.dirHoldsSpec) :=
 OpenClaim.holds_of_wide 7 Tryz.f7 rfl rfl rfl rfl rfl rfl rfl ⟨rfl,rfl,rfl,rfl,rfl⟩ rfl rfl rfl rfl rfl (by kernel_rfl) func7 Sr
  (of_decide_eq_true (by kernel_rfl)) (by unfold Func.isWrapper;first|(rw[if_pos (by decide +kernel)];kernel_rfl)|(rw[if_neg (by decide +kernel)];exact⟨rfl,rfl⟩))
  (fun b a H enc _=>SM b a H enc)
theorem dir_holds:Rows.DirHoldsSaid:=SN
#print axioms dir_holds
end Go.Proofs.YtkeknmgnoceogaaGreat
