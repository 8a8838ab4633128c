/- part 2 of the proof of tree_builds. -/
import Derived.Test.YtfomlmhnmheenaaGreatTB1
import Derived.ScopeJumps
import Derived.LoopNIn
set_option linter.unusedSimpArgs false
set_option linter.unusedVariables false
namespace Go.Proofs.YtfomlmhnmheenaaGreat
open Go.RowKit
namespace Tw
variable {P:Program} {ρ ρ':Rho} {Z:Nat} {h h':TH} {w:World}
theorem zlU (f:Nat→Nat):∀ (l:List Edge) (s j:Nat),(l.foldl (fun s e=>if Region.binds .any e then Nat.lor (Nat.lor s (2 ^ e.on)) (f e.on) else s) s).testBit j=true↔s.testBit j=true∨∃ e∈l,Region.binds .any e=true∧(j=e.on∨(f e.on).testBit j=true)
 | [],s,j=>by simp
 | e::l,s,j=>by
  rw [List.foldl_cons,zlU f l]
  by_cases hb:Region.binds .any e=true
  ·rw [if_pos hb]
   have:(Nat.lor (Nat.lor s (2 ^ e.on)) (f e.on)).testBit j=(s.testBit j || decide (e.on=j) || (f e.on).testBit j):=by
    change ((s ||| 2 ^ e.on) ||| f e.on).testBit j=_
    rw [Nat.testBit_or,Nat.testBit_or,Nat.testBit_two_pow]
   rw [this]
   simp only [Bool.or_eq_true,decide_eq_true_eq,List.mem_cons]
   constructor
   ·rintro (((h | h) | h) | ⟨e',h1,h2⟩)
    ·exact .inl h
    ·exact .inr ⟨e,.inl rfl,hb,.inl h.symm⟩
    ·exact .inr ⟨e,.inl rfl,hb,.inr h⟩
    ·exact .inr ⟨e',.inr h1,h2⟩
   ·rintro (h | ⟨e',h1,h2,h3⟩)
    ·exact .inl (.inl (.inl h))
    ·rcases h1 with rfl | h1
     ·rcases h3 with h3 | h3
      ·exact .inl (.inl (.inr h3.symm))
      ·exact .inl (.inr h3)
     ·exact .inr ⟨e',h1,h2,h3⟩
  ·rw [if_neg hb]
   simp only [List.mem_cons]
   constructor
   ·rintro (h | ⟨e',h1,h2⟩)
    ·exact .inl h
    ·exact .inr ⟨e',.inr h1,h2⟩
   ·rintro (h | ⟨e',h1,h2,h3⟩)
    ·exact .inl h
    ·rcases h1 with rfl | h1
     ·exact absurd h2 hb
     ·exact .inr ⟨e',h1,h2,h3⟩
theorem zgo:∀ {l:List Oper} {i:Nat},ziO l i=true→∀ k o,l[k]?=some o→∀ e∈o.after,Region.binds .any e=true→e.on < i + k
 | [],i,_,k,o,h,_,_,_=>by simp at h
 | o::l,i,hb,k,o',h,e,he,hbd=>by
  simp only [ziO,Bool.and_eq_true] at hb
  cases k with
  | zero =>
   simp at h;subst h
   have:=Array.all_eq_true_iff_forall_mem.1 hb.1 e he
   simp [hbd] at this
   simpa using this
  | succ k =>
   have:=zgo hb.2 k o' (by simpa using h) e he hbd
   omega
theorem zlx:∀ (l:List Oper) (acc:List Nat),ziO l acc.length=true→(zbX l acc).length=acc.length + l.length∧(∀ i,i < acc.length→(zbX l acc).getD i 0=acc.reverse.getD i 0) ∧
  ∀ k o,l[k]?=some o→∀ j,((zbX l acc).getD (acc.length + k) 0).testBit j=true↔∃ e∈o.after.toList,Region.binds .any e=true∧(j=e.on∨((zbX l acc).getD e.on 0).testBit j=true)
 | [],acc,_=>⟨by simp [zbX],fun i _=>rfl,fun k o h=>by simp at h⟩
 | o::l,acc,hb=>by
  have hb':=hb
  simp only [ziO,Bool.and_eq_true] at hb
  have hrec:zbX (o::l) acc=zbX l (o.after.toList.foldl (fun s e=>if Region.binds .any e then Nat.lor (Nat.lor s (2 ^ e.on)) (acc.reverse.getD e.on 0) else s) 0::acc):=rfl
  generalize hm:o.after.toList.foldl (fun s e=>if Region.binds .any e then Nat.lor (Nat.lor s (2 ^ e.on)) (acc.reverse.getD e.on 0) else s) 0=m at hrec
  obtain ⟨h1,h2,h3⟩:=zlx l (m::acc) (by simpa using hb.2)
  rw [hrec]
  simp only [List.length_cons] at h1 h2 h3
  have hold:∀ i,i < acc.length→(zbX l (m::acc)).getD i 0=acc.reverse.getD i 0:=fun i hi=>by
   rw [h2 i (by omega)]
   simp only [List.reverse_cons,List.getD_eq_getElem?_getD]
   rw [List.getElem?_append_left (by simpa using hi)]
  refine ⟨by simp only [List.length_cons];omega,hold,fun k o' ho j=>?_⟩
  cases k with
  | zero =>
   simp at ho;subst ho
   have hself:(zbX l (m::acc)).getD (acc.length + 0) 0=m:=by
    rw [h2 _ (by omega)]
    simp [List.getD_eq_getElem?_getD]
   rw [hself]
   have key:=zlU (fun i=>acc.reverse.getD i 0) o.after.toList 0 j
   rw [hm] at key
   refine key.trans ?_
   simp only [Nat.zero_testBit,Bool.false_eq_true,false_or]
   constructor
   ·rintro ⟨e,a1,a2,a3⟩
    have:=zgo hb' 0 o rfl e (by simpa using a1) a2
    exact ⟨e,a1,a2,by rw [hold _ (by omega)];exact a3⟩
   ·rintro ⟨e,a1,a2,a3⟩
    have:=zgo hb' 0 o rfl e (by simpa using a1) a2
    exact ⟨e,a1,a2,by rw [hold _ (by omega)] at a3;exact a3⟩
  | succ k =>
   have:=h3 k o' (by simpa using ho) j
   rw [show acc.length + (k + 1)=acc.length + 1 + k by omega]
   exact this
theorem zj1:∀ (os:List zM) (ms:List Nat) (i:Nat),os.length=ms.length→∀ k x,(zeq os ms i)[k]?=some x↔(x.i=i + k∧os[k]?=some x.o∧ms[k]?=some x.m)
 | [],[],i,_,k,x=>by simp [zeq]
 | o::os,m::ms,i,hl,k,x=>by
  simp only [zeq]
  cases k with
  | zero =>
   simp only [List.getElem?_cons_zero,Option.some.injEq]
   constructor
   ·rintro rfl;exact ⟨rfl,rfl,rfl⟩
   ·rintro ⟨a,b,c⟩;cases x;simp_all
  | succ k =>
   simp only [List.getElem?_cons_succ]
   rw [zj1 os ms (i + 1) (by simpa using hl) k x]
   constructor
   ·rintro ⟨a,b⟩;exact ⟨by omega,b⟩
   ·rintro ⟨a,b⟩;exact ⟨by omega,b⟩
 | [],_::_,i,hl,_,_=>by simp at hl
 | _::_,[],i,hl,_,_=>by simp at hl
structure Reg (P:Program) (N:Nat) (ops:Array Oper) (all acts:List Item):Prop where
 item:∀ i o,ops[i]?=some o→∃ x∈all,x.i=i
 op:∀ x∈all,∃ o,ops[x.i]?=some o∧OpR P N ops o x.o
 uniq:∀ x∈all,∀ y∈all,x.i=y.i→x=y
 back:∀ x∈all,∀ o,ops[x.i]?=some o→∀ e∈o.after,Region.binds .any e=true→e.on < x.i
 bits:∀ x∈all,∀ o,ops[x.i]?=some o→∀ j,x.m.testBit j=true↔∃ e∈o.after,Region.binds .any e=true∧(j=e.on∨∃ y∈all,y.i=e.on∧y.m.testBit j=true)
 ac:acts=all.filter fun x=>x.o.kind.cls == 2
 row:zia acts=true
 tmps:ziQ all=true
theorem Reg.lt {N:Nat} {ops:Array Oper} {all acts:List Item} (R:Reg P N ops all acts) {x:Item} (hx:x∈all):x.i < ops.size:=by
 obtain ⟨o,ho,_⟩:=R.op x hx
 exact (Array.getElem?_eq_some_iff.1 ho).1
theorem zpY {N:Nat} {ops:Array Oper} {os:List zM} (hos:zb8 (zi2 P N ops) ops.toList=some os) {c:zah} (hc:zki ops.toList os=some c) :
  ∃ all acts,Reg P N ops all acts∧c=.drawn (zdt all acts 0 acts) (all.filterMap fun x=>x.o.dst):=by
 unfold zki at hc
 dsimp only at hc
 split at hc
 ·rename_i hcond
  injection hc with hc
  simp only [Bool.and_eq_true] at hcond
  obtain ⟨⟨h1,h2⟩,h3⟩:=hcond
  obtain ⟨m1,m2⟩:=zhe hos
  obtain ⟨r1,_,r3⟩:=zlx ops.toList [] h1
  simp only [List.length_nil,Nat.zero_add] at r1 r3
  have hlen:os.length=(zbX ops.toList []).length:=by rw [r1,m1]
  have get:=zj1 os (zbX ops.toList []) 0 hlen
  have mem:∀ x,x∈zeq os (zbX ops.toList []) 0↔os[x.i]?=some x.o∧(zbX ops.toList [])[x.i]?=some x.m:=fun x=>by
   rw [List.mem_iff_getElem?]
   constructor
   ·rintro ⟨k,hk⟩
    obtain ⟨a,b,c⟩:=(get k x).1 hk
    simp only [Nat.zero_add] at a
    rw [a];exact ⟨b,c⟩
   ·rintro ⟨b,c⟩
    exact ⟨x.i,(get x.i x).2 ⟨by simp,b,c⟩⟩
  have ex:∀ i,i < ops.size→∃ x∈zeq os (zbX ops.toList []) 0,x.i=i∧x.m=(zbX ops.toList []).getD i 0:=fun i hi=>by
   have h1:i < os.length:=by rw [m1];simpa using hi
   have h2:i < (zbX ops.toList []).length:=by rw [← hlen];exact h1
   exact ⟨⟨i,os[i],(zbX ops.toList [])[i]⟩,(mem _).2 ⟨List.getElem?_eq_getElem h1,List.getElem?_eq_getElem h2⟩,rfl,by simp [List.getD_eq_getElem?_getD,List.getElem?_eq_getElem h2]⟩
  have md:∀ x∈zeq os (zbX ops.toList []) 0,x.m=(zbX ops.toList []).getD x.i 0:=fun x hx=>by
   rw [List.getD_eq_getElem?_getD,((mem x).1 hx).2];rfl
  refine ⟨zeq os (zbX ops.toList []) 0,_,⟨fun i o ho=>?_,fun x hx=>?_,fun x hx y hy e=>?_,fun x hx o ho e he hb=>?_,fun x hx o ho j=>?_,rfl,h2,h3⟩,hc.symm⟩
  ·obtain ⟨x,hx,e,_⟩:=ex i (Array.getElem?_eq_some_iff.1 ho).1
   exact ⟨x,hx,e⟩
  ·obtain ⟨a,b⟩:=(mem x).1 hx
   have hi:x.i < ops.size:=by have:=(List.getElem?_eq_some_iff.1 a).1;rw [m1] at this;simpa using this
   exact ⟨ops[x.i],Array.getElem?_eq_getElem hi,zng (m2 x.i ops[x.i] x.o (by simp [hi]) a)⟩
  ·obtain ⟨a,b⟩:=(mem x).1 hx
   obtain ⟨c,d⟩:=(mem y).1 hy
   rw [e,c] at a
   rw [e,d] at b
   injection a with a;injection b with b
   obtain ⟨xi,xo,xm⟩:=x
   obtain ⟨yi,yo,ym⟩:=y
   simp_all
  ·have:=zgo h1 x.i o (by simpa using ho) e he hb
   omega
  ·rw [md x hx,r3 x.i o (by simpa using ho) j]
   constructor
   ·rintro ⟨e,a1,a2,a3⟩
    have a1':e∈o.after:=by simpa using a1
    refine ⟨e,a1',a2,?_⟩
    rcases a3 with a3 | a3
    ·exact .inl a3
    ·have hlt:=zgo h1 x.i o (by simpa using ho) e a1' a2
     have hx':=(Array.getElem?_eq_some_iff.1 ho).1
     obtain ⟨y,hy,e1,e2⟩:=ex e.on (by omega)
     exact .inr ⟨y,hy,e1,by rw [e2];exact a3⟩
   ·rintro ⟨e,a1,a2,a3⟩
    refine ⟨e,by simpa using a1,a2,?_⟩
    rcases a3 with a3 | ⟨y,hy,e1,a3⟩
    ·exact .inl a3
    ·rw [md y hy,e1] at a3;exact .inr a3
 ·cases hc
def zfb (all:List Item) (D:Array Bool):Prop:=∀ x∈all,D.getD x.i true=true→∀ j,x.m.testBit j=true→D.getD j true=true
theorem zoE {D:Array Bool} {i:Nat} (h:D.getD i false=true):D.getD i true=true:=by
 simp only [Array.getD_eq_getD_getElem?] at *
 cases hD:D[i]? with
 | none=>rfl
 | some b=>rw [hD] at h;exact h
theorem zpC {N:Nat} {ops:Array Oper} {all acts:List Item} (R:Reg P N ops all acts) {D:Array Bool} (hc:zfb all D) {x:Item} (hx:x∈all) (hr:x.i∈Region.ready .any ops D):D.getD x.i true=false∧∀ j,x.m.testBit j=true→D.getD j true=true:=by
 obtain ⟨h0,o,ho,hall⟩:=mem_ready.1 hr
 refine ⟨h0,fun j hj=>?_⟩
 obtain ⟨e,he,hb,hor⟩:=(R.bits x hx o ho j).1 hj
 rcases hor with rfl | ⟨y,hy,e1,hyj⟩
 ·exact zoE (hall e he hb)
 ·exact hc y hy (by rw [e1];exact zoE (hall e he hb)) j hyj
theorem zls {N:Nat} {ops:Array Oper} {all acts:List Item} (R:Reg P N ops all acts) {D:Array Bool} (hs:D.size=ops.size) (hr:Region.ready .any ops D=[]):∀ i,i < ops.size→D.getD i true=true:=by
 intro i
 induction i using Nat.strongRecOn with
 | _ i ih =>
  intro hi
  cases hd:D.getD i true with
  | true=>rfl
  | false =>
   exfalso
   obtain ⟨x,hx,e⟩:=R.item i ops[i] (Array.getElem?_eq_getElem hi)
   have:i∈Region.ready .any ops D:=mem_ready.2 ⟨hd,ops[i],Array.getElem?_eq_getElem hi,fun ed hed hb=>by
    have hlt:=R.back x hx ops[i] (by rw [e];exact Array.getElem?_eq_getElem hi) ed hed hb
    rw [e] at hlt
    have h1:=ih ed.on hlt (by omega)
    simp only [Array.getD_eq_getD_getElem?] at *
    rw [Array.getElem?_eq_getElem (by omega)] at *
    exact h1⟩
   rw [hr] at this
   cases this
theorem zcN (D:Array Bool) (i j:Nat) (hi:i < D.size):(D.setIfInBounds i true).getD j true=if j=i then true else D.getD j true:=by
 simp only [Array.getD_eq_getD_getElem?]
 by_cases h:j=i
 ·subst h;rw [if_pos rfl];simp [hi]
 ·rw [if_neg h,Array.getElem?_setIfInBounds_ne (fun e=>h e.symm)]
theorem zfb.set {all:List Item} {D:Array Bool} (hc:zfb all D) {N:Nat} {ops:Array Oper} {acts:List Item} (R:Reg P N ops all acts) {x:Item} (hx:x∈all) (hi:x.i < D.size) (hm:∀ j,x.m.testBit j=true→D.getD j true=true):zfb all (D.setIfInBounds x.i true):=by
 intro y hy hd j hj
 rw [zcN _ _ _ hi] at hd ⊢
 split
 ·rfl
 ·split at hd
  ·rename_i e;rw [R.uniq y hy x hx e] at hj;exact hm j hj
  ·exact hc y hy hd j hj
theorem zgL {D:Array Bool} {i:Nat} (h:D.getD i true=false):0 < D.toList.count false∧i < D.size:=by
 simp only [Array.getD_eq_getD_getElem?] at h
 cases hD:D[i]? with
 | none=>rw [hD] at h;cases h
 | some b =>
  rw [hD] at h
  simp only [Option.getD_some] at h
  subst h
  have:=Array.getElem?_eq_some_iff.1 hD
  obtain ⟨h1,h2⟩:=this
  exact ⟨List.count_pos_iff.2 (by rw [← h2];exact Array.getElem_mem_toList h1),h1⟩
theorem count_set {D:Array Bool} {i:Nat} (h:D.getD i true=false):(D.setIfInBounds i true).toList.count false + 1=D.toList.count false:=by
 obtain ⟨hp,hi⟩:=zgL h
 have hx:D[i]=false:=by simpa [Array.getD_eq_getD_getElem?,Array.getElem?_eq_getElem hi] using h
 rw [Array.toList_setIfInBounds,List.count_set (by simpa using hi)]
 have h1:(D.toList[i]'(by simpa using hi) == false)=true:=by simp [hx]
 rw [h1]
 simp only [if_true]
 have h2:(true == false)=false:=rfl
 rw [h2]
 simp only [Bool.false_eq_true,if_false]
 omega
theorem ziy:∀ {l:List Item} {a x:Item},zia (a::l)=true→x∈l→∃ p∈a::l,x.m.testBit p.i=true
 | [],a,x,_,hx=>by simp at hx
 | b::l,a,x,hr,hx=>by
  simp only [zia,Bool.and_eq_true] at hr
  rcases List.mem_cons.1 hx with rfl | hx
  ·exact ⟨a,List.mem_cons_self,hr.1⟩
  ·obtain ⟨p,hp,e⟩:=ziy hr.2 hx
   exact ⟨p,List.mem_cons_of_mem _ hp,e⟩
theorem zh7:∀ (pre:List Item) {l:List Item},zia (pre++l)=true→zia l=true
 | [],l,h=>h
 | a::pre,l,h=>by
  refine zh7 pre ?_
  cases hp:pre++l with
  | nil=>rfl
  | cons b m =>
   rw [List.cons_append,hp] at h
   simp only [zia,Bool.and_eq_true] at h
   exact h.2
theorem zoD {pre l:List Item} {x:Item} (h:∀ a∈l,x.m.testBit a.i=false):zd2 (pre++l) x≤pre.length:=by
 unfold zd2
 rw [List.filter_append,List.length_append]
 have:l.filter (fun a=>x.m.testBit a.i)=[]:=List.filter_eq_nil_iff.2 fun a ha=>by rw [h a ha];simp
 rw [this]
 have:=List.length_filter_le (fun a:Item=>x.m.testBit a.i) pre
 simpa using this
theorem zqo {all:List Item} (h:ziQ all=true) {x:Item} (hx:x∈all) (h2:x.o.kind.cls ≠ 2):∃ d,x.o.dst=some d:=by
 have:=List.all_eq_true.1 h x hx
 simp only [Bool.and_eq_true] at this
 cases hd:x.o.dst with
 | some d=>exact ⟨d,rfl⟩
 | none=>have h1:=this.1.1;rw [hd] at h1;simp at h1;exact absurd h1 h2
theorem znz {all:List Item} (h:ziQ all=true) {x y:Item} (hx:x∈all) (hy:y∈all) (hne:y.i ≠ x.i) {d:Nat} (hd:x.o.dst=some d):y.o.dst ≠ some d:=by
 have:=List.all_eq_true.1 h x hx
 simp only [Bool.and_eq_true] at this
 have h1:=this.1.1
 rw [hd] at h1
 have:=List.all_eq_true.1 h1 y hy
 simp [hne] at this
 exact this
theorem zmJ {all:List Item} (h:ziQ all=true) {x:Item} (hx:x∈all):x.o.args.all zgi=true∧∀ p b,x.o.guard=some (p,b)→zgi p=true:=by
 have:=List.all_eq_true.1 h x hx
 simp only [Bool.and_eq_true] at this
 refine ⟨this.1.2.1,fun p b hg=>?_⟩
 have h1:=this.1.2.2
 rw [hg] at h1
 exact h1
theorem zn5 {all:List Item} (h:ziQ all=true) {x y:Item} (hx:x∈all) (hy:y∈all) {t:Nat} (ht:t∈zh4 x.o) (hd:y.o.dst=some t):x.m.testBit y.i=true∨y.m.testBit x.i=true:=by
 have:=List.all_eq_true.1 h x hx
 simp only [Bool.and_eq_true] at this
 have:=List.all_eq_true.1 (List.all_eq_true.1 this.2 t ht) y hy
 simpa [hd] using this
structure zhC (all:List Item) (D:Array Bool) (ρ:Rho) (tm nm:Tr TV) (tmps:Array Value):Prop where
 old:∀ t v,tm.get t=some v→(∀ y∈all,D.getD y.i true=true→y.o.dst ≠ some t)→∃ v',tmps[t]?=some v'∧VR ρ v v'
 new:∀ y∈all,D.getD y.i true=true→∀ d,y.o.dst=some d→∃ v v',nm.get d=some v∧tmps[d]?=some v'∧VR ρ v v'
theorem zhC.look {N:Nat} {ops:Array Oper} {all acts:List Item} (R:Reg P N ops all acts) {D:Array Bool} (hc:zfb all D) {tm nm:Tr TV} {tmps:Array Value} (k:zhC all D ρ tm nm tmps) {x:Item} (hx:x∈all) (hu:D.getD x.i true=false) (hm:∀ j,x.m.testBit j=true→D.getD j true=true) :
  ∃ tx,TmR ρ tx tmps∧zcT tx x.o.args=zcE tm nm (zcd all x).args∧zdz tx x.o.guard=zdj tm nm (zcd all x).guard:=by
 obtain ⟨tx,h1,h2⟩:=zko (zkm all x tm nm) (zh4 x.o)
 obtain ⟨n1,n2⟩:=zmJ R.tmps hx
 refine ⟨tx,fun t v hv=>?_,zji n1 fun y hy t ht=>h1 t ?_,zpI n2 fun p b t hg ht=>h1 t ?_⟩
 ·obtain ⟨ht,hs⟩:=h2 t v hv
  simp only [zkm,zjQ] at hs
  split at hs
  ·rename_i hany
   obtain ⟨y,hy,hyt⟩:=List.any_eq_true.1 hany
   simp only [Bool.and_eq_true,beq_iff_eq] at hyt
   obtain ⟨v1,v',a1,a2,a3⟩:=k.new y hy (hm _ hyt.2) t hyt.1
   simp only [zeu] at hs
   rw [hs] at a1
   injection a1 with a1;subst a1
   exact ⟨v',a2,a3⟩
  ·rename_i hany
   refine k.old t v hs fun y hy hd hdst=>?_
   rcases zn5 R.tmps hx hy ht hdst with e | e
   ·exact hany (List.any_eq_true.2 ⟨y,hy,by simp [hdst,e]⟩)
   ·have:=hc y hy hd _ e
    rw [hu] at this;cases this
 ·unfold zh4
  exact List.mem_filterMap.2 ⟨y,List.mem_append_left _ hy,ht⟩
 ·unfold zh4
  rw [hg]
  exact List.mem_filterMap.2 ⟨p,List.mem_append_right _ (by simp),ht⟩
theorem zhC.step {N:Nat} {ops:Array Oper} {all acts:List Item} (R:Reg P N ops all acts) {D:Array Bool} {tm nm nm':Tr TV} {a:Act} (k:zhC all D ρ tm nm a.tmps) (hρ:∀ b g loc,ρ b g=some loc→ρ' b g=some loc) (hnm:nm.sub nm') {x:Item} (hx:x∈all) (hi:x.i < D.size) {v':Value}
  (hv:∀ d,x.o.dst=some d→d < a.tmps.size∧∃ v,nm'.get d=some v∧VR ρ' v v'):zhC all (D.setIfInBounds x.i true) ρ' tm nm' (a.put x.o.dst v').tmps:=by
 have put:∀ t,x.o.dst ≠ some t→(a.put x.o.dst v').tmps[t]?=a.tmps[t]?:=fun t ht=>by
  cases hd:x.o.dst with
  | none=>rfl
  | some d =>
   simp only [Act.put]
   rw [Array.getElem?_setIfInBounds_ne (fun e=>ht (by rw [hd,e]))]
 refine ⟨fun t v hv' hno=>?_,fun y hy hd d hdst=>?_⟩
 ·obtain ⟨u,h1,h2⟩:=k.old t v hv' fun y hy hd=>hno y hy (by rw [zcN _ _ _ hi];split;rfl;exact hd)
  exact ⟨u,by rw [put t (hno x hx (by rw [zcN _ _ _ hi,if_pos rfl]))];exact h1,h2.mono hρ⟩
 ·rw [zcN _ _ _ hi] at hd
  by_cases e:y.i=x.i
  ·have:=R.uniq y hy x hx e
   subst this
   obtain ⟨h1,v,h2,h3⟩:=hv d hdst
   exact ⟨v,v',h2,by rw [hdst];simp [Act.put,h1],h3⟩
  ·rw [if_neg e] at hd
   obtain ⟨v,u,h1,h2,h3⟩:=k.new y hy hd d hdst
   exact ⟨v,u,hnm _ _ h1,by rw [put d (znz R.tmps hy hx (fun h=>e h.symm) hdst)];exact h2,h3.mono hρ⟩
def zdT (all:List Item) (tm:Tr TV) (ρ:Rho) (m n:Nat) (nm:Tr TV) (x:Item):Prop :=
 ∃ b d u,zdj tm nm (zcd all x).guard=some b∧x.o.dst=some d∧nm.get d=some u∧(b=false→u=.tuple []) ∧
  (b=true→∃ vs,zcE tm nm (zcd all x).args=some vs∧(x.o.kind.cls=1→∃ c,zc7 u=some c∧m≤c∧c < n∧∀ g,ρ c g=none))
def zg6 (all:List Item) (tm nm:Tr TV) (h:TH) (x:Item):Prop:=zdj tm nm (zcd all x).guard=some true→∀ vs d u,zcE tm nm (zcd all x).args=some vs→x.o.dst=some d→nm.get d=some u →
 (x.o.kind.cls=0→pas x.o.kind vs h=some u)∧(x.o.kind.cls=1→∀ c,zc7 u=some c→∃ z y,lay x.o.kind vs c=some z∧z.v=u∧h.get c=some y∧OEq z.o y)
def Dis (G:Item→Prop) (nm:Tr TV):Prop:=∀ x x' d d' u u' c,G x→G x'→x.o.kind.cls=1→x'.o.kind.cls=1→x.o.dst=some d→x'.o.dst=some d'→d ≠ d'→nm.get d=some u→nm.get d'=some u'→zc7 u=some c→zc7 u'=some c→False
theorem zdT.mono {all:List Item} {tm nm nm':Tr TV} {m n n':Nat} {x:Item} (k:zdT all tm ρ m n nm x) (hnm:nm.sub nm') (hn:n≤n') (hρ:∀ c,c < n→(∀ g,ρ c g=none)→∀ g,ρ' c g=none):zdT all tm ρ' m n' nm' x:=by
 obtain ⟨b,d,u,h1,h2,h3,h4,h5⟩:=k
 refine ⟨b,d,u,zdP hnm h1,h2,hnm _ _ h3,h4,fun hb=>?_⟩
 obtain ⟨vs,a1,a2⟩:=h5 hb
 refine ⟨vs,zcY hnm a1,fun hc=>?_⟩
 obtain ⟨c,c1,c0,c2,c3⟩:=a2 hc
 exact ⟨c,c1,c0,by omega,hρ c c2 c3⟩
theorem zg6.mono {all:List Item} {tm nm nm':Tr TV} {m n:Nat} {x:Item} (k:zdT all tm ρ m n nm x) (s:zg6 all tm nm h x) (hnm:nm.sub nm') (hh:h.sub h'):zg6 all tm nm' h' x:=by
 obtain ⟨b,d,u,h1,h2,h3,h4,h5⟩:=k
 intro hw vs d' u' hv hd hu
 have h1':=zdP hnm h1
 rw [hw] at h1'
 injection h1' with e;subst e
 obtain ⟨vs',a1,_⟩:=h5 rfl
 have a1':=zcY hnm a1
 rw [hv] at a1'
 injection a1' with e;subst e
 rw [hd] at h2;injection h2 with e;subst e
 have h3':=hnm _ _ h3
 rw [hu] at h3';injection h3' with e;subst e
 obtain ⟨s1,s2⟩:=s h1 vs _ _ a1 hd h3
 refine ⟨fun h0=>zr2 hh (s1 h0),fun hc c hb=>?_⟩
 obtain ⟨z,y,z1,z2,z3,z4⟩:=s2 hc c hb
 exact ⟨z,y,z1,z2,hh _ _ z3,z4⟩
theorem Dis.mono {G:Item→Prop} {all:List Item} {tm nm nm':Tr TV} {m n:Nat} (k:Dis G nm) (hk:∀ x,G x→zdT all tm ρ m n nm x) (hnm:nm.sub nm'):Dis G nm':=by
 intro x x' d d' u u' c g g' k1 k1' hd hd' hne hu hu' hb hb'
 obtain ⟨_,d0,u0,_,h2,h3,_⟩:=hk x g
 obtain ⟨_,d0',u0',_,h2',h3',_⟩:=hk x' g'
 rw [hd] at h2;injection h2 with e;subst e
 rw [hd'] at h2';injection h2' with e;subst e
 have e:=hnm _ _ h3;rw [hu] at e;injection e with e;subst e
 have e:=hnm _ _ h3';rw [hu'] at e;injection e with e;subst e
 exact k x x' _ _ _ _ c g g' k1 k1' hd hd' hne h3 h3' hb hb'
theorem Dis.sub {G G':Item→Prop} {nm:Tr TV} (k:Dis G nm) (hg:∀ x,G' x→G x):Dis G' nm:=fun x x' d d' u u' c g g'=>k x x' d d' u u' c (hg _ g) (hg _ g')
theorem zkp {tm:Tr TV} {s:DS}:∀ {l:List zM},zeQ tm s l=true→∀ o∈l,ze1 tm s o=true
 | [],_,o,ho=>by simp at ho
 | a::l,h,o,ho=>by
  unfold zeQ at h
  obtain ⟨h1,h2⟩:=bnd h
  rcases List.mem_cons.1 ho with rfl | ho
  ·exact h1
  ·exact zkp h2 o ho
theorem zrh {all:List Item} {tm:Tr TV} {s:DS} {x:Item} (h:ze1 tm s (zcd all x)=true):zg6 all tm s.nm s.h x:=by
 intro hw vs d u hv hd hu
 unfold ze1 at h
 rw [hw] at h
 dsimp only at h
 unfold zmi at h
 rw [show (zcd all x).dst=some d from hd] at h
 dsimp only at h
 rw [hv] at h
 dsimp only at h
 rw [hu] at h
 unfold zmh at h
 dsimp only at h
 change (match x.o.kind.cls with | 0=>zmv s.h x.o.kind vs u | 1=>zms s.h x.o.kind vs u | _=>false)=true at h
 refine ⟨fun h0=>?_,fun h1 c hc=>?_⟩
 ·simp only [h0] at h
  unfold zmv at h
  split at h
  ·rename_i v hp
   rw [hp,TV.beq_sound _ _ _ h]
  ·cases h
 ·simp only [h1] at h
  unfold zms at h
  rw [hc] at h
  dsimp only at h
  split at h
  ·rename_i z hz
   split at h
   ·rename_i y hy
    obtain ⟨e1,e2⟩:=bnd h
    exact ⟨z,y,hz,TV.beq_sound _ _ _ e1,hy,zpJ e2⟩
   ·cases h
  ·cases h
theorem zkZ {all:List Item} {tm:Tr TV} {s s2:DS} {x:Item} {m:Nat} (hm:m≤s.h.next) (h2:x.o.kind.cls ≠ 2) {d:Nat} (hd:x.o.dst=some d) (he:ziG tm (zcd all x) s=some s2) (hwr:WR P Z ρ s.h w) :
  s2.df=s.df∧s.nm.sub s2.nm∧s.nm.get d=none∧s.h.sub s2.h∧s.h.next≤s2.h.next∧WR P Z ρ s2.h w∧zdT all tm ρ m s2.h.next s2.nm x∧zg6 all tm s2.nm s2.h x∧∀ u c,s2.nm.get d=some u→x.o.kind.cls=1→zc7 u=some c→c=s.h.next:=by
 unfold ziG at he
 split at he
 ·cases he
 ·rename_i hw
  obtain ⟨nm,e1,rfl⟩:=zga he
  rw [show (zcd all x).dst=some d from hd] at e1
  obtain ⟨a1,a2,a3⟩:=zgf e1
  obtain ⟨b1,b2⟩:=a2 d rfl
  refine ⟨rfl,a1,b1,.refl _,Nat.le_refl _,hwr,⟨false,d,_,zdP a1 hw,hd,b2,fun _=>rfl,fun h=>by cases h⟩,fun hw'=>?_,fun u c hu _ hb=>?_⟩
  ·have:=zdP a1 hw;dsimp only at hw';rw [hw'] at this;cases this
  ·dsimp only at hu;rw [b2] at hu;injection hu with hu;subst hu;cases hb
 ·rename_i hw
  unfold znC at he
  split at he
  ·cases he
  ·rename_i vs hv
   change (match x.o.kind.cls with | 0=>zrd s x.o.dst (pas x.o.kind vs s.h) | 1=>zrm s x.o.dst (lay x.o.kind vs s.h.next) | _=>none)=some s2 at he
   by_cases h0:x.o.kind.cls=0
   ·rw [h0] at he
    cases hp:pas x.o.kind vs s.h with
    | none=>rw [hp] at he;cases he
    | some v =>
     rw [hp] at he
     obtain ⟨nm,e1,rfl⟩:=zga he
     rw [hd] at e1
     obtain ⟨a1,a2,a3⟩:=zgf e1
     obtain ⟨b1,b2⟩:=a2 d rfl
     refine ⟨rfl,a1,b1,.refl _,Nat.le_refl _,hwr,⟨true,d,v,zdP a1 hw,hd,b2,(fun h=>by cases h),fun _=>⟨vs,zcY a1 hv,fun h=>by rw [h0] at h;cases h⟩⟩,fun _ vs' d' u' hv' hd' hu'=>?_,fun u c _ hc=>by rw [h0] at hc;cases hc⟩
     have e:=zcY a1 hv
     dsimp only at hv' hu'
     rw [hv'] at e;injection e with e;subst e
     rw [hd] at hd';injection hd' with e;subst e
     rw [b2] at hu';injection hu' with e;subst e
     exact ⟨fun _=>hp,fun h=>by rw [h0] at h;cases h⟩
   ·by_cases h1:x.o.kind.cls=1
    ·rw [h1] at he
     cases hp:lay x.o.kind vs s.h.next with
     | none=>rw [hp] at he;cases he
     | some z =>
      rw [hp] at he
      obtain ⟨nm,e1,rfl⟩:=zga he
      rw [hd] at e1
      obtain ⟨a1,a2,a3⟩:=zgf e1
      obtain ⟨b1,b2⟩:=a2 d rfl
      have hbl:=zpR hp
      refine ⟨rfl,a1,b1,TH.sub_push _ _,by dsimp only;rw [TH.next_push];omega,hwr.push _,⟨true,d,z.v,zdP a1 hw,hd,b2,(fun h=>by cases h),fun _=>⟨vs,zcY a1 hv,fun _=>⟨s.h.next,hbl,hm,by dsimp only;rw [TH.next_push];omega,fun g=>?_⟩⟩⟩,fun _ vs' d' u' hv' hd' hu'=>?_,fun u c hu _ hb=>?_⟩
      ·cases hg:ρ s.h.next g with
       | none=>rfl
       | some loc=>have:=(hwr.dom _ _ _ hg).1;omega
      ·have e:=zcY a1 hv
       dsimp only at hv' hu'
       rw [hv'] at e;injection e with e;subst e
       rw [hd] at hd';injection hd' with e;subst e
       rw [b2] at hu';injection hu' with e;subst e
       refine ⟨fun h=>(by rw [h1] at h;cases h),fun _ c hc=>?_⟩
       rw [hbl] at hc;injection hc with hc;subst hc
       exact ⟨z,z.o,hp,rfl,by dsimp only;rw [TH.get_push,if_pos rfl],.refl _ (zrj hp)⟩
      ·dsimp only at hu;rw [b2] at hu;injection hu with hu;subst hu
       rw [hbl] at hb;injection hb with hb;exact hb.symm
    ·exact absurd (zrR h0 h1) h2
theorem zdO {all:List Item} {tm:Tr TV} {m:Nat}:∀ (L:List Item) (G:Item→Prop) (s s2:DS),m≤s.h.next→(∀ x∈L,x.o.kind.cls ≠ 2∧∃ d,x.o.dst=some d)→zg7 tm (L.map (zcd all)) s=some s2→WR P Z ρ s.h w→(∀ x,G x→zdT all tm ρ m s.h.next s.nm x∧zg6 all tm s.nm s.h x)→Dis G s.nm →
  s2.df=s.df∧s.nm.sub s2.nm∧s.h.next≤s2.h.next∧WR P Z ρ s2.h w∧(∀ x,G x∨x∈L→zdT all tm ρ m s2.h.next s2.nm x∧zg6 all tm s2.nm s2.h x)∧Dis (fun x=>G x∨x∈L) s2.nm
 | [],G,s,s2,_,_,he,hwr,hK,hD=>by
  simp only [List.map_nil,zg7] at he
  injection he with he;subst he
  exact ⟨rfl,.refl _,Nat.le_refl _,hwr,fun x hx=>hK x (by simpa using hx),hD.sub fun x hx=>by simpa using hx⟩
 | x::L,G,s,s2,hm,hL,he,hwr,hK,hD=>by
  simp only [List.map_cons,zg7] at he
  cases h1:ziG tm (zcd all x) s with
  | none=>rw [h1] at he;cases he
  | some s1 =>
   rw [h1] at he
   dsimp only at he
   obtain ⟨hx2,d,hd⟩:=hL x List.mem_cons_self
   obtain ⟨e1,e2,e3,e4,e5,e6,e7,e8,e9⟩:=zkZ hm hx2 hd h1 hwr
   have hK1:∀ y,G y∨y=x→zdT all tm ρ m s1.h.next s1.nm y∧zg6 all tm s1.nm s1.h y:=fun y hy=>by
    rcases hy with hy | rfl
    ·obtain ⟨k1,k2⟩:=hK y hy
     exact ⟨k1.mono e2 e5 fun c _ hn=>hn,k2.mono k1 e2 e4⟩
    ·exact ⟨e7,e8⟩
   have new:∀ y d' u u' c,G y→y.o.kind.cls=1→y.o.dst=some d'→x.o.kind.cls=1→s1.nm.get d=some u→s1.nm.get d'=some u'→zc7 u=some c→zc7 u'=some c→False:=fun y d' u u' c gy hy hdy hx hu hu' hb hb'=>by
    have hc:=e9 u c hu hx hb
    obtain ⟨b,d0,u0,k1,k2,k3,k4,k5⟩:=(hK y gy).1
    rw [hdy] at k2;injection k2 with e;subst e
    have e:=e2 _ _ k3;rw [hu'] at e;injection e with e;subst e
    cases b with
    | false=>rw [k4 rfl] at hb';cases hb'
    | true =>
     obtain ⟨vs,_,a2⟩:=k5 rfl
     obtain ⟨c',c1,_,c2,_⟩:=a2 hy
     rw [hb'] at c1;injection c1 with c1
     omega
   have hD1:Dis (fun y=>G y∨y=x) s1.nm:=by
    intro y y' d0 d1 u u' c g g' k1 k1' hd0 hd1 hne hu hu' hb hb'
    rcases g with g | rfl
    ·rcases g' with g' | rfl
     ·exact hD.mono (fun z hz=>(hK z hz).1) e2 y y' d0 d1 u u' c g g' k1 k1' hd0 hd1 hne hu hu' hb hb'
     ·rw [hd] at hd1;injection hd1 with e;subst e
      exact new y d0 u' u c g k1 hd0 k1' hu' hu hb' hb
    ·rcases g' with g' | rfl
     ·rw [hd] at hd0;injection hd0 with e;subst e
      exact new y' d1 u u' c g' k1' hd1 k1 hu hu' hb hb'
     ·rw [hd0] at hd1;injection hd1 with e;exact hne e
   obtain ⟨f1,f2,f3,f4,f5,f6⟩:=zdO L _ s1 s2 (Nat.le_trans hm e5) (fun y hy=>hL y (List.mem_cons_of_mem _ hy)) he e6 hK1 hD1
   refine ⟨f1.trans e1,e2.trans f2,Nat.le_trans e5 f3,f4,fun y hy=>f5 y ?_,f6.sub fun y hy=>?_⟩
   ·rcases hy with hy | hy
    ·exact .inl (.inl hy)
    ·rcases List.mem_cons.1 hy with rfl | hy
     ·exact .inl (.inr rfl)
     ·exact .inr hy
   ·rcases hy with hy | hy
    ·exact .inl (.inl hy)
    ·rcases List.mem_cons.1 hy with rfl | hy
     ·exact .inl (.inr rfl)
     ·exact .inr hy
def zkH (C:zaB) (ca:Tr Unit) (tm:Tr TV) (all acts:List Item) (j:Nat):List Item→DS→Option DR
 | [],s=>some (.go s)
 | a::l,s=>match ziq C ca tm (zcd all a) s with
  | some (.go s)=>zce C ca tm (zdt all acts (j + 1) l) s
  | r=>r
theorem zqM {C:zaB} {ca:Tr Unit} {tm:Tr TV} {all acts:List Item} {j:Nat} {l:List Item} {s:DS} {R:DR} (h:zce C ca tm (zdt all acts j l) s=some R):zeQ tm s (zrU all acts j)=true∧∃ s2,zg7 tm (znt all acts j) s=some s2∧zkH C ca tm all acts j l s2=some R:=by
 cases l with
 | nil =>
  simp only [zdt,zce] at h
  obtain ⟨h1,h2⟩:=zA h
  refine ⟨h1,?_⟩
  cases he:zg7 tm (znt all acts j) s with
  | none=>rw [he] at h2;cases h2
  | some s2=>rw [he] at h2;exact ⟨s2,rfl,h2⟩
 | cons a l =>
  simp only [zdt,zce] at h
  obtain ⟨h1,h2⟩:=zA h
  refine ⟨h1,?_⟩
  cases he:zg7 tm (znt all acts j) s with
  | none=>rw [he] at h2;cases h2
  | some s2=>rw [he] at h2;exact ⟨s2,rfl,h2⟩
def zgr (all acts:List Item) (D:Array Bool) (j:Nat) (x:Item):Prop:=x∈all∧x.o.kind.cls ≠ 2∧zd2 acts x≤j∧D.getD x.i true=false
theorem enter {C:zaB} {ca:Tr Unit} {tm:Tr TV} {N:Nat} {ops:Array Oper} {all acts:List Item} (R:Reg P N ops all acts) {D:Array Bool} (hc:zfb all D) {pre l:List Item} (hal:acts=pre++l) (hpre:∀ a∈pre,D.getD a.i true=true) (hund:∀ x∈all,x.o.kind.cls ≠ 2→zd2 acts x=pre.length→D.getD x.i true=false)
  {s:DS} {m:Nat} (hms:m≤s.h.next) (hwr:WR P Z ρ s.h w) (hK:∀ x∈all,x.o.kind.cls ≠ 2→zd2 acts x < pre.length→D.getD x.i true=false→zdT all tm ρ m s.h.next s.nm x)
  (hD:Dis (fun x=>x∈all∧x.o.kind.cls ≠ 2∧zd2 acts x < pre.length∧D.getD x.i true=false) s.nm) {r:DR} (hs:zce C ca tm (zdt all acts pre.length l) s=some r) :
  ∃ s2,zkH C ca tm all acts pre.length l s2=some r∧s2.df=s.df∧s.nm.sub s2.nm∧s.h.next≤s2.h.next∧WR P Z ρ s2.h w∧(∀ x,zgr all acts D pre.length x→zdT all tm ρ m s2.h.next s2.nm x∧zg6 all tm s2.nm s2.h x)∧Dis (zgr all acts D pre.length) s2.nm:=by
 obtain ⟨h1,s2,h2,h3⟩:=zqM hs
 have hsame:=zkp h1
 obtain ⟨f1,f2,f3,f4,f5,f6⟩:=zdO _ (fun x=>x∈all∧x.o.kind.cls ≠ 2∧zd2 acts x < pre.length∧D.getD x.i true=false) s s2 hms (fun x hx=>by
   obtain ⟨m1,m2⟩:=List.mem_filter.1 hx
   simp only [Bool.and_eq_true,bne_iff_ne] at m2
   exact ⟨m2.1,zqo R.tmps m1 m2.1⟩) h2 hwr (fun x ⟨g1,g2,g3,g4⟩=>⟨hK x g1 g2 g3 g4,zrh (hsame _ (List.mem_map.2 ⟨x,List.mem_filter.2 ⟨g1,by
    simp only [Bool.and_eq_true,bne_iff_ne,decide_eq_true_eq]
    refine ⟨⟨g2,g3⟩,List.all_eq_true.2 fun a ha=>?_⟩
    have ha':a∈pre:=by rw [hal] at ha;simpa using ha
    have haa:a∈all:=by
     have:a∈acts:=by rw [hal];exact List.mem_append_left _ ha'
     rw [R.ac] at this;exact (List.mem_filter.1 this).1
    cases hb:a.m.testBit x.i with
    | false=>rfl
    | true=>have:=hc a haa (hpre a ha') x.i hb;rw [g4] at this;cases this⟩,rfl⟩))⟩) hD
 have hsub:∀ x,zgr all acts D pre.length x→(x∈all∧x.o.kind.cls ≠ 2∧zd2 acts x < pre.length∧D.getD x.i true=false)∨x∈all.filter fun x=>x.o.kind.cls != 2 && zd2 acts x == pre.length:=fun x ⟨g1,g2,g3,g4⟩=>by
  by_cases e:zd2 acts x=pre.length
  ·exact .inr (List.mem_filter.2 ⟨g1,by simp [g2,e]⟩)
  ·exact .inl ⟨g1,g2,by omega,g4⟩
 exact ⟨s2,h3,f1,f2,f3,f4,fun x hx=>f5 x (hsub x hx),f6.sub hsub⟩
theorem zlL {nm:Tr TV}:∀ (ds:List Nat) (tm:Tr TV) (t:Nat) v,(zhq nm ds tm).get t=some v→(t∈ds∧nm.get t=some v)∨(t ∉ ds∧tm.get t=some v)
 | [],tm,t,v,h=>.inr ⟨by simp,h⟩
 | d::ds,tm,t,v,h=>by
  simp only [zhq] at h
  rcases zlL ds _ t v h with ⟨h1,h2⟩ | ⟨h1,h2⟩
  ·exact .inl ⟨List.mem_cons_of_mem _ h1,h2⟩
  ·rw [Tr.get_set] at h2
   split at h2
   ·rename_i e;subst e;exact .inl ⟨List.mem_cons_self,h2⟩
   ·rename_i e;exact .inr ⟨by simp [e,h1],h2⟩
theorem zjc:∀ (ds:List Nat) (tm:Tr TV) (t:Nat) v,(zeJ ds tm).get t=some v→t ∉ ds∧tm.get t=some v
 | [],tm,t,v,h=>⟨by simp,h⟩
 | d::ds,tm,t,v,h=>by
  simp only [zeJ] at h
  obtain ⟨h1,h2⟩:=zjc ds _ t v h
  rw [Tr.get_set] at h2
  split at h2
  ·cases h2
  ·rename_i e;exact ⟨by simp [e,h1],h2⟩
section
variable {C:zaB} {rnd:Option Nat} {ca:Tr Unit} {N:Nat} {ops:Array Oper} {all acts:List Item} {tm:Tr TV} {h0:TH} {w0:World} {ρ0:Rho}
structure Inv (P:Program) (Z:Nat) (C:zaB) (ca:Tr Unit) (N:Nat) (ops:Array Oper) (all acts:List Item) (tm:Tr TV) (ρ0:Rho) (h0:TH) (w0:World) (r:DR) (D:Array Bool) (a:Act) (w:World) (ρ:Rho) (pre l:List Item) (s:DS):Prop where
 size:D.size=ops.size
 ac:acts=pre++l
 done:∀ y∈pre,D.getD y.i true=true
 und:∀ y∈l,D.getD y.i true=false
 closed:zfb all D
 wr:WR P Z ρ s.h w
 df:DfR ρ ca s.df a.defers
 hZ:Z≤w.heap.size
 sz:N≤a.tmps.size
 le:Rho.le h0.next ρ0 ρ
 bel:Below Z w0 w
 nx:h0.next≤s.h.next
 slots:zhC all D ρ tm s.nm a.tmps
 told:∀ x,zgr all acts D pre.length x→zdT all tm ρ h0.next s.h.next s.nm x∧zg6 all tm s.nm s.h x
 dis:Dis (zgr all acts D pre.length) s.nm
 tail:zkH C ca tm all acts pre.length l s=some r
theorem Inv.fin (R:Reg P N ops all acts) {r:DR} {D:Array Bool} {a:Act} {pre l:List Item} {s:DS} (k:Inv P Z C ca N ops all acts tm ρ0 h0 w0 r D a w ρ pre l s) (hall:∀ i,i < ops.size→D.getD i true=true) {x:TX} {s':St}
  (hx:zir (all.filterMap fun x=>x.o.dst) tm (some r)=some (x,s')):CR P Z ρ0 N ca h0 w0 x s' .normal a w:=by
 have hl:l=[]:=by
  cases l with
  | nil=>rfl
  | cons y l =>
   have h1:=k.und y List.mem_cons_self
   have hy:y∈all:=by
    have:y∈acts:=by rw [k.ac];simp
    rw [R.ac] at this;exact (List.mem_filter.1 this).1
   rw [hall _ (R.lt hy)] at h1;cases h1
 have ht:=k.tail
 subst hl
 simp only [zkH] at ht
 injection ht with ht;subst ht
 simp only [zir] at hx
 injection hx with hx;injection hx with h1 h2;subst h1;subst h2
 refine ⟨ρ,k.le,k.bel,k.nx,rfl,k.wr,fun t v hv=>?_,k.sz,k.df,k.hZ⟩
 rcases zlL _ _ t v hv with ⟨h1,h2⟩ | ⟨h1,h2⟩
 ·obtain ⟨y,hy,hd⟩:=List.mem_filterMap.1 h1
  obtain ⟨u,v',a1,a2,a3⟩:=k.slots.new y hy (hall _ (R.lt hy)) t hd
  rw [h2] at a1;injection a1 with a1;subst a1
  exact ⟨v',a2,a3⟩
 ·exact k.slots.old t v h2 fun y hy _ hd=>h1 (List.mem_filterMap.2 ⟨y,hy,hd⟩)
theorem zgr.unset {D:Array Bool} {x y:Item} {j:Nat} (hi:x.i < D.size) (h:zgr all acts (D.setIfInBounds x.i true) j y):zgr all acts D j y∧y.i ≠ x.i:=by
 obtain ⟨h1,h2,h3,h4⟩:=h
 rw [zcN _ _ _ hi] at h4
 split at h4
 ·cases h4
 ·rename_i e;exact ⟨⟨h1,h2,h3,h4⟩,e⟩
theorem Inv.next (R:Reg P N ops all acts) {r:DR} {D:Array Bool} {a:Act} {pre l:List Item} {s:DS} (k:Inv P Z C ca N ops all acts tm ρ0 h0 w0 r D a w ρ pre l s) {x:Item} (hx:x∈all) (hx2:x.o.kind.cls ≠ 2) (hu:D.getD x.i true=false) (hm:∀ j,x.m.testBit j=true→D.getD j true=true)
  {d:Nat} (hd:x.o.dst=some d) (hdN:d < N) {u:TV} (hud:s.nm.get d=some u) {v':Value} {w':World} {ρ':Rho} (hle:Rho.le h0.next ρ ρ') (hv:VR ρ' u v') (hwr:WR P Z ρ' s.h w') (hb:Below Z w w')
  (hnone:∀ y,zgr all acts D pre.length y→y.i ≠ x.i→zdT all tm ρ' h0.next s.h.next s.nm y):Inv P Z C ca N ops all acts tm ρ0 h0 w0 r (D.setIfInBounds x.i true) (a.put x.o.dst v') w' ρ' pre l s:=by
 have hi:=(zgL hu).2
 refine ⟨by rw [Array.size_setIfInBounds];exact k.size,k.ac,fun y hy=>?_,fun y hy=>?_,k.closed.set R hx hi hm,hwr,by rw [zg3];exact k.df.mono hle.more,Nat.le_trans k.hZ hb.size,by rw [zbw];exact k.sz,k.le.trans hle (Nat.le_refl _),k.bel.trans hb,k.nx,
  k.slots.step R hle.more (.refl _) hx hi fun d' hd'=>?_,fun y hy=>?_,k.dis.sub fun y hy=>(hy.unset hi).1,k.tail⟩
 ·rw [zcN _ _ _ hi];split
  ·rfl
  ·exact k.done y hy
 ·have hne:y.i ≠ x.i:=fun e=>by
   have hya:y∈all.filter fun x=>x.o.kind.cls == 2:=by rw [← R.ac,k.ac];exact List.mem_append_right _ hy
   obtain ⟨h1,h2⟩:=List.mem_filter.1 hya
   rw [R.uniq y h1 x hx e] at h2
   exact hx2 (by simpa using h2)
  rw [zcN _ _ _ hi,if_neg hne]
  exact k.und y hy
 ·rw [hd] at hd';injection hd' with e;subst e
  exact ⟨Nat.lt_of_lt_of_le hdN k.sz,u,hud,hv⟩
 ·obtain ⟨h1,h2⟩:=hy.unset hi
  exact ⟨hnone y h1 h2,(k.told y h1).2⟩
theorem Inv.acted (R:Reg P N ops all acts) {r:DR} {D:Array Bool} {a:Act} {pre l:List Item} {s:DS} {x:Item} (k:Inv P Z C ca N ops all acts tm ρ0 h0 w0 r D a w ρ pre (x::l) s) (hm:∀ j,x.m.testBit j=true→D.getD j true=true)
  {s1:DS} {a':Act} (hat:a'.tmps=a.tmps) (hs:zce C ca tm (zdt all acts (pre.length + 1) l) s1=some r) {v':Value} {w':World} {ρ':Rho} (hle:Rho.le s.h.next ρ ρ') (hwr:WR P Z ρ' s1.h w') (hb:Below Z w w') (hnx:s.h.next≤s1.h.next) (hnm:s.nm.sub s1.nm)
  (hdf:DfR ρ' ca s1.df a'.defers) (hdst:∀ d,x.o.dst=some d→d < N∧∃ v,s1.nm.get d=some v∧VR ρ' v v'):∃ s2,Inv P Z C ca N ops all acts tm ρ0 h0 w0 r (D.setIfInBounds x.i true) (a'.put x.o.dst v') w' ρ' (pre++[x]) l s2:=by
 have hu:=k.und x List.mem_cons_self
 have hi:=(zgL hu).2
 have hxa:x∈all.filter fun x=>x.o.kind.cls == 2:=by rw [← R.ac,k.ac];simp
 obtain ⟨hx,hx2⟩:=List.mem_filter.1 hxa
 have hx2:x.o.kind.cls=2:=by simpa using hx2
 have hc:=k.closed.set R hx hi hm
 have hal:acts=(pre++[x])++l:=by rw [k.ac];simp
 have hdone:∀ y∈pre++[x],(D.setIfInBounds x.i true).getD y.i true=true:=fun y hy=>by
  rw [zcN _ _ _ hi];split
  ·rfl
  ·rename_i e
   rcases List.mem_append.1 hy with hy | hy
   ·exact k.done y hy
   ·simp at hy;subst hy;exact absurd rfl e
 have hund:∀ y∈all,y.o.kind.cls ≠ 2→zd2 acts y=(pre++[x]).length→(D.setIfInBounds x.i true).getD y.i true=false:=fun y hy hy2 hlow=>by
  rw [zcN _ _ _ hi]
  split
  ·rename_i e;rw [R.uniq y hy x hx e] at hy2;exact absurd hx2 hy2
  ·cases hd:D.getD y.i true with
   | false=>rfl
   | true =>
    exfalso
    have h1:zd2 acts y≤pre.length:=by
     rw [k.ac]
     refine zoD fun z hz=>?_
     cases hb:y.m.testBit z.i with
     | false=>rfl
     | true=>have h2:=k.closed y hy hd _ hb;rw [k.und z hz] at h2;cases h2
    rw [hlow] at h1
    simp at h1
    omega
 have conv:∀ y,y∈all→y.o.kind.cls ≠ 2→zd2 acts y < (pre++[x]).length→(D.setIfInBounds x.i true).getD y.i true=false→zgr all acts D pre.length y:=fun y h1 h2 h3 h4=>by
  rw [zcN _ _ _ hi] at h4
  split at h4
  ·cases h4
  ·exact ⟨h1,h2,by simp at h3;omega,h4⟩
 have hlen:(pre++[x]).length=pre.length + 1:=by simp
 rw [← hlen] at hs
 obtain ⟨s2,t1,t2,t3,t4,t5,t6,t7⟩:=enter (w:=w') R hc hal hdone hund (Nat.le_trans k.nx hnx) hwr (fun y h1 h2 h3 h4=>((k.told y (conv y h1 h2 h3 h4)).1).mono hnm hnx hle.none) ((k.dis.mono (fun y hy=>(k.told y hy).1) hnm).sub fun y ⟨h1,h2,h3,h4⟩=>conv y h1 h2 h3 h4) hs
 refine ⟨s2,by rw [Array.size_setIfInBounds];exact k.size,hal,hdone,fun y hy=>?_,hc,t5,by rw [t2,zg3];exact hdf,Nat.le_trans k.hZ hb.size,by rw [zbw,hat];exact k.sz,k.le.trans hle k.nx,k.bel.trans hb,Nat.le_trans k.nx (Nat.le_trans hnx t4),?_,t6,t7,t1⟩
 ·have hne:y.i ≠ x.i:=fun e=>by
   have hya:y∈all.filter fun x=>x.o.kind.cls == 2:=by rw [← R.ac,k.ac];simp [hy]
   have hyx:=R.uniq y (List.mem_filter.1 hya).1 x hx e
   have hrow:=R.row
   rw [k.ac] at hrow
   obtain ⟨p,hp,hpe⟩:=ziy (zh7 pre hrow) hy
   rw [hyx] at hpe
   have:=hm _ hpe
   rw [k.und p hp] at this;cases this
  rw [zcN _ _ _ hi,if_neg hne]
  exact k.und y (List.mem_cons_of_mem _ hy)
 ·refine zhC.step R (a:=a') (by rw [hat];exact k.slots) hle.more (hnm.trans t3) hx hi fun d hd=>?_
  obtain ⟨h1,v,h2,h3⟩:=hdst d hd
  exact ⟨by rw [hat];exact Nat.lt_of_lt_of_le h1 k.sz,v,t3 _ _ h2,h3⟩
theorem zp2 (hC:zeA P C) (hR:zgn P C) (hrnd:rnd=none∨∀ f,ca.get f=none) (R:Reg P N ops all acts) {r:DR} {x:TX} {s':St} (hx:zir (all.filterMap fun x=>x.o.dst) tm (some r)=some (x,s')) :
  ∀ (n:Nat) (D:Array Bool) (a:Act) (w:World) (ρ:Rho) (pre l:List Item) (s:DS),D.toList.count false≤n→Inv P Z C ca N ops all acts tm ρ0 h0 w0 r D a w ρ pre l s→wpAnyIn (Fr rnd) 0 P .any ops (CR P Z ρ0 N ca h0 w0 x s') n D a w:=by
 intro n
 induction n with
 | zero =>
  intro D a w ρ pre l s hn k
  have hr:Region.ready .any ops D=[]:=by
   cases hr:Region.ready .any ops D with
   | nil=>rfl
   | cons i m =>
    have h1:i∈Region.ready .any ops D:=by rw [hr];exact List.mem_cons_self
    have:=(zgL (mem_ready.1 h1).1).1
    omega
  exact ⟨hr,k.fin R (zls R k.size hr) hx⟩
 | succ n ih =>
  intro D a w ρ pre l s hn k
  refine ⟨fun hr=>k.fin R (zls R k.size hr) hx,fun i hi=>?_⟩
  obtain ⟨hu0,o,ho,_⟩:=mem_ready.1 hi
  obtain ⟨y,hy,e⟩:=R.item i o ho
  subst e
  obtain ⟨hu,hm⟩:=zpC R k.closed hy hi
  have hcnt:(D.setIfInBounds y.i true).toList.count false≤n:=by have:=count_set hu;omega
  obtain ⟨o',ho',ko⟩:=R.op y hy
  rw [ho] at ho';injection ho' with e;subst e
  obtain ⟨tx,x1,x2,x3⟩:=k.slots.look R k.closed hy hu hm
  unfold wpOpIn
  rw [ho]
  dsimp only
  have hwant:∀ b,zdj tm s.nm (zcd all y).guard=some b→Region.wanted o (yielded ops a.tmps)=b:=fun b hb=>zdw ko x1 (by rw [x3];exact hb)
  by_cases hy2:y.o.kind.cls=2
  ·-- one that acts
   have hya:y∈acts:=by rw [R.ac];exact List.mem_filter.2 ⟨hy,by simp [hy2]⟩
   have hyl:y∈l:=by
    rw [k.ac] at hya
    rcases List.mem_append.1 hya with h1 | h1
    ·rw [k.done y h1] at hu;cases hu
    ·exact h1
   cases l with
   | nil=>cases hyl
   | cons z l =>
    have hyz:y=z:=by
     rcases List.mem_cons.1 hyl with h1 | h1
     ·exact h1
     ·have hrow:=R.row
      rw [k.ac] at hrow
      obtain ⟨p,hp,hpe⟩:=ziy (zh7 pre hrow) h1
      have:=hm _ hpe
      rw [k.und p hp] at this;cases this
    subst hyz
    have htail:=k.tail
    simp only [zkH] at htail
    cases h1:ziq C ca tm (zcd all y) s with
    | none=>rw [h1] at htail;cases htail
    | some r1 =>
     rw [h1] at htail
     unfold ziq at h1
     split at h1
     ·cases h1
     ·rename_i hw
      rw [hwant _ hw]
      simp only [Bool.false_eq_true,if_false]
      refine ⟨fun _ _=>trivial,?_⟩
      cases hp:dput s.df s.h (zeE s.nm (zcd all y).dst (.tuple [])) with
      | none=>rw [hp] at h1;cases h1
      | some s1 =>
       rw [hp] at h1
       simp only [dgo] at h1
       injection h1 with h1;subst h1
       obtain ⟨nm,e1,rfl⟩:=zga hp
       obtain ⟨a1,a2,a3⟩:=zgf e1
       rw [← ko.dst]
       obtain ⟨s2,k2⟩:=k.acted R hm rfl htail (.refl _ _) k.wr (.refl _ _) (Nat.le_refl _) a1 k.df (v':=undef) fun d hd=>⟨ko.lt d hd,_,(a2 d hd).2,VR.undef ρ⟩
       exact ih _ _ _ _ _ _ _ hcnt k2
     ·rename_i hw
      rw [hwant _ hw]
      simp only [if_true]
      split at h1
      ·cases h1
      ·rename_i vs hv
       cases hact:act C ca y.o.kind vs s.h with
       | none=>rw [show (zcd all y).kind=y.o.kind from rfl,hact] at h1;cases h1
       | some tr =>
        rw [show (zcd all y).kind=y.o.kind from rfl,hact] at h1
        refine zox hC hR hrnd k.wr k.hZ x1 k.df ko (x2.trans hv) hy2 hact (fun v h' e v' w' ρ' hle hwr hb hvr hnx=>?_) (fun v h' e v' w' ρ' hle hwr hb hvr hnx=>?_) (fun d e d' hdf=>?_)
        ·subst e
         simp only [zhG] at h1
         cases hp:dput s.df h' (zeE s.nm (zcd all y).dst v) with
         | none=>rw [hp] at h1;cases h1
         | some s1 =>
          rw [hp] at h1
          simp only [dgo] at h1
          injection h1 with h1;subst h1
          obtain ⟨nm,e1,rfl⟩:=zga hp
          obtain ⟨a1,a2,a3⟩:=zgf e1
          rw [← ko.dst]
          obtain ⟨s2,k2⟩:=k.acted R hm rfl htail hle hwr hb hnx a1 (k.df.mono hle.more) (v':=v') fun d hd=>⟨ko.lt d hd,_,(a2 d hd).2,hvr⟩
          exact ih _ _ _ _ _ _ _ hcnt k2
        ·subst e
         simp only [zhG] at h1
         injection h1 with h1;subst h1
         dsimp only at htail
         injection htail with htail;subst htail
         simp only [zir] at hx
         injection hx with hx;injection hx with h1 h2;subst h1;subst h2
         refine ⟨ρ',k.le.trans hle k.nx,k.bel.trans hb,Nat.le_trans k.nx hnx,⟨v',rfl,hvr⟩,hwr,fun t u hu=>?_,k.sz,k.df.mono hle.more,Nat.le_trans k.hZ hb.size⟩
         obtain ⟨g1,g2⟩:=zjc _ _ t u hu
         obtain ⟨u',b1,b2⟩:=k.slots.old t u g2 fun z hz _ hd=>g1 (List.mem_filterMap.2 ⟨z,hz,hd⟩)
         exact ⟨u',b1,b2.mono hle.more⟩
        ·subst e
         simp only [zhG] at h1
         cases hp:dput (d::s.df) s.h (zeE s.nm (zcd all y).dst (.tuple [])) with
         | none=>rw [hp] at h1;cases h1
         | some s1 =>
          rw [hp] at h1
          simp only [dgo] at h1
          injection h1 with h1;subst h1
          obtain ⟨nm,e1,rfl⟩:=zga hp
          obtain ⟨a1,a2,a3⟩:=zgf e1
          rw [← ko.dst]
          obtain ⟨s2,k2⟩:=k.acted R (a':={ a with defers:=d'::a.defers }) hm rfl htail (.refl _ _) k.wr (.refl _ _) (Nat.le_refl _) a1 hdf (v':=undef) fun d hd=>⟨ko.lt d hd,_,(a2 d hd).2,VR.undef ρ⟩
          exact ih _ _ _ _ _ _ _ hcnt k2
  ·-- one that does not
   have hlow:zd2 acts y≤pre.length:=by
    rw [k.ac]
    refine zoD fun z hz=>?_
    cases hb:y.m.testBit z.i with
    | false=>rfl
    | true=>have h2:=hm _ hb;rw [k.und z hz] at h2;cases h2
   have hto:zgr all acts D pre.length y:=⟨hy,hy2,hlow,hu⟩
   obtain ⟨⟨b,d,u,g1,g2,g3,g4,g5⟩,hsame⟩:=k.told y hto
   rw [hwant _ g1]
   have hput:∀ v',VR ρ u v'→wpAnyIn (Fr rnd) 0 P .any ops (CR P Z ρ0 N ca h0 w0 x s') n (D.setIfInBounds y.i true) (a.put o.dst v') w:=fun v' hv'=>by
    rw [← ko.dst]
    exact ih _ _ _ _ _ _ _ hcnt (k.next R hy hy2 hu hm g2 (ko.lt d g2) g3 (.refl _ _) hv' k.wr (.refl _ _) fun z hz _=>(k.told z hz).1)
   cases b with
   | false =>
    simp only [Bool.false_eq_true,if_false]
    refine ⟨fun _ _=>trivial,hput _ ?_⟩
    rw [g4 rfl];exact VR.undef ρ
   | true =>
    simp only [if_true]
    obtain ⟨vs,hv,hbl⟩:=g5 rfl
    obtain ⟨s1,s2⟩:=hsame g1 vs d u hv g2 g3
    by_cases h0':y.o.kind.cls=0
    ·exact zoL k.wr x1 ko (x2.trans hv) h0' (s1 h0') hput
    ·have h1':y.o.kind.cls=1:=Decidable.byContradiction fun h1=>hy2 (zrR h0' h1)
     obtain ⟨c,c1,c0,c2,c3⟩:=hbl h1'
     obtain ⟨z,yy,z1,z2,z3,z4⟩:=s2 h1' c c1
     have hset:=k.wr.set_none c3 z.o
     refine zoN hset k.hZ x1 ko (x2.trans hv) h1' c3 (by rw [TH.next_set];exact c2) z1 (by rw [TH.get_set _ _ _ _ c2,if_pos rfl]) fun v' ob L S q1 q2=>?_
     rw [z2] at q2
     have hmore:=Rho.add_more (loc:=⟨w.heap.size,L,S⟩) (c3 0)
     rw [← ko.dst]
     refine ih _ _ _ _ _ _ _ hcnt (k.next R hy hy2 hu hm g2 (ko.lt d g2) g3 ⟨hmore,fun b hb hn g=>?_⟩ q2 (q1.unset z3 z4) ((Below.refl Z w).alloc k.hZ ob) fun x' hx' hne=>?_)
     ·rw [Rho.add_ne (by omega)];exact hn g
     ·obtain ⟨b',d',u',e1,e2,e3,e4,e5⟩:=(k.told x' hx').1
      refine ⟨b',d',u',e1,e2,e3,e4,fun hb'=>?_⟩
      obtain ⟨vs',e6,e7⟩:=e5 hb'
      refine ⟨vs',e6,fun hk=>?_⟩
      obtain ⟨c',i1,i0,i2,i3⟩:=e7 hk
      refine ⟨c',i1,i0,i2,fun g=>?_⟩
      have hcc:c' ≠ c:=fun e=>by
       rw [e] at i1
       refine k.dis y x' d d' u u' c hto hx' h1' hk g2 e2 (fun ed=>?_) g3 e3 c1 i1
       rw [← ed] at e2
       exact znz R.tmps hy hx'.1 hne g2 e2
      rw [Rho.add_ne hcc];exact i3 g
end
theorem zrT {C:zaB} (hC:zeA P C) (hR:zgn P C) {rnd:Option Nat} {ca:Tr Unit} (hrnd:rnd=none∨∀ f,ca.get f=none) (hmix:P.follows .mixedOrders=true) {N:Nat} {id:Nat} {ops:Array Oper} {os:List zM} (hts:zb8 (zi2 P N ops) ops.toList=some os) {c:zah} (hc:zki ops.toList os=some c)
  {s:St} {a:Act} (k:StR P Z ρ N ca s a w) {M:Nat} {trnd:Option Nat} {x:TX} {s':St} (hs:z6 C ca M trnd c s=some (x,s')):(Code.region id ops true).wpIn (Fr rnd) 0 P (CR P Z ρ N ca s.h w x s') a w:=by
 obtain ⟨all,acts,R,rfl⟩:=zpY hts hc
 simp only [z6] at hs
 refine wpIn_region_any hmix ?_
 cases hst:zce C ca s.tm (zdt all acts 0 acts) ⟨.nil,s.df,s.h⟩ with
 | none=>rw [hst] at hs;cases hs
 | some r =>
  rw [hst] at hs
  have hund:∀ x∈all,(Array.replicate ops.size false).getD x.i true=false:=fun x hx=>by
   have:=R.lt hx
   simp [Array.getD_eq_getD_getElem?,Array.getElem?_replicate,this]
  have hclosed:zfb all (Array.replicate ops.size false):=fun x hx hd=>by rw [hund x hx] at hd;cases hd
  have hwr:WR P Z ρ s.h w.drew:=k.wr.drew
  obtain ⟨s2,t1,t2,t3,t4,t5,t6,t7⟩:=enter (C:=C) (ca:=ca) (tm:=s.tm) (pre:=[]) (l:=acts) (w:=w.drew) (s:=⟨.nil,s.df,s.h⟩) (m:=s.h.next) R hclosed rfl (fun a ha=>by cases ha) (fun x hx _ _=>hund x hx) (Nat.le_refl _) hwr (fun x _ _ h=>by simp at h) (fun x x' _ _ _ _ _ g=>by simp at g) hst
  have hin:∀ y∈acts,y∈all:=fun y hy=>by rw [R.ac] at hy;exact (List.mem_filter.1 hy).1
  refine zp2 hC hR hrnd R hs ops.size _ a w.drew ρ [] acts s2 ?_ ⟨(by simp),rfl,fun y hy=>(by cases hy),fun y hy=>hund y (hin y hy),hclosed,t5,(by rw [t2];exact k.df),k.hZ,k.sz,.refl _ _,⟨rfl,rfl,rfl,Nat.le_refl _,fun _ _=>rfl⟩,t4,⟨fun t v hv _=>k.tm t v hv,fun y hy hd=>(by rw [hund y hy] at hd;cases hd)⟩,t6,t7,t1⟩
  exact Nat.le_trans (List.count_le_length) (by simp)
section
variable {F:Fence} {n:Nat} {Q:Exit→Act→World→Prop} {a:Act}
theorem zjf {b:Frame} {k:List Go.Item} {cs:List Frame} {c:Code}:step P (lone (b.atR a (.code (.scope c)::k)) cs w)=.next (lone (b.atR a (.code c::.inScope c::k)) cs w) :=
 step_lone_go (by simp [stepG,stepG.exec,Frame.atR])
theorem zmc {b:Frame} {k:List Go.Item} {cs:List Frame} {c:Code}:step P (lone (b.atR a (.inScope c::k)) cs w)=.next (lone (b.atR a k) cs w) :=
 step_lone_go (by simp [stepG,stepG.exec,Frame.atR])
theorem zii (id:Nat) (c:Code) (k:List Go.Item):exitTo id (.inScope c::k)=exitTo id k:=by simp [exitTo]
theorem zhH {c:Code} (J:Act→World→Prop) (l:Nat) (hf:(∀ a w,¬ J a w)∨∃ rest,findLabel c l=some rest∧∀ a w,J a w→rest.wpIn F n P (Exit.noGoto Q) a w) (first:c.wpIn F n P (Exit.jump l J Q) a w):(Code.scope c).wpIn F n P Q a w:=by
 intro b k cs hro hb hr
 have h0:(lone (b.atR a (.code (.scope c)::k)) cs w).fenced P F:=fenced_calm hb hr rfl
 have tl:∀ {e:Exit} {a₁:Act} {w₁:World} {m:Machine},(∀ l,e ≠ .goto l)→ArrivesIn (Machine.fenced P F) P m b (.inScope c::k) cs e a₁ w₁→ArrivesIn (Machine.fenced P F) P m b k cs e a₁ w₁:=fun {e a₁ w₁ m} hne harr=>by
  cases e with
  | normal=>exact StepsIn.trans harr (.one (fenced_calm hb hr rfl) zmc)
  | exit id=>exact ⟨fun k' hk=>harr.1 k' (by rw [zii];exact hk),fun hr' hk=>harr.2 hr' (by rw [zii];exact hk)⟩
  | goto l'=>exact absurd rfl (hne l')
  | ret=>exact harr
  | panic ch=>exact harr
  | outgrown=>exact harr
 obtain ⟨e,a₁,w₁,hq,harr⟩:=first b (.inScope c::k) cs hro hb hr
 by_cases hg:∃ l',e=.goto l'
 ·obtain ⟨l',rfl⟩:=hg
  obtain ⟨rfl,hJ⟩:=hq
  rcases hf with hf | ⟨rest,hf,hpass⟩
  ·exact absurd hJ (hf _ _)
  ·have hgo:gotoIn l' (.inScope c::k)=some (.code rest::.inScope c::k):=by simp [gotoIn,hf]
   obtain ⟨e₂,a₂,w₂,hq₂,harr₂⟩:=hpass a₁ w₁ hJ b (.inScope c::k) cs hro hb hr
   have hne:∀ l,e₂ ≠ .goto l:=fun l e=>by subst e;exact hq₂
   refine ⟨e₂,a₂,w₂,?_,.of_steps (.head h0 zjf (harr.1 _ hgo)) (tl hne harr₂)⟩
   cases e₂ <;> first | exact hq₂ | exact absurd rfl (hne _)
 ·have hne:∀ l,e ≠ .goto l:=fun l e=>hg ⟨l,e⟩
  refine ⟨e,a₁,w₁,?_,.of_steps (.one h0 zjf) (tl hne harr)⟩
  cases e <;> first | exact hq | exact absurd rfl (hne _)
end
def Rnd (ρ:Rho):Option Nat→Option Nat→Prop
 | none,none=>True
 | some l,some r=>∃ loc,ρ l 0=some loc∧loc.r=r
 | _,_=>False
theorem Rnd.mono (hρ:∀ b g loc,ρ b g=some loc→ρ' b g=some loc) {t r:Option Nat} (k:Rnd ρ t r):Rnd ρ' t r:=by
 cases t <;> cases r <;> first | exact k | skip
 obtain ⟨loc,h1,h2⟩:=k
 exact ⟨loc,hρ _ _ _ h1,h2⟩
theorem zh9 {r:Nat} (hr:Z≤r) (o:Obj):Below Z w (w.putObj r o):=⟨rfl,rfl,rfl,by simp,fun k hk=>World.putObj_heap_other (by omega)⟩
theorem zh1 {l:Nat} {r:Loop} (hl:w.heap[l]?=some (.loop r)) (fn:FuncId) (tmps:Array Value) (ps:Array Tmp) (assign body:Code) :
  (Instr.enterLoop fn tmps ps assign body (some l)).run P w=.ok (w.heap.size,[]) (w.alloc (.loop { state:=.ready,pending:=none,fn,tmps,params:=ps,assign,body,defers:=r.defers })):=by
 unfold Instr.enterLoop
 simp only [Sem.run_bind,run_getLoop hl,run_newObj_alloc,Result.andThen,Sem.run_pure]
theorem WR.none_at (k:WR P Z ρ h w) (g:Nat):ρ h.next g=none:=by
 cases hg:ρ h.next g with
 | none=>rfl
 | some loc=>have:=(k.dom _ _ _ hg).1;omega
theorem Rho.le_add {n b:Nat} (hb:n≤b) (hn:ρ b 0=none) {loc:Loc}:Rho.le n ρ (ρ.add b 0 loc) :=
 ⟨Rho.add_more hn,fun c hc h g=>by rw [Rho.add_ne (by omega)];exact h g⟩
theorem zrJ {N:Nat} {ca:Tr Unit} {trnd rnd:Option Nat} {s:St} {a:Act} (k:StR P Z ρ N ca s a w) (kr:Rnd ρ trnd rnd) {x:zsb} (hx:ziH trnd s=some x) {ps:Array Tmp} {assign body:Code} {aS bo:zah} {n m:Nat} (hps:∀ p∈ps.toList,p < N) (has:zbE P N n assign=some aS) (hbo:zbE P N m body=some bo) (fn:FuncId) :
  ∃ lr mark w1 ρ1 loc,(Instr.enterLoop fn a.tmps ps assign body rnd).run P w=.ok (lr,mark) w1∧Rho.le s.h.next ρ ρ1∧ρ1 x.l 0=some loc∧loc.r=lr∧WR P Z ρ1 (x.h.push (.loop .ready .norm s.tm ps.toList aS bo x.d)) w1∧Below Z w w1∧DfR ρ1 ca x.df (mark++a.defers)∧s.h.next≤x.h.next:=by
 cases trnd with
 | none =>
  cases rnd with
  | some r=>exact kr.elim
  | none =>
   simp only [ziH] at hx
   injection hx with hx;subst hx
   have k1:WR P Z ρ (s.h.push (.dfr false)) w:=k.wr.push _
   have hn:=k.wr.none_at
   have k2:=k1.real (x:=.dfr false) (o:=.deferred (some [])) (L:=0) (S:=0) hn (by rw [TH.next_push];omega) k.hZ (by rw [TH.get_push,if_pos rfl]) ⟨_,Rho.add_same _ _ _ _,World.alloc_heap_new _ _⟩
   have le1:=Rho.le_add (ρ:=ρ) (loc:=⟨w.heap.size,0,0⟩) (Nat.le_refl s.h.next) (hn 0)
   have k3:=k2.push (.loop .ready .norm s.tm ps.toList aS bo s.h.next)
   have hn2:=k2.none_at
   rw [TH.next_push] at hn2
   have le2:=Rho.le_add (ρ:=ρ.add s.h.next 0 ⟨w.heap.size,0,0⟩) (loc:=⟨(w.alloc (.deferred (some []))).heap.size,0,0⟩) (Nat.le_succ s.h.next) (hn2 0)
   have hZ2:Z≤(w.alloc (.deferred (some []))).heap.size:=by have:=k.hZ;simp;omega
   have k4:=k3.real (x:=.loop .ready .norm s.tm ps.toList aS bo s.h.next) (b:=s.h.next + 1) (L:=0) (S:=0) (o:=.loop { state:=.ready,pending:=none,fn,tmps:=a.tmps,params:=ps,assign,body,defers:=w.heap.size }) hn2 (by rw [TH.next_push,TH.next_push];omega) hZ2 (by rw [TH.get_push,TH.next_push,if_pos rfl])
    ⟨_,_,⟨w.heap.size,0,0⟩,N,n,m,Rho.add_same _ _ _ _,le2.more _ _ _ (Rho.add_same _ _ _ _),World.alloc_heap_new _ _,rfl,rfl,(k.tm.mono le1.more).mono le2.more,k.sz,rfl,hps,has,hbo,rfl⟩
   refine ⟨_,_,_,_,_,run_enterLoop_outer fn a.tmps ps assign body,le1.trans le2 (Nat.le_refl _),Rho.add_same _ _ _ _,by simp,k4,((Below.refl Z w).alloc k.hZ _).trans ((Below.refl Z _).alloc hZ2 _),?_,by dsimp only;rw [TH.next_push];omega⟩
   exact .mark (le2.more _ _ _ (Rho.add_same _ _ _ _)) ((k.df.mono le1.more).mono le2.more)
 | some l0 =>
  cases rnd with
  | none=>exact kr.elim
  | some r =>
   obtain ⟨loc0,hl0,rfl⟩:=kr
   simp only [ziH] at hx
   obtain ⟨o,ho,hor⟩:=k.wr.obj _ _ _ hl0
   rw [ho] at hx
   dsimp only at hx
   cases o with
   | loop st pe tm' ps' as' bo' d =>
    simp only [zsg] at hx
    injection hx with hx;subst hx
    obtain ⟨loc1,rec,locd,N',n',m',q1,q2,q3,_,_,_,_,_,_,_,_,q4⟩:=hor
    rw [hl0] at q1;injection q1 with q1;subst q1
    have hn:=k.wr.none_at
    have k3:=k.wr.push (.loop .ready .norm s.tm ps.toList aS bo d)
    have le2:=Rho.le_add (ρ:=ρ) (loc:=⟨w.heap.size,0,0⟩) (Nat.le_refl s.h.next) (hn 0)
    have k4:=k3.real (x:=.loop .ready .norm s.tm ps.toList aS bo d) (b:=s.h.next) (L:=0) (S:=0) (o:=.loop { state:=.ready,pending:=none,fn,tmps:=a.tmps,params:=ps,assign,body,defers:=rec.defers }) hn (by rw [TH.next_push];omega) k.hZ (by rw [TH.get_push,if_pos rfl])
     ⟨_,_,locd,N,n,m,Rho.add_same _ _ _ _,le2.more _ _ _ q2,World.alloc_heap_new _ _,rfl,rfl,k.tm.mono le2.more,k.sz,rfl,hps,has,hbo,q4⟩
    exact ⟨_,_,_,_,_,zh1 q3 fn a.tmps ps assign body,le2,Rho.add_same _ _ _ _,rfl,k4,(Below.refl Z w).alloc k.hZ _,k.df.mono le2.more,Nat.le_refl _⟩
   | row=>cases hx
   | map=>cases hx
   | dfr=>cases hx
   | ro=>cases hx
theorem zrF {C:zaB} (hC:zeA P C) {rnd trnd:Option Nat} {ca:Tr Unit} {N:Nat} {s:St} {a:Act} (k:StR P Z ρ N ca s a w) (kr:Rnd ρ trnd rnd) {g:Operand} {gid:Nat} {cap:List TV} (hg:VR ρ (.fn gid cap) (a.eval g)) {ps:Array Tmp} {assign body:Code} {aS bo:zah} {n m:Nat} (hps:∀ p∈ps.toList,p < N) (has:zbE P N n assign=some aS) (hbo:zbE P N m body=some bo)
  {x:TX} {s':St} (hs:zka C trnd gid cap ps.toList aS bo s=some (x,s')):(Code.rangeFunc g ps assign body).wpIn (Fr rnd) 0 P (CR P Z ρ N ca s.h w x s') a w:=by
 unfold zka at hs
 split at hs
 ·cases hs
 ·rename_i st hst
  cases hc:C.fn gid (.yield st.l::cap) (st.h.push (.loop .ready .norm s.tm ps.toList aS bo st.d)) with
  | none=>rw [hc] at hs;cases hs
  | some res =>
   obtain ⟨te,h1⟩:=res
   rw [hc] at hs
   cases te with
   | panic v=>cases hs
   | ret v =>
    simp only [znJ] at hs
    cases ho:h1.get st.l with
    | none=>rw [ho] at hs;cases hs
    | some o =>
     rw [ho] at hs
     dsimp only at hs
     refine wpIn_rangeFunc fun fn hfn=>?_
     obtain ⟨lr,mark,w1,ρ1,loc,e1,e2,e3,e4,e5,e6,e7,e8⟩:=zrJ k kr hst hps has hbo fn
     subst e4
     have hg1:=hg.mono e2.more
     generalize hgv:a.eval g=gv at hg1
     cases hg1 with
     | fn hcl hcr =>
      rename_i caps
      obtain ⟨hent,hcalls⟩:=hC gid _ _ _ h1 hc Z ρ1 w1 (.func (.yield loc.r) #[] #[]::caps) e5 (Nat.le_trans k.hZ e6.size) (.cons (.yield e3) ⟨hcl,hcr⟩)
      refine ⟨loc.r,mark,w1,{ target:=.fn (.func gid) caps.toArray,args:=#[.func (.yield loc.r) #[] #[]] },w1,gid,(.func (.yield loc.r) #[] #[]::caps).toArray,w1,e1,?_,fun _ _=>trivial,?_,fun hd=>by simp [Fr,Fence.wide] at hd,?_⟩
      ·have hy:a.eval (.const (.func (.yield loc.r) #[] #[]))=.func (.yield loc.r) #[] #[]:=rfl
       simp [resolve,rangeCall,hgv,Deferred.ofValue,hy]
      ·have:(#[.func (.yield loc.r) #[] #[]]:Array Value)++caps.toArray=(.func (.yield loc.r) #[] #[]::caps).toArray:=by simp
       simp only [invoke,this]
       exact hent w1
      ·refine CallsIn.mono (zpF.2 hcalls) ?_
       rintro e w2 ⟨ρ2,g1,g2,g3,g4,v',rfl,g5⟩
       have g1':Rho.le s.h.next ρ ρ2:=e2.trans g1 (by rw [TH.next_push];omega)
       have hl2:=g1.more _ _ _ e3
       obtain ⟨o',ho',hor⟩:=g2.obj _ _ _ hl2
       rw [ho] at ho';injection ho' with ho';subst ho'
       cases o with
       | row=>cases hs
       | map=>cases hs
       | dfr=>cases hs
       | ro=>cases hs
       | loop st' pe tm' ps' as' bo' d =>
        obtain ⟨loc1,rec,locd,N',n',m',q1,q2,q3,q4,q5,q6,q7,q8,q9,q10,q11,q12⟩:=hor
        rw [hl2] at q1;injection q1 with q1;subst q1
        have hnb:rec.state ≠ .busy:=fun hb=>by rw [q4] at hb;subst hb;cases hs
        have hs':some (pe,(⟨s.tm,st.df,h1.set st.l (.loop .exhausted pe tm' ps' as' bo' d)⟩:St))=some (x,s'):=by
         rw [← hs]
         cases st' <;> first | rfl | (exact absurd q4 hnb)
        injection hs' with hs';injection hs' with hs1 hs2;subst hs1;subst hs2
        have hZo:∀ g' loc',ρ2 st.l g'=some loc'→Z≤loc'.r:=fun g' loc' hl'=>g2.own hl' ho (fun cs h=>by cases h)
        have hdm:=g2.dom _ _ _ hl2
        have hZr:=hZo _ _ hl2
        have hput:(w2.putObj loc.r (.loop { rec with state:=.exhausted })).heap[loc.r]?=some (.loop { rec with state:=.exhausted }):=World.putObj_heap_same hdm.2.2
        have hne:∀ c g' l',c ≠ st.l→ρ2 c g'=some l'→l'.r ≠ loc.r:=fun c g' l' hc hl' e=>hc (g2.sep _ _ _ _ _ _ hl' hl2 e (by omega))
        have k2:=g2.change (ρ':=ρ2) (x':=.loop .exhausted pe tm' ps' as' bo' d) (fun _ _ _ h=>h) (fun _ _ _=>rfl) hl2 (w':=w2.putObj loc.r (.loop { rec with state:=.exhausted })) (by simp) (fun c g' l' hc hl'=>World.putObj_heap_other (hne c g' l' hc hl'))
         ⟨loc,_,locd,N',n',m',hl2,q2,hput,rfl,q5,q6,q7,q8,q9,q10,q11,q12⟩ (fun g' l' hl'=>by
          have hd':=g2.dom _ _ _ hl'
          exact ⟨hZo _ _ hl',by simp;exact hd'.2.2⟩) (fun g' l' hl' c g'' l'' hc hl'' e=>hc (g2.sep _ _ _ _ _ _ hl' hl'' e (hZo _ _ hl')).symm)
        have hb2:=zh9 (w:=w2) hZr (.loop { rec with state:=.exhausted })
        have hCR:∀ e,XR ρ2 pe e→CR P Z ρ N ca s.h w pe ⟨s.tm,st.df,h1.set st.l (.loop .exhausted pe tm' ps' as' bo' d)⟩ e { a with defers:=mark++a.defers } (w2.putObj loc.r (.loop { rec with state:=.exhausted })):=fun e he =>
         ⟨ρ2,g1',(e6.trans g3).trans hb2,by
          rw [TH.next_set]
          rw [TH.next_push] at g4
          omega,he,k2,k.tm.mono g1'.more,k.sz,e7.mono g1.more,Nat.le_trans k.hZ ((e6.trans g3).trans hb2).size⟩
        refine ⟨rec.pending,_,run_endLoop q3 hnb,?_⟩
        suffices hpd:∀ pd,pd=rec.pending→(match pd with
         | none=>CR P Z ρ N ca s.h w pe ⟨s.tm,st.df,h1.set st.l (.loop .exhausted pe tm' ps' as' bo' d)⟩ .normal { a with defers:=mark++a.defers } (w2.putObj loc.r (.loop { rec with state:=.exhausted }))
         | some c=>c.wpIn (Fr rnd) 0 P (CR P Z ρ N ca s.h w pe ⟨s.tm,st.df,h1.set st.l (.loop .exhausted pe tm' ps' as' bo' d)⟩) { a with defers:=mark++a.defers } (w2.putObj loc.r (.loop { rec with state:=.exhausted }))) by
         exact hpd _ rfl
        intro pd hpd
        rw [← hpd] at q5
        cases pe with
        | norm =>
         have q5:pd=none:=q5
         subst q5
         exact hCR _ rfl
        | exit id =>
         have q5:pd=some (.exit id):=q5
         subst q5
         exact wpIn_exit (hCR _ rfl)
        | goto l =>
         have q5:pd=some (.goto l):=q5
         subst q5
         exact wpIn_goto (hCR _ rfl)
        | ret =>
         have q5:pd=some .ret:=q5
         subst q5
         exact wpIn_ret (hCR _ rfl)
        | panic v=>exact q5.elim
theorem CR.refl {N:Nat} {ca:Tr Unit} {s:St} {a:Act} (k:StR P Z ρ N ca s a w) {x:TX} {e:Exit} (hx:XR ρ x e):CR P Z ρ N ca s.h w x s e a w:=⟨ρ,.refl _ _,.refl _ _,Nat.le_refl _,hx,k⟩
theorem XR.norm {e:Exit} {x:TX} (hx:XR ρ x e) (h:e=.normal):x=.norm:=by
 cases x <;> simp only [XR] at hx <;> first | rfl | (subst hx;cases h) | (obtain ⟨_,e,_⟩:=hx;rw [e] at h;cases h)
theorem XR.goto {e:Exit} {x:TX} {l:Nat} (hx:XR ρ x e) (h:e=.goto l):x=.goto l:=by
 cases x <;> simp only [XR] at hx <;> first | (subst hx;cases h;done) | (obtain ⟨_,e,_⟩:=hx;rw [e] at h;cases h;done) | (subst hx;injection h with h;subst h;rfl)
theorem XR.exit {e:Exit} {x:TX} {l:Nat} (hx:XR ρ x e) (h:e=.exit l):x=.exit l:=by
 cases x <;> simp only [XR] at hx <;> first | (subst hx;cases h;done) | (obtain ⟨_,e,_⟩:=hx;rw [e] at h;cases h;done) | (subst hx;injection h with h;subst h;rfl)
theorem zlm {C:zaB} (hC:zeA P C) (hR:zgn P C) (hmix:P.follows .mixedOrders=true) {N M:Nat} {ca:Tr Unit} {rnd trnd:Option Nat} (hrnd:rnd=none∨∀ f,ca.get f=none) :
  ∀ (n:Nat) (c:Code) (T:zah),zbE P N n c=some T→∀ (ρ:Rho) (s:St) (a:Act) (w:World) (x:TX) (s':St),Rnd ρ trnd rnd→StR P Z ρ N ca s a w→z6 C ca M trnd T s=some (x,s')→c.wpIn (Fr rnd) 0 P (CR P Z ρ N ca s.h w x s') a w:=by
 intro n
 induction n with
 | zero=>intro c T hT;cases hT
 | succ n ih =>
  intro c T hT ρ s a w x s' hr k hs
  cases c with
  | skip =>
   simp only [zbE] at hT
   injection hT with hT;subst hT
   simp only [z6] at hs
   injection hs with hs;injection hs with h1 h2;subst h1;subst h2
   exact wpIn_skip (CR.refl k rfl)
  | label l =>
   simp only [zbE] at hT
   injection hT with hT;subst hT
   simp only [z6] at hs
   injection hs with hs;injection hs with h1 h2;subst h1;subst h2
   exact wpIn_label (CR.refl k rfl)
  | region id ops draw =>
   simp only [zbE] at hT
   split at hT
   ·cases hT
   ·rename_i os hos
    cases draw with
    | false =>
     simp only [Bool.false_eq_true,if_false] at hT
     injection hT with hT;subst hT
     exact zqI hC hR hrnd hos k hs
    | true =>
     simp only [if_true] at hT
     exact zrT hC hR hrnd hmix hos hT k hs
  | seq c1 c2 =>
   simp only [zbE] at hT
   split at hT
   ·rename_i t1 t2 h1 h2
    injection hT with hT;subst hT
    simp only [z6] at hs
    refine wpIn_seq ?_
    cases hr1:z6 C ca M trnd t1 s with
    | none=>rw [hr1] at hs;cases hs
    | some r1 =>
     obtain ⟨x1,s1⟩:=r1
     rw [hr1] at hs
     refine wpIn_mono (ih c1 t1 h1 ρ s a w x1 s1 hr k hr1) ?_
     intro e a1 w1 hc
     obtain ⟨ρ1,g1,g2,g3,g4,g5⟩:=hc
     by_cases he:e=.normal
     ·have:=g4.norm he
      subst this;subst he
      exact wpIn_mono (ih c2 t2 h2 ρ1 s1 a1 w1 x s' (hr.mono g1.more) g5 hs) fun e a2 w2 hc2=>hc2.trans g1 g2 g3
     ·have hx1:x1 ≠ .norm:=fun e'=>by subst e';exact he g4
      have hs':some (x1,s1)=some (x,s'):=by
       rw [← hs];cases x1 <;> first | rfl | exact absurd rfl hx1
      injection hs' with hs';injection hs' with q1 q2;subst q1;subst q2
      cases e <;> first | exact absurd rfl he | exact ⟨ρ1,g1,g2,g3,g4,g5⟩
   ·cases hT
  | cond c c1 c2 =>
   simp only [zbE] at hT
   split at hT
   ·rename_i c' t1 t2 hc' h1 h2
    injection hT with hT;subst hT
    simp only [z6] at hs
    split at hs
    ·rename_i hb
     have hv:=zhE k.tm hc' hb
     generalize hav:a.eval c=av at hv
     cases hv
     exact wpIn_cond_true hav (ih c1 t1 h1 ρ s a w x s' hr k hs)
    ·rename_i hb
     have hv:=zhE k.tm hc' hb
     generalize hav:a.eval c=av at hv
     cases hv
     exact wpIn_cond_false hav (ih c2 t2 h2 ρ s a w x s' hr k hs)
    ·cases hs
   ·cases hT
  | block id b =>
   simp only [zbE] at hT
   split at hT
   ·rename_i t ht
    injection hT with hT;subst hT
    simp only [z6] at hs
    refine wpIn_block ?_
    cases hr1:z6 C ca M trnd t s with
    | none=>rw [hr1] at hs;cases hs
    | some r1 =>
     obtain ⟨x1,s1⟩:=r1
     rw [hr1] at hs
     refine wpIn_mono (ih b t ht ρ s a w x1 s1 hr k hr1) ?_
     intro e a1 w1 hc
     obtain ⟨ρ1,g1,g2,g3,g4,g5⟩:=hc
     by_cases he:∃ j,e=.exit j
     ·obtain ⟨j,rfl⟩:=he
      have:=g4.exit rfl
      subst this
      simp only [Exit.inBlock]
      dsimp only at hs
      by_cases hj:j=id
      ·subst hj
       rw [show Nat.beq j j=true from Nat.beq_refl j] at hs
       simp only [cond_true] at hs
       injection hs with hs;injection hs with q1 q2;subst q1;subst q2
       rw [if_pos rfl]
       exact ⟨ρ1,g1,g2,g3,rfl,g5⟩
      ·rw [show Nat.beq j id=false from Bool.eq_false_iff.2 fun h=>hj (Nat.eq_of_beq_eq_true h)] at hs
       simp only [cond_false] at hs
       injection hs with hs;injection hs with q1 q2;subst q1;subst q2
       rw [if_neg hj]
       exact ⟨ρ1,g1,g2,g3,rfl,g5⟩
     ·have hx1:∀ j,x1 ≠ .exit j:=fun j e'=>by subst e';exact he ⟨j,g4⟩
      have hs':some (x1,s1)=some (x,s'):=by
       rw [← hs];cases x1 <;> first | rfl | exact absurd rfl (hx1 _)
      injection hs' with hs';injection hs' with q1 q2;subst q1;subst q2
      cases e <;> first | exact absurd ⟨_,rfl⟩ he | exact ⟨ρ1,g1,g2,g3,g4,g5⟩
   ·cases hT
  | loop b =>
   simp only [zbE] at hT
   split at hT
   ·rename_i t ht
    injection hT with hT;subst hT
    simp only [z6] at hs
    refine wpIn_loop_rounds M ?_
    have key:∀ (m:Nat) (ρ:Rho) (s:St) (a:Act) (w:World),Rnd ρ trnd rnd→StR P Z ρ N ca s a w→zgF (z6 C ca M trnd t) m s=some (x,s')→∀ Q:Exit→Act→World→Prop,(∀ e a' w',CR P Z ρ N ca s.h w x s' e a' w'→Q e a' w')→Code.roundsIn (Fr rnd) 0 P b Q m a w:=by
     intro m
     induction m with
     | zero=>intro ρ s a w _ _ hs;cases hs
     | succ m ihm =>
      intro ρ s a w hr k hs Q hQ
      simp only [zgF] at hs
      rw [roundsIn_succ]
      cases hr1:z6 C ca M trnd t s with
      | none=>rw [hr1] at hs;cases hs
      | some r1 =>
       obtain ⟨x1,s1⟩:=r1
       rw [hr1] at hs
       refine wpIn_mono (ih b t ht ρ s a w x1 s1 hr k hr1) ?_
       intro e a1 w1 hc
       obtain ⟨ρ1,g1,g2,g3,g4,g5⟩:=hc
       by_cases he:e=.normal
       ·have:=g4.norm he
        subst this;subst he
        exact ihm ρ1 s1 a1 w1 (hr.mono g1.more) g5 hs Q fun e a2 w2 hc2=>hQ _ _ _ (hc2.trans g1 g2 g3)
       ·have hx1:x1 ≠ .norm:=fun e'=>by subst e';exact he g4
        have hs':some (x1,s1)=some (x,s'):=by
         rw [← hs];cases x1 <;> first | rfl | exact absurd rfl hx1
        injection hs' with hs';injection hs' with q1 q2;subst q1;subst q2
        have:=hQ e a1 w1 ⟨ρ1,g1,g2,g3,g4,g5⟩
        cases e <;> first | exact absurd rfl he | exact this
    exact key M ρ s a w hr k hs _ fun _ _ _ h=>h
   ·cases hT
  | rangeFunc f ps c1 c2 =>
   simp only [zbE] at hT
   split at hT
   ·cases hT
   ·rename_i hps
    split at hT
    ·rename_i f' t1 t2 hf h1 h2
     injection hT with hT;subst hT
     simp only [z6] at hs
     split at hs
     ·rename_i g cap hg
      exact zrF hC k hr (zhE k.tm hf hg) (fun p hp=>by
       have:=List.all_eq_true.1 (Bool.not_eq_false _ ▸ hps) p hp
       simpa using this) h1 h2 hs
     ·cases hs
    ·cases hT
  | exit id =>
   simp only [zbE] at hT
   injection hT with hT;subst hT
   simp only [z6] at hs
   injection hs with hs;injection hs with h1 h2;subst h1;subst h2
   exact wpIn_exit (CR.refl k rfl)
  | goto l =>
   simp only [zbE] at hT
   injection hT with hT;subst hT
   simp only [z6] at hs
   injection hs with hs;injection hs with h1 h2;subst h1;subst h2
   exact wpIn_goto (CR.refl k rfl)
  | ret =>
   simp only [zbE] at hT
   injection hT with hT;subst hT
   simp only [z6] at hs
   injection hs with hs;injection hs with h1 h2;subst h1;subst h2
   exact wpIn_ret (CR.refl k rfl)
  | scope b =>
   simp only [zbE] at hT
   split at hT
   ·split at hT
    ·rename_i t ht
     injection hT with hT;subst hT
     simp only [z6] at hs
     cases hr1:z6 C ca M trnd t s with
     | none=>rw [hr1] at hs;cases hs
     | some r1 =>
      obtain ⟨x1,s1⟩:=r1
      rw [hr1] at hs
      refine zhH (fun _ _=>False) 0 (.inl fun _ _ h=>h) ?_
      refine wpIn_mono (ih b t ht ρ s a w x1 s1 hr k hr1) ?_
      intro e a1 w1 hc
      have hx1:∀ j,x1 ≠ .goto j:=fun j e'=>by subst e';cases hs
      have hs':some (x1,s1)=some (x,s'):=by
       rw [← hs];cases x1 <;> first | rfl | exact absurd rfl (hx1 _)
      injection hs' with hs';injection hs' with q1 q2;subst q1;subst q2
      cases e <;> first | exact hc | (obtain ⟨_,_,_,_,g4,_⟩:=hc;exact absurd (g4.goto rfl) (hx1 _))
    ·cases hT
   ·rename_i l hl
    split at hT
    ·cases hT
    ·rename_i r hfl
     split at hT
     ·rename_i t1 t2 h1 h2
      injection hT with hT;subst hT
      simp only [z6] at hs
      cases hr1:z6 C ca M trnd t1 s with
      | none=>rw [hr1] at hs;cases hs
      | some r1 =>
       obtain ⟨x1,s1⟩:=r1
       rw [hr1] at hs
       by_cases hg:∃ j,x1=.goto j
       ·obtain ⟨j,rfl⟩:=hg
        dsimp only at hs
        obtain ⟨hj,hsA⟩:=zA hs
        have hj:=Nat.eq_of_beq_eq_true hj
        subst hj
        cases hr2:z6 C ca M trnd t2 s1 with
        | none=>rw [hr2] at hsA;cases hsA
        | some r2 =>
         obtain ⟨x2,s2⟩:=r2
         rw [hr2] at hsA
         have hx2:∀ j,x2 ≠ .goto j:=fun j e'=>by subst e';cases hsA
         have hs':some (x2,s2)=some (x,s'):=by
          rw [← hsA];cases x2 <;> first | rfl | exact absurd rfl (hx2 _)
         injection hs' with hs';injection hs' with q1 q2;subst q1;subst q2
         refine zhH (fun a1 w1=>CR P Z ρ N ca s.h w (.goto j) s1 (.goto j) a1 w1) j (.inr ⟨r,hfl,fun a1 w1 hc=>?_⟩) ?_
         ·obtain ⟨ρ1,g1,g2,g3,g4,g5⟩:=hc
          refine wpIn_mono (ih r t2 h2 ρ1 s1 a1 w1 x2 s2 (hr.mono g1.more) g5 hr2) ?_
          intro e a2 w2 hc2
          have hc2':=hc2.trans g1 g2 g3
          cases e <;> first | exact hc2' | (obtain ⟨_,_,_,_,g4,_⟩:=hc2;exact absurd (g4.goto rfl) (hx2 _))
         ·refine wpIn_mono (ih b t1 h1 ρ s a w (.goto j) s1 hr k hr1) ?_
          intro e a1 w1 hc
          have he:e=.goto j:=by obtain ⟨_,_,_,_,g4,_⟩:=hc;exact g4
          subst he
          exact ⟨rfl,hc⟩
       ·have hx1:∀ j,x1 ≠ .goto j:=fun j e'=>hg ⟨j,e'⟩
        have hs':some (x1,s1)=some (x,s'):=by
         rw [← hs];cases x1 <;> first | rfl | exact absurd rfl (hx1 _)
        injection hs' with hs';injection hs' with q1 q2;subst q1;subst q2
        refine zhH (fun _ _=>False) 0 (.inl fun _ _ h=>h) ?_
        refine wpIn_mono (ih b t1 h1 ρ s a w x1 s1 hr k hr1) ?_
        intro e a1 w1 hc
        cases e <;> first | exact hc | (obtain ⟨_,_,_,_,g4,_⟩:=hc;exact absurd (g4.goto rfl) (hx1 _))
     ·cases hT
  | refuse=>cases hT
theorem zmK {N:Nat}:∀ (ps:List Nat) (vs:List TV) (vs':List Value) (tm:Tr TV) (tmps:Array Value),ps.length=vs.length→VL ρ vs vs'→(∀ p∈ps,p < N)→N≤tmps.size→TmR ρ tm tmps →
  TmR ρ (zf6 ps vs tm) ((ps.zip vs').foldl (fun tmps (t,a)=>tmps.setIfInBounds t a) tmps)∧((ps.zip vs').foldl (fun tmps (t,a)=>tmps.setIfInBounds t a) tmps).size=tmps.size
 | [],vs,vs',tm,tmps,hl,hv,hp,hN,k=>by exact ⟨k,rfl⟩
 | p::ps,[],vs',tm,tmps,hl,hv,hp,hN,k=>by simp at hl
 | p::ps,v::vs,vs',tm,tmps,hl,hv,hp,hN,k=>by
  obtain ⟨v',cs,rfl,h1,h2⟩:=hv.of_cons
  simp only [zf6,List.zip_cons_cons,List.foldl_cons]
  have hlt:=hp p List.mem_cons_self
  have k1:TmR ρ (tm.set p (some v)) (tmps.setIfInBounds p v'):=fun t u hu=>by
   rw [Tr.get_set] at hu
   by_cases e:t=p
   ·subst e
    rw [if_pos rfl] at hu;injection hu with hu;subst hu
    exact ⟨v',by simp [Nat.lt_of_lt_of_le hlt hN],h1⟩
   ·rw [if_neg e] at hu
    obtain ⟨u',a1,a2⟩:=k t u hu
    exact ⟨u',by rw [Array.getElem?_setIfInBounds_ne (fun e'=>e e'.symm)];exact a1,a2⟩
  obtain ⟨r1,r2⟩:=zmK ps vs cs _ _ (by simpa using hl) h2 (fun q hq=>hp q (List.mem_cons_of_mem _ hq)) (by simpa using hN) k1
  exact ⟨r1,by rw [r2];simp⟩
theorem zmG (ps:Array Nat) (vs:List Value) (tmps:Array Value):(ps.zip vs.toArray).foldl (fun tmps (t,a)=>tmps.setIfInBounds t a) tmps=(ps.toList.zip vs).foldl (fun tmps (t,a)=>tmps.setIfInBounds t a) tmps:=by
 obtain ⟨ps⟩:=ps
 simp
theorem zjA (k:WR P Z ρ h w) {l:Nat} {loc:Loc} (hl:ρ l 0=some loc) {st st':LoopState} {pe pe':TX} {tm:Tr TV} {ps:List Nat} {aS bo:zah} {d:Nat} (ho:h.get l=some (.loop st pe tm ps aS bo d)) {pd:Option Code} (hpd:PeR pe' pd) :
  ∃ rec,w.heap[loc.r]?=some (.loop rec)∧rec.state=st∧PeR pe rec.pending∧WR P Z ρ (h.set l (.loop st' pe' tm ps aS bo d)) (w.putObj loc.r (.loop { rec with state:=st',pending:=pd }))∧Below Z w (w.putObj loc.r (.loop { rec with state:=st',pending:=pd })):=by
 obtain ⟨o',ho',hor⟩:=k.obj _ _ _ hl
 rw [ho] at ho';injection ho' with ho';subst ho'
 obtain ⟨loc1,rec,locd,N',n',m',q1,q2,q3,q4,q5,q6,q7,q8,q9,q10,q11,q12⟩:=hor
 rw [hl] at q1;injection q1 with q1;subst q1
 have hZo:∀ g' loc',ρ l g'=some loc'→Z≤loc'.r:=fun g' loc' hl'=>k.own hl' ho (fun cs h=>by cases h)
 have hdm:=k.dom _ _ _ hl
 have hZr:=hZo _ _ hl
 have hput:(w.putObj loc.r (.loop { rec with state:=st',pending:=pd })).heap[loc.r]?=some (.loop { rec with state:=st',pending:=pd }):=World.putObj_heap_same hdm.2.2
 have hne:∀ c g' l',c ≠ l→ρ c g'=some l'→l'.r ≠ loc.r:=fun c g' l' hc hl' e=>hc (k.sep _ _ _ _ _ _ hl' hl e (by omega))
 exact ⟨rec,q3,q4,q5,k.change (ρ':=ρ) (x':=.loop st' pe' tm ps aS bo d) (fun _ _ _ h=>h) (fun _ _ _=>rfl) hl (w':=w.putObj loc.r (.loop { rec with state:=st',pending:=pd })) (by simp) (fun c g' l' hc hl'=>World.putObj_heap_other (hne c g' l' hc hl'))
  ⟨loc,_,locd,N',n',m',hl,q2,hput,rfl,hpd,q6,q7,q8,q9,q10,q11,q12⟩ (fun g' l' hl'=>by
   have hd':=k.dom _ _ _ hl'
   exact ⟨hZo _ _ hl',by simp;exact hd'.2.2⟩) (fun g' l' hl' c g'' l'' hc hl'' e=>hc (k.sep _ _ _ _ _ _ hl' hl'' e (hZo _ _ hl')).symm),zh9 hZr _⟩
theorem zrA {E:Env} {C:zaB} (hC:zeA P C) (hR:zgn P C) (hmix:P.follows .mixedOrders=true) {l:Nat} {args:List TV} {b:Bool} (hr:zkS E C l args h=some (b,h')) {args':List Value} {loc:Loc} (k:WR P Z ρ h w) (hZ:Z≤w.heap.size) (hl:ρ l 0=some loc) (hv:VL ρ args args') :
  ∃ fn tmps assign body,(Instr.yield loc.r args'.toArray).run P w=.ok (.round loc.r fn tmps assign body) w∧RoundIn (Fr none) 0 P loc.r fn tmps assign body w (zhz P Z ρ h h' w (.ret (.bool b))):=by
 unfold zkS at hr
 obtain ⟨o,ho,hor⟩:=k.obj _ _ _ hl
 rw [ho] at hr
 dsimp only at hr
 cases o with
 | row=>cases hr
 | map=>cases hr
 | dfr=>cases hr
 | ro=>cases hr
 | loop st pe tm ps aS bo d =>
  simp only [zmN] at hr
  obtain ⟨hlen,hrA⟩:=zA hr
  have hlen:=Nat.eq_of_beq_eq_true hlen
  obtain ⟨loc1,rec,locd,N,n,m,q1,q2,q3,q4,q5,q6,q7,q8,q9,q10,q11,q12⟩:=hor
  rw [hl] at q1;injection q1 with q1;subst q1
  subst q8
  refine ⟨rec.fn,_,rec.assign,rec.body,run_yield q3 (by rw [List.size_toArray,← hv.1,← hlen];simp),?_⟩
  refine roundIn_of_wpIn trivial ?_
  obtain ⟨t1,t2⟩:=zmK rec.params.toList args args' tm rec.tmps hlen hv q9 q7 q6
  cases hr1:z6 C .nil E.N (some l) aS ⟨zf6 rec.params.toList args tm,[],h⟩ with
  | none=>rw [hr1] at hrA;cases hrA
  | some r1 =>
   obtain ⟨x1,s1⟩:=r1
   rw [hr1] at hrA
   have kst:StR P Z ρ N .nil ⟨zf6 rec.params.toList args tm,[],h⟩ { tmps:=(rec.params.zip args'.toArray).foldl (fun tmps (t,a)=>tmps.setIfInBounds t a) rec.tmps,defers:=[] } w :=
    ⟨k,by rw [zmG];exact t1,by dsimp only;rw [zmG,t2];exact q7,.nil,hZ⟩
   refine wpIn_mono (zlm hC hR hmix (ca:=.nil) (rnd:=some loc.r) (trnd:=some l) (.inr fun _=>rfl) n rec.assign aS q10 ρ _ _ w x1 s1 ⟨loc,hl,rfl⟩ kst hr1) ?_
   intro e a1 w1 hc
   obtain ⟨ρ1,g1,g2,g3,g4,g5⟩:=hc
   simp only [zr5] at hrA
   cases x1 <;> try cases hrA
   have g4:e=.normal:=g4
   subst g4
   cases ho1:s1.h.get l with
   | none=>rw [ho1] at hrA;cases hrA
   | some o1 =>
    rw [ho1] at hrA
    dsimp only at hrA
    cases o1 with
    | row=>cases hrA
    | map=>cases hrA
    | dfr=>cases hrA
    | ro=>cases hrA
    | loop st1 pe1 tm1 ps1 as1 bo1 d1 =>
     simp only [znR] at hrA
     cases st1 <;> try cases hrA
     have hl1:=g1.more _ _ _ hl
     obtain ⟨rec0,p1,p2,p3,_,_⟩:=zjA (st':=.busy) (pe':=.norm) (pd:=none) g5.wr hl1 ho1 rfl
     obtain ⟨rec1,p1',p2',p3',p4,p5⟩:=zjA (st':=.busy) (pe':=pe1) (pd:=rec0.pending) g5.wr hl1 ho1 p3
     rw [p1] at p1';injection p1' with p1';injection p1' with p1';subst p1'
     refine ⟨w1.putObj loc.r (.loop { rec0 with state:=.busy }),run_beginRound p1 p2,?_⟩
     cases hr2:z6 C .nil E.N (some l) bo ⟨s1.tm,s1.df,s1.h.set l (.loop .busy pe1 tm1 ps1 as1 bo1 d1)⟩ with
     | none=>rw [hr2] at hrA;cases hrA
     | some r2 =>
      obtain ⟨x2,s2⟩:=r2
      rw [hr2] at hrA
      have k2:StR P Z ρ1 N .nil ⟨s1.tm,s1.df,s1.h.set l (.loop .busy pe1 tm1 ps1 as1 bo1 d1)⟩ a1 (w1.putObj loc.r (.loop { rec0 with state:=.busy })):=⟨p4,g5.tm,g5.sz,g5.df,Nat.le_trans g5.hZ p5.size⟩
      refine wpIn_mono (zlm hC hR hmix (ca:=.nil) (rnd:=some loc.r) (trnd:=some l) (.inr fun _=>rfl) m rec.body bo q11 ρ1 _ _ _ x2 s2 ⟨loc,hl1,rfl⟩ k2 hr2) ?_
      intro e a2 w2 hc2
      obtain ⟨ρ2,f1,f2,f3,f4,f5⟩:=hc2
      simp only [zgs] at hrA
      cases hdf:s2.df with
      | cons _ _=>rw [hdf] at hrA;cases hrA
      | nil =>
       rw [hdf] at hrA
       dsimp only at hrA
       cases ho2:s2.h.get l with
       | none=>rw [ho2] at hrA;cases hrA
       | some o2 =>
        rw [ho2] at hrA
        dsimp only at hrA
        cases o2 with
        | row=>cases hrA
        | map=>cases hrA
        | dfr=>cases hrA
        | ro=>cases hrA
        | loop st2 pe2 tm2 ps2 as2 bo2 d2 =>
         have hl2:=f1.more _ _ _ hl1
         have hle:Rho.le h.next ρ ρ2:=g1.trans f1 (by rw [TH.next_set];exact g3)
         have hbl:Below Z w w2:=(g2.trans p5).trans f2
         have hnx:h.next≤s2.h.next:=Nat.le_trans g3 (by have:=f3;rw [TH.next_set] at this;exact this)
         have fin:∀ (x:TX) (pd:Option Code),PeR x pd→h'=s2.h.set l (.loop (if pd.isNone then .ready else .done) x tm2 ps2 as2 bo2 d2)→b=pd.isNone→∃ v w',(Instr.endRound loc.r pd).run P w2=.ok v w'∧zhz P Z ρ h h' w (.ret (.bool b)) (.returned v) w':=fun x pd hx hh hb=>by
          obtain ⟨rec2,z1,z2,z3,z4,z5⟩:=zjA (st':=if pd.isNone then .ready else .done) (pe':=x) (pd:=pd) f5.wr hl2 ho2 hx
          refine ⟨_,_,run_endRound pd z1,ρ2,hle,by rw [hh];exact z4,hbl.trans z5,by rw [hh,TH.next_set];exact hnx,_,rfl,by rw [hb];exact .bool _⟩
         simp only [zoY] at hrA
         cases x2 with
         | norm =>
          have f4:e=.normal:=f4
          subst f4
          injection hrA with hrA;injection hrA with y1 y2
          exact fin .norm none rfl y2.symm y1.symm
         | exit id =>
          have f4:e=.exit id:=f4
          subst f4
          injection hrA with hrA;injection hrA with y1 y2
          exact fin (.exit id) (some (.exit id)) rfl y2.symm y1.symm
         | goto t =>
          have f4:e=.goto t:=f4
          subst f4
          injection hrA with hrA;injection hrA with y1 y2
          exact fin (.goto t) (some (.goto t)) rfl y2.symm y1.symm
         | ret =>
          have f4:e=.ret:=f4
          subst f4
          injection hrA with hrA;injection hrA with y1 y2
          exact fin .ret (some .ret) rfl y2.symm y1.symm
         | panic v=>cases hrA
theorem zoo (k:WR P Z ρ h w) {tm:Tr TV} {tmps:Array Value} (kt:TmR ρ tm tmps):∀ (rs:List ResultVar) (ts:List zjE) (vs:List TV),zb8 (zgd P) rs=some ts→zgt tm h ts=some vs →
  ∃ vs',(rs.mapM fun (x:ResultVar)=>(match x with
  | .tmp t=>pure (tmps.getD t undef)
  | .cell a t=>do loadVar t (← asAddr (tmps.getD a undef)):Sem Value)).run P w=.ok vs' w∧VL ρ vs vs'
 | [],ts,vs,hm,hr=>by
  simp only [zb8] at hm
  injection hm with hm;subst hm
  simp only [zgt] at hr
  injection hr with hr;subst hr
  exact ⟨[],by simp,VL.nil ρ⟩
 | r::rs,ts,vs,hm,hr=>by
  unfold zb8 at hm
  split at hm
  ·cases hm
  ·rename_i t ht
   split at hm
   ·cases hm
   ·rename_i ts' hts
    injection hm with hm;subst hm
    simp only [zgt] at hr
    split at hr
    ·cases hr
    ·rename_i v hv
     split at hr
     ·cases hr
     ·rename_i us hus
      injection hr with hr;subst hr
      obtain ⟨us',e1,e2⟩:=zoo k kt rs ts' us hts hus
      have hone:∃ v',((match r with
       | .tmp t=>pure (tmps.getD t undef)
       | .cell a t=>do loadVar t (← asAddr (tmps.getD a undef)):Sem Value)).run P w=.ok v' w∧VR ρ v v':=by
       cases r with
       | tmp t0 =>
        simp only [zgd] at ht
        injection ht with ht;subst ht
        obtain ⟨v',a1,a2⟩:=kt _ _ hv
        exact ⟨v',by simp [Array.getD_eq_getD_getElem?,a1],a2⟩
       | cell t0 ty =>
        simp only [zgd] at ht
        split at ht
        ·rename_i g n hg hn
         injection ht with ht;subst ht
         dsimp only at hv
         split at hv
         ·rename_i p hp
          obtain ⟨p',a1,a2⟩:=kt _ _ hp
          obtain ⟨v',b1,b2⟩:=zm0 k hg hn a2 hv
          refine ⟨v',?_,b2⟩
          have hpt:∃ ad,p'=.pointer (some ad):=by
           have hv2:zez g n h p=some v:=hv
           unfold zez at hv2
           split at hv2
           ·cases a2;exact ⟨_,rfl⟩
           ·cases hv2
          obtain ⟨ad,rfl⟩:=hpt
          simp only [Instr.loadAt,Instr.sureAddr,Sem.run_bind,Sem.run_pure,Result.andThen_ok] at b1
          simp only [Array.getD_eq_getD_getElem?,a1,Option.getD_some,asAddr,Sem.run_bind,Sem.run_pure,Result.andThen_ok]
          exact b1
         ·cases hv
        ·cases ht
      obtain ⟨v',c1,c2⟩:=hone
      refine ⟨v'::us',?_,.cons c2 e2⟩
      rw [List.mapM_cons]
      simp only [Sem.run_bind]
      rw [c1]
      simp only [Result.andThen_ok,Sem.run_bind]
      rw [e1]
      simp
theorem zpp (k:WR P Z ρ h w) {tm:Tr TV} {fn:Func} {tmps:Array Value} (kt:TmR ρ tm tmps) {ts:List zjE} {vs:List TV} (hm:zb8 (zgd P) fn.results.toList=some ts) (hr:zgt tm h ts=some vs):∃ v',(results fn tmps).run P w=.ok v' w∧VR ρ (tup vs) v':=by
 obtain ⟨vs',e1,e2⟩:=zoo k kt _ _ _ hm hr
 unfold results
 rw [Array.mapM_eq_mapM_toList]
 simp only [Sem.run_bind,map_eq_pure_bind,bind_assoc]
 generalize hX:Sem.run P (List.mapM _ fn.results.toList) w=X
 have hX2:X=.ok vs' w:=hX.symm.trans e1
 rw [hX2]
 simp only [Result.andThen_ok,pure_bind,Sem.run_pure]
 cases vs with
 | nil =>
  have:=e2.of_nil;subst this
  exact ⟨_,rfl,VR.tupL (VL.nil ρ)⟩
 | cons v vs =>
  obtain ⟨v',cs,rfl,a1,a2⟩:=e2.of_cons
  cases vs with
  | nil =>
   have:=a2.of_nil;subst this
   exact ⟨_,rfl,a1⟩
  | cons u us =>
   obtain ⟨u',ds,rfl,b1,b2⟩:=a2.of_cons
   refine ⟨.tuple (v'::u'::ds).toArray,?_,VR.tupL (.cons a1 (.cons b1 b2))⟩
   simp
theorem zoF (k:WR P Z ρ h w) {b g:Nat} {loc:Loc} (hρ:ρ b g=some loc) {x:TV} {h':TH} (hw:zcP h b g 0 [x]=some h'):(∃ v,w.cell? ⟨loc.r,0,none⟩=some v)∧w.frozen? ⟨loc.r,0,none⟩=false:=by
 unfold zcP at hw
 split at hw
 ·rename_i y hy
  unfold zkq at hw
  split at hw
  ·rename_i e G M len cells
   obtain ⟨ha,hwA⟩:=zA hw
   obtain ⟨hb,hwB⟩:=zA hwA
   have ha:=Nat.eq_of_beq_eq_true ha
   have hb:=Nat.le_of_ble_eq_true hb
   subst ha
   obtain ⟨o,ho,hor⟩:=k.obj _ _ _ hρ
   rw [hy] at ho;injection ho with ho;subst ho
   obtain ⟨loc',cur,q1,q2,q3,q4,q5,q6,q7⟩:=hor.2.2 g hor.1 (Nat.le_refl _)
   rw [hρ] at q1;injection q1 with q1;subst q1
   have hlen:=q6 rfl
   obtain ⟨_,v,_,c2,_,_⟩:=q7 0 (by simp at hb;omega)
   exact ⟨⟨v,by simp [World.cell?,q2,c2]⟩,frozen_of_row w _ _ _ _ q2⟩
  ·cases hw
 ·cases hw
theorem zh3 (n:Int) {r:Nat} {v:Value} (hc:w.cell? ⟨r,0,none⟩=some v) (hf:w.frozen? ⟨r,0,none⟩=false):(storeCells ⟨r,0,none⟩ [.int .i64 n]).run P w=.ok () (w.setCell ⟨r,0,none⟩ (.int .i64 n)):=by
 have h0:(⟨r,0,none⟩:Addr).add 0=⟨r,0,none⟩:=by simp [zcX]
 simp [storeCells,h0,go_sem,hc,hf]
structure zhL (P:Program) (errno f:Nat):Prop where
 ent:∀ (args:Array Value) w,(callFunc f args).run P w=.ok (.enter f args) w
 idle:∀ p' c' w,CallsDIn (Fr none) 0 P f #[p',c'] .returning w fun e u' w'=>(∃ v,e=.returned v)∧u'=.returning∧w'=w
 hit:∀ (n:Int) (eb gid:Nat) (cap:Array Value) (w:World) (R:World→Prop),(∀ w,(callFunc gid cap).run P w=.ok (.enter gid cap) w)→CallsIn (Fr none) 0 P gid cap w (fun e w'=>e=.returned (.tuple #[])∧R w') →
  (∀ w1,R w1→(∃ v,w1.cell? ⟨eb,0,none⟩=some v)∧w1.frozen? ⟨eb,0,none⟩=false) →
  CallsDIn (Fr none) 0 P f #[.pointer (some ⟨eb,0,none⟩),.func (.func gid) #[] cap] (.panicking [{ v:=.iface errno (.int .i64 n),recovered:=false }]) w fun e u' w' =>
   (∃ v,e=.returned v)∧u'=.panicking [{ v:=.iface errno (.int .i64 n),recovered:=true }]∧∃ w1,R w1∧w'=w1.setCell ⟨eb,0,none⟩ (.int .i64 n)
def MR (ρ:Rho):TM→FrameMode→Prop
 | .returning,u=>u=.returning
 | .panicking v,u=>∃ v',u=.panicking [{ v:=v',recovered:=false }]∧VR ρ v v'
theorem MR.mono (hρ:∀ b g loc,ρ b g=some loc→ρ' b g=some loc) {m:TM} {u:FrameMode} (k:MR ρ m u):MR ρ' m u:=by
 cases m with
 | returning=>exact k
 | panicking v=>obtain ⟨v',a,b⟩:=k;exact ⟨v',a,b.mono hρ⟩
theorem MR.ne {m:TM} {u:FrameMode} (k:MR ρ m u):u ≠ .run:=by
 cases m with
 | returning=>simp only [MR] at k;subst k;simp
 | panicking v=>obtain ⟨v',rfl,_⟩:=k;simp
theorem zrX {E:Env} {C:zaB} (hC:zeA P C) (hca:∀ f,E.caught.get f=some ()→zhL P E.errno f) {fn:Func} {tmps:Array Value} {R:Ending→World→Prop} :
  ∀ (td:List TD) (ds:List Deferred) (m:TM) (u:FrameMode) (h:TH) (w:World) (ρ:Rho) (m':TM) (h':TH),WR P Z ρ h w→Z≤w.heap.size→DfR ρ E.caught td ds→MR ρ m u→zcc E C td m h=some (m',h') →
  (∀ ρ' w' u',Rho.le h.next ρ ρ'→WR P Z ρ' h' w'→Below Z w w'→h.next≤h'.next→MR ρ' m' u'→LeavesIn (Fr none) 0 P fn tmps R [] u' w')→LeavesInM (Fr none) 0 P fn tmps R ds u w:=by
 intro td
 induction td with
 | nil =>
  intro ds m u h w ρ m' h' k hZ hd hm hl hfin
  cases hd
  simp only [zcc] at hl
  injection hl with hl;injection hl with h1 h2;subst h1;subst h2
  exact hfin ρ w u (.refl _ _) k (.refl _ _) (Nat.le_refl _) hm
 | cons t td ih =>
  intro ds m u h w ρ m' h' k hZ hd hm hl hfin
  cases hd with
  | mark hb hrest =>
   rename_i b loc ds
   simp only [zcc] at hl
   split at hl
   ·rename_i hg
    obtain ⟨o,ho,hor⟩:=k.obj _ _ _ hb
    rw [hg] at ho;injection ho with ho;subst ho
    obtain ⟨loc1,q1,q2⟩:=hor
    rw [hb] at q1;injection q1 with q1;subst q1
    have hZo:∀ g' loc',ρ b g'=some loc'→Z≤loc'.r:=fun g' loc' hl'=>k.own hl' hg (fun cs h=>by cases h)
    have hdm:=k.dom _ _ _ hb
    have hZr:=hZo _ _ hb
    have hput:(w.putObj loc.r (.deferred none)).heap[loc.r]?=some (.deferred none):=World.putObj_heap_same hdm.2.2
    have hne:∀ c g' l',c ≠ b→ρ c g'=some l'→l'.r ≠ loc.r:=fun c g' l' hc hl' e=>hc (k.sep _ _ _ _ _ _ hl' hb e (by omega))
    have k2:=k.change (ρ':=ρ) (x':=.dfr true) (fun _ _ _ h=>h) (fun _ _ _=>rfl) hb (w':=w.putObj loc.r (.deferred none)) (by simp) (fun c g' l' hc hl'=>World.putObj_heap_other (hne c g' l' hc hl'))
     ⟨loc,hb,hput⟩ (fun g' l' hl'=>by
      have hd':=k.dom _ _ _ hl'
      exact ⟨hZo _ _ hl',by simp;exact hd'.2.2⟩) (fun g' l' hl' c g'' l'' hc hl'' e=>hc (k.sep _ _ _ _ _ _ hl' hl'' e (hZo _ _ hl')).symm)
    have hb2:=zh9 (w:=w) hZr (.deferred none)
    refine ⟨hm.ne,.inl ⟨loc.r,_,rfl,run_takeDeferred q2,?_⟩⟩
    exact ih _ m u _ _ ρ m' h' k2 (Nat.le_trans hZ hb2.size) hrest hm hl fun ρ' w' u' a1 a2 a3 a4 a5=>hfin ρ' w' u' a1 a2 (hb2.trans a3) a4 a5
   ·cases hl
  | caught hf hp hc hrest =>
   rename_i f p c p' c' ds
   have hok:=hca f hf
   have hinv:(invoke (.fn (.func f) #[]) #[p',c']).run P w=.ok (.enter f #[p',c']) w:=by
    simp only [invoke,Array.append_empty]
    exact hok.ent _ w
   refine ⟨hm.ne,.inr ⟨fun hd=>by simp [Fr,Fence.wide] at hd,_,_,f,#[p',c'],rfl,hinv,fun _ _=>trivial,?_⟩⟩
   cases m with
   | returning =>
    have hm:u=.returning:=hm
    subst hm
    simp only [zcc] at hl
    refine (hok.idle p' c' w).mono ?_
    rintro e u' w' ⟨⟨v,rfl⟩,rfl,rfl⟩
    exact ih _ .returning .returning _ _ ρ m' h' k hZ hrest rfl hl hfin
   | panicking v =>
    obtain ⟨v',rfl,hv⟩:=hm
    simp only [zcc] at hl
    split at hl
    ·rename_i heq
     cases heq
    ·rename_i t n heq
     cases heq
     obtain ⟨ht,hlA⟩:=zA hl
     have ht:=Nat.eq_of_beq_eq_true ht
     split at hlA
     ·rename_i g cap
      split at hlA
      ·rename_i h1 hcall
       split at hlA
       ·rename_i b g' e0
        split at hlA
        ·rename_i h2 hw
         cases hp with
         | ptr hpl hpc =>
          rename_i loc
          cases hc with
          | fn hcl hcr =>
           rename_i caps
           obtain ⟨hent,hcalls⟩:=hC g _ _ _ h1 hcall Z ρ w caps k hZ ⟨hcl,hcr⟩
           cases hv with
           | iface hv =>
            cases hv
            subst ht
            refine (hok.hit n loc.r g caps.toArray w (fun w1=>∃ ρ1,Rho.le h.next ρ ρ1∧WR P Z ρ1 h1 w1∧Below Z w w1∧h.next≤h1.next) hent (hcalls.mono ?_) ?_).mono ?_
            ·rintro e w1 ⟨ρ1,a1,a2,a3,a4,v',rfl,a5⟩
             refine ⟨?_,ρ1,a1,a2,a3,a4⟩
             generalize hvv:v'=vv at a5
             cases a5 with
             | tuple hl0 hx0 =>
              rename_i cs
              have:cs=[]:=by cases cs;rfl;simp at hl0
              subst this;rfl
            ·rintro w1 ⟨ρ1,a1,a2,a3,a4⟩
             exact zoF a2 (a1.more _ _ _ hpl) hw
            ·rintro e u' w' ⟨⟨v,rfl⟩,rfl,w1,⟨ρ1,a1,a2,a3,a4⟩,b0⟩
             obtain ⟨w2,b1,b2,b3,b4⟩:=zhF a2 (a1.more _ _ _ hpl) (VL.one (.int .i64 n)) (by simp [TV.one]) hw
             obtain ⟨⟨v0,q1⟩,q2⟩:=zoF a2 (a1.more _ _ _ hpl) hw
             rw [zh3 n q1 q2] at b1;injection b1 with _ b1;rw [← b0] at b1;subst b1
             exact ih _ .returning .returning _ _ ρ1 m' h' b2 (Nat.le_trans hZ (a3.trans b3).size) (hrest.mono a1.more) rfl hlA fun ρ' w3 u' c1 c2 c3 c4 c5=>hfin ρ' w3 u' (a1.trans c1 (by rw [b4];exact a4)) c2 ((a3.trans b3).trans c3) (by rw [b4] at c4;exact Nat.le_trans a4 c4) c5
        ·cases hlA
       ·cases hlA
      ·cases hlA
     ·cases hlA
    ·cases hl
structure zeF (P:Program) (E:Env):Prop where
 mix:P.follows .mixedOrders=true
 fn:∀ f F,E.funcs.get f=some F→∃ fn,P.funcs[f]?=some fn∧ziI P fn=some F∧∀ (args:Array Value) w,(callFunc f args).run P w=.ok (.enter f args) w
 spec:∀ f g,E.spec f=some g→∀ (Z:Nat) (ρ:Rho) (w:World) (args:List TV) (args':List Value) (h:TH) (r:TE) (h':TH),g args h=some (r,h')→WR P Z ρ h w→Z≤w.heap.size→VL ρ args args' →
  (∀ w,(callFunc f args'.toArray).run P w=.ok (.enter f args'.toArray) w)∧CallsIn (Fr none) 0 P f args'.toArray w (zhz P Z ρ h h' w r)
 caught:∀ f,E.caught.get f=some ()→zhL P E.errno f
theorem zrl {fn:Func} {F:zr} (hF:ziI P fn=some F):∃ c,fn.body=some c∧zbE P fn.ntmps 1000 c=some F.body∧zb8 (zgd P) fn.results.toList=some F.res∧F.N=fn.ntmps:=by
 unfold ziI at hF
 split at hF
 ·cases hF
 ·rename_i c hc
  split at hF
  ·rename_i t r h1 h2
   injection hF with hF;subst hF
   exact ⟨c,hc,h1,h2,rfl⟩
  ·cases hF
theorem ztI {E:Env} (hE:zeF P E) {C:zaB} (hC:zeA P C) (hR:zgn P C):zeA P ⟨zaU E C,zkS E C⟩:=by
 intro f args h r h' hr Z ρ w args' k hZ hv
 simp only [zaU] at hr
 split at hr
 ·rename_i F hF
  obtain ⟨hlen,hrA⟩:=zA hr
  have hlen:=Nat.le_of_ble_eq_true hlen
  obtain ⟨fn,p1,p2,p3⟩:=hE.fn f F hF
  obtain ⟨c,c1,c2,c3,c4⟩:=zrl p2
  refine ⟨fun w=>p3 _ w,callsIn_of_wp_marks p1 c1 trivial ?_⟩
  cases hr1:z6 C E.caught E.N none F.body ⟨Tr.putL .nil 0 args,[],h⟩ with
  | none=>rw [hr1] at hrA;cases hrA
  | some r1 =>
   obtain ⟨x,s⟩:=r1
   rw [hr1] at hrA
   have kst:StR P Z ρ fn.ntmps E.caught ⟨Tr.putL .nil 0 args,[],h⟩ { tmps:=args'.toArray++Array.replicate (fn.ntmps - args'.toArray.size) undef,defers:=[] } w:=by
    refine ⟨k,fun t v ht=>?_,by simp;omega,.nil,hZ⟩
    dsimp only at ht
    rw [Tr.get_putL] at ht
    split at ht
    ·rename_i hlt
     obtain ⟨y,y1,y2⟩:=hv.at ht
     rw [Nat.sub_zero] at y1
     refine ⟨y,?_,y2⟩
     have hlt2:t < args'.length:=by rw [← hv.1];omega
     dsimp only
     rw [Array.getElem?_append_left (by simpa using hlt2)]
     simpa using y1
    ·rw [Tr.get_nil] at ht;cases ht
   refine wpIn_mono (zlm hC hR hE.mix (rnd:=none) (trnd:=none) (.inl rfl) 1000 c F.body c2 ρ _ _ w x s trivial kst hr1) ?_
   intro e a1 w1 hc
   obtain ⟨ρ1,g1,g2,g3,g4,g5⟩:=hc
   have out:∀ (m:TM) (u:FrameMode),MR ρ1 m u→zgI E F s.tm (zcc E C s.df m s.h)=some (r,h')→LeavesInM (Fr none) 0 P fn a1.tmps (zhz P Z ρ h h' w r) a1.defers u w1:=fun m u hm hl=>by
    cases hlv:zcc E C s.df m s.h with
    | none=>rw [hlv] at hl;cases hl
    | some q =>
     obtain ⟨m',h2⟩:=q
     rw [hlv] at hl
     refine zrX hC hE.caught s.df a1.defers m u s.h w1 ρ1 m' h2 g5.wr g5.hZ g5.df hm hlv fun ρ2 w2 u2 b1 b2 b3 b4 b5=>?_
     have hle:=g1.trans b1 g3
     have hb:=g2.trans b3
     have hn:=Nat.le_trans g3 b4
     cases m' with
     | returning =>
      have b5:u2=.returning:=b5
      subst b5
      simp only [zgI] at hl
      split at hl
      ·rename_i vs hvs
       injection hl with hl;injection hl with l1 l2;subst l1;subst l2
       obtain ⟨v',d1,d2⟩:=zpp b2 (g5.tm.mono b1.more) c3 hvs
       exact ⟨v',d1,ρ2,hle,b2,hb,hn,v',rfl,d2⟩
      ·cases hl
     | panicking v =>
      obtain ⟨v',rfl,d2⟩:=b5
      simp only [zgI] at hl
      injection hl with hl;injection hl with l1 l2;subst l1;subst l2
      exact ⟨ρ2,hle,b2,hb,hn,v',rfl,d2⟩
   simp only [zr3] at hrA
   cases x with
   | norm =>
    have g4:e=.normal:=g4
    subst g4
    exact out .returning .returning rfl hrA
   | ret =>
    have g4:e=.ret:=g4
    subst g4
    exact out .returning .returning rfl hrA
   | panic v =>
    obtain ⟨v',rfl,hv'⟩:=g4
    exact out (.panicking v) _ ⟨v',rfl,hv'⟩ hrA
   | exit id=>cases hrA
   | goto l=>cases hrA
 ·split at hr
  ·rename_i g hg
   exact hE.spec f g hg Z ρ w args args' h r h' hr k hZ hv
  ·cases hr
theorem zhD {E:Env} (hE:zeF P E):∀ d,zeA P (zcA E d)∧zgn P (zcA E d)
 | 0=>⟨fun f args h r h' hr=>(by cases hr),fun l args h b h' hr=>(by cases hr)⟩
 | d + 1=>by
  obtain ⟨hC,hR⟩:=zhD hE d
  exact ⟨ztI hE hC hR,fun l args h b h' hr Z ρ w args' loc k hZ hl hv=>zrA hC hR hE.mix hr k hZ hl hv⟩
theorem WR.start (w:World):WR P w.heap.size (fun _ _=>none) ⟨0,.nil⟩ w:=⟨fun _ _ _ h=>(by cases h),fun _ _ _ h=>(by cases h),fun _ _ _ _ _ _ h=>(by cases h)⟩
theorem zpZ {E:Env} (hE:zeF P E) {d f:Nat} {r:TE} {h':TH} (hr:(zcA E d).fn f [] ⟨0,.nil⟩=some (r,h')) (w:World) :
  (∀ w,(callFunc f #[]).run P w=.ok (.enter f #[]) w)∧CallsIn (Fr none) 0 P f #[] w fun e w'=>Below w.heap.size w w'∧match r with
   | .ret v=>∃ ρ v',e=.returned v'∧VR ρ v v'
   | .panic v=>∃ ρ v',e=.panicked [{ v:=v',recovered:=false }]∧VR ρ v v':=by
 obtain ⟨h1,h2⟩:=(zhD hE d).1 f [] ⟨0,.nil⟩ r h' hr w.heap.size _ w [] (WR.start w) (Nat.le_refl _) (VL.nil _)
 refine ⟨h1,h2.mono ?_⟩
 rintro e w' ⟨ρ',_,_,hb,_,he⟩
 refine ⟨hb,?_⟩
 cases r with
 | ret v=>obtain ⟨v',a,b⟩:=he;exact ⟨ρ',v',a,b⟩
 | panic v=>obtain ⟨v',a,b⟩:=he;exact ⟨ρ',v',a,b⟩
end Tw
end Go.Proofs.YtfomlmhnmheenaaGreat
