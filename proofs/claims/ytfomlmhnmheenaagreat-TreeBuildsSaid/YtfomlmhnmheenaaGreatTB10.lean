/- TreeBuilds returns true for every input, and its input reads afterwards as it did. No condition. -/
import Derived.Test.YtfomlmhnmheenaaGreatTB9
import Derived.ProofKit
import Derived.OpenShut
import Derived.ShutString
import Derived.ChangeOld
import Derived.Test.YtfomlmhnmheenaaGreatRows
set_option linter.unusedSimpArgs false
set_option linter.unusedVariables false
namespace Go.Proofs.YtfomlmhnmheenaaGreat
open Go.ChangeShapes Go.WideShapes Go.ChangeAt Go.RowKit
set_option maxRecDepth 100000
theorem zkW (b o j:Nat):(⟨b,o,none⟩:Addr).add j=⟨b,o + j,none⟩:=by unfold Addr.add;split <;> simp_all
theorem zuq:ownKnob Tryz.prog.godebug=none:=by kernel_rfl
theorem zot:laidOutB Tryz.prog=true:=by kernel_rfl
section
variable {H:Type} {enc:TypeId × Value→H} {w:World} {base:Nat} {spare:Nat→Bool} {held:Bool} {r:Reach} {b0:Nat}
theorem zpq {fuel:Nat} {v:Value} {x:DataW H × List MemPlace} (hv:Value.okWide Tryz.prog w r b0 41 v) (h:DataW.trod enc Tryz.prog w base spare held fuel 41 [v]=some x):∃ (l:List Fv.Pr),Fv.CI w (Fv.psv 0 l) v:=by
 rcases Go.Deep.open_slice_pairs Tryz.underlying41 Tryz.underlying66 (by kernel_rfl) rfl rfl (by kernel_rfl) (by kernel_rfl) h with ⟨hcs,_⟩ | ⟨a,len,cap,m,n,V0,V1,D0,D1,P0,P1,hcs,_,hl,hm,hmm,_,hx⟩
 ·injection hcs with hcs
  subst hcs
  exact ⟨[],.nilsl _ _⟩
 ·injection hcs with hcs
  subst hcs
  have hml:len≤m:=by
   rw [hmm];split
   ·exact hl
   ·exact Nat.le_refl _
  obtain ⟨hblk,hspot⟩:=Fv.zl8 Tryz.underlying41 hv
  obtain ⟨b,off,spot⟩:=a
  dsimp only at hblk hspot
  subst hspot
  have hall:∀ i,i < len→∃ y:Fv.Pr,w.cell? ⟨b,off + i * 2,none⟩=some (.int .u64 y.1)∧w.cell? ⟨b,off + (i * 2 + 1),none⟩=some (.int .u64 y.2):=fun i hi=>by
   obtain ⟨c0,c1,t0,t1⟩:=hx i (by omega)
   obtain ⟨n0,e0,_,w0⟩:=DataW.trod_int Tryz.underlying24 t0
   obtain ⟨n1,e1,_,w1⟩:=DataW.trod_int Tryz.underlying24 t1
   injection e0 with e0;injection e1 with e1
   have q0:=bounds_u64 w0
   have q1:=bounds_u64 w1
   refine ⟨(n0.toNat,n1.toNat),?_,?_⟩
   ·rw [e0] at c0
    show _=some (Value.int .u64 ((n0.toNat:Nat):Int))
    rw [Int.toNat_of_nonneg q0.1];rwa [zkW] at c0
   ·rw [e1] at c1
    show _=some (Value.int .u64 ((n1.toNat:Nat):Int))
    rw [Int.toNat_of_nonneg q1.1];rwa [zkW] at c1
  haveI:Inhabited Fv.Pr:=⟨(0,0)⟩
  obtain ⟨f,hf⟩:=Go.Deep.choose_lt (p:=fun i (y:Fv.Pr)=>w.cell? ⟨b,off + i * 2,none⟩=some (.int .u64 y.1)∧w.cell? ⟨b,off + (i * 2 + 1),none⟩=some (.int .u64 y.2)) hall
  refine ⟨(List.range len).map f,?_⟩
  have hlen:((List.range len).map f).length=len:=by simp
  have:=Fv.zr7 (w:=w) (p:=0) (l:=(List.range len).map f) (b:=b) (o:=off) (c:=cap) hblk (by rw [hlen];exact hl) hm (fun i x hi=>by
   have hil:i < len:=by have:=(List.getElem?_eq_some_iff.1 hi).1;rwa [hlen] at this
   rw [List.getElem?_map,List.getElem?_range hil] at hi
   injection hi with hi;subst hi
   exact hf i hil)
  rwa [hlen] at this
theorem zp4 {fuel:Nat} {v:Value} {x:DataW H × List MemPlace} (hv:Value.okWide Tryz.prog w r b0 25 v) (h:DataW.trod enc Tryz.prog w base spare held fuel 25 [v]=some x):∃ (l:List Int),Fv.CI w (.list 0 1 (l.map Fv.iv)) v:=by
 rcases open_ints Tryz.underlying25 Tryz.underlying3 (by kernel_rfl) h with ⟨hcs,_⟩ | ⟨a,len,cap,zs,hcs,_,hl,hm,hz,_,hcell,_⟩
 ·injection hcs with hcs
  subst hcs
  exact ⟨[],.nilsl _ _⟩
 ·injection hcs with hcs
  subst hcs
  have hzl:len≤zs.length:=by
   rw [hz];split
   ·exact hl
   ·exact Nat.le_refl _
  obtain ⟨hblk,hspot⟩:=Fv.zl8 Tryz.underlying25 hv
  obtain ⟨b,off,spot⟩:=a
  dsimp only at hblk hspot
  subst hspot
  have hlen:(zs.take len).length=len:=by rw [List.length_take,Nat.min_eq_left hzl]
  refine ⟨zs.take len,?_⟩
  have:=Fv.zsR (w:=w) (p:=0) (l:=zs.take len) (b:=b) (o:=off) (c:=cap) hblk (by rw [hlen];exact hl) hm (fun i x hi=>by
   have hil:i < len:=by have:=(List.getElem?_eq_some_iff.1 hi).1;rwa [hlen] at this
   rw [List.getElem?_take,if_pos hil] at hi
   have:=hcell i (by omega)
   rw [List.getD_eq_getElem?_getD,hi,zkW] at this
   exact this)
  rwa [hlen] at this
end
set_option maxHeartbeats 1000000 in
theorem zma (os:Os) (started:os.Started) (H:Type) (enc:TypeId × Value→H) :
  ReturnsInHanded {} Tryz.checked os 5 .any (Rows.treeBuildsSpec.pre6 enc Tryz.prog Tryz.f5 Rows.treeBuildsRow.domain false) (Rows.treeBuildsSpec.post enc Tryz.prog Tryz.f5 false true false false):=by
 refine returnsInHanded_of_change (C:=Tryz.checked) zuq started (by kernel_rfl) Tryz.func5
  (ChangeSpec.witness6 (enc:=enc) (C:=Tryz.checked) false ⟨#[],#[.slice none 0 0,.slice none 0 0],[]⟩ 8 (by kernel_rfl) (by kernel_rfl) (by kernel_rfl) (by kernel_rfl)) ?_
 intro W base args ds gs before hval0 hW hcnd _
 have hval:∀ (j:Nat) t v,Tryz.f5.params[j]?=some t→args[j]?=some v→Value.okWide Tryz.prog W .any base t v:=hval0
 have hW':=hW
 obtain ⟨p,q,hA0,hV,rfl,hfz,hnd⟩:=hW
 have hA:DataW.TrodAll enc Tryz.prog W 0 (fun _=>true) true Tryz.f5.params.toList args.toList ds p:=hA0
 rw [Tryz.params5] at hA hval
 obtain ⟨v0,vs0,d0,ds0,p0,q0,hargs,rfl,rfl,h0,r0⟩:=trodAll_cons hA
 obtain ⟨v1,vs1,d1,ds1,p1,q1,rfl,rfl,rfl,h1,r1⟩:=trodAll_cons r0
 obtain ⟨rfl,rfl,rfl⟩:=trodAll_nil r1
 obtain rfl:args=#[v0,v1]:=by cases args;simp_all
 obtain ⟨rfl,rfl⟩:=trodVars_none hV
 have w0:=hval 0 41 v0 rfl rfl
 have w1:=hval 1 25 v1 rfl rfl
 obtain ⟨a0,len0,cap0,rfl⟩:=okWide_slice Tryz.underlying41 w0
 obtain ⟨a1,len1,cap1,rfl⟩:=okWide_slice Tryz.underlying25 w1
 have k0:=h0
 have k1:=h1
 have lt0:∀ x∈p0,x.block < W.heap.size:=by obtain ⟨m,hm⟩:=k0;exact DataW.trod_lt m _ _ _ hm
 have lt1:∀ x∈p1,x.block < W.heap.size:=by obtain ⟨m,hm⟩:=k1;exact DataW.trod_lt m _ _ _ hm
 obtain ⟨l,hc0⟩:∃ l:List Fv.Pr,Fv.CI W (Fv.psv 0 l) (.slice a0 len0 cap0):=by
  obtain ⟨fuel,hf⟩:=h0
  exact zpq w0 (by simpa [Value.cells] using hf)
 obtain ⟨fr,hc1⟩:∃ l:List Int,Fv.CI W (.list 0 1 (l.map Fv.iv)) (.slice a1 len1 cap1):=by
  obtain ⟨fuel,hf⟩:=h1
  exact zp4 w1 (by simpa [Value.cells] using hf)
 clear hA0 hval0
 refine (Fv.FP.calls (w:=W) Fv.ztO (Fv.FN.FP (Fv.zsn 0 0 l fr)) (args':=[.slice a0 len0 cap0,.slice a1 len1 cap1]) rfl (fun i x y hx hy=>?_)).mono fun e W' ⟨he,hx⟩=>?_
 ·match i with
  | 0=>injection hx with hx;injection hy with hy;subst hx hy;exact hc0
  | 1=>injection hx with hx;injection hy with hy;subst hx hy;exact hc1
  | i + 2=>simp at hx
 have bel:Below W.heap.size W W':=hx
 subst he
 exact ⟨_,rfl,_,_,_,[],_,[],hW',trodAll_mk1 (shut_bool Tryz.underlying4 _),(trodAll_cons_mk (Below.trod zot (by kernel_rfl) (of_decide_eq_true (by kernel_rfl)) k0 bel lt0) (trodAll_cons_mk (Below.trod zot (by kernel_rfl) (of_decide_eq_true (by kernel_rfl)) k1 bel lt1) trodAll_mk0)),rfl,bel.frame _,fun h=>by cases h⟩
theorem zoh:Rows.treeBuildsRow.holds Tryz.pinned (OpenSpec.ofChange Rows.treeBuildsSpec) :=
 OpenClaim.holds_of_wide 5 Tryz.f5 rfl rfl rfl rfl rfl rfl rfl ⟨rfl,rfl,rfl,rfl,rfl⟩ rfl rfl rfl rfl rfl (by kernel_rfl) Tryz.func5 (by kernel_rfl)
  (of_decide_eq_true (by kernel_rfl)) (by unfold Func.isWrapper;first | (rw [if_pos (by decide +kernel)];kernel_rfl) | (rw [if_neg (by decide +kernel)];exact ⟨rfl,rfl⟩))
  (fun os started H enc _=>zma os started H enc)
theorem tree_builds:Rows.TreeBuildsSaid:=zoh
#print axioms tree_builds
end Go.Proofs.YtfomlmhnmheenaaGreat
