/- part 6 of the proof of tree_builds. -/
import Derived.Test.YtfomlmhnmheenaaGreatTB5
import Derived.KernelRfl
set_option linter.unusedSimpArgs false
set_option linter.unusedVariables false
set_option maxRecDepth 1000000
namespace Go.Proofs.YtfomlmhnmheenaaGreat
namespace Fv
open Tw
def ztD (f:Nat):Option (List TV→TH→Option (TE × TH)):=bif Nat.beq f 127 then some (zlj 83) else bif Nat.beq f 9 then some zkO else none
noncomputable def ET:Env:=⟨zee.set 9 none,ztD,zfd,zm7,0⟩
theorem zJ {f:Nat} {F:zr} (h:zee.get f=some F) (hf:f ≠ 9):ET.funcs.get f=some F:=by
 show (zee.set 9 none).get f=some F
 rw [Tr.get_set,if_neg hf];exact h
end Fv
end Go.Proofs.YtfomlmhnmheenaaGreat
namespace Go.Proofs.YtfomlmhnmheenaaGreat
namespace Fv
abbrev Pr:=Nat × Nat
def zbI (left n:Nat):Bool:=decide (left ≠ 0) && decide (n % 2=0) && decide (2≤n / 2) && decide (n / 2≤28)
def zbm:List Nat→Nat
 | _::p::l=>if p=0 then 0 else zbm l + 1
 | _=>0
def zb5:Nat→List Nat→List Pr
 | prev,k::p::l=>if p=0 then [] else if p=prev then zb5 p l else (k,p)::zb5 p l
 | _,_=>[]
def zbs (left:Nat) (l:List Nat):List Pr:=if zbI left l.length=true then zb5 left l else []
def zag:List Pr→Bool
 | a::b::l=>decide (a.1 < b.1) && zag (b::l)
 | _=>true
def zb6:List Nat→List Pr→Bool
 | seen,p::l=>!seen.contains p.2 && zb6 (p.2::seen) l
 | _,[]=>true
def zd0:List Nat→Bool
 | _::p::l=>decide (p=0) && zd0 l
 | _=>true
def zda (left:Nat) (l:List Nat):Bool :=
 zag (zbs left l) && zb6 [left] (zbs left l) && decide ((zbs left l).length=zbm l) && decide ((zbs left l).length < l.length / 2) && zd0 (l.drop (2 * (zbs left l).length))
def zcK (left:Nat) (l:List Nat):Nat:=if zbI left l.length=true then if zda left l=true then 0 else 190 else 2
def zdq (left:Nat) (l:List Nat) (j:Nat):Nat:=if j=0 then left else l.getD (2 * (j - 1) + 1) 0
theorem zmf (l:List Nat) (j:Nat) (h:2 * j + 1 < l.length):l.drop (2 * j)=l[2 * j]::l[2 * j + 1]::l.drop (2 * (j + 1)):=by
 rw [List.drop_eq_getElem_cons (i:=2 * j) (by omega),List.drop_eq_getElem_cons (i:=2 * j + 1) h]
 rfl
theorem ziP:∀ l:List Nat,2 * zbm l≤l.length
 | []=>by simp [zbm]
 | [_]=>by simp [zbm]
 | _::p::l=>by
  have:=ziP l
  rw [zbm]
  split <;> simp <;> omega
theorem zoZ {l:List Nat} (h:l.length < 2):zbm l=0:=by
 match l,h with
 | [],_=>rfl
 | [_],_=>rfl
@[reducible] def wv (p:Nat) (l:List Nat):PV:=.list p 1 (l.map uv)
@[reducible] def pv (x:Pr):PV:=.agg [uv x.1,uv x.2]
@[reducible] def psv (p:Nat) (l:List Pr):PV:=.list p 2 (l.map pv)
theorem Lb.uvs {z:Nat} (l:List Nat):Lb (.list 0 z (l.map uv)):=.list fun x hx=>by
 obtain ⟨y,hy,hx⟩:=List.mem_flatMap.1 hx
 obtain ⟨n,_,rfl⟩:=List.mem_map.1 hy
 simp [PV.cells] at hx;subst hx;exact .int _ _
theorem Lb.pvs {z:Nat} (l:List Pr):Lb (.list 0 z (l.map pv)):=.list fun x hx=>by
 obtain ⟨y,hy,hx⟩:=List.mem_flatMap.1 hx
 obtain ⟨n,_,rfl⟩:=List.mem_map.1 hy
 simp [PV.cells] at hx;rcases hx with rfl | rfl <;> exact .int _ _
end Fv
end Go.Proofs.YtfomlmhnmheenaaGreat
namespace Go.Proofs.YtfomlmhnmheenaaGreat
namespace Fv
open Tw
attribute [local go_sem] zaU zaE z7 zac evs ev okv zby zO.cls zaV zbg zbo zV zW upd zB za4 zaZ za9 zaH zaX za5 za7 za2 zaW za0 zaz zba zaY za8 za6 za3 za1 zax zbf zbh zan zaq zbx PV.cells ofC zbd zS zae okF zak spl zaF zaK bnd zao zas zat zaO zbl zT zal zaL zap zbi zbr z9 lenP ze zF zam zbj PV.toT zaC zL Nat.mul_mod_right Int.reduceOfNat Int.reduceToNat Int.cast_ofNat_Int Int.reduceLE Int.reduceLT Int.reduceAdd Int.reduceSub Int.reduceMul Int.reduceNegSucc Nat.reduceEqDiff if_true if_false ite_true ite_false decide_true decide_false Bool.not_true Bool.not_false and_true true_and and_self false_and and_false or_false false_or or_true true_or or_self List.length_cons List.length_nil List.length_map List.getElem?_cons_zero List.getElem?_cons_succ List.getElem?_map List.getElem?_nil Option.map_some Option.map_none Option.getD_some List.append_nil List.nil_append List.cons_append List.take_succ_cons List.take_zero List.drop_zero List.drop_succ_cons List.set_cons_zero List.set_cons_succ Int.toNat_natCast Int.natCast_nonneg Nat.le_refl Nat.zero_le Nat.reduceAdd Nat.reduceSub Nat.reduceMul Nat.reduceLeDiff Nat.reduceLT Bool.false_eq_true Bool.true_eq_false Nat.add_zero Nat.zero_add List.all_cons List.all_nil Bool.and_true Bool.and_self Bool.true_and Nat.reduceMod Nat.reduceDiv eq_self zau zaJ zaa zbb evN zaT dpF zaQ zbu zay zbc zbt zaP Option.some.injEq Option.isSome_some wrap_i64 zQ zaM
attribute [local go_sem ↓] reduceIte
set_option maxRecDepth 100000
theorem f65:ET.funcs.get 65=some T65:=zJ (by kernel_rfl) (by decide)
theorem zty:ET.funcs.get 132=some T132:=zJ (by kernel_rfl) (by decide)
theorem f58:ET.funcs.get 58=some T58:=zJ (by kernel_rfl) (by decide)
theorem zuj:ET.funcs.get 170=some T170:=zJ (by kernel_rfl) (by decide)
theorem zuN:ET.funcs.get 188=some T188:=zJ (by kernel_rfl) (by decide)
theorem ztY:ET.funcs.get 185=some T185:=zJ (by kernel_rfl) (by decide)
theorem zul:ET.funcs.get 181=some T181:=zJ (by kernel_rfl) (by decide)
theorem zu0:ET.funcs.get 135=some T135:=zJ (by kernel_rfl) (by decide)
theorem zuO:ET.funcs.get 184=some T184:=zJ (by kernel_rfl) (by decide)
@[reducible] def zcn (n:Int):PV:=.iface 31 (.int .i64 n)
theorem zcI (e:Int):FN ET 65 [.bool true,.int .i64 e] (.ret (.tuple [])):=by
 refine zU f65 (Nat.le_of_ble_eq_true rfl) Lb.unit ?_
 refine zc (za ?_);refine zb (by simp (disch:=omega) only [go_sem] <;> rfl) ?_;refine zd ?_
 refine zD (by simp only [go_sem] <;> rfl) ?_ ?_
 ·intro h;cases h
 ·intro _
  refine zR ?_
  exact ⟨[],rfl,Frz.tupL trivial⟩
theorem zb0 (e:Int):FN ET 65 [.bool false,.int .i64 e] (.panic (zcn e)):=by
 refine zU f65 (Nat.le_of_ble_eq_true rfl) (.iface (.int _ _)) ?_
 refine zc (za ?_);refine zb (by simp (disch:=omega) only [go_sem] <;> rfl) ?_;refine zd ?_
 refine zD (by simp only [go_sem] <;> rfl) ?_ ?_
 ·intro _
  refine za ?_
  refine zb (by simp (disch:=omega) only [go_sem] <;> rfl) ?_
  refine zmH (ty:=31) (v:=.int .i64 e) rfl (by simp [evs,ev,okv,upd,zB]) ?_
  exact Frz.iface (.int _ _)
 ·intro h;cases h
theorem zhd (e:Int):FN ET 132 [.bool true,.int .i64 e] (.ret (.tuple [])):=by
 refine zU zty (Nat.le_of_ble_eq_true rfl) Lb.unit ?_
 refine zc (za ?_);refine zb (by simp (disch:=omega) only [go_sem] <;> rfl) ?_;refine zd ?_
 refine zD (by simp only [go_sem] <;> rfl) ?_ ?_
 ·intro h;cases h
 ·intro _
  refine zR ?_
  exact ⟨[],rfl,Frz.tupL trivial⟩
theorem zgc (e:Int):FN ET 132 [.bool false,.int .i64 e] (.panic (zcn e)):=by
 refine zU zty (Nat.le_of_ble_eq_true rfl) (.iface (.int _ _)) ?_
 refine zc (za ?_);refine zb (by simp (disch:=omega) only [go_sem] <;> rfl) ?_;refine zd ?_
 refine zD (by simp only [go_sem] <;> rfl) ?_ ?_
 ·intro _
  refine za ?_
  refine zb (by simp (disch:=omega) only [go_sem] <;> rfl) ?_
  refine zmH (ty:=31) (v:=.int .i64 e) rfl (by simp [evs,ev,okv,upd,zB]) ?_
  exact Frz.iface (.int _ _)
 ·intro h;cases h
theorem ztB (p:Nat) (l:List Int) (n:Int) (hl:l.length < 4611686018427387904):FN ET 58 [.list p 1 (l.map iv),.int .i64 n] (.ret (.bool (l.contains n))):=by
 refine zU f58 (Nat.le_of_ble_eq_true rfl) (.bool _) ?_
 refine zc (za ?_);refine zb (by simp (disch:=omega) only [go_sem] <;> rfl) ?_;refine zd ?_
 refine zc ?_
 refine zc (za ?_);refine zb (by simp (disch:=omega) only [go_sem] <;> rfl) ?_;refine zd ?_
 refine zG (zav (fun m s=>∃ i:Nat,m=l.length - i∧i≤l.length∧(l.take i).contains n=false∧s.tm 0=.list p 1 (l.map iv)∧s.tm 1=.int .i64 n∧s.tm 5=.int .i64 i∧s.df=[]∧s.H=[]) (n:=l.length) ?_ ?_)
 ·exact ⟨0,by simp [upd,zB]⟩
 ·rintro m ⟨tm,df,H⟩ ⟨i,rfl,hi,hc,h0,h1,h5,rfl,rfl⟩
  dsimp only at h0 h1 h5
  refine zY ?_
  refine zc (za ?_);refine zb (by simp (disch:=omega) only [go_sem,h0,h1,h5] <;> rfl) ?_;refine zd ?_
  refine zad (by simp only [go_sem] <;> rfl) ?_ ?_
  ·intro hlt
   have hlt:i < l.length:=by have:=of_decide_eq_true hlt;omega
   refine zc (zG ?_)
   refine zc (za ?_);refine zb (by simp (disch:=omega) only [go_sem,h0,h1,h5,List.getElem?_eq_getElem hlt] <;> rfl) ?_;refine zd ?_
   refine zD (by simp only [go_sem] <;> rfl) ?_ ?_
   ·intro he
    have he:=of_decide_eq_true he
    refine zc (za ?_);refine zb (by simp (disch:=omega) only [go_sem] <;> rfl) ?_;refine zd ?_
    refine zE ?_;(try simp only [zf,zi,zh,zg,zj]);refine zy (by simp only [T58,zI,go_sem] <;> rfl) ?_;simp only [zK]
    have:l.contains n=true:=by
     rw [List.contains_iff_mem];rw [← he];exact List.getElem_mem hlt
    rw [this]
    exact Frz.bool _
   ·intro he
    have he:=of_decide_eq_false he
    refine zR ?_
    simp only [zf,zi,zh,zg,zu,zj,if_true,reduceIte]
    refine za ?_
    refine zb (by simp (disch:=omega) only [go_sem,h0,h1,h5] <;> rfl) ?_
    refine zC ?_
    refine ⟨_,?_,i + 1,rfl,hlt,?_,?_⟩
    ·omega
    ·rw [List.take_succ_eq_append_getElem hlt]
     rw [List.contains_append,hc]
     simp [Ne.symm he]
    ·have:IntKind.i64.wrap ((i:Int) + 1)=((i + 1:Nat):Int):=by rw [wrap_i64 (by omega) (by omega)];omega
     simp [upd,h0,h1,this]
  ·intro hlt
   have hlt:¬ i < l.length:=by have:=of_decide_eq_false hlt;omega
   obtain rfl:i=l.length:=by omega
   simp only [zf,zi,zh,zg,zu,zj,if_true,reduceIte]
   refine zc (za ?_);refine zb (by simp (disch:=omega) only [go_sem] <;> rfl) ?_;refine zd ?_
   refine zE ?_;(try simp only [zf,zi,zh,zg,zj]);refine zy (by simp only [T58,zI,go_sem] <;> rfl) ?_;simp only [zK]
   rw [List.take_length] at hc
   rw [hc]
   exact Frz.bool _
abbrev zaI (n:Nat):Prop:=n < 4611686018427387904
theorem zhj (p:Nat) (w:List Nat) (hw:zaI w.length):FN ET 170 [wv p w] (.ret (.int .i64 (w.length / 2:Nat))):=by
 refine zU zuj (Nat.le_of_ble_eq_true rfl) (.int _ _) ?_
 refine zc (za ?_);refine zb (by simp (disch:=omega) only [go_sem] <;> rfl) ?_;refine zd ?_
 have e1:IntKind.i64.wrap ((w.length:Int).tdiv 2)=((w.length / 2:Nat):Int):=by
  rw [IntWalk.i64_quo _ _ (by omega)];omega
 refine zc (za ?_)
 refine zb (by simp (disch:=omega) only [go_sem,e1] <;> rfl) ?_
 refine zd ?_
 refine zE ?_;(try simp only [zf,zi,zh,zg,zj]);refine zy (by simp only [T170,zI,go_sem] <;> rfl) ?_;simp only [zK]
 exact Frz.int _ _
theorem zti (p:Nat) (w:List Nat) (j:Nat) (hw:zaI w.length) (h:2 * j < w.length):FN ET 188 [wv p w,.int .i64 j] (.ret (uv w[2 * j])):=by
 refine zU zuN (Nat.le_of_ble_eq_true rfl) (.int _ _) ?_
 refine zc (za ?_);refine zb (by simp (disch:=omega) only [go_sem] <;> rfl) ?_;refine zd ?_
 have e1:IntKind.i64.wrap (2 * (j:Int))=2 * (j:Int):=wrap_i64 (by omega) (by omega)
 have e2:(2 * (j:Int)).toNat=2 * j:=by omega
 have e3:(0:Int)≤2 * (j:Int):=by omega
 refine zc (za ?_);refine zb (by simp (disch:=omega) only [go_sem,e1,e2,e3,List.getElem?_eq_getElem h] <;> rfl) ?_;refine zd ?_
 refine zE ?_;(try simp only [zf,zi,zh,zg,zj]);refine zy (by simp only [T188,zI,go_sem] <;> rfl) ?_;simp only [zK]
 exact Frz.int _ _
theorem zig (p:Nat) (w:List Nat) (j:Nat) (hw:zaI w.length) (h:2 * j + 1 < w.length):FN ET 185 [wv p w,.int .i64 j] (.ret (uv w[2 * j + 1])):=by
 refine zU ztY (Nat.le_of_ble_eq_true rfl) (.int _ _) ?_
 refine zc (za ?_);refine zb (by simp (disch:=omega) only [go_sem] <;> rfl) ?_;refine zd ?_
 have e1:IntKind.i64.wrap (2 * (j:Int))=2 * (j:Int):=wrap_i64 (by omega) (by omega)
 have e4:IntKind.i64.wrap (2 * (j:Int) + 1)=2 * (j:Int) + 1:=wrap_i64 (by omega) (by omega)
 have e2:(2 * (j:Int) + 1).toNat=2 * j + 1:=by omega
 have e3:(0:Int)≤2 * (j:Int) + 1:=by omega
 refine zc (za ?_);refine zb (by simp (disch:=omega) only [go_sem,e1,e2,e3,e4,List.getElem?_eq_getElem h] <;> rfl) ?_;refine zd ?_
 refine zE ?_;(try simp only [zf,zi,zh,zg,zj]);refine zy (by simp only [T185,zI,go_sem] <;> rfl) ?_;simp only [zK]
 exact Frz.int _ _
@[reducible] def zfr (p:Nat) (w:List Nat) (left:Nat):PV:=.agg [wv p w,uv left]
theorem zm4 (p:Nat) (w:List Nat) (left:Nat) (hw:zaI w.length):FN ET 181 [zfr p w left] (.ret (.bool (zbI left w.length))):=by
 refine zU zul (Nat.le_of_ble_eq_true rfl) (.bool _) ?_
 refine zc (za ?_);refine zb (by simp (disch:=omega) only [go_sem] <;> rfl) ?_;refine zd ?_
 refine zc (za ?_)
 by_cases h1:left=0
 ·subst h1
  refine zb (by simp (disch:=omega) only [go_sem] <;> rfl) ?_
  refine zd ?_
  refine zE ?_;(try simp only [zf,zi,zh,zg,zj]);refine zy (by simp only [T181,zI,go_sem] <;> rfl) ?_;simp only [zK]
  exact Frz.bool _
 ·have g1:¬ (left:Int)=0:=by omega
  by_cases h2:w.length % 2=0
  ·have g2:(w.length:Int).tmod 2=0:=by rw [IntWalk.rem_in _ _ (by omega)];omega
   refine zb (by simp (disch:=omega) only [go_sem,g1,g2] <;> rfl) ?_
   refine zH (by first | rfl | (simp only [go_sem] <;> rfl)) (by simp only [go_sem] <;> rfl) (zhj p w hw) ?_ ?_;(repeat (first | exact trivial | refine And.intro ?_ ?_ | exact .int _ _ | exact .bool _ | exact .list _ _ _ | exact .elem _ | exact .nilsl | exact .nil _ _ | exact .str _ | refine Frz.aggL ?_ | refine Frz.fnL ?_ | refine Frz.tupL ?_ | refine .iface ?_ | exact zn rfl rfl (by assumption)))
   by_cases h3:2≤w.length / 2
   ·have g3:(2:Int)≤((w.length / 2:Nat):Int):=by omega
    refine zb (by simp (disch:=omega) only [go_sem,g3] <;> rfl) ?_
    refine zH (by first | rfl | (simp only [go_sem] <;> rfl)) (by simp only [go_sem] <;> rfl) (zhj p w hw) ?_ ?_;(repeat (first | exact trivial | refine And.intro ?_ ?_ | exact .int _ _ | exact .bool _ | exact .list _ _ _ | exact .elem _ | exact .nilsl | exact .nil _ _ | exact .str _ | refine Frz.aggL ?_ | refine Frz.fnL ?_ | refine Frz.tupL ?_ | refine .iface ?_ | exact zn rfl rfl (by assumption)))
    refine zb (by simp (disch:=omega) only [go_sem] <;> rfl) ?_
    refine zd ?_
    refine zE ?_;(try simp only [zf,zi,zh,zg,zj]);refine zy (by simp only [T181,zI,go_sem] <;> rfl) ?_;simp only [zK]
    have:zbI left w.length=decide (((w.length / 2:Nat):Int)≤28):=by simp [zbI,h1,h2,h3];omega
    rw [this]
    exact Frz.bool _
   ·have g3:¬ (2:Int)≤((w.length / 2:Nat):Int):=by omega
    refine zb (by simp (disch:=omega) only [go_sem,g3] <;> rfl) ?_
    refine zd ?_
    refine zE ?_;(try simp only [zf,zi,zh,zg,zj]);refine zy (by simp only [T181,zI,go_sem] <;> rfl) ?_;simp only [zK]
    have:zbI left w.length=false:=by simp [zbI,h1,h2,h3]
    rw [this]
    exact Frz.bool _
  ·have g2:¬ (w.length:Int).tmod 2=0:=by rw [IntWalk.rem_in _ _ (by omega)];omega
   refine zb (by simp (disch:=omega) only [go_sem,g1,g2] <;> rfl) ?_
   refine zd ?_
   refine zE ?_;(try simp only [zf,zi,zh,zg,zj]);refine zy (by simp only [T181,zI,go_sem] <;> rfl) ?_;simp only [zK]
   have:zbI left w.length=false:=by simp [zbI,h1,h2]
   rw [this]
   exact Frz.bool _
theorem zur:ET.funcs.get 183=some T183:=zJ (by kernel_rfl) (by decide)
theorem zuy:ET.funcs.get 182=some T182:=zJ (by kernel_rfl) (by decide)
theorem zrS (p:Nat) (w:List Nat) (left j:Nat) (hw:zaI w.length) (h:2 * j < w.length + 1):FN ET 135 [zfr p w left,.int .i64 j] (.ret (uv (zdq left w j))):=by
 refine zU zu0 (Nat.le_of_ble_eq_true rfl) (.int _ _) ?_
 (repeat (first | refine zc ?_ | (refine za ?_;refine zb (by simp (disch:=omega) only [go_sem] <;> rfl) ?_;refine zd ?_)))
 refine zD (by simp only [go_sem] <;> rfl) ?_ ?_
 ·intro hj
  obtain rfl:j=0:=by have:=of_decide_eq_true hj;omega
  (repeat (first | refine zc ?_ | (refine za ?_;refine zb (by simp (disch:=omega) only [go_sem] <;> rfl) ?_;refine zd ?_)))
  refine zE ?_;(try simp only [zf,zi,zh,zg,zj]);refine zy (by simp only [T135,zI,go_sem] <;> rfl) ?_;simp only [zK]
  exact Frz.int _ _
 ·intro hj
  have hj:¬ j=0:=by have:=of_decide_eq_false hj;omega
  refine zR ?_;show W _ _ _ _ _ _
  (repeat refine zc ?_);refine za ?_;refine zb (by simp (disch:=omega) only [go_sem] <;> rfl) ?_
  have e1:(j:Int) - 1=((j - 1:Nat):Int):=by omega
  rw [e1]
  refine zH (by first | rfl | (simp only [go_sem] <;> rfl)) (by simp only [go_sem] <;> rfl) (zig p w (j - 1) hw (by omega)) ?_ ?_;(repeat (first | exact trivial | refine And.intro ?_ ?_ | exact .int _ _ | exact .bool _ | exact .list _ _ _ | exact .elem _ | exact .nilsl | exact .nil _ _ | exact .str _ | refine Frz.aggL ?_ | refine Frz.fnL ?_ | refine Frz.tupL ?_ | refine .iface ?_ | exact zn rfl rfl (by assumption)))
  refine zb (by simp (disch:=omega) only [go_sem] <;> rfl) ?_
  refine zd ?_
  refine zE ?_;(try simp only [zf,zi,zh,zg,zj]);refine zy (by simp only [T135,zI,go_sem] <;> rfl) ?_;simp only [zK]
  have:zdq left w j=w[2 * (j - 1) + 1]'(by omega):=by
   unfold zdq;rw [if_neg hj,List.getD_eq_getElem?_getD,List.getElem?_eq_getElem (by omega)];rfl
  rw [this]
  exact Frz.int _ _
theorem zpS (p:Nat) (w:List Nat) (left:Nat) (hw:zaI w.length):FN ET 184 [zfr p w left] (.ret (.int .i64 (zbm w:Nat))):=by
 refine zU zuO (Nat.le_of_ble_eq_true rfl) (.int _ _) ?_
 (repeat (first | refine zc ?_ | (refine za ?_;refine zb (by simp (disch:=omega) only [go_sem] <;> rfl) ?_;refine zd ?_)))
 refine zG (zav (fun m s=>∃ i:Nat,m=w.length - i∧2 * i≤w.length∧zbm w=i + zbm (w.drop (2 * i))∧s.tm 1=.ptr 0 0 0 0 2∧s.tm 2=.int .i64 i∧s.df=[]∧s.H=[.row 209 2 0 0 [zfr p w left]]) (n:=w.length) ?_ ?_)
 ·exact ⟨0,by simp [upd,zB]⟩
 ·rintro m ⟨tm,df,H⟩ ⟨i,rfl,hi,hc,h1,h2,rfl,rfl⟩
  dsimp only at h1 h2
  refine zY ?_
  (repeat refine zc ?_);refine za ?_;refine zb (by simp (disch:=omega) only [go_sem,h1,h2] <;> rfl) ?_
  refine zH (by first | rfl | (simp only [go_sem] <;> rfl)) (by simp only [go_sem] <;> rfl) (zhj p w hw) ?_ ?_;(repeat (first | exact trivial | refine And.intro ?_ ?_ | exact .int _ _ | exact .bool _ | exact .list _ _ _ | exact .elem _ | exact .nilsl | exact .nil _ _ | exact .str _ | refine Frz.aggL ?_ | refine Frz.fnL ?_ | refine Frz.tupL ?_ | refine .iface ?_ | exact zn rfl rfl (by assumption)))
  have stop:∀ tm',zbm (w.drop (2 * i))=0→tm' 2=.int .i64 i→zi (fun m s=>∃ i:Nat,m=w.length - i∧2 * i≤w.length∧zbm w=i + zbm (w.drop (2 * i))∧s.tm 1=.ptr 0 0 0 0 2∧s.tm 2=.int .i64 i∧s.df=[]∧s.H=[.row 209 2 0 0 [zfr p w left]]) (w.length - i)
    (zh 0 (zf (fun s'=>W ET ET.caught none (.seq (.region [⟨some 17,.mov,[.tmp 2],none⟩,⟨some 2,.mov,[.tmp 17],none⟩]) .ret) s' (zew ET T184 fun e' H=>zar H 0 e' (.ret (.int .i64 (zbm w:Nat))))) (zew ET T184 fun e' H=>zar H 0 e' (.ret (.int .i64 (zbm w:Nat)))))) (.exit 0) ⟨tm',[],[.row 209 2 0 0 [zfr p w left]]⟩:=fun tm' h0 ht=>by
   simp only [zf,zi,zh,zg,zu,zj,if_true,reduceIte]
   (repeat (first | refine zc ?_ | (refine za ?_;refine zb (by simp (disch:=omega) only [go_sem,ht] <;> rfl) ?_;refine zd ?_)))
   refine zE ?_;(try simp only [zf,zi,zh,zg,zj]);refine zy (by simp only [T184,zI,go_sem] <;> rfl) ?_;simp only [zK]
   rw [hc,h0]
   exact Frz.int _ _
  by_cases hlt:i < w.length / 2
  ·have g1:(i:Int) < ((w.length / 2:Nat):Int):=by omega
   refine zb (by simp (disch:=omega) only [go_sem,g1,h1,h2] <;> rfl) ?_
   refine zH (by first | rfl | (simp only [go_sem] <;> rfl)) (by simp only [go_sem] <;> rfl) (zig p w i hw (by omega)) ?_ ?_;(repeat (first | exact trivial | refine And.intro ?_ ?_ | exact .int _ _ | exact .bool _ | exact .list _ _ _ | exact .elem _ | exact .nilsl | exact .nil _ _ | exact .str _ | refine Frz.aggL ?_ | refine Frz.fnL ?_ | refine Frz.tupL ?_ | refine .iface ?_ | exact zn rfl rfl (by assumption)))
   refine zb (by simp (disch:=omega) only [go_sem] <;> rfl) ?_
   refine zd ?_
   have hd:=zmf w i (by omega)
   refine zad (by simp only [go_sem] <;> rfl) ?_ ?_
   ·intro hz
    have hz:¬ w[2 * i + 1]'(by omega)=0:=by simpa using hz
    refine zG ?_
    (repeat refine zc ?_);refine za ?_;refine zb (by simp (disch:=omega) only [go_sem,h2] <;> rfl) ?_
    refine zC ?_;simp only [zf,zi,zh,zg,zu,zj,if_true,↓reduceIte]
    refine ⟨_,?_,i + 1,rfl,?_,?_,?_⟩
    ·omega
    ·omega
    ·rw [hc,hd,zbm,if_neg hz];omega
    ·simp [upd,h1]
   ·intro hz
    have hz:w[2 * i + 1]'(by omega)=0:=by simpa using hz
    refine stop _ ?_ (by simp [upd,h2])
    rw [hd,zbm,if_pos hz]
  ·have g1:¬ (i:Int) < ((w.length / 2:Nat):Int):=by omega
   refine zb (by simp (disch:=omega) only [go_sem,g1,h1,h2] <;> rfl) ?_
   refine zd ?_
   refine zad (by simp only [go_sem] <;> rfl) ?_ ?_
   ·intro h;cases h
   ·intro _
    refine stop _ ?_ (by simp [upd,h2])
    exact zoZ (by simp;omega)
theorem zsD (a b:Pr):FN ET 183 [pv a,pv b] (.ret (.bool (decide (a.1 < b.1)))):=by
 refine zU zur (Nat.le_of_ble_eq_true rfl) (.bool _) ?_
 (repeat (first | refine zc ?_ | (refine za ?_;refine zb (by simp (disch:=omega) only [go_sem] <;> rfl) ?_;refine zd ?_)))
 refine zE ?_;(try simp only [zf,zi,zh,zg,zj]);refine zy (by simp only [T183,zI,go_sem] <;> rfl) ?_;simp only [zK]
 have:decide ((a.1:Int) < (b.1:Int))=decide (a.1 < b.1):=by simp
 rw [this]
 exact Frz.bool _
theorem zrD {α:Type} (l:List α) (i:Nat) (h:i + 1 < l.length):l.drop i=l[i]::l[i + 1]::l.drop (i + 2):=by
 rw [List.drop_eq_getElem_cons (by omega),List.drop_eq_getElem_cons h]
theorem znV {l:List Pr} (h:l.length < 2):zag l=true:=by
 match l,h with
 | [],_=>rfl
 | [_],_=>rfl
theorem zqN (p:Nat) (l:List Pr) (hl:zaI l.length):FN ET 182 [psv p l,.fn 183 []] (.ret (.bool (zag l))):=by
 refine zU zuy (Nat.le_of_ble_eq_true rfl) (.bool _) ?_
 (repeat (first | refine zc ?_ | (refine za ?_;refine zb (by simp (disch:=omega) only [go_sem] <;> rfl) ?_;refine zd ?_)))
 refine zG (zav (fun m s=>∃ i:Nat,m=l.length + 1 - i∧i≤l.length∧zag l=zag (l.drop i)∧s.tm 0=psv p l∧s.tm 1=.fn 183 []∧s.tm 5=.int .i64 (i + 1:Nat)∧s.df=[]∧s.H=[]) (n:=l.length + 1) ?_ ?_)
 ·exact ⟨0,by simp [upd,zB]⟩
 ·rintro m ⟨tm,df,H⟩ ⟨i,rfl,hi,hc,h0,h1,h5,rfl,rfl⟩
  dsimp only at h0 h1 h5
  (try refine zY ?_);refine zc (za ?_);refine zb (by simp (disch:=omega) only [go_sem,h0,h1,h5] <;> rfl) ?_;refine zd ?_;refine zad (by simp only [go_sem] <;> rfl) ?_ ?_
  ·intro hlt
   have hlt:i + 1 < l.length:=by have:=of_decide_eq_true hlt;omega
   refine zc (zG ?_)
   refine zc ?_
   refine zaS ?_
   have e1:((i + 1:Nat):Int) - 1=(i:Int):=by omega
   refine zbn (by first | exact trivial | simp only [go_sem,h0,h1,h5,e1,List.getElem?_eq_getElem hlt,List.getElem?_eq_getElem (show i < l.length by omega)]) (by simp (disch:=omega) only [go_sem,h0,h1,h5,e1,List.getElem?_eq_getElem hlt,List.getElem?_eq_getElem (show i < l.length by omega)] <;> rfl) rfl rfl (by first | rfl | (simp only [go_sem] <;> rfl)) (by simp only [go_sem,h0,h1,h5,e1,List.getElem?_eq_getElem hlt,List.getElem?_eq_getElem (show i < l.length by omega)] <;> rfl) (zsD l[i] l[i + 1]) ?_ (by simp only [go_sem] <;> rfl) ?_;(repeat (first | exact trivial | refine And.intro ?_ ?_ | exact .int _ _ | exact .bool _ | exact .list _ _ _ | exact .elem _ | exact .nilsl | exact .nil _ _ | exact .str _ | refine Frz.aggL ?_ | refine Frz.fnL ?_ | refine Frz.tupL ?_ | refine .iface ?_ | exact zn rfl rfl (by assumption)))
   refine zX (by first | exact trivial | simp only [go_sem,h0]) (by simp (disch:=omega) only [go_sem,h0] <;> rfl) rfl ?_
   refine zaf ?_;simp only [zu,zab,zf,go_sem]
   have hd:=zrD l i hlt
   refine zD (by simp only [go_sem] <;> rfl) ?_ ?_
   ·intro hb
    have hb:¬ (l[i].1 < l[i + 1].1):=by simpa using hb
    (repeat (first | refine zc ?_ | (refine za ?_;refine zb (by simp (disch:=omega) only [go_sem] <;> rfl) ?_;refine zd ?_)))
    refine zE ?_;(try simp only [zf,zi,zh,zg,zj]);refine zy (by simp only [T182,zI,go_sem] <;> rfl) ?_;simp only [zK]
    rw [hc,hd,zag]
    simp only [hb,decide_false,Bool.false_and]
    exact Frz.bool _
   ·intro hb
    have hb:l[i].1 < l[i + 1].1:=by simpa using hb
    refine zR ?_
    simp only [zf,zi,zh,zg,zu,zj,if_true,reduceIte]
    (repeat refine zc ?_);refine za ?_;refine zb (by simp (disch:=omega) only [go_sem,h5] <;> rfl) ?_
    refine zC ?_;simp only [zf,zi,zh,zg,zu,zj,if_true,↓reduceIte]
    refine ⟨_,?_,i + 1,rfl,by omega,?_,?_⟩
    ·omega
    ·rw [hc,hd,zag,List.drop_eq_getElem_cons hlt]
     simp [hb]
    ·simp [upd,h0,h1]
  ·intro hlt
   have hlt:¬ i + 1 < l.length:=by have:=of_decide_eq_false hlt;omega
   simp only [zf,zi,zh,zg,zu,zj,if_true,reduceIte]
   (repeat (first | refine zc ?_ | (refine za ?_;refine zb (by simp (disch:=omega) only [go_sem] <;> rfl) ?_;refine zd ?_)))
   refine zE ?_;(try simp only [zf,zi,zh,zg,zj]);refine zy (by simp only [T182,zI,go_sem] <;> rfl) ?_;simp only [zK]
   rw [hc,znV (by simp;omega)]
   exact Frz.bool _
def zbN:Nat→Nat→List Nat→List (Nat × Pr)
 | i,prev,k::p::l=>if p=0 then [] else if p=prev then zbN (i + 1) p l else (i,(k,p))::zbN (i + 1) p l
 | _,_,_=>[]
def zck (left:Nat) (l:List Nat):List (Nat × Pr):=if zbI left l.length=true then zbN 0 left l else []
theorem zcM:∀ (l:List Nat) (i prev:Nat),(zbN i prev l).map (·.2)=zb5 prev l
 | [],_,_=>by simp [zbN,zb5]
 | [_],_,_=>by simp [zbN,zb5]
 | k::p::l,i,prev=>by
  rw [zbN,zb5]
  split
  ·rfl
  ·split
   ·exact zcM l (i + 1) p
   ·simp [zcM l (i + 1) p]
theorem zeZ (left:Nat) (l:List Nat):(zck left l).map (·.2)=zbs left l:=by
 unfold zck zbs
 split
 ·exact zcM l 0 left
 ·rfl
theorem zt7:ET.funcs.get 223=some T223:=zJ (by kernel_rfl) (by decide)
theorem zu2:ET.funcs.get 215=some T215:=zJ (by kernel_rfl) (by decide)
theorem ztX:ET.funcs.get 164=some T164:=zJ (by kernel_rfl) (by decide)
theorem zrs (id p:Nat) (w:List Nat) (left:Nat) (hw:zaI w.length) (P:Nat→List zk) (hlen:∀ k,(P k).length=(P 0).length) (hnr:∀ (k i:Nat) (o:zk),(P k)[i]?=some o→NRO (P 0).length o)
  (hy:∀ (k j:Nat) (x:Pr) (G:List zk),(zck left w)[k]?=some (j,x)→FY ET id [.int .i64 j,pv x] (P k++G) fun r H'=>r=true∧H'=P (k + 1)++G) :
  FO ET 223 [.yield id,.elem [wv p w],.elem [uv left]] (P 0) false fun e H'=>e=.ret (.tuple [])∧H'=P (zck left w).length:=by
 refine FO.gc (zcS zt7 (Nat.le_of_ble_eq_true rfl) ?_)
 have hb:∀ k (x:zk),(P k++[x])[(P 0).length]?=some x:=fun k x=>by rw [← hlen k];exact ze _ _
 have hs:∀ k (x y:zk),(P k++[x]).set (P 0).length y=P k++[y]:=fun k x y=>by rw [← hlen k];exact zF _ _ _
 have fin:∀ (tm:Nat→PV) (k:Nat),k=(zck left w).length→zew ET T223 (fun e H'=>∃ H'' G,zg2 (P 0) H' H'' G∧NRE (P 0).length e∧e=.ret (.tuple [])∧H''=P (zck left w).length) .ret ⟨tm,[],P k++[.row 209 2 0 0 [zfr p w left]]⟩:=fun tm k hk=>by
  subst hk
  refine zy (vs:=[]) rfl ⟨P (zck left w).length,_,⟨rfl,hlen _,fun i o ho=>.inr (hnr _ i o ho)⟩,.tuple (fun x h=>by cases h),rfl,rfl⟩
 refine zon ?_
 (repeat refine zc ?_);refine za ?_;refine zb (by simp (disch:=omega) only [go_sem,hb 0,hs 0] <;> rfl) ?_
 refine zd ?_
 (repeat refine zc ?_);refine za ?_;refine zb (by simp (disch:=omega) only [go_sem,hb 0] <;> rfl) ?_
 refine zH (by first | rfl | (simp only [go_sem] <;> rfl)) (by simp only [go_sem] <;> rfl) (zm4 p w left hw) ?_ ?_;(repeat (first | exact trivial | refine And.intro ?_ ?_ | exact .int _ _ | exact .bool _ | exact .list _ _ _ | exact .elem _ | exact .nilsl | exact .nil _ _ | exact .str _ | refine Frz.aggL ?_ | refine Frz.fnL ?_ | refine Frz.tupL ?_ | refine .iface ?_ | exact zn rfl rfl (by assumption)))
 refine zb (by simp (disch:=omega) only [go_sem] <;> rfl) ?_
 refine zd ?_
 by_cases hr:zbI left w.length=true
 ·have hev:w.length % 2=0:=by simp [zbI] at hr;omega
  have hit:zck left w=zbN 0 left w:=by unfold zck;rw [if_pos hr]
  refine zD (by simp only [go_sem] <;> rfl) ?_ ?_
  ·rw [hr];intro h;cases h
  ·intro _
   refine zR ?_;show W _ _ _ _ _ _
   refine zc (zR ?_)
   simp only [zf,zi,zh,zg,zu,zj,if_true,reduceIte]
   (repeat refine zc ?_);refine za ?_;refine zb (by simp (disch:=omega) only [go_sem,hb 0] <;> rfl) ?_
   refine zH (by first | rfl | (simp only [go_sem] <;> rfl)) (by simp only [go_sem] <;> rfl) (zpS p w left hw) ?_ ?_;(repeat (first | exact trivial | refine And.intro ?_ ?_ | exact .int _ _ | exact .bool _ | exact .list _ _ _ | exact .elem _ | exact .nilsl | exact .nil _ _ | exact .str _ | refine Frz.aggL ?_ | refine Frz.fnL ?_ | refine Frz.tupL ?_ | refine .iface ?_ | exact zn rfl rfl (by assumption)))
   refine zb (by simp (disch:=omega) only [go_sem] <;> rfl) ?_
   refine zd ?_
   refine zG (zav (fun m s=>∃ j k:Nat,m=w.length - j∧j≤zbm w∧zbm w=j + zbm (w.drop (2 * j))∧k≤(zck left w).length∧(zck left w).drop k=zbN j (zdq left w j) (w.drop (2 * j))∧s.tm 0=.yield id∧s.tm 4=.ptr (P 0).length 0 0 0 2∧s.tm 13=.int .i64 (zbm w:Nat)∧s.tm 14=.int .i64 j∧s.df=[]∧s.H=P k++[.row 209 2 0 0 [zfr p w left]]) (n:=w.length) ?_ ?_)
   ·exact ⟨0,0,by simp,by omega,by simp,by omega,by simp [hit,zdq],by simp [upd,zB],by simp [upd,zB],by simp [upd,zB],by simp [upd,zB],rfl,rfl⟩
   ·rintro m ⟨tm,df,H⟩ ⟨j,k,rfl,hj,hraw,hk,hdk,h0,h4,h13,h14,rfl,rfl⟩
    dsimp only at h0 h4 h13 h14
    have hrl:=ziP w
    (try refine zY ?_);refine zc (za ?_);refine zb (by simp (disch:=omega) only [go_sem,h0,h4,h13,h14] <;> rfl) ?_;refine zd ?_;refine zad (by simp only [go_sem] <;> rfl) ?_ ?_
    ·intro hlt
     have hlt:j < zbm w:=by have:=of_decide_eq_true hlt;omega
     have hd:=zmf w j (by omega)
     have hpz:¬ w[2 * j + 1]'(by omega)=0:=by
      intro e
      rw [hd,zbm,if_pos e] at hraw
      omega
     rw [hd,zbN,if_neg hpz] at hdk
     rw [hd,zbm,if_neg hpz] at hraw
     have hah:zdq left w (j + 1)=w[2 * j + 1]'(by omega):=by
      unfold zdq;rw [if_neg (by omega),List.getD_eq_getElem?_getD]
      simp only [Nat.add_sub_cancel]
      rw [List.getElem?_eq_getElem (by omega)];rfl
     refine zc (zG ?_)
     (repeat refine zc ?_);refine za ?_;refine zb (by simp (disch:=omega) only [go_sem,h14] <;> rfl) ?_
     refine zd ?_
     refine zc ?_
     refine zaS ?_
     refine zbn (by first | exact trivial | simp only [go_sem,h0,h4,h14,hb k]) (by simp (disch:=omega) only [go_sem,h0,h4,h14,hb k] <;> rfl) rfl rfl (by first | rfl | (simp only [go_sem] <;> rfl)) (by simp only [go_sem,h0,h4,h14,hb k] <;> rfl) (zig p w j hw (by omega)) ?_ (by simp only [go_sem] <;> rfl) ?_;(repeat (first | exact trivial | refine And.intro ?_ ?_ | exact .int _ _ | exact .bool _ | exact .list _ _ _ | exact .elem _ | exact .nilsl | exact .nil _ _ | exact .str _ | refine Frz.aggL ?_ | refine Frz.fnL ?_ | refine Frz.tupL ?_ | refine .iface ?_ | exact zn rfl rfl (by assumption)))
     refine zbn (by first | exact trivial | simp only [go_sem,h0,h4,h14,hb k]) (by simp (disch:=omega) only [go_sem,h0,h4,h14,hb k] <;> rfl) rfl rfl (by first | rfl | (simp only [go_sem] <;> rfl)) (by simp only [go_sem,h0,h4,h14,hb k] <;> rfl) (zrS p w left j hw (by omega)) ?_ (by simp only [go_sem] <;> rfl) ?_;(repeat (first | exact trivial | refine And.intro ?_ ?_ | exact .int _ _ | exact .bool _ | exact .list _ _ _ | exact .elem _ | exact .nilsl | exact .nil _ _ | exact .str _ | refine Frz.aggL ?_ | refine Frz.fnL ?_ | refine Frz.tupL ?_ | refine .iface ?_ | exact zn rfl rfl (by assumption)))
     by_cases heq:w[2 * j + 1]'(by omega)=zdq left w j
     ·have g1:((w[2 * j + 1]'(by omega):Nat):Int)=((zdq left w j:Nat):Int):=by rw [heq]
      rw [if_pos heq] at hdk
      refine zf9 (by first | exact trivial | simp only [go_sem,g1,h0,h4,h14,hb k]) (by simp (disch:=omega) only [go_sem,g1,h0,h4,h14,hb k] <;> rfl) rfl (by simp only [go_sem,g1,h0,h4,h14,hb k] <;> rfl) (by simp only [go_sem] <;> rfl) ?_
      refine zf9 (by first | exact trivial | simp only [go_sem,g1,h0,h4,h14,hb k]) (by simp (disch:=omega) only [go_sem,g1,h0,h4,h14,hb k] <;> rfl) rfl (by simp only [go_sem,g1,h0,h4,h14,hb k] <;> rfl) (by simp only [go_sem] <;> rfl) ?_
      refine zf9 (by first | exact trivial | simp only [go_sem,g1,h0,h4,h14,hb k]) (by simp (disch:=omega) only [go_sem,g1,h0,h4,h14,hb k] <;> rfl) rfl (by simp only [go_sem,g1,h0,h4,h14,hb k] <;> rfl) (by simp only [go_sem] <;> rfl) ?_
      refine zX (by first | exact trivial | simp only [go_sem,g1,h0,h4,h14,hb k]) (by simp (disch:=omega) only [go_sem,g1,h0,h4,h14,hb k] <;> rfl) rfl ?_
      refine zaf ?_;simp only [zu,zab,zf,go_sem]
      refine zD (by simp only [go_sem] <;> rfl) ?_ ?_
      ·intro h;cases h
      ·intro _
       refine zR ?_
       simp only [zf,zi,zh,zg,zu,zj,if_true,reduceIte]
       (repeat refine zc ?_);refine za ?_;refine zb (by simp (disch:=omega) only [go_sem,h14] <;> rfl) ?_
       refine zC ?_;simp only [zf,zi,zh,zg,zu,zj,if_true,↓reduceIte]
       refine ⟨_,?_,j + 1,k,rfl,by omega,by omega,hk,?_,?_⟩
       ·omega
       ·rw [hdk,hah]
       ·simp [upd,h0,h4,h13]
     ·have g1:¬ ((w[2 * j + 1]'(by omega):Nat):Int)=((zdq left w j:Nat):Int):=by omega
      rw [if_neg heq] at hdk
      have hk1:(zck left w)[k]?=some (j,(w[2 * j]'(by omega),w[2 * j + 1]'(by omega))):=by
       have:=congrArg List.head? hdk
       rw [List.head?_drop] at this
       simpa using this
      have hk2:k < (zck left w).length:=(List.getElem?_eq_some_iff.1 hk1).1
      have hdk2:(zck left w).drop (k + 1)=zbN (j + 1) (w[2 * j + 1]'(by omega)) (w.drop (2 * (j + 1))):=by
       rw [← List.drop_drop,hdk];rfl
      refine zbn (by first | exact trivial | simp only [go_sem,g1,h0,h4,h14,hb k]) (by simp (disch:=omega) only [go_sem,g1,h0,h4,h14,hb k] <;> rfl) rfl rfl (by first | rfl | (simp only [go_sem] <;> rfl)) (by simp only [go_sem,g1,h0,h4,h14,hb k] <;> rfl) (zti p w j hw (by omega)) ?_ (by simp only [go_sem] <;> rfl) ?_;(repeat (first | exact trivial | refine And.intro ?_ ?_ | exact .int _ _ | exact .bool _ | exact .list _ _ _ | exact .elem _ | exact .nilsl | exact .nil _ _ | exact .str _ | refine Frz.aggL ?_ | refine Frz.fnL ?_ | refine Frz.tupL ?_ | refine .iface ?_ | exact zn rfl rfl (by assumption)))
      refine zbn (by first | exact trivial | simp only [go_sem,g1,h0,h4,h14,hb k]) (by simp (disch:=omega) only [go_sem,g1,h0,h4,h14,hb k] <;> rfl) rfl rfl (by first | rfl | (simp only [go_sem] <;> rfl)) (by simp only [go_sem,g1,h0,h4,h14,hb k] <;> rfl) (zig p w j hw (by omega)) ?_ (by simp only [go_sem] <;> rfl) ?_;(repeat (first | exact trivial | refine And.intro ?_ ?_ | exact .int _ _ | exact .bool _ | exact .list _ _ _ | exact .elem _ | exact .nilsl | exact .nil _ _ | exact .str _ | refine Frz.aggL ?_ | refine Frz.fnL ?_ | refine Frz.tupL ?_ | refine .iface ?_ | exact zn rfl rfl (by assumption)))
      refine zr0 (s1:=?_) (id:=?_) (vs:=?_) ?_ ?_ rfl rfl ?_ ?_ ?_;rotate_left 3;(first | exact trivial | (simp only [go_sem,g1,h0,h4,h14,hb k]));(simp (disch:=omega) only [go_sem,wrap_i64,zQ,zaM,g1,h0,h4,h14,hb k] <;> rfl);(first | rfl | (simp only [go_sem,g1,h0,h4,h14,hb k] <;> rfl));(simp only [go_sem,g1,h0,h4,h14,hb k] <;> rfl)
      refine FY.mono (hy k j _ _ hk1) fun r H' hh=>?_
      obtain ⟨rfl,rfl⟩:=hh
      refine ⟨_,by simp only [go_sem] <;> rfl,?_⟩
      refine zX (by first | exact trivial | simp only [go_sem,g1]) (by simp (disch:=omega) only [go_sem,g1] <;> rfl) rfl ?_
      refine zaf ?_;simp only [zu,zab,zf,go_sem]
      refine zD (by simp only [go_sem] <;> rfl) ?_ ?_
      ·intro h;cases h
      ·intro _
       refine zR ?_
       simp only [zf,zi,zh,zg,zu,zj,if_true,reduceIte]
       (repeat refine zc ?_);refine za ?_;refine zb (by simp (disch:=omega) only [go_sem,h14] <;> rfl) ?_
       refine zC ?_;simp only [zf,zi,zh,zg,zu,zj,if_true,↓reduceIte]
       refine ⟨_,?_,j + 1,k + 1,rfl,by omega,by omega,hk2,?_,?_⟩
       ·omega
       ·rw [hdk2,hah]
       ·simp [upd,h0,h4,h13]
    ·intro hlt
     have hlt:¬ j < zbm w:=by have:=of_decide_eq_false hlt;omega
     obtain rfl:j=zbm w:=by omega
     simp only [zf,zi,zh,zg,zu,zj,if_true,reduceIte]
     have hz:zbN (zbm w) (zdq left w (zbm w)) (w.drop (2 * zbm w))=[]:=by
      have hr0:zbm (w.drop (2 * zbm w))=0:=by omega
      revert hr0
      generalize w.drop (2 * zbm w)=l
      match l with
      | []=>intro _;simp [zbN]
      | [_]=>intro _;simp [zbN]
      | a::b::l =>
       intro hr0
       rw [zbm] at hr0
       split at hr0
       ·rename_i hb;rw [zbN,if_pos hb]
       ·omega
     rw [hz] at hdk
     have hk3:k=(zck left w).length:=by
      have:=congrArg List.length hdk
      simp at this;omega
     exact fin _ _ hk3
 ·have hr:zbI left w.length=false:=by simpa using hr
  refine zD (by simp only [go_sem] <;> rfl) ?_ ?_
  ·intro _
   refine zE ?_
   simp only [zf,zi,zh,zg,zu,zj,if_true,reduceIte]
   exact fin _ 0 (by simp [zck,hr])
  ·rw [hr];intro h;cases h
theorem zs8 (p:Nat) (w:List Nat) (left:Nat):FP ET 215 [uv left,wv p w] (.ret (.fn 223 [.elem [wv p w],.elem [uv left]])):=by
 refine zdU zu2 (Nat.le_of_ble_eq_true rfl) ?_
 (repeat (first | refine zc ?_ | (refine za ?_;refine zb (by simp (disch:=omega) only [go_sem] <;> rfl) ?_;refine zd ?_)))
 refine zE ?_;(try simp only [zf,zi,zh,zg,zj]);refine zy (by simp only [T215,zI,go_sem] <;> rfl) ?_;simp only [zK]
 refine Frz.fnL ⟨.ptr (w:=wv p w) rfl (Nat.le_refl _) rfl fun j x y hx hy=>?_,.ptr (w:=uv left) rfl (Nat.le_refl _) rfl fun j x y hx hy=>?_,trivial⟩
 ·cases j with
  | zero=>simp [PV.cells] at hx hy;subst hx;subst hy;exact Frz.list _ _ _
  | succ j=>simp at hy
 ·cases j with
  | zero=>simp [PV.cells] at hx hy;subst hx;subst hy;exact Frz.int _ _
  | succ j=>simp at hy
def zpB:zah:=.region [⟨some 6,.alloc 66 [.int .u64 (.ofNat 0),.int .u64 (.ofNat 0)],[],none⟩,⟨none,.store 2,[.tmp 6,.tmp 11],none⟩]
def zpz:zah:=.block 1 (.region [⟨some 12,.load false 1,[.tmp 4],none⟩,⟨some 13,.load true 2,[.tmp 6],none⟩,⟨some 14,.bslice 66 2 1 [.int .u64 (.ofNat 0),.int .u64 (.ofNat 0)] [(0,2)],[.tmp 13],none⟩,⟨some 15,.append 66 2 16,[.tmp 12,.tmp 14],none⟩,⟨none,.store 1,[.tmp 4,.tmp 15],none⟩])
def zd9 (tm:Nat→PV) (L:List Pr) (k:Nat):List zk:=[.row 41 1 0 0 [.sl 1 k 0 k (2 * k) 2],.row 66 2 k 0 ((L.take k).map pv),.dfr false,.loop .ready .norm tm [10,11] zpB zpz 2]
theorem zeN {l:List Pr}:∀ v∈(l.map pv).flatMap PV.cells,Id0 v:=fun v hv=>by
 obtain ⟨x,hx,hv⟩:=List.mem_flatMap.1 hv
 obtain ⟨n,_,rfl⟩:=List.mem_map.1 hx
 simp [PV.cells] at hv;rcases hv with rfl | rfl <;> exact .int _ _
theorem zmX {tm:Nat→PV} {L:List Pr} (hnr:∀ i,tm i=.bad∨NR 4 (tm i)) (k i:Nat) (o:zk) (ho:(zd9 tm L k)[i]?=some o):NRO 4 o:=by
 match i with
 | 0=>injection ho with ho;subst ho;intro x hx;simp [PV.cells] at hx;subst hx;exact .sl _ _ _ _ _ (by omega)
 | 1=>injection ho with ho;subst ho;exact zkR zeN
 | 2=>injection ho with ho;subst ho;trivial
 | 3=>injection ho with ho;subst ho;exact ⟨by omega,hnr,trivial⟩
 | i + 4=>simp [zd9] at ho
theorem zo8 {tm:Nat→PV} {L:List Pr} (hnr:∀ i,tm i=.bad∨NR 4 (tm i)) (k:Nat) (G G':List zk):zg2 (zd9 tm L k++G) (zd9 tm L (k + 1)++G++G') (zd9 tm L (k + 1)++G) G' :=
 zg2.front rfl fun id o ho=>zmX hnr (k + 1) id o ho
theorem zej (left:Nat) (w:List Nat):(zbs left w).length≤28:=by
 unfold zbs
 split
 ·rename_i h
  have h1:∀ (prev:Nat) (l:List Nat),2 * (zb5 prev l).length≤l.length:=by
   intro prev l
   induction prev,l using zb5.induct <;> rw [zb5] <;> simp_all <;> omega
  have h2:=h1 left w
  simp [zbI] at h
  omega
 ·simp
theorem zpU (tm:Nat→PV) (h4:tm 4=.ptr 0 0 0 0 1) (hnr:∀ i,tm i=.bad∨NR 4 (tm i)) (L:List Pr) (k j:Nat) (x:Pr) (hx:L[k]?=some x) (hL:L.length < 1000000) (G:List zk) :
  FY ET 3 [.int .i64 j,pv x] (zd9 tm L k++G) fun r H'=>r=true∧H'=zd9 tm L (k + 1)++G:=by
 have hk:k < L.length:=(List.getElem?_eq_some_iff.1 hx).1
 have hxk:L[k]=x:=(List.getElem?_eq_some_iff.1 hx).2
 have hlt:(L.take k).length=k:=by simp;omega
 refine FY.gc (zjy (tm:=tm) (ps:=[10,11]) (aS:=zpB) (bo:=zpz) rfl rfl ?_)
 refine za ?_
 refine zb (by simp (disch:=omega) only [go_sem,h4,zd9] <;> rfl) ?_
 refine zC ?_
 refine ⟨rfl,_,_,_,_,_,_,rfl,?_⟩
 refine zG (za ?_)
 have hb:(k + 1) * 17≤140737488355328:=by omega
 refine zb (by simp (disch:=omega) only [go_sem,h4,hlt,hb] <;> rfl) ?_
 refine zC ?_;simp only [zf,zi,zh,zg,zu,zj,if_true,↓reduceIte]
 have htk:(L.take k).map pv++[PV.agg [uv x.1,uv x.2]]=(L.take (k + 1)).map pv:=by
  rw [List.take_add_one,hx];simp
 rw [htk,List.append_assoc]
 exact ⟨rfl,.busy,.norm,tm,[10,11],zpB,zpz,2,rfl,zd9 tm L (k + 1)++G,[zk.row 66 2 0 0 [pv x]]++[zk.row 66 2 0 0 [PV.agg [uv x.1,uv x.2]]],zo8 hnr k G _,rfl,rfl⟩
theorem zor (p:Nat) (w:List Nat) (left:Nat) (hw:zaI w.length):FN ET 164 [uv left,wv p w] (.ret (psv 0 (zbs left w))):=by
 refine zU ztX (Nat.le_of_ble_eq_true rfl) (Lb.pvs _) ?_
 (repeat (first | refine zc ?_ | (refine za ?_;refine zb (by simp (disch:=omega) only [go_sem] <;> rfl) ?_;refine zd ?_)))
 (repeat refine zc ?_);refine za ?_;refine zb (by simp (disch:=omega) only [go_sem] <;> rfl) ?_
 refine zch (by first | rfl | (simp only [go_sem] <;> rfl)) (by simp only [go_sem] <;> rfl) (zs8 p w left) rfl ?_ ?_;(repeat (first | exact trivial | refine And.intro ?_ ?_ | exact Id0.int _ _ | exact Id0.bool _ | exact Id0.list _ _ _ | exact Id0.elem _ | exact Id0.nilsl | exact Id0.str _ | exact zc1 _ _ _))
 refine zb (by simp (disch:=omega) only [go_sem] <;> rfl) ?_
 refine zd ?_
 refine zG ?_
 refine zfc 66 2 (id:=0) rfl ?_
 simp only [lzy,List.length_cons,List.length_nil,List.set_cons_zero,List.cons_append,List.nil_append]
 refine zjK (g:=223) (cap:=[.elem [wv p w],.elem [uv left]]) (b:=false) (by simp only [go_sem]) ?_
 have hL:(zck left w).length=(zbs left w).length:=by rw [← zeZ];simp
 have h28:=zej left w
 have hnr:∀ i,(upd (upd (upd (upd (zB [uv left,wv p w]) 4 (PV.ptr 0 0 0 0 1)) 7 (uv left)) 8 (wv p w)) 9 (PV.fn 223 [PV.elem [wv p w],PV.elem [uv left]])) i=.bad∨NR 4 ((upd (upd (upd (upd (zB [uv left,wv p w]) 4 (PV.ptr 0 0 0 0 1)) 7 (uv left)) 8 (wv p w)) 9 (PV.fn 223 [PV.elem [wv p w],PV.elem [uv left]])) i) :=
  zd3 (zd3 (zd3 (zd3 (zk7 fun v hv=>by simp at hv;rcases hv with rfl | rfl <;> constructor) (.ptr _ _ _ _ (by omega))) (.int _ _)) (.list _ _ _)) (.fn fun x hx=>by simp at hx;rcases hx with rfl | rfl <;> constructor)
 have hP:=zrs 3 p w left hw (zd9 _ (zbs left w)) (fun _=>rfl) (fun k i o ho=>zmX hnr k i o ho) fun k j x G hk =>
  zpU _ rfl hnr (zbs left w) k j x (by rw [← zeZ];simp [hk]) (by omega) G
 refine FO.mono (fun e H' he=>?_) hP
 obtain ⟨rfl,rfl⟩:=he
 refine ⟨⟨_,rfl⟩,.ready,.norm,_,_,_,_,_,by simp,rfl,?_⟩
 simp only [zf,zi,zh,zg,zu,zj,if_true,reduceIte]
 rw [hL]
 refine zc (za ?_)
 refine zb (by simp (disch:=omega) only [go_sem,zd9] <;> rfl) ?_
 refine zd ?_
 refine zE ?_
 refine zjO (vs:=[.sl 1 (zbs left w).length 0 (zbs left w).length (2 * (zbs left w).length) 2]) rfl rfl ?_
 refine Frz.whole (e:=66) (z':=2) (G:=(zbs left w).length) (l:=(zbs left w).map pv) ?_ rfl (by simp) (by simp) (fun v hv=>?_) zeN
 ·simp [zd9]
 ·obtain ⟨x,_,rfl⟩:=List.mem_map.1 hv;rfl
theorem zuv:ET.funcs.get 130=some T130:=zJ (by kernel_rfl) (by decide)
def zc0 (left:Nat) (w:List Nat):FE:=if zbI left w.length=true then if zda left w=true then .ret (psv 0 (zbs left w)) else .panic (zcn 190) else .panic (zcn 2)
theorem zcB {H:List zk} {e:FE} {n:Int} (h:e=.panic (zcn n)):zar H 0 (.panic (zcn n)) e:=by subst h;exact Frz.iface (.int _ _)
theorem zl3 (seen:List Nat) (L:List Pr) (i:Nat) (h:i < L.length):zb6 seen (L.drop i)=(!seen.contains L[i].2 && zb6 (L[i].2::seen) (L.drop (i + 1))):=by
 rw [List.drop_eq_getElem_cons h];rfl
theorem zpi (w:List Nat) (i:Nat) (h:2 * i + 1 < w.length):zd0 (w.drop (2 * i))=(decide (w[2 * i + 1]=0) && zd0 (w.drop (2 * (i + 1)))):=by
 rw [zmf w i h];rfl
theorem zqt (w:List Nat) (i:Nat) (h:w.length≤2 * i + 1):zd0 (w.drop (2 * i))=true:=by
 match h2:w.drop (2 * i) with
 | []=>rfl
 | [_]=>rfl
 | a::b::l=>have:=congrArg List.length h2;simp at this;omega
theorem zoU (p:Nat) (w:List Nat) (left:Nat) (hw:zaI w.length):FN ET 130 [zfr p w left] (zc0 left w):=by
 refine zU zuv (Nat.le_of_ble_eq_true rfl) ?_ ?_
 ·unfold zc0;split
  ·split
   ·exact Lb.pvs _
   ·exact .iface (.int _ _)
  ·exact .iface (.int _ _)
 (repeat (first | refine zc ?_ | (refine za ?_;refine zb (by simp (disch:=omega) only [go_sem] <;> rfl) ?_;refine zd ?_)))
 (repeat refine zc ?_);refine za ?_;refine zb (by simp (disch:=omega) only [go_sem] <;> rfl) ?_
 refine zH (by first | rfl | (simp only [go_sem] <;> rfl)) (by simp only [go_sem] <;> rfl) (zm4 p w left hw) ?_ ?_;(repeat (first | exact trivial | refine And.intro ?_ ?_ | exact .int _ _ | exact .bool _ | exact .list _ _ _ | exact .elem _ | exact .nilsl | exact .nil _ _ | exact .str _ | refine Frz.aggL ?_ | refine Frz.fnL ?_ | refine Frz.tupL ?_ | refine .iface ?_ | exact zn rfl rfl (by assumption)))
 by_cases hr:zbI left w.length=true
 rotate_left
 ·have hr:zbI left w.length=false:=by simpa using hr
  rw [hr]
  refine zb (by simp (disch:=omega) only [go_sem] <;> rfl) ?_
  refine zaD (by first | rfl | (simp only [go_sem] <;> rfl)) (by simp only [go_sem] <;> rfl) (zgc 2) ?_ ?_;(repeat (first | exact trivial | refine And.intro ?_ ?_ | exact .int _ _ | exact .bool _ | exact .list _ _ _ | exact .elem _ | exact .nilsl | exact .nil _ _ | exact .str _ | refine Frz.aggL ?_ | refine Frz.fnL ?_ | refine Frz.tupL ?_ | refine .iface ?_ | exact zn rfl rfl (by assumption)))
  exact zcB (by simp [zc0,hr])
 rw [hr]
 refine zb (by simp (disch:=omega) only [go_sem] <;> rfl) ?_
 refine zH (by first | rfl | (simp only [go_sem] <;> rfl)) (by simp only [go_sem] <;> rfl) (zhd 2) ?_ ?_;(repeat (first | exact trivial | refine And.intro ?_ ?_ | exact .int _ _ | exact .bool _ | exact .list _ _ _ | exact .elem _ | exact .nilsl | exact .nil _ _ | exact .str _ | refine Frz.aggL ?_ | refine Frz.fnL ?_ | refine Frz.tupL ?_ | refine .iface ?_ | exact zn rfl rfl (by assumption)))
 refine zb (by simp (disch:=omega) only [go_sem] <;> rfl) ?_
 refine zd ?_
 (repeat refine zc ?_);refine za ?_;refine zb (by simp (disch:=omega) only [go_sem] <;> rfl) ?_
 refine zH (by first | rfl | (simp only [go_sem] <;> rfl)) (by simp only [go_sem] <;> rfl) (zor p w left hw) ?_ ?_;(repeat (first | exact trivial | refine And.intro ?_ ?_ | exact .int _ _ | exact .bool _ | exact .list _ _ _ | exact .elem _ | exact .nilsl | exact .nil _ _ | exact .str _ | refine Frz.aggL ?_ | refine Frz.fnL ?_ | refine Frz.tupL ?_ | refine .iface ?_ | exact zn rfl rfl (by assumption)))
 refine zb (by simp (disch:=omega) only [go_sem] <;> rfl) ?_
 refine zd ?_
 have h28:=zej left w
 (repeat refine zc ?_);refine za ?_;refine zb (by simp (disch:=omega) only [go_sem] <;> rfl) ?_
 refine zH (by first | rfl | (simp only [go_sem] <;> rfl)) (by simp only [go_sem] <;> rfl) (zqN 0 (zbs left w) (by omega)) ?_ ?_;(repeat (first | exact trivial | refine And.intro ?_ ?_ | exact .int _ _ | exact .bool _ | exact .list _ _ _ | exact .elem _ | exact .nilsl | exact .nil _ _ | exact .str _ | refine Frz.aggL ?_ | refine Frz.fnL ?_ | refine Frz.tupL ?_ | refine .iface ?_ | exact zn rfl rfl (by assumption)))
 by_cases hs1:zag (zbs left w)=true
 rotate_left
 ·have hs1:zag (zbs left w)=false:=by simpa using hs1
  rw [hs1]
  refine zb (by simp (disch:=omega) only [go_sem] <;> rfl) ?_
  refine zaD (by first | rfl | (simp only [go_sem] <;> rfl)) (by simp only [go_sem] <;> rfl) (zgc 190) ?_ ?_;(repeat (first | exact trivial | refine And.intro ?_ ?_ | exact .int _ _ | exact .bool _ | exact .list _ _ _ | exact .elem _ | exact .nilsl | exact .nil _ _ | exact .str _ | refine Frz.aggL ?_ | refine Frz.fnL ?_ | refine Frz.tupL ?_ | refine .iface ?_ | exact zn rfl rfl (by assumption)))
  exact zcB (by simp [zc0,hr,zda,hs1])
 rw [hs1]
 refine zb (by simp (disch:=omega) only [go_sem] <;> rfl) ?_
 refine zH (by first | rfl | (simp only [go_sem] <;> rfl)) (by simp only [go_sem] <;> rfl) (zhd 190) ?_ ?_;(repeat (first | exact trivial | refine And.intro ?_ ?_ | exact .int _ _ | exact .bool _ | exact .list _ _ _ | exact .elem _ | exact .nilsl | exact .nil _ _ | exact .str _ | refine Frz.aggL ?_ | refine Frz.fnL ?_ | refine Frz.tupL ?_ | refine .iface ?_ | exact zn rfl rfl (by assumption)))
 refine zb (by simp (disch:=omega) only [go_sem] <;> rfl) ?_
 refine zd ?_
 (repeat (first | refine zc ?_ | (refine za ?_;refine zb (by simp (disch:=omega) only [go_sem] <;> rfl) ?_;refine zd ?_)))
 generalize hL:zbs left w=L at *
 have hset:zda left w=(zb6 [left] L && decide (L.length=zbm w) && decide (L.length < w.length / 2) && zd0 (w.drop (2 * L.length))):=by simp [zda,hL,hs1]
 refine zG (zav (fun m s=>∃ (i:Nat) (seen:List Nat) (mm:Int→Option PV) (G:List zk),m=L.length - i∧i≤L.length∧zb6 [left] L=zb6 seen (L.drop i)∧(∀ q:Nat,mm q=if seen.contains q=true then some (iv 1) else none)∧s.tm 1=.ptr 0 0 0 0 2∧s.tm 3=psv 0 L∧s.tm 4=.map 1∧s.tm 23=psv 0 L∧s.tm 24=iv L.length∧s.tm 25=iv i∧s.df=[]∧s.H=.row 209 2 0 0 [zfr p w left]::.mapI .u64 mm::G) (n:=L.length) ?_ ?_)
 ·refine ⟨0,[left],_,[],by simp,by omega,rfl,?_,by simp [upd,zB],by simp [upd,zB],by simp [upd,zB],by simp [upd,zB],by simp [upd,zB],by simp [upd,zB],rfl,rfl⟩
  intro q
  by_cases hq:q=left
  ·subst hq;simp
  ·have:¬ (q:Int)=left:=by omega
   simp [hq,this]
 ·rintro m ⟨tm,df,H⟩ ⟨i,seen,mm,G,rfl,hi,hpt,hmm,h1,h3,h4,h23,h24,h25,rfl,rfl⟩
  dsimp only at h1 h3 h4 h23 h24 h25
  (try refine zY ?_);refine zc (za ?_);refine zb (by simp (disch:=omega) only [go_sem,h1,h3,h4,h23,h24,h25] <;> rfl) ?_;refine zd ?_;refine zad (by simp only [go_sem] <;> rfl) ?_ ?_
  ·intro hlt
   have hlt:i < L.length:=by have:=of_decide_eq_true hlt;omega
   have hq:=hmm L[i].2
   refine zc (zG ?_)
   (repeat (first | refine zc ?_ | (refine za ?_;refine zb (by simp (disch:=omega) only [go_sem,h1,h3,h4,h23,h24,h25,List.getElem?_eq_getElem hlt] <;> rfl) ?_;refine zd ?_)))
   by_cases hc:seen.contains L[i].2=true
   ·rw [if_pos hc] at hq
    (repeat refine zc ?_);refine za ?_;refine zb (by simp (disch:=omega) only [go_sem,h1,h3,h4,h23,h24,h25,hq] <;> rfl) ?_
    refine zaD (by first | rfl | (simp only [go_sem] <;> rfl)) (by simp only [go_sem] <;> rfl) (zgc 190) ?_ ?_;(repeat (first | exact trivial | refine And.intro ?_ ?_ | exact .int _ _ | exact .bool _ | exact .list _ _ _ | exact .elem _ | exact .nilsl | exact .nil _ _ | exact .str _ | refine Frz.aggL ?_ | refine Frz.fnL ?_ | refine Frz.tupL ?_ | refine .iface ?_ | exact zn rfl rfl (by assumption)))
    exact zcB (by unfold zc0;rw [if_pos hr,hset,hpt,zl3 _ _ _ hlt,hc];simp)
   ·rw [if_neg hc] at hq
    have hc:seen.contains L[i].2=false:=by simpa using hc
    (repeat refine zc ?_);refine za ?_;refine zb (by simp (disch:=omega) only [go_sem,h1,h3,h4,h23,h24,h25,hq] <;> rfl) ?_
    refine zH (by first | rfl | (simp only [go_sem] <;> rfl)) (by simp only [go_sem] <;> rfl) (zhd 190) ?_ ?_;(repeat (first | exact trivial | refine And.intro ?_ ?_ | exact .int _ _ | exact .bool _ | exact .list _ _ _ | exact .elem _ | exact .nilsl | exact .nil _ _ | exact .str _ | refine Frz.aggL ?_ | refine Frz.fnL ?_ | refine Frz.tupL ?_ | refine .iface ?_ | exact zn rfl rfl (by assumption)))
    refine zb (by simp (disch:=omega) only [go_sem] <;> rfl) ?_
    refine zd ?_
    refine za ?_
    refine zb (by simp (disch:=omega) only [go_sem,h1,h3,h4,h23,h24,h25] <;> rfl) ?_
    refine zC ?_;simp only [zf,zi,zh,zg,zu,zj,if_true,↓reduceIte]
    (repeat refine zc ?_);refine za ?_;refine zb (by simp (disch:=omega) only [go_sem,h25] <;> rfl) ?_
    refine zC ?_;simp only [zf,zi,zh,zg,zu,zj,if_true,↓reduceIte]
    refine ⟨_,?_,i + 1,L[i].2::seen,_,_,rfl,by omega,?_,?_,by simp [upd,h1],by simp [upd,h3],by simp [upd,h4],by simp [upd,h23],by simp [upd,h24],by simp [upd,h25],trivial,rfl⟩
    ·omega
    ·rw [hpt,zl3 _ _ _ hlt,hc];simp
    ·intro q
     by_cases hq:q=L[i].2
     ·subst hq;simp
     ·have:¬ (q:Int)=(L[i].2:Nat):=by omega
      rw [if_neg this,hmm q]
      simp [hq]
  ·intro hlt
   have hlt:¬ i < L.length:=by have:=of_decide_eq_false hlt;omega
   obtain rfl:i=L.length:=by omega
   rw [List.drop_length] at hpt
   have hpt:zb6 [left] L=true:=by rw [hpt];rfl
   simp only [zf,zi,zh,zg,zu,zj,if_true,reduceIte]
   (repeat refine zc ?_);refine za ?_;refine zb (by simp (disch:=omega) only [go_sem,h1,h3] <;> rfl) ?_
   refine zH (by first | rfl | (simp only [go_sem] <;> rfl)) (by simp only [go_sem] <;> rfl) (zpS p w left hw) ?_ ?_;(repeat (first | exact trivial | refine And.intro ?_ ?_ | exact .int _ _ | exact .bool _ | exact .list _ _ _ | exact .elem _ | exact .nilsl | exact .nil _ _ | exact .str _ | refine Frz.aggL ?_ | refine Frz.fnL ?_ | refine Frz.tupL ?_ | refine .iface ?_ | exact zn rfl rfl (by assumption)))
   have hmm2:2 * (w.length / 2)=w.length:=by simp [zbI] at hr;omega
   by_cases hc1:L.length=zbm w
   rotate_left
   ·have g1:¬ (L.length:Int)=(zbm w:Nat):=by omega
    refine zb (by simp (disch:=omega) only [go_sem,h1,h3,g1] <;> rfl) ?_
    refine zaD (by first | rfl | (simp only [go_sem] <;> rfl)) (by simp only [go_sem] <;> rfl) (zgc 190) ?_ ?_;(repeat (first | exact trivial | refine And.intro ?_ ?_ | exact .int _ _ | exact .bool _ | exact .list _ _ _ | exact .elem _ | exact .nilsl | exact .nil _ _ | exact .str _ | refine Frz.aggL ?_ | refine Frz.fnL ?_ | refine Frz.tupL ?_ | refine .iface ?_ | exact zn rfl rfl (by assumption)))
    exact zcB (by unfold zc0;rw [if_pos hr,hset,hpt];simp [hc1])
   have g1:(L.length:Int)=(zbm w:Nat):=by omega
   refine zb (by simp (disch:=omega) only [go_sem,h1,h3,g1] <;> rfl) ?_
   refine zH (by first | rfl | (simp only [go_sem] <;> rfl)) (by simp only [go_sem] <;> rfl) (zhj p w hw) ?_ ?_;(repeat (first | exact trivial | refine And.intro ?_ ?_ | exact .int _ _ | exact .bool _ | exact .list _ _ _ | exact .elem _ | exact .nilsl | exact .nil _ _ | exact .str _ | refine Frz.aggL ?_ | refine Frz.fnL ?_ | refine Frz.tupL ?_ | refine .iface ?_ | exact zn rfl rfl (by assumption)))
   by_cases hc2:L.length < w.length / 2
   rotate_left
   ·have g2:¬ ((zbm w:Nat):Int) < ((w.length / 2:Nat):Int):=by omega
    refine zb (by simp (disch:=omega) only [go_sem,h1,h3,g1,g2] <;> rfl) ?_
    refine zaD (by first | rfl | (simp only [go_sem] <;> rfl)) (by simp only [go_sem] <;> rfl) (zgc 190) ?_ ?_;(repeat (first | exact trivial | refine And.intro ?_ ?_ | exact .int _ _ | exact .bool _ | exact .list _ _ _ | exact .elem _ | exact .nilsl | exact .nil _ _ | exact .str _ | refine Frz.aggL ?_ | refine Frz.fnL ?_ | refine Frz.tupL ?_ | refine .iface ?_ | exact zn rfl rfl (by assumption)))
    exact zcB (by unfold zc0;rw [if_pos hr,hset,hpt,decide_eq_false hc2];simp)
   have g2:((zbm w:Nat):Int) < ((w.length / 2:Nat):Int):=by omega
   refine zb (by simp (disch:=omega) only [go_sem,h1,h3,g1,g2] <;> rfl) ?_
   refine zH (by first | rfl | (simp only [go_sem] <;> rfl)) (by simp only [go_sem] <;> rfl) (zhd 190) ?_ ?_;(repeat (first | exact trivial | refine And.intro ?_ ?_ | exact .int _ _ | exact .bool _ | exact .list _ _ _ | exact .elem _ | exact .nilsl | exact .nil _ _ | exact .str _ | refine Frz.aggL ?_ | refine Frz.fnL ?_ | refine Frz.tupL ?_ | refine .iface ?_ | exact zn rfl rfl (by assumption)))
   refine zb (by simp (disch:=omega) only [go_sem] <;> rfl) ?_
   refine zd ?_
   (repeat (first | refine zc ?_ | (refine za ?_;refine zb (by simp (disch:=omega) only [go_sem,h1,h3] <;> rfl) ?_;refine zd ?_)))
   refine zG (zav (fun m s=>∃ i:Nat,m=w.length - i∧2 * i≤w.length∧zd0 (w.drop (2 * L.length))=zd0 (w.drop (2 * i))∧s.tm 1=.ptr 0 0 0 0 2∧s.tm 3=psv 0 L∧s.tm 7=iv i∧s.df=[]∧s.H=.row 209 2 0 0 [zfr p w left]::.mapI .u64 mm::G) (n:=w.length - L.length) ?_ ?_)
   ·exact ⟨L.length,rfl,by omega,rfl,by simp [upd,h1],by simp [upd,h3],by simp [upd,h3,g1],rfl,rfl⟩
   ·clear h1 h3 h4 h23 h24 h25
    rintro m ⟨tm,df,H⟩ ⟨i,rfl,hi,hz,h1,h3,h7,rfl,rfl⟩
    dsimp only at h1 h3 h7
    refine zY ?_
    (repeat refine zc ?_);refine za ?_;refine zb (by simp (disch:=omega) only [go_sem,h1,h3,h7] <;> rfl) ?_
    refine zH (by first | rfl | (simp only [go_sem] <;> rfl)) (by simp only [go_sem] <;> rfl) (zhj p w hw) ?_ ?_;(repeat (first | exact trivial | refine And.intro ?_ ?_ | exact .int _ _ | exact .bool _ | exact .list _ _ _ | exact .elem _ | exact .nilsl | exact .nil _ _ | exact .str _ | refine Frz.aggL ?_ | refine Frz.fnL ?_ | refine Frz.tupL ?_ | refine .iface ?_ | exact zn rfl rfl (by assumption)))
    refine zb (by simp (disch:=omega) only [go_sem] <;> rfl) ?_
    refine zd ?_
    refine zad (by simp only [go_sem] <;> rfl) ?_ ?_
    ·intro hlt
     have hlt:i < w.length / 2:=by have:=of_decide_eq_true hlt;omega
     refine zc (zG ?_)
     refine za ?_
     refine zb (by simp (disch:=omega) only [go_sem,h1,h3,h7] <;> rfl) ?_
     refine zH (by first | rfl | (simp only [go_sem] <;> rfl)) (by simp only [go_sem] <;> rfl) (zig p w i hw (by omega)) ?_ ?_;(repeat (first | exact trivial | refine And.intro ?_ ?_ | exact .int _ _ | exact .bool _ | exact .list _ _ _ | exact .elem _ | exact .nilsl | exact .nil _ _ | exact .str _ | refine Frz.aggL ?_ | refine Frz.fnL ?_ | refine Frz.tupL ?_ | refine .iface ?_ | exact zn rfl rfl (by assumption)))
     have hst:=zpi w i (by omega)
     by_cases h0:w[2 * i + 1]'(by omega)=0
     ·have g3:((w[2 * i + 1]'(by omega):Nat):Int)=0:=by omega
      refine zb (by simp (disch:=omega) only [go_sem,g3] <;> rfl) ?_
      refine zH (by first | rfl | (simp only [go_sem] <;> rfl)) (by simp only [go_sem] <;> rfl) (zhd 190) ?_ ?_;(repeat (first | exact trivial | refine And.intro ?_ ?_ | exact .int _ _ | exact .bool _ | exact .list _ _ _ | exact .elem _ | exact .nilsl | exact .nil _ _ | exact .str _ | refine Frz.aggL ?_ | refine Frz.fnL ?_ | refine Frz.tupL ?_ | refine .iface ?_ | exact zn rfl rfl (by assumption)))
      refine zb (by simp (disch:=omega) only [go_sem] <;> rfl) ?_
      refine zC ?_;simp only [zf,zi,zh,zg,zu,zj,if_true,↓reduceIte]
      (repeat refine zc ?_);refine za ?_;refine zb (by simp (disch:=omega) only [go_sem,h7] <;> rfl) ?_
      refine zC ?_;simp only [zf,zi,zh,zg,zu,zj,if_true,↓reduceIte]
      refine ⟨_,?_,i + 1,rfl,by omega,?_,by simp [upd,h1],by simp [upd,h3],by simp [upd,h7],trivial,trivial⟩
      ·omega
      ·rw [hz,hst];simp [h0]
     ·have g3:¬ ((w[2 * i + 1]'(by omega):Nat):Int)=0:=by omega
      refine zb (by simp (disch:=omega) only [go_sem,g3] <;> rfl) ?_
      refine zaD (by first | rfl | (simp only [go_sem] <;> rfl)) (by simp only [go_sem] <;> rfl) (zgc 190) ?_ ?_;(repeat (first | exact trivial | refine And.intro ?_ ?_ | exact .int _ _ | exact .bool _ | exact .list _ _ _ | exact .elem _ | exact .nilsl | exact .nil _ _ | exact .str _ | refine Frz.aggL ?_ | refine Frz.fnL ?_ | refine Frz.tupL ?_ | refine .iface ?_ | exact zn rfl rfl (by assumption)))
      exact zcB (by unfold zc0;rw [if_pos hr,hset,hpt,hz,hst];simp [h0])
    ·intro hlt
     have hlt:¬ i < w.length / 2:=by have:=of_decide_eq_false hlt;omega
     simp only [zf,zi,zh,zg,zu,zj,if_true,reduceIte]
     (repeat (first | refine zc ?_ | (refine za ?_;refine zb (by simp (disch:=omega) only [go_sem,h1,h3] <;> rfl) ?_;refine zd ?_)))
     refine zE ?_;(try simp only [zf,zi,zh,zg,zj]);refine zy (by simp only [T130,zI,go_sem] <;> rfl) ?_;simp only [zK]
     have:zc0 left w=.ret (psv 0 L):=by unfold zc0;rw [if_pos hr,hset,hpt,hz,zqt w i (by omega),hL,decide_eq_true hc1,decide_eq_true hc2];rfl
     rw [this]
     exact Frz.list _ _ _
theorem zuk:ET.funcs.get 174=some T174:=zJ (by kernel_rfl) (by decide)
theorem ztV:ET.funcs.get 219=some T219:=zJ (by kernel_rfl) (by decide)
theorem zuF:ET.caught.get 128=some ():=by kernel_rfl
theorem zsy:FN ET 219 [] (.ret (.tuple [])):=by
 refine zU ztV (Nat.le_of_ble_eq_true rfl) Lb.unit ?_
 refine zR ?_
 exact ⟨[],rfl,Frz.tupL trivial⟩
theorem zar.int {H:List zk} {k:IntKind} {n:Int} {e:FE} (h:e=.ret (.int k n)):zar H 0 (.ret (.int k n)) e:=by subst h;exact Frz.int _ _
theorem zpV (p:Nat) (w:List Nat) (left:Nat) (hw:zaI w.length):FN ET 174 [uv left,wv p w] (.ret (.int .i64 (zcK left w:Nat))):=by
 refine zU zuk (Nat.le_of_ble_eq_true rfl) (.int _ _) ?_
 (repeat (first | refine zc ?_ | (refine za ?_;refine zb (by simp (disch:=omega) only [go_sem] <;> rfl) ?_;refine zd ?_)))
 (repeat refine zc ?_);refine za ?_;refine zb (by simp (disch:=omega) only [go_sem] <;> rfl) ?_
 refine zhr (f:=128) (p:=.ptr 0 0 0 0 1) (cl:=.fn 219 []) ?_ ?_ zuF ?_
 ·rfl
 ·simp only [go_sem] <;> rfl
 refine zb (by simp (disch:=omega) only [go_sem] <;> rfl) ?_
 refine zd ?_
 (repeat refine zc ?_);refine za ?_;refine zb (by simp (disch:=omega) only [go_sem] <;> rfl) ?_
 have hs:=zoU p w left hw
 have bad:∀ (tm:Nat→PV) (n:Nat),zcK left w=n→tm 4=.ptr 0 0 0 0 1→zew ET T174 (fun e' H=>zar H 0 e' (.ret (.int .i64 (zcK left w:Nat)))) (.panic (zcn n)) ⟨tm,[.caught (.ptr 0 0 0 0 1) (.fn 219 [])],[.row 31 1 0 0 [.int .i64 0]]⟩:=fun tm n hn h4=>by
  refine ⟨n,219,[],true,0,0,1,rfl,rfl,rfl,(FN.FO (args:=[]) zsy trivial).mono fun e H he=>?_⟩
  obtain ⟨rfl,rfl⟩:=he
  refine ⟨rfl,_,rfl,[.int .i64 n],?_,zar.int (by rw [hn])⟩
  simp [T174,zI,okv,h4,zax,zbf,zbh,zae]
  rfl
 by_cases hr:zbI left w.length=true
 rotate_left
 ·have he:zc0 left w=.panic (zcn 2):=by simp [zc0,hr]
  rw [he] at hs
  refine zaD (by first | rfl | (simp only [go_sem] <;> rfl)) (by simp only [go_sem] <;> rfl) hs ?_ ?_;(repeat (first | exact trivial | refine And.intro ?_ ?_ | exact .int _ _ | exact .bool _ | exact .list _ _ _ | exact .elem _ | exact .nilsl | exact .nil _ _ | exact .str _ | refine Frz.aggL ?_ | refine Frz.fnL ?_ | refine Frz.tupL ?_ | refine .iface ?_ | exact zn rfl rfl (by assumption)))
  exact bad _ 2 (by simp [zcK,hr]) rfl
 by_cases h2:zda left w=true
 rotate_left
 ·have he:zc0 left w=.panic (zcn 190):=by simp [zc0,hr,h2]
  rw [he] at hs
  refine zaD (by first | rfl | (simp only [go_sem] <;> rfl)) (by simp only [go_sem] <;> rfl) hs ?_ ?_;(repeat (first | exact trivial | refine And.intro ?_ ?_ | exact .int _ _ | exact .bool _ | exact .list _ _ _ | exact .elem _ | exact .nilsl | exact .nil _ _ | exact .str _ | refine Frz.aggL ?_ | refine Frz.fnL ?_ | refine Frz.tupL ?_ | refine .iface ?_ | exact zn rfl rfl (by assumption)))
  exact bad _ 190 (by simp [zcK,hr,h2]) rfl
 have he:zc0 left w=.ret (psv 0 (zbs left w)):=by simp [zc0,hr,h2]
 rw [he] at hs
 refine zH (by first | rfl | (simp only [go_sem] <;> rfl)) (by simp only [go_sem] <;> rfl) hs ?_ ?_;(repeat (first | exact trivial | refine And.intro ?_ ?_ | exact .int _ _ | exact .bool _ | exact .list _ _ _ | exact .elem _ | exact .nilsl | exact .nil _ _ | exact .str _ | refine Frz.aggL ?_ | refine Frz.fnL ?_ | refine Frz.tupL ?_ | refine .iface ?_ | exact zn rfl rfl (by assumption)))
 refine zb (by simp (disch:=omega) only [go_sem] <;> rfl) ?_
 refine zd ?_
 (repeat (first | refine zc ?_ | (refine za ?_;refine zb (by simp (disch:=omega) only [go_sem] <;> rfl) ?_;refine zd ?_)))
 refine zE ?_
 have:zcK left w=0:=by simp [zcK,hr,h2]
 rw [this]
 exact ⟨[.int .i64 0],rfl,Frz.int _ _⟩
end Fv
end Go.Proofs.YtfomlmhnmheenaaGreat
namespace Go.Proofs.YtfomlmhnmheenaaGreat
namespace Fv
structure zo where
 level:Nat
 sib:Nat
 low:Nat
 left:Nat
 way:Nat
 pairs:List Pr
deriving DecidableEq
def zd4 (p:Nat):Bool:=decide (1≤p) && decide (p < 2048)
def zcW:Nat→Nat→Nat→Bool
 | 0,_,w=>decide (7522529147838689024≤w) && decide (w≤7522529147838689024 + 12)
 | 1,_,w=>decide (w < 2048)
 | 2,_,_=>true
 | 3,lv,w=>(decide (lv=0) && decide (w=9223372036854775808)) || (decide (0 < lv) && zd4 w)
 | _,_,w=>decide (w≤2)
@[irreducible] def zgu (x:Nat):Nat:=x - 7522529147838689024
theorem zkX (x:Nat):zgu x=x - 7522529147838689024:=by unfold zgu;rfl
def headB (l:List Nat):Bool:=decide (l.length=64) && ((l.take 8).drop 5).all (fun x=>decide (x=0)) && (List.range 5).all fun i=>zcW i (zgu (l.getD 0 0)) (l.getD i 0)
def headN (l:List Nat):zo:=⟨zgu (l.getD 0 0),l.getD 1 0,l.getD 2 0,l.getD 3 0,l.getD 4 0,zbs (l.getD 3 0) (l.drop 8)⟩
def zeD:zo:=⟨0,0,0,0,0,[]⟩
def ziZ:Nat→zo→Nat
 | 0,n=>7522529147838689024 + n.level
 | 1,n=>n.sib
 | 2,n=>n.low
 | 3,n=>n.left
 | _,n=>n.way
def zcw (n:zo) (p:Pr):Bool:=if n.level=0 then decide (1≤p.2) && decide (p.2≤1099511627776) && decide (n.low≤p.1) else zd4 p.2 && decide (n.low < p.1)
def zdK (l:List Nat):Bool:=decide (zcK (headN l).left (l.drop 8)=0) && !((headN l).pairs.any fun q=>!zcw (headN l) q)
def zbG (l:List Nat):Nat:=if headB l=true then if zdK l=true then 0 else 190 else 210
def zjY (n:zo):List Nat:=[7522529147838689024 + n.level,n.sib,n.low,n.left,n.way,0,0,0]
def zbW (l:List Pr):List Nat:=l.flatMap fun x=>[x.1,x.2]
@[reducible] def zN (p:Nat) (n:zo):PV:=.agg [iv n.level,iv n.sib,uv n.low,uv n.left,iv n.way,psv p n.pairs]
def zte:Nat→Nat
 | 0=>198 | 1=>201 | 2=>204 | 3=>207 | _=>211
def ztp:Nat→Nat
 | 0=>199 | 1=>202 | 2=>205 | 3=>209 | _=>212
def ztC:Nat→Nat
 | 0=>200 | 1=>203 | 2=>206 | 3=>210 | _=>213
@[reducible] def zsa (i:Nat):PV:=.agg [.fn (zte i) [],.fn (ztp i) [],.fn (ztC i) []]
def ze7:List PV:=(List.range 5).map zsa
end Fv
end Go.Proofs.YtfomlmhnmheenaaGreat
namespace Go.Proofs.YtfomlmhnmheenaaGreat
namespace Fv
open Tw
attribute [local go_sem] zaU zaE z7 zac evs ev okv zby zO.cls zaV zbg zbo zV zW upd zB za4 zaZ za9 zaH zaX za5 za7 za2 zaW za0 zaz zba zaY za8 za6 za3 za1 zax zbf zbh zan zaq zbx PV.cells ofC zbd zS zae okF zak spl zaF zaK bnd zao zas zat zaO zbl zT zal zaL zap zbi zbr z9 lenP ze zF zam zbj PV.toT zaC zL Nat.mul_mod_right Int.reduceOfNat Int.reduceToNat Int.cast_ofNat_Int Int.reduceLE Int.reduceLT Int.reduceAdd Int.reduceSub Int.reduceMul Int.reduceNegSucc Nat.reduceEqDiff if_true if_false ite_true ite_false decide_true decide_false Bool.not_true Bool.not_false and_true true_and and_self false_and and_false or_false false_or or_true true_or or_self List.length_cons List.length_nil List.length_map List.getElem?_cons_zero List.getElem?_cons_succ List.getElem?_map List.getElem?_nil Option.map_some Option.map_none Option.getD_some List.append_nil List.nil_append List.cons_append List.take_succ_cons List.take_zero List.drop_zero List.drop_succ_cons List.set_cons_zero List.set_cons_succ Int.toNat_natCast Int.natCast_nonneg Nat.le_refl Nat.zero_le Nat.reduceAdd Nat.reduceSub Nat.reduceMul Nat.reduceLeDiff Nat.reduceLT Bool.false_eq_true Bool.true_eq_false Nat.add_zero Nat.zero_add List.all_cons List.all_nil Bool.and_true Bool.and_self Bool.true_and Nat.reduceMod Nat.reduceDiv eq_self zau zaJ zaa zbb evN zaT dpF zaQ zbu zay zbc zbt zaP Option.some.injEq Option.isSome_some wrap_i64 zQ zaM
attribute [local go_sem ↓] reduceIte
set_option maxRecDepth 100000
theorem zuJ:ET.funcs.get 208=some T208:=zJ (by kernel_rfl) (by decide)
theorem zuV:ET.funcs.get 198=some T198:=zJ (by kernel_rfl) (by decide)
theorem ztZ:ET.funcs.get 199=some T199:=zJ (by kernel_rfl) (by decide)
theorem zui:ET.funcs.get 200=some T200:=zJ (by kernel_rfl) (by decide)
theorem zue:ET.funcs.get 201=some T201:=zJ (by kernel_rfl) (by decide)
theorem zug:ET.funcs.get 202=some T202:=zJ (by kernel_rfl) (by decide)
theorem zuc:ET.funcs.get 203=some T203:=zJ (by kernel_rfl) (by decide)
theorem zup:ET.funcs.get 204=some T204:=zJ (by kernel_rfl) (by decide)
theorem zt6:ET.funcs.get 205=some T205:=zJ (by kernel_rfl) (by decide)
theorem zuX:ET.funcs.get 206=some T206:=zJ (by kernel_rfl) (by decide)
theorem zt8:ET.funcs.get 207=some T207:=zJ (by kernel_rfl) (by decide)
theorem zuD:ET.funcs.get 209=some T209:=zJ (by kernel_rfl) (by decide)
theorem zuu:ET.funcs.get 210=some T210:=zJ (by kernel_rfl) (by decide)
theorem zuZ:ET.funcs.get 211=some T211:=zJ (by kernel_rfl) (by decide)
theorem zuH:ET.funcs.get 212=some T212:=zJ (by kernel_rfl) (by decide)
theorem zuA:ET.funcs.get 213=some T213:=zJ (by kernel_rfl) (by decide)
theorem zuh:ET.funcs.get 161=some T161:=zJ (by kernel_rfl) (by decide)
theorem zar.bool {H:List zk} {b b':Bool} (h:b=b'):zar H 0 (.ret (.bool b)) (.ret (.bool b')):=by subst h;exact Frz.bool _
theorem zar.uv {H:List zk} {k:IntKind} {b b':Int} (h:b=b'):zar H 0 (.ret (.int k b)) (.ret (.int k b')):=by subst h;exact Frz.int _ _
theorem zmP (x:Nat):FN ET 208 [uv x] (.ret (.bool (zd4 x))):=by
 refine zU zuJ (Nat.le_of_ble_eq_true rfl) (.bool _) ?_
 (repeat (first | refine zc ?_ | (refine za ?_;refine zb (by simp (disch:=omega) only [go_sem] <;> rfl) ?_;refine zd ?_)))
 refine za ?_
 by_cases h:1≤x
 ·have g:(1:Int)≤x:=by omega
  refine zb (by simp (disch:=omega) only [go_sem,g] <;> rfl) ?_
  refine zd ?_
  refine zE ?_;(try simp only [zf,zi,zh,zg,zj]);refine zy (by simp only [T208,zI,go_sem] <;> rfl) ?_;simp only [zK]
  exact zar.bool (by simp [zd4,h];omega)
 ·have g:¬ (1:Int)≤x:=by omega
  refine zb (by simp (disch:=omega) only [go_sem,g] <;> rfl) ?_
  refine zd ?_
  refine zE ?_;(try simp only [zf,zi,zh,zg,zj]);refine zy (by simp only [T208,zI,go_sem] <;> rfl) ?_;simp only [zK]
  exact zar.bool (by simp [zd4,h])
@[reducible] def zcJ (a b c d e:Nat):List PV:=[iv a,iv b,uv c,uv d,iv e,.nilsl]
theorem zuU (cs:List PV) (x:Nat):FN ET 198 [.elem cs,uv x] (.ret (.bool (decide (7522529147838689024≤x) && decide (x≤7522529147838689024 + 12)))):=by
 refine zU zuV (Nat.le_of_ble_eq_true rfl) (.bool _) ?_
 (repeat (first | refine zc ?_ | (refine za ?_;refine zb (by simp (disch:=omega) only [go_sem] <;> rfl) ?_;refine zd ?_)))
 refine za ?_
 by_cases h:7522529147838689024≤x
 ·have g:(7522529147838689024:Int)≤x:=by omega
  refine zb (by simp (disch:=omega) only [go_sem,g] <;> rfl) ?_
  refine zd ?_
  refine zE ?_;(try simp only [zf,zi,zh,zg,zj]);refine zy (by simp only [T198,zI,go_sem] <;> rfl) ?_;simp only [zK]
  exact zar.bool (by simp [h];omega)
 ·have g:¬ (7522529147838689024:Int)≤x:=by omega
  refine zb (by simp (disch:=omega) only [go_sem,g] <;> rfl) ?_
  refine zd ?_
  refine zE ?_;(try simp only [zf,zi,zh,zg,zj]);refine zy (by simp only [T198,zI,go_sem] <;> rfl) ?_;simp only [zK]
  exact zar.bool (by simp [h])
theorem zuG (cs:List PV) (x:Nat):FN ET 201 [.elem cs,uv x] (.ret (.bool (decide (x < 2048)))):=by
 refine zU zue (Nat.le_of_ble_eq_true rfl) (.bool _) ?_
 (repeat (first | refine zc ?_ | (refine za ?_;refine zb (by simp (disch:=omega) only [go_sem] <;> rfl) ?_;refine zd ?_)))
 refine zE ?_;(try simp only [zf,zi,zh,zg,zj]);refine zy (by simp only [T201,zI,go_sem] <;> rfl) ?_;simp only [zK]
 exact zar.bool (by simp;omega)
theorem ztT (cs:List PV) (x:Nat):FN ET 204 [.elem cs,uv x] (.ret (.bool true)):=by
 refine zU zup (Nat.le_of_ble_eq_true rfl) (.bool _) ?_
 (repeat (first | refine zc ?_ | (refine za ?_;refine zb (by simp (disch:=omega) only [go_sem] <;> rfl) ?_;refine zd ?_)))
 refine zE ?_;(try simp only [zf,zi,zh,zg,zj]);refine zy (by simp only [T204,zI,go_sem] <;> rfl) ?_;simp only [zK]
 exact zar.bool rfl
theorem zuW (cs:List PV) (x:Nat):FN ET 211 [.elem cs,uv x] (.ret (.bool (decide (x≤2)))):=by
 refine zU zuZ (Nat.le_of_ble_eq_true rfl) (.bool _) ?_
 (repeat (first | refine zc ?_ | (refine za ?_;refine zb (by simp (disch:=omega) only [go_sem] <;> rfl) ?_;refine zd ?_)))
 refine zE ?_;(try simp only [zf,zi,zh,zg,zj]);refine zy (by simp only [T211,zI,go_sem] <;> rfl) ?_;simp only [zK]
 exact zar.bool (by simp;omega)
theorem ztS (a b c d e x:Nat):FN ET 207 [.elem (zcJ a b c d e),uv x] (.ret (.bool (zcW 3 a x))):=by
 refine zU zt8 (Nat.le_of_ble_eq_true rfl) (.bool _) ?_
 (repeat (first | refine zc ?_ | (refine za ?_;refine zb (by simp (disch:=omega) only [go_sem] <;> rfl) ?_;refine zd ?_)))
 refine za ?_
 by_cases h:a=0
 ·have g0:(a:Int)=0:=by omega
  by_cases h2:x=9223372036854775808
  ·have g:(x:Int)=9223372036854775808:=by omega
   refine zb (by simp (disch:=omega) only [go_sem,g0,g] <;> rfl) ?_
   refine zd ?_
   refine zE ?_;(try simp only [zf,zi,zh,zg,zj]);refine zy (by simp only [T207,zI,go_sem] <;> rfl) ?_;simp only [zK]
   exact zar.bool (by simp [zcW,h,h2])
  ·have g:¬ (x:Int)=9223372036854775808:=by omega
   refine zb (by simp (disch:=omega) only [go_sem,g0,g] <;> rfl) ?_
   refine zd ?_
   refine zE ?_;(try simp only [zf,zi,zh,zg,zj]);refine zy (by simp only [T207,zI,go_sem] <;> rfl) ?_;simp only [zK]
   exact zar.bool (by simp [zcW,h,h2])
 ·have g:¬ (a:Int)=0:=by omega
  have g2:(0:Int) < a:=by omega
  have h2:0 < a:=by omega
  refine zb (by simp (disch:=omega) only [go_sem,g,g2] <;> rfl) ?_
  refine zH (by first | rfl | (simp only [go_sem] <;> rfl)) (by simp only [go_sem] <;> rfl) (zmP x) ?_ ?_;(repeat (first | exact trivial | refine And.intro ?_ ?_ | exact .int _ _ | exact .bool _ | exact .list _ _ _ | exact .elem _ | exact .nilsl | exact .nil _ _ | exact .str _ | refine Frz.aggL ?_ | refine Frz.fnL ?_ | refine Frz.tupL ?_ | refine .iface ?_ | exact zn rfl rfl (by assumption)))
  refine zb (by simp (disch:=omega) only [go_sem] <;> rfl) ?_
  refine zd ?_
  refine zE ?_;(try simp only [zf,zi,zh,zg,zj]);refine zy (by simp only [T207,zI,go_sem] <;> rfl) ?_;simp only [zK]
  exact zar.bool (by simp [zcW,h,h2])
theorem znq:FN ET 161 [] (.ret (.list 0 3 ze7)):=by
 refine zU zuh (Nat.le_of_ble_eq_true rfl) ?_ ?_
 ·refine .list fun x hx=>?_
  simp [ze7,List.range,List.range.loop,PV.cells] at hx
  rcases hx with h | h | h | h | h | h | h | h | h | h | h | h | h | h | h <;> subst h <;> exact .fn fun _ h=>by cases h
 (repeat (first | refine zc ?_ | (refine za ?_;refine zb (by simp (disch:=omega) only [go_sem] <;> rfl) ?_;refine zd ?_)))
 refine zE ?_;(try simp only [zf,zi,zh,zg,zj]);refine zy (by simp only [T161,zI,go_sem] <;> rfl) ?_;simp only [zK]
 refine Frz.whole rfl rfl rfl (by decide) ?_ ?_
 ·intro v hv;simp [ze7,List.range,List.range.loop] at hv;rcases hv with h | h | h | h | h <;> subst h <;> rfl
 ·intro v hv
  simp [ze7,List.range,List.range.loop,PV.cells] at hv
  rcases hv with h | h | h | h | h | h | h | h | h | h | h | h | h | h | h <;> subst h <;> exact .fn fun _ h=>by cases h
@[reducible] def zdg (cs:List PV):zk:=.row 124 6 0 0 [.agg cs]
theorem zdI {F:zr} {R:FE→List zk→Prop} {tm:Nat→PV} {H:List zk} (h:F.res=[]) (k:R (.ret (.tuple [])) H):zew ET F R .norm ⟨tm,[],H⟩:=zrN (vs:=[]) (by rw [h];rfl) k
section
variable (a b c d e x:Nat) (G:List zk)
theorem ztM (k:Nat) (h2:k≤12) (e1:IntKind.u64.wrap ((x:Int) - 7522529147838689024)=(k:Int)):FO ET 199 [.ptr 0 0 0 0 6,uv x] (zdg (zcJ a b c d e)::G) false fun e' H'=>e'=.ret (.tuple [])∧H'=zdg (zcJ k b c d e)::G:=by
 refine zcS ztZ (Nat.le_of_ble_eq_true rfl) ?_
 refine za ?_
 refine zb (by simp (disch:=omega) only [go_sem,e1] <;> rfl) ?_
 refine ze5 (zdI rfl ⟨rfl,rfl⟩)
theorem zr8 (h1:7522529147838689024≤x) (h2:x≤7522529147838689024 + 12) (k:Nat) (hk:k=x - 7522529147838689024):k≤12∧IntKind.u64.wrap ((x:Int) - 7522529147838689024)=(k:Int):=by rw [zQ (by omega) (by omega)];omega
theorem set0 (h1:7522529147838689024≤x) (h2:x≤7522529147838689024 + 12) (k:Nat) (hk:k=x - 7522529147838689024):FO ET 199 [.ptr 0 0 0 0 6,uv x] (zdg (zcJ a b c d e)::G) false fun e' H'=>e'=.ret (.tuple [])∧H'=zdg (zcJ k b c d e)::G :=
 ztM a b c d e x G k (zr8 x h1 h2 k hk).1 (zr8 x h1 h2 k hk).2
theorem zum (h1:x < 2048):FO ET 202 [.ptr 0 0 0 0 6,uv x] (zdg (zcJ a b c d e)::G) false fun e' H'=>e'=.ret (.tuple [])∧H'=zdg (zcJ a x c d e)::G:=by
 refine zcS zug (Nat.le_of_ble_eq_true rfl) ?_
 refine za ?_
 refine zb (by simp (disch:=omega) only [go_sem] <;> rfl) ?_
 refine ze5 (zdI rfl ⟨rfl,rfl⟩)
theorem zuz:FO ET 205 [.ptr 0 0 0 0 6,uv x] (zdg (zcJ a b c d e)::G) false fun e' H'=>e'=.ret (.tuple [])∧H'=zdg (zcJ a b x d e)::G:=by
 refine zcS zt6 (Nat.le_of_ble_eq_true rfl) ?_
 refine za ?_
 refine zb (by simp (disch:=omega) only [go_sem] <;> rfl) ?_
 refine ze5 (zdI rfl ⟨rfl,rfl⟩)
theorem ztW:FO ET 209 [.ptr 0 0 0 0 6,uv x] (zdg (zcJ a b c d e)::G) false fun e' H'=>e'=.ret (.tuple [])∧H'=zdg (zcJ a b c x e)::G:=by
 refine zcS zuD (Nat.le_of_ble_eq_true rfl) ?_
 refine za ?_
 refine zb (by simp (disch:=omega) only [go_sem] <;> rfl) ?_
 refine ze5 (zdI rfl ⟨rfl,rfl⟩)
theorem zuT (h1:x≤2):FO ET 212 [.ptr 0 0 0 0 6,uv x] (zdg (zcJ a b c d e)::G) false fun e' H'=>e'=.ret (.tuple [])∧H'=zdg (zcJ a b c d x)::G:=by
 refine zcS zuH (Nat.le_of_ble_eq_true rfl) ?_
 refine za ?_
 refine zb (by simp (disch:=omega) only [go_sem] <;> rfl) ?_
 refine ze5 (zdI rfl ⟨rfl,rfl⟩)
end
section
variable (p:Nat) (n:zo)
theorem ztH (k:Nat) (h:n.level≤12) (e1:IntKind.u64.wrap (7522529147838689024 + (n.level:Int))=(k:Int)):FN ET 200 [zN p n] (.ret (uv k)):=by
 refine zU zui (Nat.le_of_ble_eq_true rfl) (.int _ _) ?_
 (repeat (first | refine zc ?_ | (refine za ?_;refine zb (by simp (disch:=omega) only [go_sem,e1] <;> rfl) ?_;refine zd ?_)))
 refine zE ?_;(try simp only [zf,zi,zh,zg,zj]);refine zy (by simp only [T200,zI,go_sem] <;> rfl) ?_;simp only [zK]
 exact Frz.int _ _
theorem ztN (h:n.level≤12) (k:Nat) (hk:k=7522529147838689024 + n.level):IntKind.u64.wrap (7522529147838689024 + (n.level:Int))=(k:Int):=by rw [zQ (by omega) (by omega)];omega
theorem zut (h:n.level≤12) (k:Nat) (hk:k=7522529147838689024 + n.level):FN ET 200 [zN p n] (.ret (uv k)):=ztH p n k h (ztN n h k hk)
theorem zuI (h:n.sib < 2048):FN ET 203 [zN p n] (.ret (uv n.sib)):=by
 refine zU zuc (Nat.le_of_ble_eq_true rfl) (.int _ _) ?_
 (repeat (first | refine zc ?_ | (refine za ?_;refine zb (by simp (disch:=omega) only [go_sem] <;> rfl) ?_;refine zd ?_)))
 refine zE ?_;(try simp only [zf,zi,zh,zg,zj]);refine zy (by simp only [T203,zI,go_sem] <;> rfl) ?_;simp only [zK]
 exact Frz.int _ _
theorem zua:FN ET 206 [zN p n] (.ret (uv n.low)):=by
 refine zU zuX (Nat.le_of_ble_eq_true rfl) (.int _ _) ?_
 (repeat (first | refine zc ?_ | (refine za ?_;refine zb (by simp (disch:=omega) only [go_sem] <;> rfl) ?_;refine zd ?_)))
 refine zE ?_;(try simp only [zf,zi,zh,zg,zj]);refine zy (by simp only [T206,zI,go_sem] <;> rfl) ?_;simp only [zK]
 exact Frz.int _ _
theorem zuE:FN ET 210 [zN p n] (.ret (uv n.left)):=by
 refine zU zuu (Nat.le_of_ble_eq_true rfl) (.int _ _) ?_
 (repeat (first | refine zc ?_ | (refine za ?_;refine zb (by simp (disch:=omega) only [go_sem] <;> rfl) ?_;refine zd ?_)))
 refine zE ?_;(try simp only [zf,zi,zh,zg,zj]);refine zy (by simp only [T210,zI,go_sem] <;> rfl) ?_;simp only [zK]
 exact Frz.int _ _
theorem zuC (h:n.way≤2):FN ET 213 [zN p n] (.ret (uv n.way)):=by
 refine zU zuA (Nat.le_of_ble_eq_true rfl) (.int _ _) ?_
 (repeat (first | refine zc ?_ | (refine za ?_;refine zb (by simp (disch:=omega) only [go_sem] <;> rfl) ?_;refine zd ?_)))
 refine zE ?_;(try simp only [zf,zi,zh,zg,zj]);refine zy (by simp only [T213,zI,go_sem] <;> rfl) ?_;simp only [zK]
 exact Frz.int _ _
end
def hAt (lv:Nat) (w:List Nat) (i:Nat):List PV :=
 zcJ (if 0 < i then lv else 0) (if 1 < i then w.getD 1 0 else 0) (if 2 < i then w.getD 2 0 else 0) (if 3 < i then w.getD 3 0 else 0) (if 4 < i then w.getD 4 0 else 0)
theorem ztv (lv:Nat) (w:List Nat) (i x:Nat) (hi:i < 5):FN ET (zte i) [.elem (hAt lv w i),uv x] (.ret (.bool (zcW i lv x))):=by
 match i,hi with
 | 0,_=>exact zuU _ x
 | 1,_=>exact zuG _ x
 | 2,_=>exact ztT _ x
 | 3,_=>exact ztS _ _ _ _ _ x
 | 4,_=>exact zuW _ x
theorem ztu (lv:Nat) (w:List Nat) (hlv:lv=w.getD 0 0 - 7522529147838689024) (i:Nat) (hi:i < 5) (hm:zcW i lv (w.getD i 0)=true) (G:List zk):FO ET (ztp i) [.ptr 0 0 0 0 6,uv (w.getD i 0)] (zdg (hAt lv w i)::G) false fun e H'=>e=.ret (.tuple [])∧H'=zdg (hAt lv w (i + 1))::G:=by
 match i,hi with
 | 0,_=>rw [zcW,Bool.and_eq_true,decide_eq_true_eq,decide_eq_true_eq] at hm;exact set0 _ _ _ _ _ _ _ hm.1 hm.2 lv hlv
 | 1,_=>rw [zcW,decide_eq_true_eq] at hm;exact zum _ _ _ _ _ _ _ hm
 | 2,_=>exact zuz _ _ _ _ _ _ _
 | 3,_=>exact ztW _ _ _ _ _ _ _
 | 4,_=>rw [zcW,decide_eq_true_eq] at hm <;> first | exact zuT _ _ _ _ _ _ _ hm | simp
theorem ztm (p:Nat) (n:zo) (i k:Nat) (hi:i < 5) (h1:n.level≤12) (h2:n.sib < 2048) (h3:n.way≤2) (hk:k=ziZ i n):FN ET (ztC i) [zN p n] (.ret (uv k)):=by
 match i,hi with
 | 0,_=>exact zut p n h1 k hk
 | 1,_=>subst hk;exact zuI p n h2
 | 2,_=>subst hk;exact zua p n
 | 3,_=>subst hk;exact zuE p n
 | 4,_=>subst hk;exact zuC p n h3
theorem zlE (i:Nat) (hi:i < 5):ze7[i]?=some (zsa i):=by
 match i,hi with
 | 0,_=>rfl
 | 1,_=>rfl
 | 2,_=>rfl
 | 3,_=>rfl
 | 4,_=>rfl
theorem zlZ:ze7.length=5:=rfl
def ziD {α:Type} (pr:α→Bool) (l:List α):Int:=match l.findIdx? pr with | some i=>(i:Int) | none=>-1
theorem zjd {α:Type} (pr:α→Bool) (l:List α):decide (0≤ziD pr l)=l.any pr:=by
 unfold ziD
 cases h:l.findIdx? pr with
 | none =>
  have:l.any pr=false:=by rw [List.findIdx?_eq_none_iff] at h;simpa using h
  rw [this];rfl
 | some i =>
  have:l.any pr=true:=by
   have:=List.findIdx?_isSome (xs:=l) (p:=pr)
   rw [h] at this;exact this.symm
  rw [this];simp
theorem zpr {H:List zk} {lab:Nat}:∀ l:List PV,(∀ v∈l,Id0 v)→LF H lab l l
 | [],_=>trivial
 | x::l,h=>⟨(h x List.mem_cons_self).frz,zpr l fun v hv=>h v (List.mem_cons_of_mem _ hv)⟩
theorem zt3:ET.funcs.get 214=some T214:=zJ (by kernel_rfl) (by decide)
theorem zuL:ET.funcs.get 162=some T162:=zJ (by kernel_rfl) (by decide)
theorem zod (p:Nat) (l:List Nat) (hl:zaI l.length) (g:Nat) (caps:List PV) (hc:∀ v∈caps,Id0 v) (pr:Nat→Bool) (hg:∀ x∈l,FN ET g (uv x::caps) (.ret (.bool (pr x)))):FN ET 214 [wv p l,.fn g caps] (.ret (iv (ziD pr l))):=by
 refine zU zt3 (Nat.le_of_ble_eq_true rfl) (.int _ _) ?_
 (repeat (first | refine zc ?_ | (refine za ?_;refine zb (by simp (disch:=omega) only [go_sem] <;> rfl) ?_;refine zd ?_)))
 refine zG (zav (fun m s=>∃ i:Nat,m=l.length - i∧i≤l.length∧l.findIdx? pr=((l.drop i).findIdx? pr).map (· + i)∧s.tm 0=wv p l∧s.tm 1=.fn g caps∧s.tm 7=iv l.length∧s.tm 8=iv i∧s.df=[]∧s.H=[]) (n:=l.length) ?_ ?_)
 ·exact ⟨0,by simp [upd,zB]⟩
 ·rintro m ⟨tm,df,H⟩ ⟨i,rfl,hi,hf,h0,h1,h7,h8,rfl,rfl⟩
  dsimp only at h0 h1 h7 h8
  (try refine zY ?_);refine zc (za ?_);refine zb (by simp (disch:=omega) only [go_sem,h0,h1,h7,h8] <;> rfl) ?_;refine zd ?_;refine zad (by simp only [go_sem] <;> rfl) ?_ ?_
  ·intro hlt
   have hlt:i < l.length:=by have:=of_decide_eq_true hlt;omega
   refine zc (zG ?_)
   (repeat (first | refine zc ?_ | (refine za ?_;refine zb (by simp (disch:=omega) only [go_sem,h8] <;> rfl) ?_;refine zd ?_)))
   (repeat refine zc ?_);refine za ?_;refine zb (by simp (disch:=omega) only [go_sem,h0,h1,List.getElem?_eq_getElem hlt] <;> rfl) ?_
   refine zH (caps:=caps) (vs:=[uv l[i]]) rfl ?_ (hg _ (List.getElem_mem hlt)) (zpr _ (fun v hv=>?_)) ?_
   ·simp only [go_sem,h1]
   ·rcases List.mem_cons.1 hv with rfl | hv
    ·exact .int _ _
    ·exact hc v hv
   refine zb (by simp (disch:=omega) only [go_sem] <;> rfl) ?_
   refine zd ?_
   rw [List.drop_eq_getElem_cons hlt,List.findIdx?_cons] at hf
   refine zD (by simp only [go_sem] <;> rfl) ?_ ?_
   ·intro hb
    have hb:pr l[i]=true:=hb
    (repeat (first | refine zc ?_ | (refine za ?_;refine zb (by simp (disch:=omega) only [go_sem] <;> rfl) ?_;refine zd ?_)))
    refine zE ?_;(try simp only [zf,zi,zh,zg,zj]);refine zy (by simp only [T214,zI,go_sem] <;> rfl) ?_;simp only [zK]
    rw [if_pos hb] at hf
    exact zar.uv (by simp [ziD,hf])
   ·intro hb
    have hb:pr l[i]=false:=hb
    refine zR ?_
    simp only [zf,zi,zh,zg,zu,zj,if_true,reduceIte]
    (repeat refine zc ?_);refine za ?_;refine zb (by simp (disch:=omega) only [go_sem,h8] <;> rfl) ?_
    refine zC ?_;simp only [zf,zi,zh,zg,zu,zj,if_true,↓reduceIte]
    refine ⟨_,?_,i + 1,rfl,hlt,?_,by simp [upd,h0],by simp [upd,h1],by simp [upd,h7],by simp [upd],trivial,trivial⟩
    ·omega
    ·rw [hf,hb]
     cases (l.drop (i + 1)).findIdx? pr with
     | none=>rfl
     | some j=>simp;omega
  ·intro hlt
   have hlt:¬ i < l.length:=by have:=of_decide_eq_false hlt;omega
   obtain rfl:i=l.length:=by omega
   simp only [zf,zi,zh,zg,zu,zj,if_true,reduceIte]
   (repeat (first | refine zc ?_ | (refine za ?_;refine zb (by simp (disch:=omega) only [go_sem] <;> rfl) ?_;refine zd ?_)))
   refine zE ?_;(try simp only [zf,zi,zh,zg,zj]);refine zy (by simp only [T214,zI,go_sem] <;> rfl) ?_;simp only [zK]
   rw [List.drop_length] at hf
   exact zar.uv (by simp [ziD,hf])
theorem zll (p:Nat) (l:List Nat) (hl:zaI l.length) (g:Nat) (caps:List PV) (hc:∀ v∈caps,Id0 v) (pr:Nat→Bool) (hg:∀ x∈l,FN ET g (uv x::caps) (.ret (.bool (pr x)))):FN ET 162 [wv p l,.fn g caps] (.ret (.bool (l.any pr))):=by
 refine zU zuL (Nat.le_of_ble_eq_true rfl) (.bool _) ?_
 (repeat (first | refine zc ?_ | (refine za ?_;refine zb (by simp (disch:=omega) only [go_sem] <;> rfl) ?_;refine zd ?_)))
 (repeat refine zc ?_);refine za ?_;refine zb (by simp (disch:=omega) only [go_sem] <;> rfl) ?_
 refine zH (caps:=[]) (vs:=[wv p l,.fn g caps]) rfl ?_ (zod p l hl g caps hc pr hg) ?_ ?_
 ·simp only [go_sem]
 ·refine ⟨.list _ _ _,⟨Id0.frz (.fn hc),trivial⟩⟩
 refine zb (by simp (disch:=omega) only [go_sem] <;> rfl) ?_
 refine zd ?_
 refine zE ?_;(try simp only [zf,zi,zh,zg,zj]);refine zy (by simp only [T162,zI,go_sem] <;> rfl) ?_;simp only [zK]
 exact zar.bool (zjd _ _)
theorem zux:ET.funcs.get 220=some T220:=zJ (by kernel_rfl) (by decide)
theorem zuQ:ET.funcs.get 175=some T175:=zJ (by kernel_rfl) (by decide)
theorem zn4 (p:Nat) (l:List Pr) (hl:zaI l.length) (g:Nat) (caps:List PV) (hc:∀ v∈caps,Id0 v) (pr:Pr→Bool) (hg:∀ x∈l,FN ET g (pv x::caps) (.ret (.bool (pr x)))):FN ET 220 [psv p l,.fn g caps] (.ret (iv (ziD pr l))):=by
 refine zU zux (Nat.le_of_ble_eq_true rfl) (.int _ _) ?_
 (repeat (first | refine zc ?_ | (refine za ?_;refine zb (by simp (disch:=omega) only [go_sem] <;> rfl) ?_;refine zd ?_)))
 refine zG (zav (fun m s=>∃ i:Nat,m=l.length - i∧i≤l.length∧l.findIdx? pr=((l.drop i).findIdx? pr).map (· + i)∧s.tm 0=psv p l∧s.tm 1=.fn g caps∧s.tm 7=iv l.length∧s.tm 8=iv i∧s.df=[]∧s.H=[]) (n:=l.length) ?_ ?_)
 ·exact ⟨0,by simp [upd,zB]⟩
 ·rintro m ⟨tm,df,H⟩ ⟨i,rfl,hi,hf,h0,h1,h7,h8,rfl,rfl⟩
  dsimp only at h0 h1 h7 h8
  (try refine zY ?_);refine zc (za ?_);refine zb (by simp (disch:=omega) only [go_sem,h0,h1,h7,h8] <;> rfl) ?_;refine zd ?_;refine zad (by simp only [go_sem] <;> rfl) ?_ ?_
  ·intro hlt
   have hlt:i < l.length:=by have:=of_decide_eq_true hlt;omega
   refine zc (zG ?_)
   (repeat (first | refine zc ?_ | (refine za ?_;refine zb (by simp (disch:=omega) only [go_sem,h8] <;> rfl) ?_;refine zd ?_)))
   (repeat refine zc ?_);refine za ?_;refine zb (by simp (disch:=omega) only [go_sem,h0,h1,List.getElem?_eq_getElem hlt] <;> rfl) ?_
   refine zH (caps:=caps) (vs:=[pv l[i]]) rfl ?_ (hg _ (List.getElem_mem hlt)) (zpr _ (fun v hv=>?_)) ?_
   ·simp only [go_sem,h1]
   ·rcases List.mem_cons.1 hv with rfl | hv
    ·exact .agg fun y hy=>by simp at hy;rcases hy with rfl | rfl <;> exact .int _ _
    ·exact hc v hv
   refine zb (by simp (disch:=omega) only [go_sem] <;> rfl) ?_
   refine zd ?_
   rw [List.drop_eq_getElem_cons hlt,List.findIdx?_cons] at hf
   refine zD (by simp only [go_sem] <;> rfl) ?_ ?_
   ·intro hb
    have hb:pr l[i]=true:=hb
    (repeat (first | refine zc ?_ | (refine za ?_;refine zb (by simp (disch:=omega) only [go_sem] <;> rfl) ?_;refine zd ?_)))
    refine zE ?_;(try simp only [zf,zi,zh,zg,zj]);refine zy (by simp only [T220,zI,go_sem] <;> rfl) ?_;simp only [zK]
    rw [if_pos hb] at hf
    exact zar.uv (by simp [ziD,hf])
   ·intro hb
    have hb:pr l[i]=false:=hb
    refine zR ?_
    simp only [zf,zi,zh,zg,zu,zj,if_true,reduceIte]
    (repeat refine zc ?_);refine za ?_;refine zb (by simp (disch:=omega) only [go_sem,h8] <;> rfl) ?_
    refine zC ?_;simp only [zf,zi,zh,zg,zu,zj,if_true,↓reduceIte]
    refine ⟨_,?_,i + 1,rfl,hlt,?_,by simp [upd,h0],by simp [upd,h1],by simp [upd,h7],by simp [upd],trivial,trivial⟩
    ·omega
    ·rw [hf,hb]
     cases (l.drop (i + 1)).findIdx? pr with
     | none=>rfl
     | some j=>simp;omega
  ·intro hlt
   have hlt:¬ i < l.length:=by have:=of_decide_eq_false hlt;omega
   obtain rfl:i=l.length:=by omega
   simp only [zf,zi,zh,zg,zu,zj,if_true,reduceIte]
   (repeat (first | refine zc ?_ | (refine za ?_;refine zb (by simp (disch:=omega) only [go_sem] <;> rfl) ?_;refine zd ?_)))
   refine zE ?_;(try simp only [zf,zi,zh,zg,zj]);refine zy (by simp only [T220,zI,go_sem] <;> rfl) ?_;simp only [zK]
   rw [List.drop_length] at hf
   exact zar.uv (by simp [ziD,hf])
theorem zkY (p:Nat) (l:List Pr) (hl:zaI l.length) (g:Nat) (caps:List PV) (hc:∀ v∈caps,Id0 v) (pr:Pr→Bool) (hg:∀ x∈l,FN ET g (pv x::caps) (.ret (.bool (pr x)))):FN ET 175 [psv p l,.fn g caps] (.ret (.bool (l.any pr))):=by
 refine zU zuQ (Nat.le_of_ble_eq_true rfl) (.bool _) ?_
 (repeat (first | refine zc ?_ | (refine za ?_;refine zb (by simp (disch:=omega) only [go_sem] <;> rfl) ?_;refine zd ?_)))
 (repeat refine zc ?_);refine za ?_;refine zb (by simp (disch:=omega) only [go_sem] <;> rfl) ?_
 refine zH (caps:=[]) (vs:=[psv p l,.fn g caps]) rfl ?_ (zn4 p l hl g caps hc pr hg) ?_ ?_
 ·simp only [go_sem]
 ·refine ⟨.list _ _ _,⟨Id0.frz (.fn hc),trivial⟩⟩
 refine zb (by simp (disch:=omega) only [go_sem] <;> rfl) ?_
 refine zd ?_
 refine zE ?_;(try simp only [zf,zi,zh,zg,zj]);refine zy (by simp only [T175,zI,go_sem] <;> rfl) ?_;simp only [zK]
 exact zar.bool (zjd _ _)
theorem zt1:ET.funcs.get 107=some T107:=zJ (by kernel_rfl) (by decide)
theorem zuw:ET.funcs.get 163=some T163:=zJ (by kernel_rfl) (by decide)
theorem ztG (x:Nat):FN ET 163 [uv x] (.ret (.bool (decide (x ≠ 0)))):=by
 refine zU zuw (Nat.le_of_ble_eq_true rfl) (.bool _) ?_
 (repeat (first | refine zc ?_ | (refine za ?_;refine zb (by simp (disch:=omega) only [go_sem] <;> rfl) ?_;refine zd ?_)))
 refine zE ?_;(try simp only [zf,zi,zh,zg,zj]);refine zy (by simp only [T163,zI,go_sem] <;> rfl) ?_;simp only [zK]
 exact zar.bool (by by_cases h:x=0 <;> simp [h];try omega)
theorem Lb.node (n:zo):Lb (zN 0 n):=.agg fun v hv=>by
 simp at hv
 rcases hv with h | h | h | h | h | h <;> subst h
 ·exact .int _ _
 ·exact .int _ _
 ·exact .int _ _
 ·exact .int _ _
 ·exact .int _ _
 ·exact Lb.pvs _
theorem Lb.two {a b:PV} (ha:Lb a) (hb:Lb b):Lb (.tuple [a,b]):=.tuple fun v hv=>by
 simp at hv;rcases hv with h | h <;> subst h <;> assumption
def zgw (w:List Nat):FE:=if headB w=true then .ret (.tuple [zN 0 (headN w),iv 0]) else .ret (.tuple [zN 0 zeD,iv 210])
theorem ztw (lv:Nat) (w:List Nat) (i:Nat):∀ v∈hAt lv w i,Id0 v:=fun v hv=>by
 simp [hAt] at hv
 rcases hv with h | h | h | h | h | h <;> subst h <;> constructor
@[reducible] def ziY:PV:=.agg [iv 0,iv 0,uv 0,uv 0,iv 0,.nilsl]
theorem zsG {H:List zk}:Frz H 0 (.tuple [ziY,iv 210]) (.tuple [zN 0 zeD,iv 210]):=by
 refine Frz.tupL ⟨Frz.aggL ⟨.int _ _,.int _ _,.int _ _,.int _ _,.int _ _,.nil _ _,trivial⟩,.int _ _,trivial⟩
theorem zmZ {H:List zk} {w:List Nat} (h:headB w=false):zar H 0 (.ret (zK [ziY,iv 210])) (zgw w):=by
 unfold zgw;rw [if_neg (by rw [h];decide)];exact zsG
theorem zri (w:List Nat) (hl:w.length=64) (lv:Nat) (hlv:lv=zgu (w.getD 0 0)):headB w=(!(((w.take 8).drop 5).any fun x=>decide (x ≠ 0)) && (List.range 5).all fun i=>zcW i lv (w.getD i 0)):=by
 subst hlv
 unfold headB
 rw [decide_eq_true hl,Bool.true_and,List.all_eq_not_any_not]
 congr 2
 simp
theorem zrC (w:List Nat) (lv:Nat) (hlv:lv=zgu (w.getD 0 0)):headN w=⟨lv,w.getD 1 0,w.getD 2 0,w.getD 3 0,w.getD 4 0,zbs (w.getD 3 0) (w.drop 8)⟩:=by
 subst hlv;unfold headN;rfl
theorem ztL (w:List Nat):∃ lv,lv=zgu (w.getD 0 0):=⟨_,rfl⟩
theorem zpn (p:Nat) (w:List Nat) (hw:zaI w.length):FN ET 107 [wv p w] (zgw w):=by
 refine zU zt1 (Nat.le_of_ble_eq_true rfl) ?_ ?_
 ·unfold zgw;split
  ·exact Lb.two (Lb.node _) (.int _ _)
  ·exact Lb.two (Lb.node _) (.int _ _)
 refine zc (za ?_)
 refine zb (by simp (disch:=omega) only [go_sem] <;> rfl) ?_
 refine zd ?_
 refine zon ?_
 (repeat refine zc ?_)
 refine za ?_
 have h2:(1:Nat)=1:=rfl
 by_cases hl:w.length=64
 rotate_left
 ·have g:¬ (w.length:Int)=64:=by omega
  refine zb (by simp (disch:=omega) only [go_sem,g] <;> rfl) ?_
  refine zd ?_
  refine zD (by simp only [go_sem] <;> rfl) ?_ ?_
  ·intro _
   refine zmz ⟨rfl,?_⟩;refine zc (zR ?_);simp only [zf,zi,zh,zg,zu,zj,if_true,reduceIte];(repeat refine zc ?_);refine za ?_;refine zb (by simp (disch:=omega) only [go_sem,h2] <;> rfl) ?_;refine zd ?_;refine zE ⟨(fun l h=>FX.noConfusion h),?_⟩;refine zy (vs:=[ziY,iv 210]) ?_ ?_
   ·simp only [T107,zI,go_sem]
    rfl
   ·exact zmZ (by simp [headB,hl])
  ·intro h;cases h
 have g:(w.length:Int)=64:=by omega
 have hm1:List.drop 5 (List.take 8 (List.map uv w))=((w.take 8).drop 5).map uv:=by simp [List.map_drop,List.map_take]
 refine zb (by simp (disch:=omega) only [go_sem,g,hl,hm1] <;> rfl) ?_
 refine zH (by first | rfl | (simp only [go_sem] <;> rfl)) (by simp only [go_sem] <;> rfl) (zll p ((w.take 8).drop 5) (by simp;omega) 163 [] (fun _ h=>by cases h) (fun x=>decide (x ≠ 0)) fun x _=>ztG x) ?_ ?_;(repeat (first | exact trivial | refine And.intro ?_ ?_ | exact .int _ _ | exact .bool _ | exact .list _ _ _ | exact .elem _ | exact .nilsl | exact .nil _ _ | exact .str _ | refine Frz.aggL ?_ | refine Frz.fnL ?_ | refine Frz.tupL ?_ | refine .iface ?_ | exact zn rfl rfl (by assumption)))
 refine zb (by simp (disch:=omega) only [go_sem] <;> rfl) ?_
 refine zd ?_
 obtain ⟨lv,hlv⟩:=ztL w
 have hsp:=zri w hl lv hlv
 refine zD (by simp only [go_sem] <;> rfl) ?_ ?_
 ·intro hb
  have hb:(((w.take 8).drop 5).any fun x=>decide (x ≠ 0))=true:=hb
  refine zmz ⟨rfl,?_⟩;refine zc (zR ?_);simp only [zf,zi,zh,zg,zu,zj,if_true,reduceIte];(repeat refine zc ?_);refine za ?_;refine zb (by simp (disch:=omega) only [go_sem,h2] <;> rfl) ?_;refine zd ?_;refine zE ⟨(fun l h=>FX.noConfusion h),?_⟩;refine zy (vs:=[ziY,iv 210]) ?_ ?_
  ·simp only [T107,zI,go_sem]
   rfl
  ·exact zmZ (by rw [hsp,hb];rfl)
 intro hb
 have hb:(((w.take 8).drop 5).any fun x=>decide (x ≠ 0))=false:=hb
 rw [hb] at hsp
 refine zR ?_;show W _ _ _ _ _ _
 (repeat refine zc ?_);refine za ?_;refine zb (by simp (disch:=omega) only [go_sem] <;> rfl) ?_
 refine zH (by first | rfl | (simp only [go_sem] <;> rfl)) (by simp only [go_sem] <;> rfl) znq ?_ ?_;(repeat (first | exact trivial | refine And.intro ?_ ?_ | exact .int _ _ | exact .bool _ | exact .list _ _ _ | exact .elem _ | exact .nilsl | exact .nil _ _ | exact .str _ | refine Frz.aggL ?_ | refine Frz.fnL ?_ | refine Frz.tupL ?_ | refine .iface ?_ | exact zn rfl rfl (by assumption)))
 refine zb (by simp (disch:=omega) only [go_sem,zlZ] <;> rfl) ?_
 refine zd ?_
 have hsp:headB w=(List.range 5).all fun i=>zcW i lv (w.getD i 0):=by simpa using hsp
 clear hm1 h2
 refine zG (zav (fun m s=>∃ (i:Nat) (G:List zk),m=5 - i∧i≤5∧(∀ j,j < i→zcW j lv (w.getD j 0)=true)∧s.tm 0=wv p w∧s.tm 2=.ptr 0 0 0 0 6∧s.tm 14=.list 0 3 ze7∧s.tm 15=iv 5∧s.tm 16=iv i∧s.df=[]∧s.H=zdg (hAt lv w i)::G) (n:=5) ?_ ?_)
 ·exact ⟨0,[],rfl,by omega,(fun j hj=>by omega),by simp [upd,zB],by simp [upd],by simp [upd],by simp [upd],by simp [upd],rfl,rfl⟩
 ·rintro m ⟨tm,df,H⟩ ⟨i,G,rfl,hi,hmay,h0,h2,h14,h15,h16,rfl,rfl⟩
  dsimp only at h0 h2 h14 h15 h16
  (try refine zY ?_);refine zc (za ?_);refine zb (by simp (disch:=omega) only [go_sem,h0,h2,h14,h15,h16] <;> rfl) ?_;refine zd ?_;refine zad (by simp only [go_sem] <;> rfl) ?_ ?_
  ·intro hlt
   have hlt:i < 5:=by have:=of_decide_eq_true hlt;omega
   have hwi:w[i]?=some (w.getD i 0):=by rw [List.getD_eq_getElem?_getD,List.getElem?_eq_getElem (by omega)];rfl
   have hid:=ztw lv w i
   (repeat refine zc ?_)
   refine zG ?_
   (repeat (first | refine zc ?_ | (refine za ?_;refine zb (by simp (disch:=omega) only [go_sem,h0,h2,h14,h16,zlE i hlt] <;> rfl) ?_;refine zd ?_)))
   (repeat refine zc ?_)
   refine zaS ?_
   refine zbn (by first | exact trivial | simp only [go_sem,h0,h2,hwi]) (by simp (disch:=omega) only [go_sem,h0,h2,hwi] <;> rfl) rfl rfl (by first | rfl | (simp only [go_sem] <;> rfl)) (by simp only [go_sem,h0,h2,hwi] <;> rfl) (ztv lv w i (w.getD i 0) hlt) ?_ (by simp only [go_sem] <;> rfl) ?_;(repeat (first | exact trivial | refine And.intro ?_ ?_ | exact .int _ _ | exact .bool _ | exact .list _ _ _ | exact .elem _ | exact .nilsl | exact .nil _ _ | exact .str _ | refine Frz.aggL ?_ | refine Frz.fnL ?_ | refine Frz.tupL ?_ | refine .iface ?_ | exact zn rfl rfl (by assumption)))
   refine zX (by first | exact trivial | simp only [go_sem,h0]) (by simp (disch:=omega) only [go_sem,h0] <;> rfl) rfl ?_
   refine zaf ?_;simp only [zu,zab,zf,go_sem]
   by_cases hm:zcW i lv (w.getD i 0)=true
   rotate_left
   ·have hm:zcW i lv (w.getD i 0)=false:=by simpa using hm
    refine zD (by simp only [go_sem] <;> rfl) ?_ ?_
    ·intro _
     refine zmz ⟨rfl,?_⟩;refine zc (zR ?_);simp only [zf,zi,zh,zg,zu,zj,if_true,reduceIte];(repeat refine zc ?_);refine za ?_;refine zb (by simp (disch:=omega) only [go_sem,h2] <;> rfl) ?_;refine zd ?_;refine zE ⟨(fun l h=>FX.noConfusion h),?_⟩;refine zy (vs:=[ziY,iv 210]) ?_ ?_
     ·simp only [T107,zI,go_sem,h2]
      rfl
     ·exact zmZ (by rw [hsp,List.all_eq_false];exact ⟨i,List.mem_range.2 hlt,by rw [hm];decide⟩)
    ·rw [hm];intro h;cases h
   refine zD (by simp only [go_sem] <;> rfl) ?_ ?_
   ·rw [hm];intro h;cases h
   intro _
   refine zR ?_;show W _ _ _ _ _ _
   refine zaS ?_
   refine zlR (s1:=?_) (caps:=?_) (vs:=?_) ?_ ?_ rfl rfl ?_ ?_ (ztu lv w (by rw [hlv,zkX]) i hlt hm ?_) ?_ ?_ ?_;rotate_left 3;(first | exact trivial | (simp only [go_sem,h0,h2,hwi]));(simp (disch:=omega) only [go_sem,wrap_i64,zQ,zaM,h0,h2,hwi] <;> rfl);(first | rfl | (simp only [go_sem,h0,h2,hwi] <;> rfl));(simp only [go_sem,h0,h2,hwi] <;> rfl);rotate_left 1;rfl;rfl
   rintro e H' he
   obtain ⟨rfl,rfl⟩:=he
   refine ⟨_,by simp only [go_sem] <;> rfl,?_⟩
   refine zX (by first | exact trivial | simp only [go_sem,h0]) (by simp (disch:=omega) only [go_sem,h0] <;> rfl) rfl ?_
   refine zaf ?_;simp only [zu,zab,zf,go_sem]
   simp only [zf,zi,zh,zg,zu,zj,if_true,reduceIte]
   (repeat refine zc ?_);refine za ?_;refine zb (by simp (disch:=omega) only [go_sem,h16] <;> rfl) ?_
   refine zC ?_;simp only [zf,zi,zh,zg,zu,zj,if_true,↓reduceIte]
   refine ⟨_,?_,i + 1,_,rfl,hlt,?_,by simp [upd,h0],by simp [upd,h2],by simp [upd,h14],by simp [upd,h15],by simp [upd,h16],trivial,rfl⟩
   ·omega
   ·intro j hj
    by_cases hj2:j=i
    ·rw [hj2];exact hm
    ·exact hmay j (by omega)
  ·intro hlt
   have hlt:¬ i < 5:=by have:=of_decide_eq_false hlt;omega
   obtain rfl:i=5:=by omega
   simp only [zf,zi,zh,zg,zu,zj,if_true,reduceIte]
   have hok:headB w=true:=by rw [hsp,List.all_eq_true];intro j hj;exact hmay j (List.mem_range.1 hj)
   have h5:hAt lv w 5=zcJ lv (w.getD 1 0) (w.getD 2 0) (w.getD 3 0) (w.getD 4 0):=rfl
   have hm2:List.drop 8 (List.map uv w)=(w.drop 8).map uv:=by simp [List.map_drop]
   rw [h5]
   refine zc (zaS ?_)
   refine zbn (by first | exact trivial | simp only [go_sem,h0,h2,hl,hm2]) (by simp (disch:=omega) only [go_sem,h0,h2,hl,hm2] <;> rfl) rfl rfl (by first | rfl | (simp only [go_sem] <;> rfl)) (by simp only [go_sem,h0,h2,hl,hm2] <;> rfl) (zor p (w.drop 8) (w.getD 3 0) (by simp;omega)) ?_ (by simp only [go_sem] <;> rfl) ?_;(repeat (first | exact trivial | refine And.intro ?_ ?_ | exact .int _ _ | exact .bool _ | exact .list _ _ _ | exact .elem _ | exact .nilsl | exact .nil _ _ | exact .str _ | refine Frz.aggL ?_ | refine Frz.fnL ?_ | refine Frz.tupL ?_ | refine .iface ?_ | exact zn rfl rfl (by assumption)))
   refine zbv (by first | exact trivial | simp only [go_sem,List.filter_cons,List.filter_nil,List.contains_cons,List.contains_nil,Bool.or_false,Nat.reduceBEq,zb4,zb3,zbJ,h0,h2]) (by simp (disch:=omega) only [go_sem,h0,h2] <;> rfl) rfl (by first | rfl | (simp only [go_sem] <;> rfl)) (by simp only [go_sem,h0,h2] <;> rfl) (by simp (disch:=omega) only [go_sem,h0,h2] <;> rfl) (by simp only [go_sem] <;> rfl) ?_
   refine zX (by first | exact trivial | simp only [go_sem,h0]) (by simp (disch:=omega) only [go_sem,h0] <;> rfl) rfl ?_
   refine zaf ?_;simp only [zu,zab,zf,go_sem]
   (repeat (first | refine zc ?_ | (refine za ?_;refine zb (by simp (disch:=omega) only [go_sem,h2] <;> rfl) ?_;refine zd ?_)))
   refine zE ?_;(try simp only [zf,zi,zh,zg,zj]);refine zy (by simp only [T107,zI,go_sem,h2] <;> rfl) ?_;simp only [zK]
   unfold zgw
   rw [if_pos hok]
   rw [zrC w lv hlv]
   exact Frz.tupL ⟨Frz.aggL ⟨.int _ _,.int _ _,.int _ _,.int _ _,.int _ _,.list _ _ _,trivial⟩,.int _ _,trivial⟩
theorem zt5:ET.funcs.get 167=some T167:=zJ (by kernel_rfl) (by decide)
theorem ztU:ET.funcs.get 176=some T176:=zJ (by kernel_rfl) (by decide)
theorem ztq:ET.funcs.get 125=some T125:=zJ (by kernel_rfl) (by decide)
theorem f85:ET.funcs.get 85=some T85:=zJ (by kernel_rfl) (by decide)
theorem zrn (p:Nat) (n:zo) (q:Pr):FN ET 167 [zN p n,pv q] (.ret (.bool (zcw n q))):=by
 obtain ⟨lv,sib,low,left,way,ps⟩:=n
 obtain ⟨k,x⟩:=q
 refine zU zt5 (Nat.le_of_ble_eq_true rfl) (.bool _) ?_
 (repeat (first | refine zc ?_ | (refine za ?_;refine zb (by simp (disch:=omega) only [go_sem] <;> rfl) ?_;refine zd ?_)))
 by_cases h0:lv=0
 ·have g0:(lv:Int)=0:=by omega
  refine zD (by simp only [go_sem] <;> rfl) ?_ ?_
  ·intro _
   refine zc (za ?_)
   by_cases h1:1≤x
   ·have g1:(1:Int)≤x:=by omega
    by_cases h2:x≤1099511627776
    ·have g2:(x:Int)≤1099511627776:=by omega
     refine zb (by simp (disch:=omega) only [go_sem,g1,g2] <;> rfl) ?_
     refine zd ?_
     refine zE ?_;(try simp only [zf,zi,zh,zg,zj]);refine zy (by simp only [T167,zI,go_sem] <;> rfl) ?_;simp only [zK]
     exact zar.bool (by simp [zcw,h0,h1,h2];try omega)
    ·have g2:¬ (x:Int)≤1099511627776:=by omega
     refine zb (by simp (disch:=omega) only [go_sem,g1,g2] <;> rfl) ?_
     refine zd ?_
     refine zE ?_;(try simp only [zf,zi,zh,zg,zj]);refine zy (by simp only [T167,zI,go_sem] <;> rfl) ?_;simp only [zK]
     exact zar.bool (by simp [zcw,h0,h1,h2])
   ·have g1:¬ (1:Int)≤x:=by omega
    refine zb (by simp (disch:=omega) only [go_sem,g1] <;> rfl) ?_
    refine zd ?_
    refine zE ?_;(try simp only [zf,zi,zh,zg,zj]);refine zy (by simp only [T167,zI,go_sem] <;> rfl) ?_;simp only [zK]
    exact zar.bool (by simp [zcw,h0,h1])
  ·intro h;exact absurd g0 (of_decide_eq_false h)
 ·have g0:¬ (lv:Int)=0:=by omega
  refine zD (by simp only [go_sem] <;> rfl) ?_ ?_
  ·intro h;exact absurd (of_decide_eq_true h) g0
  ·intro _
   refine zR ?_;show W _ _ _ _ _ _
   (repeat refine zc ?_);refine za ?_;refine zb (by simp (disch:=omega) only [go_sem] <;> rfl) ?_
   refine zH (by first | rfl | (simp only [go_sem] <;> rfl)) (by simp only [go_sem] <;> rfl) (zmP x) ?_ ?_;(repeat (first | exact trivial | refine And.intro ?_ ?_ | exact .int _ _ | exact .bool _ | exact .list _ _ _ | exact .elem _ | exact .nilsl | exact .nil _ _ | exact .str _ | refine Frz.aggL ?_ | refine Frz.fnL ?_ | refine Frz.tupL ?_ | refine .iface ?_ | exact zn rfl rfl (by assumption)))
   by_cases hb:zd4 x=true
   ·rw [hb]
    refine zb (by simp (disch:=omega) only [go_sem] <;> rfl) ?_
    refine zd ?_
    refine zE ?_;(try simp only [zf,zi,zh,zg,zj]);refine zy (by simp only [T167,zI,go_sem] <;> rfl) ?_;simp only [zK]
    exact zar.bool (by simp [zcw,h0,hb])
   ·have hb:zd4 x=false:=by simpa using hb
    rw [hb]
    refine zb (by simp (disch:=omega) only [go_sem] <;> rfl) ?_
    refine zd ?_
    refine zE ?_;(try simp only [zf,zi,zh,zg,zj]);refine zy (by simp only [T167,zI,go_sem] <;> rfl) ?_;simp only [zK]
    exact zar.bool (by simp [zcw,h0,hb])
@[reducible] def zo2 (p:Nat) (n:zo):List PV:=[iv n.level,iv n.sib,uv n.low,uv n.left,iv n.way,psv p n.pairs]
theorem zn2 (p:Nat) (n:zo) (q:Pr):FN ET 176 [pv q,.elem (zo2 p n)] (.ret (.bool (!zcw n q))):=by
 refine zU ztU (Nat.le_of_ble_eq_true rfl) (.bool _) ?_
 (repeat (first | refine zc ?_ | (refine za ?_;refine zb (by simp (disch:=omega) only [go_sem] <;> rfl) ?_;refine zd ?_)))
 (repeat refine zc ?_);refine za ?_;refine zb (by simp (disch:=omega) only [go_sem] <;> rfl) ?_
 refine zH (by first | rfl | (simp only [go_sem] <;> rfl)) (by simp only [go_sem] <;> rfl) (zrn p n q) ?_ ?_;(repeat (first | exact trivial | refine And.intro ?_ ?_ | exact .int _ _ | exact .bool _ | exact .list _ _ _ | exact .elem _ | exact .nilsl | exact .nil _ _ | exact .str _ | refine Frz.aggL ?_ | refine Frz.fnL ?_ | refine Frz.tupL ?_ | refine .iface ?_ | exact zn rfl rfl (by assumption)))
 refine zb (by simp (disch:=omega) only [go_sem] <;> rfl) ?_
 refine zd ?_
 refine zE ?_;(try simp only [zf,zi,zh,zg,zj]);refine zy (by simp only [T176,zI,go_sem] <;> rfl) ?_;simp only [zK]
 exact zar.bool rfl
theorem zna (p:Nat) (n:zo):∀ v∈zo2 p n,Id0 v:=fun v hv=>by
 simp at hv
 rcases hv with h | h | h | h | h | h <;> subst h <;> constructor
def zfX (w:List Nat):FE:=if zbG w=0 then .ret (.tuple [zN 0 (headN w),iv 0]) else .ret (.tuple [zN 0 zeD,iv (zbG w:Nat)])
theorem zqF {w:List Nat} (h:headB w=true):w.length=64:=by
 unfold headB at h
 rw [Bool.and_eq_true,Bool.and_eq_true,decide_eq_true_eq] at h
 exact h.1.1
theorem zq3 {H:List zk} {n:zo} {k:Int}:Frz H 0 (.tuple [zN 0 n,iv k]) (.tuple [zN 0 n,iv k]):=by
 refine Frz.tupL ⟨Frz.aggL ⟨.int _ _,.int _ _,.int _ _,.int _ _,.int _ _,.list _ _ _,trivial⟩,.int _ _,trivial⟩
theorem zjF {H:List zk} {k:Int}:Frz H 0 (.tuple [ziY,iv k]) (.tuple [zN 0 zeD,iv k]):=by
 refine Frz.tupL ⟨Frz.aggL ⟨.int _ _,.int _ _,.int _ _,.int _ _,.int _ _,.nil _ _,trivial⟩,.int _ _,trivial⟩
def zeV (n:zo) (w:List Nat):FE:=if (decide (zcK n.left (w.drop 8)=0) && !(n.pairs.any fun q=>!zcw n q))=true then .ret (.tuple [zN 0 n,iv 0]) else .ret (.tuple [zN 0 zeD,iv 190])
theorem znU (p:Nat) (w:List Nat) (n:zo) (hOf:FN ET 107 [wv p w] (.ret (.tuple [zN 0 n,iv 0]))) (hl:w.length=64) (hps:n.pairs.length≤28):FN ET 125 [wv p w] (zeV n w):=by
 refine zU ztq (Nat.le_of_ble_eq_true rfl) ?_ ?_
 ·unfold zeV;split
  ·exact Lb.two (Lb.node _) (.int _ _)
  ·exact Lb.two (Lb.node _) (.int _ _)
 (repeat (first | refine zc ?_ | (refine za ?_;refine zb (by simp (disch:=omega) only [go_sem] <;> rfl) ?_;refine zd ?_)))
 (repeat refine zc ?_);refine za ?_;refine zb (by simp (disch:=omega) only [go_sem] <;> rfl) ?_
 refine zH (by first | rfl | (simp only [go_sem] <;> rfl)) (by simp only [go_sem] <;> rfl) hOf ?_ ?_;(repeat (first | exact trivial | refine And.intro ?_ ?_ | exact .int _ _ | exact .bool _ | exact .list _ _ _ | exact .elem _ | exact .nilsl | exact .nil _ _ | exact .str _ | refine Frz.aggL ?_ | refine Frz.fnL ?_ | refine Frz.tupL ?_ | refine .iface ?_ | exact zn rfl rfl (by assumption)))
 refine zb (by simp (disch:=omega) only [go_sem] <;> rfl) ?_
 refine zd ?_
 (repeat (first | refine zc ?_ | (refine za ?_;refine zb (by simp (disch:=omega) only [go_sem] <;> rfl) ?_;refine zd ?_)))
 refine zD (by simp only [go_sem] <;> rfl) ?_ ?_
 ·intro h;cases h
 intro _
 refine zR ?_;show W _ _ _ _ _ _
 have hm2:List.drop 8 (List.map uv w)=(w.drop 8).map uv:=by simp [List.map_drop]
 have hck:=zpV p (w.drop 8) n.left (by simp;omega)
 (repeat refine zc ?_)
 refine zaS ?_
 have hid:=zna 0 n
 by_cases h1:zcK n.left (w.drop 8)=0
 rotate_left
 ·have g1:¬ ((zcK n.left (w.drop 8):Nat):Int)=0:=by omega
  refine zbn (by first | exact trivial | simp only [go_sem,hl,hm2]) (by simp (disch:=omega) only [go_sem,hl,hm2] <;> rfl) rfl rfl (by first | rfl | (simp only [go_sem] <;> rfl)) (by simp only [go_sem,hl,hm2] <;> rfl) hck ?_ (by simp only [go_sem] <;> rfl) ?_;(repeat (first | exact trivial | refine And.intro ?_ ?_ | exact .int _ _ | exact .bool _ | exact .list _ _ _ | exact .elem _ | exact .nilsl | exact .nil _ _ | exact .str _ | refine Frz.aggL ?_ | refine Frz.fnL ?_ | refine Frz.tupL ?_ | refine .iface ?_ | exact zn rfl rfl (by assumption)))
  refine zf9 (by first | exact trivial | simp only [go_sem,g1]) (by simp (disch:=omega) only [go_sem,g1] <;> rfl) rfl (by simp only [go_sem,g1] <;> rfl) (by simp only [go_sem] <;> rfl) ?_
  refine zX (by first | exact trivial | simp only [go_sem,g1]) (by simp (disch:=omega) only [go_sem,g1] <;> rfl) rfl ?_
  refine zaf ?_;simp only [zu,zab,zf,go_sem]
  refine zD (by simp only [go_sem] <;> rfl) ?_ ?_
  ·intro _
   (repeat (first | refine zc ?_ | (refine za ?_;refine zb (by simp (disch:=omega) only [go_sem] <;> rfl) ?_;refine zd ?_)))
   refine zE ?_;(try simp only [zf,zi,zh,zg,zj]);refine zy (by simp only [T125,zI,go_sem] <;> rfl) ?_;simp only [zK]
   have hs:zeV n w=.ret (.tuple [zN 0 zeD,iv 190]):=by unfold zeV;rw [decide_eq_false h1];rfl
   rw [hs]
   exact zjF
  ·intro h;cases h
 rw [h1] at hck
 refine zbn (by first | exact trivial | simp only [go_sem,hl,hm2]) (by simp (disch:=omega) only [go_sem,hl,hm2] <;> rfl) rfl rfl (by first | rfl | (simp only [go_sem] <;> rfl)) (by simp only [go_sem,hl,hm2] <;> rfl) hck ?_ (by simp only [go_sem] <;> rfl) ?_;(repeat (first | exact trivial | refine And.intro ?_ ?_ | exact .int _ _ | exact .bool _ | exact .list _ _ _ | exact .elem _ | exact .nilsl | exact .nil _ _ | exact .str _ | refine Frz.aggL ?_ | refine Frz.fnL ?_ | refine Frz.tupL ?_ | refine .iface ?_ | exact zn rfl rfl (by assumption)))
 refine zbn (by first | exact trivial | simp only [go_sem,hl]) (by simp (disch:=omega) only [go_sem,hl] <;> rfl) rfl rfl (by first | rfl | (simp only [go_sem] <;> rfl)) (by simp only [go_sem,hl] <;> rfl) (zkY 0 n.pairs (by omega) 176 [.elem (zo2 0 n)] (fun v hv=>by simp at hv;subst hv;exact .elem _) (fun q=>!zcw n q) fun q _=>zn2 0 n q) ?_ (by simp only [go_sem] <;> rfl) ?_;(repeat (first | exact trivial | refine And.intro ?_ ?_ | exact .int _ _ | exact .bool _ | exact .list _ _ _ | exact .elem _ | exact .nilsl | exact .nil _ _ | exact .str _ | refine Frz.aggL ?_ | refine Frz.fnL ?_ | refine Frz.tupL ?_ | refine .iface ?_ | exact zn rfl rfl (by assumption)))
 refine zX (by first | exact trivial | simp only [go_sem,hl]) (by simp (disch:=omega) only [go_sem,hl] <;> rfl) rfl ?_
 refine zaf ?_;simp only [zu,zab,zf,go_sem]
 by_cases h2:(n.pairs.any fun q=>!zcw n q)=true
 ·refine zD (by simp only [go_sem] <;> rfl) ?_ ?_
  ·intro _
   (repeat (first | refine zc ?_ | (refine za ?_;refine zb (by simp (disch:=omega) only [go_sem] <;> rfl) ?_;refine zd ?_)))
   refine zE ?_;(try simp only [zf,zi,zh,zg,zj]);refine zy (by simp only [T125,zI,go_sem] <;> rfl) ?_;simp only [zK]
   have hs:zeV n w=.ret (.tuple [zN 0 zeD,iv 190]):=by unfold zeV;rw [h2,decide_eq_true h1];rfl
   rw [hs]
   exact zjF
  ·rw [h2];intro h;cases h
 ·have h2:(n.pairs.any fun q=>!zcw n q)=false:=by simpa using h2
  refine zD (by simp only [go_sem] <;> rfl) ?_ ?_
  ·rw [h2];intro h;cases h
  ·intro _
   refine zR ?_;show W _ _ _ _ _ _
   (repeat (first | refine zc ?_ | (refine za ?_;refine zb (by simp (disch:=omega) only [go_sem] <;> rfl) ?_;refine zd ?_)))
   refine zE ?_;(try simp only [zf,zi,zh,zg,zj]);refine zy (by simp only [T125,zI,go_sem] <;> rfl) ?_;simp only [zK]
   have hs:zeV n w=.ret (.tuple [zN 0 n,iv 0]):=by unfold zeV;rw [h2,decide_eq_true h1];rfl
   rw [hs]
   exact zq3
theorem zju (w:List Nat) (hh:headB w=true):zgw w=.ret (.tuple [zN 0 (headN w),iv 0]):=by unfold zgw;rw [if_pos hh]
theorem zq9 (w:List Nat) (hh:headB w=true):zeV (headN w) w=zfX w:=by
 have hpk:zdK w=(decide (zcK (headN w).left (w.drop 8)=0) && !((headN w).pairs.any fun q=>!zcw (headN w) q)):=by unfold zdK;rfl
 unfold zeV zfX zbG
 rw [if_pos hh,← hpk]
 by_cases hp:zdK w=true
 ·rw [if_pos hp,if_pos hp,if_pos rfl]
 ·rw [if_neg hp,if_neg hp,if_neg (by decide)]
  simp
theorem znW (p:Nat) (w:List Nat) (hw:zaI w.length):FN ET 125 [wv p w] (zfX w):=by
 have hOf:=zpn p w hw
 by_cases hh:headB w=true
 ·rw [zju w hh] at hOf
  have h1:=znU p w (headN w) hOf (zqF hh) (zej _ _)
  rw [zq9 w hh] at h1
  exact h1
 have hh:headB w=false:=by simpa using hh
 have he:zgw w=.ret (.tuple [zN 0 zeD,iv 210]):=by unfold zgw;rw [if_neg (by rw [hh];decide)]
 have hc:zbG w=210:=by unfold zbG;rw [if_neg (by rw [hh];decide)]
 have hs:zfX w=.ret (.tuple [zN 0 zeD,iv 210]):=by unfold zfX;rw [hc];rfl
 rw [he] at hOf
 rw [hs]
 refine zU ztq (Nat.le_of_ble_eq_true rfl) (Lb.two (Lb.node _) (.int _ _)) ?_
 (repeat (first | refine zc ?_ | (refine za ?_;refine zb (by simp (disch:=omega) only [go_sem] <;> rfl) ?_;refine zd ?_)))
 (repeat refine zc ?_);refine za ?_;refine zb (by simp (disch:=omega) only [go_sem] <;> rfl) ?_
 refine zH (by first | rfl | (simp only [go_sem] <;> rfl)) (by simp only [go_sem] <;> rfl) hOf ?_ ?_;(repeat (first | exact trivial | refine And.intro ?_ ?_ | exact .int _ _ | exact .bool _ | exact .list _ _ _ | exact .elem _ | exact .nilsl | exact .nil _ _ | exact .str _ | refine Frz.aggL ?_ | refine Frz.fnL ?_ | refine Frz.tupL ?_ | refine .iface ?_ | exact zn rfl rfl (by assumption)))
 refine zb (by simp (disch:=omega) only [go_sem] <;> rfl) ?_
 refine zd ?_
 (repeat (first | refine zc ?_ | (refine za ?_;refine zb (by simp (disch:=omega) only [go_sem] <;> rfl) ?_;refine zd ?_)))
 refine zD (by simp only [go_sem] <;> rfl) ?_ ?_
 ·intro _
  (repeat (first | refine zc ?_ | (refine za ?_;refine zb (by simp (disch:=omega) only [go_sem] <;> rfl) ?_;refine zd ?_)))
  refine zE ?_;(try simp only [zf,zi,zh,zg,zj]);refine zy (by simp only [T125,zI,go_sem] <;> rfl) ?_;simp only [zK]
  exact zjF
 ·intro h;cases h
theorem zl7 (p:Nat) (w:List Nat) (n:zo) (c:Nat) (hs:FN ET 125 [wv p w] (.ret (.tuple [zN 0 n,iv c]))):FN ET 85 [wv p w] (.ret (iv c)):=by
 refine zU f85 (Nat.le_of_ble_eq_true rfl) (.int _ _) ?_
 (repeat (first | refine zc ?_ | (refine za ?_;refine zb (by simp (disch:=omega) only [go_sem] <;> rfl) ?_;refine zd ?_)))
 (repeat refine zc ?_);refine za ?_;refine zb (by simp (disch:=omega) only [go_sem] <;> rfl) ?_
 refine zH (by first | rfl | (simp only [go_sem] <;> rfl)) (by simp only [go_sem] <;> rfl) hs ?_ ?_;(repeat (first | exact trivial | refine And.intro ?_ ?_ | exact .int _ _ | exact .bool _ | exact .list _ _ _ | exact .elem _ | exact .nilsl | exact .nil _ _ | exact .str _ | refine Frz.aggL ?_ | refine Frz.fnL ?_ | refine Frz.tupL ?_ | refine .iface ?_ | exact zn rfl rfl (by assumption)))
 refine zb (by simp (disch:=omega) only [go_sem] <;> rfl) ?_
 refine zd ?_
 (repeat (first | refine zc ?_ | (refine za ?_;refine zb (by simp (disch:=omega) only [go_sem] <;> rfl) ?_;refine zd ?_)))
 refine zE ?_;(try simp only [zf,zi,zh,zg,zj]);refine zy (by simp only [T85,zI,go_sem] <;> rfl) ?_;simp only [zK]
 exact Frz.int _ _
theorem zsr (w:List Nat) (h:zbG w=0):zfX w=.ret (.tuple [zN 0 (headN w),iv ((0:Nat):Int)]):=by unfold zfX;rw [if_pos h];rfl
theorem zsW (w:List Nat) (h:¬ zbG w=0):zfX w=.ret (.tuple [zN 0 zeD,iv (zbG w:Nat)]):=by unfold zfX;rw [if_neg h]
theorem zlq (p:Nat) (w:List Nat) (hw:zaI w.length):FN ET 85 [wv p w] (.ret (iv (zbG w:Nat))):=by
 have hs:=znW p w hw
 by_cases h0:zbG w=0
 ·rw [zsr w h0] at hs
  rw [h0]
  exact zl7 p w _ 0 hs
 ·rw [zsW w h0] at hs
  exact zl7 p w _ _ hs
theorem ztR:ET.funcs.get 106=some T106:=zJ (by kernel_rfl) (by decide)
def zbD (n:zo):Nat→List Nat
 | 0=>List.replicate 64 0
 | i + 1=>(zbD n i).set i (ziZ i n)
theorem zfe (n:zo):∀ i,(zbD n i).length=64
 | 0=>by simp [zbD]
 | i + 1=>by simp [zbD,zfe n i]
def zbY (n:zo):Nat→List Nat
 | 0=>zbD n 5
 | j + 1=>((zbY n j).set (8 + 2 * j) (n.pairs.getD j (0,0)).1).set (8 + 2 * j + 1) (n.pairs.getD j (0,0)).2
theorem zcs (n:zo):∀ j,(zbY n j).length=64
 | 0=>zfe n 5
 | j + 1=>by simp [zbY,zcs n j]
theorem zsw (p:Nat) (n:zo) (h1:n.level≤12) (h2:n.sib < 2048) (h3:n.way≤2) (hp:n.pairs.length≤28):FN ET 106 [zN p n] (.ret (wv 0 (zbY n n.pairs.length))):=by
 refine zU ztR (Nat.le_of_ble_eq_true rfl) (Lb.uvs _) ?_
 refine zc (za ?_)
 refine zb (by simp (disch:=omega) only [go_sem] <;> rfl) ?_
 refine zd ?_
 refine zc (za ?_)
 refine zb (by simp (disch:=omega) only [go_sem] <;> rfl) ?_
 refine zd ?_
 (repeat refine zc ?_);refine za ?_;refine zb (by simp (disch:=omega) only [go_sem] <;> rfl) ?_
 refine zH (by first | rfl | (simp only [go_sem] <;> rfl)) (by simp only [go_sem] <;> rfl) znq ?_ ?_;(repeat (first | exact trivial | refine And.intro ?_ ?_ | exact .int _ _ | exact .bool _ | exact .list _ _ _ | exact .elem _ | exact .nilsl | exact .nil _ _ | exact .str _ | refine Frz.aggL ?_ | refine Frz.fnL ?_ | refine Frz.tupL ?_ | refine .iface ?_ | exact zn rfl rfl (by assumption)))
 refine zb (by simp (disch:=omega) only [go_sem,zlZ] <;> rfl) ?_
 refine zd ?_
 refine zG (zav (fun m s=>∃ (i:Nat) (G:List zk),m=5 - i∧i≤5∧s.tm 1=.ptr 0 0 0 0 6∧s.tm 3=.sl 1 0 0 64 128 1∧s.tm 9=.list 0 3 ze7∧s.tm 10=iv 5∧s.tm 11=iv i∧s.df=[]∧s.H=.row 124 6 0 0 [zN p n]::.row 24 1 0 0 ((zbD n i).map uv)::G) (n:=5) ?_ ?_)
 ·exact ⟨0,[],rfl,by omega,by simp [upd,zB],by simp [upd],by simp [upd],by simp [upd],by simp [upd],rfl,by simp [zbD]⟩
 ·rintro m ⟨tm,df,H⟩ ⟨i,G,rfl,hi,t1,t3,t9,t10,t11,rfl,rfl⟩
  dsimp only at t1 t3 t9 t10 t11
  (try refine zY ?_);refine zc (za ?_);refine zb (by simp (disch:=omega) only [go_sem,t1,t3,t9,t10,t11] <;> rfl) ?_;refine zd ?_;refine zad (by simp only [go_sem] <;> rfl) ?_ ?_
  ·intro hlt
   have hlt:i < 5:=by have:=of_decide_eq_true hlt;omega
   obtain ⟨old,hold⟩:∃ old,(zbD n i)[i]?=some old:=⟨_,List.getElem?_eq_getElem (by rw [zfe];omega)⟩
   have hb:i < 64:=by omega
   (repeat refine zc ?_)
   refine zG ?_
   (repeat (first | refine zc ?_ | (refine za ?_;refine zb (by simp (disch:=omega) only [go_sem,t1,t3,t9,t11,zlE i hlt] <;> rfl) ?_;refine zd ?_)))
   refine za ?_
   refine zb (by simp (disch:=omega) only [go_sem,t1,t3,t9,t11] <;> rfl) ?_
   refine zH (by first | rfl | (simp only [go_sem] <;> rfl)) (by simp only [go_sem] <;> rfl) (ztm p n i (ziZ i n) hlt h1 h2 h3 rfl) ?_ ?_;(repeat (first | exact trivial | refine And.intro ?_ ?_ | exact .int _ _ | exact .bool _ | exact .list _ _ _ | exact .elem _ | exact .nilsl | exact .nil _ _ | exact .str _ | refine Frz.aggL ?_ | refine Frz.fnL ?_ | refine Frz.tupL ?_ | refine .iface ?_ | exact zn rfl rfl (by assumption)))
   refine zb (by simp (disch:=omega) only [go_sem,hold,hb,zfe] <;> rfl) ?_
   refine zC ?_;simp only [zf,zi,zh,zg,zu,zj,if_true,↓reduceIte]
   (repeat refine zc ?_);refine za ?_;refine zb (by simp (disch:=omega) only [go_sem,t11] <;> rfl) ?_
   refine zC ?_;simp only [zf,zi,zh,zg,zu,zj,if_true,↓reduceIte]
   refine ⟨_,?m,i + 1,?G,rfl,hlt,by simp [upd,t1],by simp [upd,t3],by simp [upd,t9],by simp [upd,t10],by simp [upd,t11],trivial,?H⟩
   case m=>omega
   case H=>rw [show zbD n (i + 1)=(zbD n i).set i (ziZ i n) from rfl,List.map_set]
  ·intro hlt
   have hlt:¬ i < 5:=by have:=of_decide_eq_false hlt;omega
   obtain rfl:i=5:=by omega
   simp only [zf,zi,zh,zg,zu,zj,if_true,reduceIte]
   (repeat (first | refine zc ?_ | (refine za ?_;refine zb (by simp (disch:=omega) only [go_sem,t1] <;> rfl) ?_;refine zd ?_)))
   refine zG (zav (fun m s=>∃ (j:Nat) (G:List zk),m=n.pairs.length - j∧j≤n.pairs.length∧s.tm 3=.sl 1 0 0 64 128 1∧s.tm 25=psv p n.pairs∧s.tm 26=iv n.pairs.length∧s.tm 27=iv j∧s.df=[]∧s.H=.row 124 6 0 0 [zN p n]::.row 24 1 0 0 ((zbY n j).map uv)::G) (n:=n.pairs.length) ?_ ?_)
   ·exact ⟨0,_,rfl,by omega,by simp [upd,t3],by simp [upd],by simp [upd],by simp [upd],rfl,rfl⟩
   ·clear t1 t3 t9 t10 t11
    rintro m ⟨tm,df,H⟩ ⟨j,G,rfl,hj,t3,t25,t26,t27,rfl,rfl⟩
    dsimp only at t3 t25 t26 t27
    (try refine zY ?_);refine zc (za ?_);refine zb (by simp (disch:=omega) only [go_sem,t3,t25,t26,t27] <;> rfl) ?_;refine zd ?_;refine zad (by simp only [go_sem] <;> rfl) ?_ ?_
    ·intro hlt
     have hlt:j < n.pairs.length:=by have:=of_decide_eq_true hlt;omega
     have hpj:n.pairs[j]?=some (n.pairs.getD j (0,0)):=by rw [List.getD_eq_getElem?_getD,List.getElem?_eq_getElem hlt];rfl
     obtain ⟨o1,ho1⟩:∃ old,(zbY n j)[8 + 2 * j]?=some old:=⟨_,List.getElem?_eq_getElem (by rw [zcs];omega)⟩
     obtain ⟨o2,ho2⟩:∃ old,((zbY n j).set (8 + 2 * j) (n.pairs.getD j (0,0)).1)[8 + 2 * j + 1]?=some old:=⟨_,List.getElem?_eq_getElem (by rw [List.length_set,zcs];omega)⟩
     have a1:(8 + 2 * (j:Int)).toNat=8 + 2 * j:=by omega
     have a2:(8 + 2 * (j:Int) + 1).toNat=8 + 2 * j + 1:=by omega
     have b1:(0:Int)≤8 + 2 * (j:Int):=by omega
     have b2:(0:Int)≤8 + 2 * (j:Int) + 1:=by omega
     have c1:8 + 2 * j < 64:=by omega
     have c2:8 + 2 * j + 1 < 64:=by omega
     generalize hq:n.pairs.getD j (0,0)=q at *
     (repeat refine zc ?_)
     refine zG ?_
     (repeat (first | refine zc ?_ | (refine za ?_;refine zb (by simp (disch:=omega) only [go_sem,t3,t25,t27,hpj] <;> rfl) ?_;refine zd ?_)))
     refine zaS ?_
     refine zbv (by first | exact trivial | simp only [go_sem,List.filter_cons,List.filter_nil,List.contains_cons,List.contains_nil,Bool.or_false,Nat.reduceBEq,zb4,zb3,zbJ,t3,a1,b1,c1,ho1]) (by simp (disch:=omega) only [go_sem,t3,a1,b1,c1,ho1] <;> rfl) rfl (by first | rfl | (simp only [go_sem] <;> rfl)) (by simp only [go_sem,t3,a1,b1,c1,ho1] <;> rfl) (by simp (disch:=omega) only [go_sem,t3,a1,b1,c1,ho1] <;> rfl) (by simp only [go_sem] <;> rfl) ?_
     refine zbv (by first | exact trivial | simp only [go_sem,List.filter_cons,List.filter_nil,List.contains_cons,List.contains_nil,Bool.or_false,Nat.reduceBEq,zb4,zb3,zbJ,t3,a2,b2,c2,← List.map_set,ho2]) (by simp (disch:=omega) only [go_sem,t3,a2,b2,c2,← List.map_set,ho2] <;> rfl) rfl (by first | rfl | (simp only [go_sem] <;> rfl)) (by simp only [go_sem,t3,a2,b2,c2,← List.map_set,ho2] <;> rfl) (by simp (disch:=omega) only [go_sem,t3,a2,b2,c2,← List.map_set,ho2] <;> rfl) (by simp only [go_sem] <;> rfl) ?_
     refine zX (by first | exact trivial | simp only [go_sem,t3]) (by simp (disch:=omega) only [go_sem,t3] <;> rfl) rfl ?_
     refine zaf ?_;simp only [zu,zab,zf,go_sem]
     simp only [zf,zi,zh,zg,zu,zj,if_true,reduceIte]
     (repeat refine zc ?_);refine za ?_;refine zb (by simp (disch:=omega) only [go_sem,t27] <;> rfl) ?_
     refine zC ?_;simp only [zf,zi,zh,zg,zu,zj,if_true,↓reduceIte]
     refine ⟨_,?m2,j + 1,?G2,rfl,hlt,by simp [upd,t3],by simp [upd,t25],by simp [upd,t26],by simp [upd,t27],trivial,?H2⟩
     case m2=>omega
     case H2=>rw [show zbY n (j + 1)=((zbY n j).set (8 + 2 * j) q.1).set (8 + 2 * j + 1) q.2 from by rw [← hq];rfl,List.map_set]
    ·intro hlt
     have hlt:¬ j < n.pairs.length:=by have:=of_decide_eq_false hlt;omega
     obtain rfl:j=n.pairs.length:=by omega
     simp only [zf,zi,zh,zg,zu,zj,if_true,reduceIte]
     (repeat (first | refine zc ?_ | (refine za ?_;refine zb (by simp (disch:=omega) only [go_sem,t3] <;> rfl) ?_;refine zd ?_)))
     refine zE ?_;(try simp only [zf,zi,zh,zg,zj]);refine zy (by simp only [T106,zI,go_sem] <;> rfl) ?_;simp only [zK]
     refine Frz.whole (l:=(zbY n n.pairs.length).map uv) rfl rfl (by simp [zcs]) (by simp [zcs]) (fun v hv=>?_) zli
     obtain ⟨x,_,rfl⟩:=List.mem_map.1 hv
     rfl
theorem zgN (k k':IntKind) (x y x' y':Int):zen [1,1] [.int k x,.int k' y] [.int k x',.int k' y']=some (decide (x=x') && decide (y=y')):=by
 by_cases h:x=x' <;> by_cases h2:y=y' <;> simp [zen,zkc,zdB,zcg,h,h2]
theorem zuS:ET.funcs.get 108=some T108:=zJ (by kernel_rfl) (by decide)
theorem zn9 (p q:Nat) (a b:List Pr) (ha:zaI a.length) (hb:zaI b.length):FN ET 108 [psv p a,psv q b] (.ret (.bool (decide (a=b)))):=by
 refine zU zuS (Nat.le_of_ble_eq_true rfl) (.bool _) ?_
 (repeat (first | refine zc ?_ | (refine za ?_;refine zb (by simp (disch:=omega) only [go_sem] <;> rfl) ?_;refine zd ?_)))
 by_cases hl:a.length=b.length
 rotate_left
 ·have g:¬ (a.length:Int)=b.length:=by omega
  have hne:¬ a=b:=fun h=>hl (by rw [h])
  refine zD (by simp only [go_sem] <;> rfl) ?_ ?_
  ·intro _
   (repeat (first | refine zc ?_ | (refine za ?_;refine zb (by simp (disch:=omega) only [go_sem] <;> rfl) ?_;refine zd ?_)))
   refine zE ?_;(try simp only [zf,zi,zh,zg,zj]);refine zy (by simp only [T108,zI,go_sem] <;> rfl) ?_;simp only [zK]
   exact zar.bool (decide_eq_false hne).symm
  ·intro h;simp [g] at h
 have g:(a.length:Int)=b.length:=by omega
 refine zD (by simp only [go_sem] <;> rfl) ?_ ?_
 ·intro h;simp [g] at h
 intro _
 refine zR ?_;show W _ _ _ _ _ _
 (repeat (first | refine zc ?_ | (refine za ?_;refine zb (by simp (disch:=omega) only [go_sem] <;> rfl) ?_;refine zd ?_)))
 refine zG (zav (fun m s=>∃ i:Nat,m=a.length - i∧i≤a.length∧decide (a=b)=decide (a.drop i=b.drop i)∧s.tm 0=psv p a∧s.tm 1=psv q b∧s.tm 12=iv a.length∧s.tm 13=iv i∧s.df=[]∧s.H=[]) (n:=a.length) ?_ ?_)
 ·exact ⟨0,by simp [upd,zB]⟩
 ·rintro m ⟨tm,df,H⟩ ⟨i,rfl,hi,hd,h0,h1,h12,h13,rfl,rfl⟩
  dsimp only at h0 h1 h12 h13
  (try refine zY ?_);refine zc (za ?_);refine zb (by simp (disch:=omega) only [go_sem,h0,h1,h12,h13] <;> rfl) ?_;refine zd ?_;refine zad (by simp only [go_sem] <;> rfl) ?_ ?_
  ·intro hlt
   have hlt:i < a.length:=by have:=of_decide_eq_true hlt;omega
   have hltb:i < b.length:=by omega
   (repeat refine zc ?_)
   refine zG ?_
   (repeat (first | refine zc ?_ | (refine za ?_;refine zb (by simp (disch:=omega) only [go_sem,h13] <;> rfl) ?_;refine zd ?_)))
   (repeat refine zc ?_)
   refine zaS ?_
   refine zX (by first | exact trivial | simp only [go_sem,h0,h1,h13,List.getElem?_eq_getElem hlt,List.getElem?_eq_getElem hltb,zgN]) (by simp (disch:=omega) only [go_sem,h0,h1,h13,List.getElem?_eq_getElem hlt,List.getElem?_eq_getElem hltb,zgN] <;> rfl) rfl ?_
   refine zaf ?_;simp only [zu,zab,zf,go_sem]
   have hda:a.drop i=a[i]::a.drop (i + 1):=List.drop_eq_getElem_cons hlt
   have hdb:b.drop i=b[i]::b.drop (i + 1):=List.drop_eq_getElem_cons hltb
   rw [hda,hdb] at hd
   have hee:(decide (((a[i].1:Nat):Int)=(b[i].1:Nat)) && decide (((a[i].2:Nat):Int)=(b[i].2:Nat)))=decide (a[i]=b[i]):=by
    rw [← Bool.decide_and]
    congr 1
    rw [Prod.ext_iff]
    simp only [Int.natCast_inj]
   rw [hee]
   by_cases hx:a[i]=b[i]
   ·refine zD (by simp only [go_sem] <;> rfl) ?_ ?_
    ·rw [decide_eq_true hx];intro h;cases h
    ·intro _
     refine zR ?_
     simp only [zf,zi,zh,zg,zu,zj,if_true,reduceIte]
     (repeat refine zc ?_);refine za ?_;refine zb (by simp (disch:=omega) only [go_sem,h13] <;> rfl) ?_
     refine zC ?_;simp only [zf,zi,zh,zg,zu,zj,if_true,↓reduceIte]
     refine ⟨_,?_,i + 1,rfl,hlt,?_,by simp [upd,h0],by simp [upd,h1],by simp [upd,h12],by simp [upd,h13],trivial,trivial⟩
     ·omega
     ·rw [hd];simp only [hx,List.cons.injEq,true_and]
   ·refine zD (by simp only [go_sem] <;> rfl) ?_ ?_
    ·intro _
     (repeat (first | refine zc ?_ | (refine za ?_;refine zb (by simp (disch:=omega) only [go_sem] <;> rfl) ?_;refine zd ?_)))
     refine zE ?_;(try simp only [zf,zi,zh,zg,zj]);refine zy (by simp only [T108,zI,go_sem] <;> rfl) ?_;simp only [zK]
     exact zar.bool (by rw [hd];simp only [List.cons.injEq,hx,false_and,decide_false,Bool.not_false])
    ·rw [decide_eq_false hx];intro h;cases h
  ·intro hlt
   have hlt:¬ i < a.length:=by have:=of_decide_eq_false hlt;omega
   obtain rfl:i=a.length:=by omega
   simp only [zf,zi,zh,zg,zu,zj,if_true,reduceIte]
   (repeat (first | refine zc ?_ | (refine za ?_;refine zb (by simp (disch:=omega) only [go_sem] <;> rfl) ?_;refine zd ?_)))
   refine zE ?_;(try simp only [zf,zi,zh,zg,zj]);refine zy (by simp only [T108,zI,go_sem] <;> rfl) ?_;simp only [zK]
   refine zar.bool ?_
   rw [hd,List.drop_length,hl,List.drop_length];rfl
theorem f69:ET.funcs.get 69=some T69:=zJ (by kernel_rfl) (by decide)
@[reducible] def zoC:FE:=.ret (.tuple [wv 0 [],iv 210])
theorem zeP {H:List zk} {k:Int}:Frz H 0 (.tuple [.nilsl,iv k]) (.tuple [wv 0 [],iv k]):=Frz.tupL ⟨.nil _ _,.int _ _,trivial⟩
theorem zqQ {H:List zk} {k:Int} {l:List Nat}:Frz H 0 (.tuple [wv 0 l,iv k]) (.tuple [wv 0 l,iv k]):=Frz.tupL ⟨.list _ _ _,.int _ _,trivial⟩
theorem zs6 (p:Nat) (n:zo) (h:¬ (n.level≤12∧n.sib < 2048∧n.way≤2∧n.pairs.length≤27)) (hs:zaI n.pairs.length):FN ET 69 [zN p n] zoC:=by
 refine zU f69 (Nat.le_of_ble_eq_true rfl) (Lb.two (Lb.uvs _) (.int _ _)) ?_
 (repeat (first | refine zc ?_ | (refine za ?_;refine zb (by simp (disch:=omega) only [go_sem] <;> rfl) ?_;refine zd ?_)))
 (repeat refine zc ?_)
 refine za ?_
 have g0:¬ (n.level:Int) < 0:=by omega
 have g1:¬ (n.sib:Int) < 0:=by omega
 have g2:¬ (n.way:Int) < 0:=by omega
 by_cases a1:n.level≤12
 rotate_left
 ·have b1:(12:Int) < n.level:=by omega
  refine zb (by simp (disch:=omega) only [go_sem,g0,b1] <;> rfl) ?_
  refine zd ?_
  refine zD (by simp only [go_sem] <;> rfl) ?_ ?_
  ·intro _
   (repeat (first | refine zc ?_ | (refine za ?_;refine zb (by simp (disch:=omega) only [go_sem] <;> rfl) ?_;refine zd ?_)))
   refine zE ?_;(try simp only [zf,zi,zh,zg,zj]);refine zy (by simp only [T69,zI,go_sem] <;> rfl) ?_;simp only [zK]
   exact zeP
  ·intro h;cases h
 have b1:¬ (12:Int) < n.level:=by omega
 by_cases a2:n.sib < 2048
 rotate_left
 ·have b2:(2048:Int)≤n.sib:=by omega
  refine zb (by simp (disch:=omega) only [go_sem,g0,b1,g1,b2] <;> rfl) ?_
  refine zd ?_
  refine zD (by simp only [go_sem] <;> rfl) ?_ ?_
  ·intro _
   (repeat (first | refine zc ?_ | (refine za ?_;refine zb (by simp (disch:=omega) only [go_sem] <;> rfl) ?_;refine zd ?_)))
   refine zE ?_;(try simp only [zf,zi,zh,zg,zj]);refine zy (by simp only [T69,zI,go_sem] <;> rfl) ?_;simp only [zK]
   exact zeP
  ·intro h;cases h
 have b2:¬ (2048:Int)≤n.sib:=by omega
 by_cases a3:n.way≤2
 rotate_left
 ·have b3:(2:Int) < n.way:=by omega
  refine zb (by simp (disch:=omega) only [go_sem,g0,b1,g1,b2,g2,b3] <;> rfl) ?_
  refine zd ?_
  refine zD (by simp only [go_sem] <;> rfl) ?_ ?_
  ·intro _
   (repeat (first | refine zc ?_ | (refine za ?_;refine zb (by simp (disch:=omega) only [go_sem] <;> rfl) ?_;refine zd ?_)))
   refine zE ?_;(try simp only [zf,zi,zh,zg,zj]);refine zy (by simp only [T69,zI,go_sem] <;> rfl) ?_;simp only [zK]
   exact zeP
  ·intro h;cases h
 have b3:¬ (2:Int) < n.way:=by omega
 have b4:(27:Int) < n.pairs.length:=by omega
 refine zb (by simp (disch:=omega) only [go_sem,g0,b1,g1,b2,g2,b3,b4] <;> rfl) ?_
 refine zd ?_
 refine zD (by simp only [go_sem] <;> rfl) ?_ ?_
 ·intro _
  (repeat (first | refine zc ?_ | (refine za ?_;refine zb (by simp (disch:=omega) only [go_sem] <;> rfl) ?_;refine zd ?_)))
  refine zE ?_;(try simp only [zf,zi,zh,zg,zj]);refine zy (by simp only [T69,zI,go_sem] <;> rfl) ?_;simp only [zK]
  exact zeP
 ·intro h;cases h
def zmw (ws:List Nat) (ok:Bool):FE:=if ok=true then .ret (.tuple [wv 0 ws,iv 0]) else zoC
theorem zrv (p:Nat) (n n':zo) (ws:List Nat) (c:Nat) (hlaid:FN ET 106 [zN p n] (.ret (wv 0 ws))) (hck:FN ET 85 [wv 0 ws] (.ret (iv (c:Nat)))) (hOf:c=0→FN ET 107 [wv 0 ws] (.ret (.tuple [zN 0 n',iv 0]))) (hl:n'.pairs.length≤28)
  (h:n.level≤12∧n.sib < 2048∧n.way≤2∧n.pairs.length≤27):FN ET 69 [zN p n] (zmw ws (decide (c=0) && decide (n'.pairs=n.pairs))):=by
 refine zU f69 (Nat.le_of_ble_eq_true rfl) ?_ ?_
 ·unfold zmw;split
  ·exact Lb.two (Lb.uvs _) (.int _ _)
  ·exact Lb.two (Lb.uvs _) (.int _ _)
 obtain ⟨a1,a2,a3,a4⟩:=h
 (repeat (first | refine zc ?_ | (refine za ?_;refine zb (by simp (disch:=omega) only [go_sem] <;> rfl) ?_;refine zd ?_)))
 (repeat refine zc ?_)
 refine za ?_
 have g0:¬ (n.level:Int) < 0:=by omega
 have g1:¬ (n.sib:Int) < 0:=by omega
 have g2:¬ (n.way:Int) < 0:=by omega
 have b1:¬ (12:Int) < n.level:=by omega
 have b2:¬ (2048:Int)≤n.sib:=by omega
 have b3:¬ (2:Int) < n.way:=by omega
 have b4:¬ (27:Int) < n.pairs.length:=by omega
 refine zb (by simp (disch:=omega) only [go_sem,g0,b1,g1,b2,g2,b3,b4] <;> rfl) ?_
 refine zd ?_
 refine zD (by simp only [go_sem] <;> rfl) ?_ ?_
 ·intro h;cases h
 intro _
 refine zR ?_;show W _ _ _ _ _ _
 (repeat refine zc ?_);refine za ?_;refine zb (by simp (disch:=omega) only [go_sem] <;> rfl) ?_
 refine zH (by first | rfl | (simp only [go_sem] <;> rfl)) (by simp only [go_sem] <;> rfl) hlaid ?_ ?_;(repeat (first | exact trivial | refine And.intro ?_ ?_ | exact .int _ _ | exact .bool _ | exact .list _ _ _ | exact .elem _ | exact .nilsl | exact .nil _ _ | exact .str _ | refine Frz.aggL ?_ | refine Frz.fnL ?_ | refine Frz.tupL ?_ | refine .iface ?_ | exact zn rfl rfl (by assumption)))
 refine zb (by simp (disch:=omega) only [go_sem] <;> rfl) ?_
 refine zd ?_
 (repeat refine zc ?_);refine za ?_;refine zb (by simp (disch:=omega) only [go_sem] <;> rfl) ?_
 refine zH (by first | rfl | (simp only [go_sem] <;> rfl)) (by simp only [go_sem] <;> rfl) hck ?_ ?_;(repeat (first | exact trivial | refine And.intro ?_ ?_ | exact .int _ _ | exact .bool _ | exact .list _ _ _ | exact .elem _ | exact .nilsl | exact .nil _ _ | exact .str _ | refine Frz.aggL ?_ | refine Frz.fnL ?_ | refine Frz.tupL ?_ | refine .iface ?_ | exact zn rfl rfl (by assumption)))
 by_cases h0:c=0
 rotate_left
 ·have g:¬ (c:Int)=0:=by omega
  refine zb (by simp (disch:=omega) only [go_sem,g] <;> rfl) ?_
  refine zd ?_
  refine zD (by simp only [go_sem] <;> rfl) ?_ ?_
  ·intro _
   (repeat (first | refine zc ?_ | (refine za ?_;refine zb (by simp (disch:=omega) only [go_sem] <;> rfl) ?_;refine zd ?_)))
   refine zE ?_;(try simp only [zf,zi,zh,zg,zj]);refine zy (by simp only [T69,zI,go_sem] <;> rfl) ?_;simp only [zK]
   rw [decide_eq_false h0]
   exact zeP
  ·intro h;cases h
 subst h0
 refine zb (by simp (disch:=omega) only [go_sem] <;> rfl) ?_
 refine zd ?_
 refine zD (by simp only [go_sem] <;> rfl) ?_ ?_
 ·intro h;cases h
 intro _
 refine zR ?_;show W _ _ _ _ _ _
 (repeat refine zc ?_);refine za ?_;refine zb (by simp (disch:=omega) only [go_sem] <;> rfl) ?_
 refine zH (by first | rfl | (simp only [go_sem] <;> rfl)) (by simp only [go_sem] <;> rfl) (hOf rfl) ?_ ?_;(repeat (first | exact trivial | refine And.intro ?_ ?_ | exact .int _ _ | exact .bool _ | exact .list _ _ _ | exact .elem _ | exact .nilsl | exact .nil _ _ | exact .str _ | refine Frz.aggL ?_ | refine Frz.fnL ?_ | refine Frz.tupL ?_ | refine .iface ?_ | exact zn rfl rfl (by assumption)))
 refine zb (by simp (disch:=omega) only [go_sem] <;> rfl) ?_
 refine zd ?_
 (repeat refine zc ?_);refine za ?_;refine zb (by simp (disch:=omega) only [go_sem] <;> rfl) ?_
 refine zH (by first | rfl | (simp only [go_sem] <;> rfl)) (by simp only [go_sem] <;> rfl) (zn9 0 p n'.pairs n.pairs (by omega) (by omega)) ?_ ?_;(repeat (first | exact trivial | refine And.intro ?_ ?_ | exact .int _ _ | exact .bool _ | exact .list _ _ _ | exact .elem _ | exact .nilsl | exact .nil _ _ | exact .str _ | refine Frz.aggL ?_ | refine Frz.fnL ?_ | refine Frz.tupL ?_ | refine .iface ?_ | exact zn rfl rfl (by assumption)))
 refine zb (by simp (disch:=omega) only [go_sem] <;> rfl) ?_
 refine zd ?_
 by_cases h1:n'.pairs=n.pairs
 ·rw [decide_eq_true h1]
  refine zD (by simp only [go_sem] <;> rfl) ?_ ?_
  ·intro h;cases h
  intro _
  refine zR ?_;show W _ _ _ _ _ _
  (repeat (first | refine zc ?_ | (refine za ?_;refine zb (by simp (disch:=omega) only [go_sem] <;> rfl) ?_;refine zd ?_)))
  refine zE ?_;(try simp only [zf,zi,zh,zg,zj]);refine zy (by simp only [T69,zI,go_sem] <;> rfl) ?_;simp only [zK]
  exact zqQ
 ·rw [decide_eq_false h1]
  refine zD (by simp only [go_sem] <;> rfl) ?_ ?_
  ·intro _
   (repeat (first | refine zc ?_ | (refine za ?_;refine zb (by simp (disch:=omega) only [go_sem] <;> rfl) ?_;refine zd ?_)))
   refine zE ?_;(try simp only [zf,zi,zh,zg,zj]);refine zy (by simp only [T69,zI,go_sem] <;> rfl) ?_;simp only [zK]
   exact zeP
  ·intro h;cases h
def zbp (n:zo):List Nat:=zbY n n.pairs.length
def zjZ (n:zo):Bool:=decide (n.level≤12) && decide (n.sib < 2048) && decide (n.way≤2) && decide (n.pairs.length≤27)
def zhV (n:zo):Bool:=zjZ n && (decide (zbG (zbp n)=0) && decide ((headN (zbp n)).pairs=n.pairs))
theorem zis (n:zo):zjZ n=true↔(n.level≤12∧n.sib < 2048∧n.way≤2∧n.pairs.length≤27):=by
 unfold zjZ;simp only [Bool.and_eq_true,decide_eq_true_eq,and_assoc]
theorem zje {w:List Nat} (h:zbG w=0):headB w=true:=by
 unfold zbG at h
 by_cases hh:headB w=true
 ·exact hh
 ·rw [if_neg hh] at h;cases h
theorem zsO (p:Nat) (n:zo) (hs:zaI n.pairs.length):FN ET 69 [zN p n] (zmw (zbp n) (zhV n)):=by
 by_cases hf:zjZ n=true
 ·have h:=(zis n).1 hf
  have hsm:zaI (zbp n).length:=by unfold zbp;rw [zcs];decide
  have k:=zrv p n (headN (zbp n)) (zbp n) (zbG (zbp n)) (zsw p n h.1 h.2.1 h.2.2.1 (by omega)) (zlq 0 _ hsm)
   (fun h0=>by have:=zpn 0 (zbp n) hsm;rw [zju _ (zje h0)] at this;exact this) (zej _ _) h
  have:zhV n=(decide (zbG (zbp n)=0) && decide ((headN (zbp n)).pairs=n.pairs)):=by unfold zhV;rw [hf,Bool.true_and]
  rw [this]
  exact k
 ·have h:¬ (n.level≤12∧n.sib < 2048∧n.way≤2∧n.pairs.length≤27):=fun h=>hf ((zis n).2 h)
  have hf:zjZ n=false:=by simpa using hf
  have:zhV n=false:=by unfold zhV;rw [hf,Bool.false_and]
  rw [this]
  exact zs6 p n h hs
def zP (k:Nat) (l:List Pr):List (List Pr):=(List.range ((l.length + (k - 1)) / k)).map fun i=>(l.drop (k * i)).take k
theorem zb1 (k:Nat) (l:List Pr):(zP k l).length=(l.length + (k - 1)) / k:=by simp [zP]
theorem zf1 (k:Nat) (l:List Pr) (i:Nat) (h:i < (zP k l).length):(zP k l)[i]?=some ((l.drop (k * i)).take k):=by
 have:=zb1 k l
 simp [zP,List.getElem?_range (show i < (l.length + (k - 1)) / k by omega)]
theorem zc1 (f:Nat) (a b:List PV):Id0 (.fn f [.elem a,.elem b]):=.fn fun x hx=>by simp at hx;rcases hx with rfl | rfl <;> exact .elem _
@[reducible] def cv (x:Pr):PV:=.agg [uv x.1,iv x.2]
@[reducible] def csv (p:Nat) (l:List Pr):PV:=.list p 2 (l.map cv)
theorem zun:ET.funcs.get 197=some T197:=zJ (by kernel_rfl) (by decide)
theorem zuf:ET.funcs.get 160=some T160:=zJ (by kernel_rfl) (by decide)
theorem zu1:ET.funcs.get 196=some T196:=zJ (by kernel_rfl) (by decide)
theorem zus:ET.funcs.get 159=some T159:=zJ (by kernel_rfl) (by decide)
theorem zuK:ET.funcs.get 105=some T105:=zJ (by kernel_rfl) (by decide)
theorem zn7 (id p:Nat) (l:List Pr) (hl:zaI l.length) (P:Nat→List zk)
  (hy:∀ (i:Nat) (x:List Pr),(zP 18 l)[i]?=some x→FY ET id [psv p x] (P i) fun r H'=>r=true∧H'=P (i + 1)) :
  FO ET 197 [.yield id,.elem [psv p l],.elem [iv 18]] (P 0) false fun e H'=>e=.ret (.tuple [])∧H'=P (zP 18 l).length:=by
 refine zcS zun (Nat.le_of_ble_eq_true rfl) ?_
 have hlen:(zP 18 l).length=(l.length + (18 - 1)) / 18:=zb1 _ _
 (repeat (first | refine zc ?_ | (refine za ?_;refine zb (by simp (disch:=omega) only [go_sem] <;> rfl) ?_;refine zd ?_)))
 refine zG (zav (fun m s=>∃ i:Nat,m=l.length - 18 * i∧i≤(zP 18 l).length∧s.tm 0=.yield id∧s.tm 1=.elem [psv p l]∧s.tm 2=.elem [iv 18]∧s.tm 4=iv (18 * i:Nat)∧s.df=[]∧s.H=P i) (n:=l.length) ?_ ?_)
 ·exact ⟨0,by simp [upd,zB]⟩
 ·rintro m ⟨tm,df,H⟩ ⟨i,rfl,hi,h0,h1,h2,h4,rfl,rfl⟩
  dsimp only at h0 h1 h2 h4
  (try refine zY ?_);refine zc (za ?_);refine zb (by simp (disch:=omega) only [go_sem,h0,h1,h2,h4] <;> rfl) ?_;refine zd ?_;refine zad (by simp only [go_sem] <;> rfl) ?_ ?_
  ·intro hlt
   have hlt:18 * i < l.length:=by have:=of_decide_eq_true hlt;omega
   have hic:i < (zP 18 l).length:=by omega
   (repeat refine zc ?_)
   refine zG ?_
   (repeat refine zc ?_)
   refine zaS ?_
   have a1:(((18 * i:Nat):Int)).toNat=18 * i:=by omega
   have a2:min (18:Int) ((l.length - 18 * i:Nat):Int)=((min 18 (l.length - 18 * i):Nat):Int):=by omega
   have a3:(0:Int)≤((18 * i:Nat):Int):=by omega
   have a4:18 * i≤l.length:=by omega
   refine zX (by first | exact trivial | simp only [go_sem,h1,h2,h4,a1,a2,a3,a4,List.length_drop]) (by simp (disch:=omega) only [go_sem,h1,h2,h4,a1,a2,a3,a4,List.length_drop] <;> rfl) rfl ?_
   refine zaf ?_;simp only [zu,zab,zf,go_sem]
   obtain ⟨n,hn⟩:∃ n,n=min 18 (l.length - 18 * i):=⟨_,rfl⟩
   rw [← hn]
   have b1:((18 * i:Nat):Int) + (n:Nat)=((18 * i + n:Nat):Int):=by omega
   have b2:18 * i + n≤l.length:=by omega
   have b3:18 * i≤18 * i + n:=by omega
   have b4:0 < l.length:=by omega
   have b5:((18 * i:Nat):Int) + 18=((18 * (i + 1):Nat):Int):=by omega
   have c1:List.drop (18 * i) (List.take (18 * i + n) (List.map pv l))=((l.drop (18 * i)).take 18).map pv:=by
    rw [List.map_take,List.map_drop,List.drop_take,Nat.add_sub_cancel_left,hn]
    rw [← (show (l.map pv).length=l.length from List.length_map ..),← List.length_drop,List.take_eq_take_min (i:=18)]
   (repeat refine zc ?_)
   refine za ?_
   refine zb (by simp (disch:=omega) only [go_sem,h0,h1,h2,h4,b1,b2,b3,b4,c1] <;> rfl) ?_
   refine znd (id:=id) (vs:=[psv p ((l.drop (18 * i)).take 18)]) rfl (by simp only [go_sem,h0]) (FY.mono (hy i _ (zf1 _ _ _ hic)) fun r H' hh=>?_)
   obtain ⟨rfl,rfl⟩:=hh
   refine zb (by simp (disch:=omega) only [go_sem] <;> rfl) ?_
   refine zd ?_
   refine zD (by simp only [go_sem] <;> rfl) ?_ ?_
   ·intro h;cases h
   intro _
   refine zR ?_
   simp only [zf,zi,zh,zg,zu,zj,if_true,reduceIte]
   (repeat refine zc ?_);refine za ?_;refine zb (by simp (disch:=omega) only [go_sem,h2,h4,b5] <;> rfl) ?_
   refine zC ?_;simp only [zf,zi,zh,zg,zu,zj,if_true,↓reduceIte]
   refine ⟨_,?_,i + 1,rfl,by omega,by simp [upd,h0],by simp [upd,h1],by simp [upd,h2],by simp [upd],trivial,rfl⟩
   omega
  ·intro hlt
   have hlt:¬ 18 * i < l.length:=by have:=of_decide_eq_false hlt;omega
   have hic:i=(zP 18 l).length:=by omega
   simp only [zf,zi,zh,zg,zu,zj,if_true,reduceIte]
   refine zdI rfl ⟨rfl,by rw [hic]⟩
theorem zry (p:Nat) (l:List Pr):FP ET 160 [psv p l,iv 18] (.ret (.fn 197 [.elem [psv p l],.elem [iv 18]])):=by
 refine zdU zuf (Nat.le_of_ble_eq_true rfl) ?_
 (repeat (first | refine zc ?_ | (refine za ?_;refine zb (by simp (disch:=omega) only [go_sem] <;> rfl) ?_;refine zd ?_)))
 refine zD (by simp only [go_sem] <;> rfl) ?_ ?_
 ·intro h;cases h
 intro _
 refine zR ?_;show W _ _ _ _ _ _
 (repeat (first | refine zc ?_ | (refine za ?_;refine zb (by simp (disch:=omega) only [go_sem] <;> rfl) ?_;refine zd ?_)))
 refine zE ?_;(try simp only [zf,zi,zh,zg,zj]);refine zy (by simp only [T160,zI,go_sem] <;> rfl) ?_;simp only [zK]
 refine Frz.fnL ⟨.ptr (w:=psv p l) rfl (Nat.le_refl _) rfl fun j x y hx hy=>?_,.ptr (w:=iv 18) rfl (Nat.le_refl _) rfl fun j x y hx hy=>?_,trivial⟩
 ·cases j with
  | zero=>simp [PV.cells] at hx hy;subst hx;subst hy;exact Frz.list _ _ _
  | succ j=>simp at hy
 ·cases j with
  | zero=>simp [PV.cells] at hx hy;subst hx;subst hy;exact Frz.int _ _
  | succ j=>simp at hy
def zk2:zah:=.region [⟨some 5,.mov,[.tmp 7],none⟩]
def zlg:zah:=.block 1 (.region [⟨some 8,.load false 1,[.tmp 2],none⟩,⟨some 9,.mov,[.tmp 5],none⟩,⟨some 10,.bslice 41 1 1 [.nilsl] [(0,1)],[.tmp 9],none⟩,⟨some 11,.append 41 1 24,[.tmp 8,.tmp 10],none⟩,⟨none,.store 1,[.tmp 2,.tmp 11],none⟩])
def zdM (p:Nat) (tm:Nat→PV) (C:List (List Pr)) (k:Nat):List zk:=[.row 181 1 0 0 [.sl 1 k 0 k (2 * k) 1],.row 41 1 k 0 ((C.take k).map (psv p)),.dfr false,.loop .ready .norm tm [7] zk2 zlg 2]
theorem zov {p:Nat} {C:List (List Pr)}:∀ v∈(C.map (psv p)).flatMap PV.cells,Id0 v:=fun v hv=>by
 obtain ⟨x,hx,hv⟩:=List.mem_flatMap.1 hv
 obtain ⟨n,_,rfl⟩:=List.mem_map.1 hx
 simp [PV.cells] at hv;subst hv;exact .list _ _ _
theorem zpO {p:Nat} {tm:Nat→PV} {C:List (List Pr)} (hnr:∀ i,tm i=.bad∨NR 4 (tm i)) (k i:Nat) (o:zk) (ho:(zdM p tm C k)[i]?=some o):NRO 4 o:=by
 match i with
 | 0=>injection ho with ho;subst ho;intro x hx;simp [PV.cells] at hx;subst hx;exact .sl _ _ _ _ _ (by omega)
 | 1=>injection ho with ho;subst ho;exact zkR zov
 | 2=>injection ho with ho;subst ho;trivial
 | 3=>injection ho with ho;subst ho;exact ⟨by omega,hnr,trivial⟩
 | i + 4=>simp [zdM] at ho
theorem zoe (p:Nat) (tm:Nat→PV) (h2:tm 2=.ptr 0 0 0 0 1) (hnr:∀ i,tm i=.bad∨NR 4 (tm i)) (C:List (List Pr)) (k:Nat) (x:List Pr) (hx:C[k]?=some x) (hC:C.length < 1000000) :
  FY ET 3 [psv p x] (zdM p tm C k) fun r H'=>r=true∧H'=zdM p tm C (k + 1):=by
 have hk:k < C.length:=(List.getElem?_eq_some_iff.1 hx).1
 have hlt:(C.take k).length=k:=by simp;omega
 refine FY.gc (zjy (tm:=tm) (ps:=[7]) (aS:=zk2) (bo:=zlg) rfl rfl ?_)
 refine za ?_
 refine zb (by simp (disch:=omega) only [go_sem,h2,zdM] <;> rfl) ?_
 refine zC ?_
 refine ⟨rfl,_,_,_,_,_,_,rfl,?_⟩
 refine zG (za ?_)
 have hb:(k + 1) * 25≤140737488355328:=by omega
 refine zb (by simp (disch:=omega) only [go_sem,h2,hlt,hb] <;> rfl) ?_
 refine zC ?_;simp only [zf,zi,zh,zg,zu,zj,if_true,↓reduceIte]
 have htk:(C.take k).map (psv p)++[psv p x]=(C.take (k + 1)).map (psv p):=by
  rw [List.take_add_one,hx];simp
 rw [htk]
 exact ⟨rfl,.busy,.norm,tm,[7],zk2,zlg,2,rfl,zdM p tm C (k + 1),[zk.row 41 1 0 0 [psv p x]],⟨rfl,rfl,fun id o ho=>.inr (zpO hnr (k + 1) id o ho)⟩,rfl,rfl⟩
theorem zqg (p:Nat) (l:List Pr) (hl:l.length < 1000000):FP ET 196 [.nilsl,.fn 197 [.elem [psv p l],.elem [iv 18]]] (.ret (.list 0 1 ((zP 18 l).map (psv p)))):=by
 refine zdU zu1 (Nat.le_of_ble_eq_true rfl) ?_
 (repeat (first | refine zc ?_ | (refine za ?_;refine zb (by simp (disch:=omega) only [go_sem] <;> rfl) ?_;refine zd ?_)))
 refine zG ?_
 refine zfc 41 1 (id:=0) rfl ?_
 simp only [lzy,List.length_cons,List.length_nil,List.set_cons_zero,List.cons_append,List.nil_append]
 refine zjK (g:=197) (cap:=[.elem [psv p l],.elem [iv 18]]) (b:=false) (by simp only [go_sem]) ?_
 have hlen:=zb1 18 l
 have hnr:∀ i,(upd (upd (upd (zB [.nilsl,.fn 197 [.elem [psv p l],.elem [iv 18]]]) 2 (PV.ptr 0 0 0 0 1)) 4 .nilsl) 6 (.fn 197 [.elem [psv p l],.elem [iv 18]])) i=.bad∨NR 4 ((upd (upd (upd (zB [.nilsl,.fn 197 [.elem [psv p l],.elem [iv 18]]]) 2 (PV.ptr 0 0 0 0 1)) 4 .nilsl) 6 (.fn 197 [.elem [psv p l],.elem [iv 18]])) i) :=
  zd3 (zd3 (zd3 (zk7 fun v hv=>by simp at hv;rcases hv with rfl | rfl;exact .nilsl;exact (zc1 _ _ _).nr) (.ptr _ _ _ _ (by omega))) .nilsl) (zc1 _ _ _).nr
 have hP:=zn7 3 p l (by omega) (zdM p _ (zP 18 l)) fun k x hk=>zoe p _ rfl hnr (zP 18 l) k x hk (by omega)
 refine FO.mono (fun e H' he=>?_) hP
 obtain ⟨rfl,rfl⟩:=he
 refine ⟨⟨_,rfl⟩,.ready,.norm,_,_,_,_,_,by simp,rfl,?_⟩
 simp only [zf,zi,zh,zg,zu,zj,if_true,reduceIte]
 refine zc (za ?_)
 refine zb (by simp (disch:=omega) only [go_sem,zdM] <;> rfl) ?_
 refine zd ?_
 refine zE ?_
 refine zjO (vs:=[.sl 1 (zP 18 l).length 0 (zP 18 l).length (2 * (zP 18 l).length) 1]) rfl rfl ?_
 refine Frz.whole (e:=41) (z':=1) (G:=(zP 18 l).length) (l:=(zP 18 l).map (psv p)) ?_ rfl (by simp) (by simp) (fun v hv=>?_) zov
 ·simp [zdM]
 ·obtain ⟨x,_,rfl⟩:=List.mem_map.1 hv;rfl
theorem zme (p:Nat) (l:List Pr) (hl:l.length < 1000000):FP ET 159 [.fn 197 [.elem [psv p l],.elem [iv 18]]] (.ret (.list 0 1 ((zP 18 l).map (psv p)))):=by
 refine zdU zus (Nat.le_of_ble_eq_true rfl) ?_
 (repeat (first | refine zc ?_ | (refine za ?_;refine zb (by simp (disch:=omega) only [go_sem] <;> rfl) ?_;refine zd ?_)))
 (repeat refine zc ?_);refine za ?_;refine zb (by simp (disch:=omega) only [go_sem] <;> rfl) ?_
 refine zch (by first | rfl | (simp only [go_sem] <;> rfl)) (by simp only [go_sem] <;> rfl) (zqg p l hl) rfl ?_ ?_;(repeat (first | exact trivial | refine And.intro ?_ ?_ | exact Id0.int _ _ | exact Id0.bool _ | exact Id0.list _ _ _ | exact Id0.elem _ | exact Id0.nilsl | exact Id0.str _ | exact zc1 _ _ _))
 refine zb (by simp (disch:=omega) only [go_sem] <;> rfl) ?_
 refine zd ?_
 refine zE ?_;(try simp only [zf,zi,zh,zg,zj]);refine zy (by simp only [T159,zI,go_sem] <;> rfl) ?_;simp only [zK]
 exact Frz.list _ _ _
theorem zp6 (p:Nat) (l:List Pr) (hl:l.length < 1000000):FP ET 105 [psv p l,iv 18] (.ret (.list 0 1 ((zP 18 l).map (psv p)))):=by
 refine zdU zuK (Nat.le_of_ble_eq_true rfl) ?_
 (repeat (first | refine zc ?_ | (refine za ?_;refine zb (by simp (disch:=omega) only [go_sem] <;> rfl) ?_;refine zd ?_)))
 (repeat refine zc ?_);refine za ?_;refine zb (by simp (disch:=omega) only [go_sem] <;> rfl) ?_
 refine zch (by first | rfl | (simp only [go_sem] <;> rfl)) (by simp only [go_sem] <;> rfl) (zry p l) rfl ?_ ?_;(repeat (first | exact trivial | refine And.intro ?_ ?_ | exact Id0.int _ _ | exact Id0.bool _ | exact Id0.list _ _ _ | exact Id0.elem _ | exact Id0.nilsl | exact Id0.str _ | exact zc1 _ _ _))
 refine zb (by simp (disch:=omega) only [go_sem] <;> rfl) ?_
 refine zch (by first | rfl | (simp only [go_sem] <;> rfl)) (by simp only [go_sem] <;> rfl) (zme p l hl) rfl ?_ ?_;(repeat (first | exact trivial | refine And.intro ?_ ?_ | exact Id0.int _ _ | exact Id0.bool _ | exact Id0.list _ _ _ | exact Id0.elem _ | exact Id0.nilsl | exact Id0.str _ | exact zc1 _ _ _))
 refine zb (by simp (disch:=omega) only [go_sem] <;> rfl) ?_
 refine zd ?_
 refine zE ?_;(try simp only [zf,zi,zh,zg,zj]);refine zy (by simp only [T105,zI,go_sem] <;> rfl) ?_;simp only [zK]
 exact Frz.list _ _ _
theorem zuR:ET.funcs.get 217=some T217:=zJ (by kernel_rfl) (by decide)
theorem zuM:ET.funcs.get 166=some T166:=zJ (by kernel_rfl) (by decide)
theorem zuo:ET.funcs.get 216=some T216:=zJ (by kernel_rfl) (by decide)
theorem zub:ET.funcs.get 165=some T165:=zJ (by kernel_rfl) (by decide)
theorem zt9:ET.funcs.get 109=some T109:=zJ (by kernel_rfl) (by decide)
theorem zn8 (id p:Nat) (l:List Pr) (hl:zaI l.length) (P:Nat→List zk)
  (hy:∀ (i:Nat) (x:List Pr),(zP 19 l)[i]?=some x→FY ET id [csv p x] (P i) fun r H'=>r=true∧H'=P (i + 1)) :
  FO ET 217 [.yield id,.elem [csv p l],.elem [iv 19]] (P 0) false fun e H'=>e=.ret (.tuple [])∧H'=P (zP 19 l).length:=by
 refine zcS zuR (Nat.le_of_ble_eq_true rfl) ?_
 have hlen:(zP 19 l).length=(l.length + (19 - 1)) / 19:=zb1 _ _
 (repeat (first | refine zc ?_ | (refine za ?_;refine zb (by simp (disch:=omega) only [go_sem] <;> rfl) ?_;refine zd ?_)))
 refine zG (zav (fun m s=>∃ i:Nat,m=l.length - 19 * i∧i≤(zP 19 l).length∧s.tm 0=.yield id∧s.tm 1=.elem [csv p l]∧s.tm 2=.elem [iv 19]∧s.tm 4=iv (19 * i:Nat)∧s.df=[]∧s.H=P i) (n:=l.length) ?_ ?_)
 ·exact ⟨0,by simp [upd,zB]⟩
 ·rintro m ⟨tm,df,H⟩ ⟨i,rfl,hi,h0,h1,h2,h4,rfl,rfl⟩
  dsimp only at h0 h1 h2 h4
  (try refine zY ?_);refine zc (za ?_);refine zb (by simp (disch:=omega) only [go_sem,h0,h1,h2,h4] <;> rfl) ?_;refine zd ?_;refine zad (by simp only [go_sem] <;> rfl) ?_ ?_
  ·intro hlt
   have hlt:19 * i < l.length:=by have:=of_decide_eq_true hlt;omega
   have hic:i < (zP 19 l).length:=by omega
   (repeat refine zc ?_)
   refine zG ?_
   (repeat refine zc ?_)
   refine zaS ?_
   have a1:(((19 * i:Nat):Int)).toNat=19 * i:=by omega
   have a2:min (19:Int) ((l.length - 19 * i:Nat):Int)=((min 19 (l.length - 19 * i):Nat):Int):=by omega
   have a3:(0:Int)≤((19 * i:Nat):Int):=by omega
   have a4:19 * i≤l.length:=by omega
   refine zX (by first | exact trivial | simp only [go_sem,h1,h2,h4,a1,a2,a3,a4,List.length_drop]) (by simp (disch:=omega) only [go_sem,h1,h2,h4,a1,a2,a3,a4,List.length_drop] <;> rfl) rfl ?_
   refine zaf ?_;simp only [zu,zab,zf,go_sem]
   obtain ⟨n,hn⟩:∃ n,n=min 19 (l.length - 19 * i):=⟨_,rfl⟩
   rw [← hn]
   have b1:((19 * i:Nat):Int) + (n:Nat)=((19 * i + n:Nat):Int):=by omega
   have b2:19 * i + n≤l.length:=by omega
   have b3:19 * i≤19 * i + n:=by omega
   have b4:0 < l.length:=by omega
   have b5:((19 * i:Nat):Int) + 19=((19 * (i + 1):Nat):Int):=by omega
   have c1:List.drop (19 * i) (List.take (19 * i + n) (List.map cv l))=((l.drop (19 * i)).take 19).map cv:=by
    rw [List.map_take,List.map_drop,List.drop_take,Nat.add_sub_cancel_left,hn]
    rw [← (show (l.map cv).length=l.length from List.length_map ..),← List.length_drop,List.take_eq_take_min (i:=19)]
   (repeat refine zc ?_)
   refine za ?_
   refine zb (by simp (disch:=omega) only [go_sem,h0,h1,h2,h4,b1,b2,b3,b4,c1] <;> rfl) ?_
   refine znd (id:=id) (vs:=[csv p ((l.drop (19 * i)).take 19)]) rfl (by simp only [go_sem,h0]) (FY.mono (hy i _ (zf1 _ _ _ hic)) fun r H' hh=>?_)
   obtain ⟨rfl,rfl⟩:=hh
   refine zb (by simp (disch:=omega) only [go_sem] <;> rfl) ?_
   refine zd ?_
   refine zD (by simp only [go_sem] <;> rfl) ?_ ?_
   ·intro h;cases h
   intro _
   refine zR ?_
   simp only [zf,zi,zh,zg,zu,zj,if_true,reduceIte]
   (repeat refine zc ?_);refine za ?_;refine zb (by simp (disch:=omega) only [go_sem,h2,h4,b5] <;> rfl) ?_
   refine zC ?_;simp only [zf,zi,zh,zg,zu,zj,if_true,↓reduceIte]
   refine ⟨_,?_,i + 1,rfl,by omega,by simp [upd,h0],by simp [upd,h1],by simp [upd,h2],by simp [upd],trivial,rfl⟩
   omega
  ·intro hlt
   have hlt:¬ 19 * i < l.length:=by have:=of_decide_eq_false hlt;omega
   have hic:i=(zP 19 l).length:=by omega
   simp only [zf,zi,zh,zg,zu,zj,if_true,reduceIte]
   refine zdI rfl ⟨rfl,by rw [hic]⟩
theorem zrp (p:Nat) (l:List Pr):FP ET 166 [csv p l,iv 19] (.ret (.fn 217 [.elem [csv p l],.elem [iv 19]])):=by
 refine zdU zuM (Nat.le_of_ble_eq_true rfl) ?_
 (repeat (first | refine zc ?_ | (refine za ?_;refine zb (by simp (disch:=omega) only [go_sem] <;> rfl) ?_;refine zd ?_)))
 refine zD (by simp only [go_sem] <;> rfl) ?_ ?_
 ·intro h;cases h
 intro _
 refine zR ?_;show W _ _ _ _ _ _
 (repeat (first | refine zc ?_ | (refine za ?_;refine zb (by simp (disch:=omega) only [go_sem] <;> rfl) ?_;refine zd ?_)))
 refine zE ?_;(try simp only [zf,zi,zh,zg,zj]);refine zy (by simp only [T166,zI,go_sem] <;> rfl) ?_;simp only [zK]
 refine Frz.fnL ⟨.ptr (w:=csv p l) rfl (Nat.le_refl _) rfl fun j x y hx hy=>?_,.ptr (w:=iv 19) rfl (Nat.le_refl _) rfl fun j x y hx hy=>?_,trivial⟩
 ·cases j with
  | zero=>simp [PV.cells] at hx hy;subst hx;subst hy;exact Frz.list _ _ _
  | succ j=>simp at hy
 ·cases j with
  | zero=>simp [PV.cells] at hx hy;subst hx;subst hy;exact Frz.int _ _
  | succ j=>simp at hy
def zk0:zah:=.region [⟨some 5,.mov,[.tmp 7],none⟩]
def zkQ:zah:=.block 1 (.region [⟨some 8,.load false 1,[.tmp 2],none⟩,⟨some 9,.mov,[.tmp 5],none⟩,⟨some 10,.bslice 134 1 1 [.nilsl] [(0,1)],[.tmp 9],none⟩,⟨some 11,.append 134 1 24,[.tmp 8,.tmp 10],none⟩,⟨none,.store 1,[.tmp 2,.tmp 11],none⟩])
def zdQ (p:Nat) (tm:Nat→PV) (C:List (List Pr)) (k:Nat):List zk:=[.row 185 1 0 0 [.sl 1 k 0 k (2 * k) 1],.row 134 1 k 0 ((C.take k).map (csv p)),.dfr false,.loop .ready .norm tm [7] zk0 zkQ 2]
theorem zoO {p:Nat} {C:List (List Pr)}:∀ v∈(C.map (csv p)).flatMap PV.cells,Id0 v:=fun v hv=>by
 obtain ⟨x,hx,hv⟩:=List.mem_flatMap.1 hv
 obtain ⟨n,_,rfl⟩:=List.mem_map.1 hx
 simp [PV.cells] at hv;subst hv;exact .list _ _ _
theorem zpQ {p:Nat} {tm:Nat→PV} {C:List (List Pr)} (hnr:∀ i,tm i=.bad∨NR 4 (tm i)) (k i:Nat) (o:zk) (ho:(zdQ p tm C k)[i]?=some o):NRO 4 o:=by
 match i with
 | 0=>injection ho with ho;subst ho;intro x hx;simp [PV.cells] at hx;subst hx;exact .sl _ _ _ _ _ (by omega)
 | 1=>injection ho with ho;subst ho;exact zkR zoO
 | 2=>injection ho with ho;subst ho;trivial
 | 3=>injection ho with ho;subst ho;exact ⟨by omega,hnr,trivial⟩
 | i + 4=>simp [zdQ] at ho
theorem znZ (p:Nat) (tm:Nat→PV) (h2:tm 2=.ptr 0 0 0 0 1) (hnr:∀ i,tm i=.bad∨NR 4 (tm i)) (C:List (List Pr)) (k:Nat) (x:List Pr) (hx:C[k]?=some x) (hC:C.length < 1000000) :
  FY ET 3 [csv p x] (zdQ p tm C k) fun r H'=>r=true∧H'=zdQ p tm C (k + 1):=by
 have hk:k < C.length:=(List.getElem?_eq_some_iff.1 hx).1
 have hlt:(C.take k).length=k:=by simp;omega
 refine FY.gc (zjy (tm:=tm) (ps:=[7]) (aS:=zk0) (bo:=zkQ) rfl rfl ?_)
 refine za ?_
 refine zb (by simp (disch:=omega) only [go_sem,h2,zdQ] <;> rfl) ?_
 refine zC ?_
 refine ⟨rfl,_,_,_,_,_,_,rfl,?_⟩
 refine zG (za ?_)
 have hb:(k + 1) * 25≤140737488355328:=by omega
 refine zb (by simp (disch:=omega) only [go_sem,h2,hlt,hb] <;> rfl) ?_
 refine zC ?_;simp only [zf,zi,zh,zg,zu,zj,if_true,↓reduceIte]
 have htk:(C.take k).map (csv p)++[csv p x]=(C.take (k + 1)).map (csv p):=by
  rw [List.take_add_one,hx];simp
 rw [htk]
 exact ⟨rfl,.busy,.norm,tm,[7],zk0,zkQ,2,rfl,zdQ p tm C (k + 1),[zk.row 134 1 0 0 [csv p x]],⟨rfl,rfl,fun id o ho=>.inr (zpQ hnr (k + 1) id o ho)⟩,rfl,rfl⟩
theorem zp7 (p:Nat) (l:List Pr) (hl:l.length < 1000000):FP ET 216 [.nilsl,.fn 217 [.elem [csv p l],.elem [iv 19]]] (.ret (.list 0 1 ((zP 19 l).map (csv p)))):=by
 refine zdU zuo (Nat.le_of_ble_eq_true rfl) ?_
 (repeat (first | refine zc ?_ | (refine za ?_;refine zb (by simp (disch:=omega) only [go_sem] <;> rfl) ?_;refine zd ?_)))
 refine zG ?_
 refine zfc 134 1 (id:=0) rfl ?_
 simp only [lzy,List.length_cons,List.length_nil,List.set_cons_zero,List.cons_append,List.nil_append]
 refine zjK (g:=217) (cap:=[.elem [csv p l],.elem [iv 19]]) (b:=false) (by simp only [go_sem]) ?_
 have hlen:=zb1 19 l
 have hnr:∀ i,(upd (upd (upd (zB [.nilsl,.fn 217 [.elem [csv p l],.elem [iv 19]]]) 2 (PV.ptr 0 0 0 0 1)) 4 .nilsl) 6 (.fn 217 [.elem [csv p l],.elem [iv 19]])) i=.bad∨NR 4 ((upd (upd (upd (zB [.nilsl,.fn 217 [.elem [csv p l],.elem [iv 19]]]) 2 (PV.ptr 0 0 0 0 1)) 4 .nilsl) 6 (.fn 217 [.elem [csv p l],.elem [iv 19]])) i) :=
  zd3 (zd3 (zd3 (zk7 fun v hv=>by simp at hv;rcases hv with rfl | rfl;exact .nilsl;exact (zc1 _ _ _).nr) (.ptr _ _ _ _ (by omega))) .nilsl) (zc1 _ _ _).nr
 have hP:=zn8 3 p l (by omega) (zdQ p _ (zP 19 l)) fun k x hk=>znZ p _ rfl hnr (zP 19 l) k x hk (by omega)
 refine FO.mono (fun e H' he=>?_) hP
 obtain ⟨rfl,rfl⟩:=he
 refine ⟨⟨_,rfl⟩,.ready,.norm,_,_,_,_,_,by simp,rfl,?_⟩
 simp only [zf,zi,zh,zg,zu,zj,if_true,reduceIte]
 refine zc (za ?_)
 refine zb (by simp (disch:=omega) only [go_sem,zdQ] <;> rfl) ?_
 refine zd ?_
 refine zE ?_
 refine zjO (vs:=[.sl 1 (zP 19 l).length 0 (zP 19 l).length (2 * (zP 19 l).length) 1]) rfl rfl ?_
 refine Frz.whole (e:=134) (z':=1) (G:=(zP 19 l).length) (l:=(zP 19 l).map (csv p)) ?_ rfl (by simp) (by simp) (fun v hv=>?_) zoO
 ·simp [zdQ]
 ·obtain ⟨x,_,rfl⟩:=List.mem_map.1 hv;rfl
theorem zmd (p:Nat) (l:List Pr) (hl:l.length < 1000000):FP ET 165 [.fn 217 [.elem [csv p l],.elem [iv 19]]] (.ret (.list 0 1 ((zP 19 l).map (csv p)))):=by
 refine zdU zub (Nat.le_of_ble_eq_true rfl) ?_
 (repeat (first | refine zc ?_ | (refine za ?_;refine zb (by simp (disch:=omega) only [go_sem] <;> rfl) ?_;refine zd ?_)))
 (repeat refine zc ?_);refine za ?_;refine zb (by simp (disch:=omega) only [go_sem] <;> rfl) ?_
 refine zch (by first | rfl | (simp only [go_sem] <;> rfl)) (by simp only [go_sem] <;> rfl) (zp7 p l hl) rfl ?_ ?_;(repeat (first | exact trivial | refine And.intro ?_ ?_ | exact Id0.int _ _ | exact Id0.bool _ | exact Id0.list _ _ _ | exact Id0.elem _ | exact Id0.nilsl | exact Id0.str _ | exact zc1 _ _ _))
 refine zb (by simp (disch:=omega) only [go_sem] <;> rfl) ?_
 refine zd ?_
 refine zE ?_;(try simp only [zf,zi,zh,zg,zj]);refine zy (by simp only [T165,zI,go_sem] <;> rfl) ?_;simp only [zK]
 exact Frz.list _ _ _
theorem zqh (p:Nat) (l:List Pr) (hl:l.length < 1000000):FP ET 109 [csv p l,iv 19] (.ret (.list 0 1 ((zP 19 l).map (csv p)))):=by
 refine zdU zt9 (Nat.le_of_ble_eq_true rfl) ?_
 (repeat (first | refine zc ?_ | (refine za ?_;refine zb (by simp (disch:=omega) only [go_sem] <;> rfl) ?_;refine zd ?_)))
 (repeat refine zc ?_);refine za ?_;refine zb (by simp (disch:=omega) only [go_sem] <;> rfl) ?_
 refine zch (by first | rfl | (simp only [go_sem] <;> rfl)) (by simp only [go_sem] <;> rfl) (zrp p l) rfl ?_ ?_;(repeat (first | exact trivial | refine And.intro ?_ ?_ | exact Id0.int _ _ | exact Id0.bool _ | exact Id0.list _ _ _ | exact Id0.elem _ | exact Id0.nilsl | exact Id0.str _ | exact zc1 _ _ _))
 refine zb (by simp (disch:=omega) only [go_sem] <;> rfl) ?_
 refine zch (by first | rfl | (simp only [go_sem] <;> rfl)) (by simp only [go_sem] <;> rfl) (zmd p l hl) rfl ?_ ?_;(repeat (first | exact trivial | refine And.intro ?_ ?_ | exact Id0.int _ _ | exact Id0.bool _ | exact Id0.list _ _ _ | exact Id0.elem _ | exact Id0.nilsl | exact Id0.str _ | exact zc1 _ _ _))
 refine zb (by simp (disch:=omega) only [go_sem] <;> rfl) ?_
 refine zd ?_
 refine zE ?_;(try simp only [zf,zi,zh,zg,zj]);refine zy (by simp only [T109,zI,go_sem] <;> rfl) ?_;simp only [zK]
 exact Frz.list _ _ _
theorem f68:ET.funcs.get 68=some T68:=zJ (by kernel_rfl) (by decide)
def zbM (l:List Pr) (i:Nat):zo:=⟨0,0,if 0 < i then (l.getD (18 * i) (0,0)).1 else 0,9223372036854775808,0,(l.drop (18 * i)).take 18⟩
def zbq (l:List Pr):List zo:=if l=[] then [⟨0,0,0,9223372036854775808,0,[]⟩] else (List.range (zP 18 l).length).map (zbM l)
theorem ze6 {p:Nat} {L:List zo}:∀ v∈(L.map (zN p)).flatMap PV.cells,Id0 v:=fun v hv=>by
 obtain ⟨x,hx,hv⟩:=List.mem_flatMap.1 hv
 obtain ⟨n,_,rfl⟩:=List.mem_map.1 hx
 exact zna p n v hv
theorem zqe {H:List zk} {id p:Nat} {L:List zo} {e G n:Nat} (hH:H[id]?=some (.row e 6 G 0 (L.map (zN p)))) (hn:n=L.length):Frz H 0 (.sl id G 0 n (2 * n) 6) (.list 0 6 (L.map (zN p))) :=
 Frz.whole hH rfl (by simp [hn]) (by simp [hn]) (fun v hv=>by obtain ⟨x,_,rfl⟩:=List.mem_map.1 hv;rfl) ze6
theorem zqD {H:List zk} {id p e G:Nat} (hH:H[id]?=some (.row e 6 G 0 [.agg [iv 0,iv 0,uv 0,uv 9223372036854775808,iv 0,.nilsl]])):Frz H 0 (.sl id G 0 1 2 6) (.list 0 6 [zN p ⟨0,0,0,9223372036854775808,0,[]⟩]):=by
 refine .sl hH (Nat.zero_le _) (Nat.le_refl _) (by simp) (by simp) rfl (fun v hv=>by simp at hv;subst hv;rfl) rfl fun i x y hx hy=>?_
 match i with
 | 0=>injection hx with hx;injection hy with hy;subst hx hy;exact .int _ _
 | 1=>injection hx with hx;injection hy with hy;subst hx hy;exact .int _ _
 | 2=>injection hx with hx;injection hy with hy;subst hx hy;exact .int _ _
 | 3=>injection hx with hx;injection hy with hy;subst hx hy;exact .int _ _
 | 4=>injection hx with hx;injection hy with hy;subst hx hy;exact .int _ _
 | 5=>injection hx with hx;injection hy with hy;subst hx hy;exact .nil _ _
 | i + 6=>simp [PV.cells] at hx
theorem zqT (p:Nat) (l:List Pr) (hl:l.length < 1000000):FP ET 68 [psv p l] (.ret (.list 0 6 ((zbq l).map (zN p)))):=by
 refine zdU f68 (Nat.le_of_ble_eq_true rfl) ?_
 (repeat (first | refine zc ?_ | (refine za ?_;refine zb (by simp (disch:=omega) only [go_sem] <;> rfl) ?_;refine zd ?_)))
 (repeat refine zc ?_);refine za ?_;refine zb (by simp (disch:=omega) only [go_sem] <;> rfl) ?_
 refine zch (by first | rfl | (simp only [go_sem] <;> rfl)) (by simp only [go_sem] <;> rfl) (zp6 p l hl) rfl ?_ ?_;(repeat (first | exact trivial | refine And.intro ?_ ?_ | exact Id0.int _ _ | exact Id0.bool _ | exact Id0.list _ _ _ | exact Id0.elem _ | exact Id0.nilsl | exact Id0.str _ | exact zc1 _ _ _))
 refine zb (by simp (disch:=omega) only [go_sem] <;> rfl) ?_
 refine zd ?_
 have hlen:=zb1 18 l
 refine zev 124 6 (i:=2) rfl ?_
 simp only [lzy,List.length_nil,List.nil_append]
 refine zG (zav (fun m s=>∃ (i:Nat) (G:List zk),m=(zP 18 l).length - i∧i≤(zP 18 l).length∧s.tm 2=.sl 0 i 0 i (2 * i) 6∧s.tm 7=.list 0 1 ((zP 18 l).map (psv p))∧s.tm 8=iv (zP 18 l).length∧s.tm 9=iv i∧s.df=[]∧s.H=.row 124 6 i 0 (((List.range i).map (zbM l)).map (zN p))::G) (n:=(zP 18 l).length) ?_ ?_)
 ·exact ⟨0,[],rfl,by omega,by simp [upd],by simp [upd],by simp [upd],by simp [upd],rfl,rfl⟩
 ·rintro m ⟨tm,df,H⟩ ⟨i,G,rfl,hi,h2,h7,h8,h9,rfl,rfl⟩
  dsimp only at h2 h7 h8 h9
  (try refine zY ?_);refine zc (za ?_);refine zb (by simp (disch:=omega) only [go_sem,h2,h7,h8,h9] <;> rfl) ?_;refine zd ?_;refine zad (by simp only [go_sem] <;> rfl) ?_ ?_
  ·intro hlt
   have hlt:i < (zP 18 l).length:=by have:=of_decide_eq_true hlt;omega
   have hci:=zf1 18 l i hlt
   have hb:(i + 1) * 65≤140737488355328:=by omega
   have hil:18 * i < l.length:=by omega
   have hc0:((l.drop (18 * i)).take 18)[0]?=some (l.getD (18 * i) (0,0)):=by
    rw [List.getElem?_take,if_pos (by omega),List.getElem?_drop,Nat.add_zero,List.getD_eq_getElem?_getD,List.getElem?_eq_getElem hil];rfl
   generalize hc:(l.drop (18 * i)).take 18=c at hci hc0
   have hrl:((List.range i).map (zbM l)).length=i:=by simp
   (repeat refine zc ?_)
   refine zG ?_
   (repeat (first | refine zc ?_ | (refine za ?_;refine zb (by simp (disch:=omega) only [go_sem,h7,h8,h9,hci] <;> rfl) ?_;refine zd ?_)))
   have hrs:((List.range (i + 1)).map (zbM l)).map (zN p)=((List.range i).map (zbM l)).map (zN p)++[zN p (zbM l i)]:=by
    rw [List.range_succ,List.map_append,List.map_append];rfl
   by_cases hi0:0 < i
   ·have g:(0:Int) < i:=by omega
    have hlf:zbM l i=⟨0,0,(l.getD (18 * i) (0,0)).1,9223372036854775808,0,c⟩:=by unfold zbM;rw [if_pos hi0,hc]
    rw [hlf] at hrs
    refine zD (by simp only [go_sem] <;> rfl) ?_ ?_
    ·intro _
     refine za ?_
     refine zb (by simp (disch:=omega) only [go_sem,h2,h7,h9,hc0] <;> rfl) ?_
     refine zC ?_;simp only [zf,zi,zh,zg,zu,zj,if_true,↓reduceIte]
     (repeat (first | refine zc ?_ | (refine za ?_;refine zb (by simp (disch:=omega) only [go_sem,h2,hrl,hb] <;> rfl) ?_;refine zd ?_)))
     (repeat refine zc ?_);refine za ?_;refine zb (by simp (disch:=omega) only [go_sem,h2,hrl,hb] <;> rfl) ?_
     refine zC ?_;simp only [zf,zi,zh,zg,zu,zj,if_true,↓reduceIte]
     (repeat refine zc ?_);refine za ?_;refine zb (by simp (disch:=omega) only [go_sem,h9] <;> rfl) ?_
     refine zC ?_;simp only [zf,zi,zh,zg,zu,zj,if_true,↓reduceIte]
     refine ⟨_,?m,i + 1,?G,rfl,hlt,by simp [upd],by simp [upd,h7],by simp [upd,h8],by simp [upd,h9],trivial,?H⟩
     case m=>omega
     case H=>rw [hrs];rfl
    ·intro h;exact absurd g (of_decide_eq_false h)
   ·obtain rfl:i=0:=by omega
    have hlf:zbM l 0=⟨0,0,0,9223372036854775808,0,c⟩:=by unfold zbM;rw [if_neg hi0,hc]
    rw [hlf] at hrs
    refine zD (by simp only [go_sem] <;> rfl) ?_ ?_
    ·intro h;exact absurd h (by decide)
    ·intro _
     refine zR ?_;show W _ _ _ _ _ _
     (repeat (first | refine zc ?_ | (refine za ?_;refine zb (by simp (disch:=omega) only [go_sem,h2,hrl,hb] <;> rfl) ?_;refine zd ?_)))
     (repeat refine zc ?_);refine za ?_;refine zb (by simp (disch:=omega) only [go_sem,h2,hrl,hb] <;> rfl) ?_
     refine zC ?_;simp only [zf,zi,zh,zg,zu,zj,if_true,↓reduceIte]
     (repeat refine zc ?_);refine za ?_;refine zb (by simp (disch:=omega) only [go_sem,h9] <;> rfl) ?_
     refine zC ?_;simp only [zf,zi,zh,zg,zu,zj,if_true,↓reduceIte]
     refine ⟨_,?m2,0 + 1,?G2,rfl,hlt,by simp [upd],by simp [upd,h7],by simp [upd,h8],by simp [upd,h9],trivial,?H2⟩
     case m2=>omega
     case H2=>rw [hrs];rfl
  ·intro hlt
   have hlt:¬ i < (zP 18 l).length:=by have:=of_decide_eq_false hlt;omega
   obtain rfl:i=(zP 18 l).length:=by omega
   simp only [zf,zi,zh,zg,zu,zj,if_true,reduceIte]
   by_cases h0:(zP 18 l).length=0
   ·have g:((zP 18 l).length:Int)=0:=by omega
    have hl0:l=[]:=List.eq_nil_of_length_eq_zero (by omega)
    rw [h0] at h2
    have hH:((List.range (zP 18 l).length).map (zbM l)).map (zN p)=[]:=by rw [h0];rfl
    rw [hH,h0]
    (repeat (first | refine zc ?_ | (refine za ?_;refine zb (by simp (disch:=omega) only [go_sem,h2] <;> rfl) ?_;refine zd ?_)))
    refine zD (by simp only [go_sem] <;> rfl) ?_ ?_
    ·intro _
     (repeat (first | refine zc ?_ | (refine za ?_;refine zb (by simp (disch:=omega) only [go_sem,h2] <;> rfl) ?_;refine zd ?_)))
     refine zE ?_;(try simp only [zf,zi,zh,zg,zj]);refine zy (by simp only [T68,zI,go_sem] <;> rfl) ?_;simp only [zK]
     have:zbq l=[⟨0,0,0,9223372036854775808,0,[]⟩]:=by unfold zbq;rw [if_pos hl0]
     rw [this]
     exact zqD rfl
    ·intro h;cases h
   ·have g:¬ ((zP 18 l).length:Int)=0:=by omega
    have hl0:¬ l=[]:=fun h=>h0 (by rw [hlen,h];rfl)
    (repeat (first | refine zc ?_ | (refine za ?_;refine zb (by simp (disch:=omega) only [go_sem,h2,g] <;> rfl) ?_;refine zd ?_)))
    refine zD (by simp only [go_sem] <;> rfl) ?_ ?_
    ·intro h;cases h
    ·intro _
     refine zR ?_;show W _ _ _ _ _ _
     (repeat (first | refine zc ?_ | (refine za ?_;refine zb (by simp (disch:=omega) only [go_sem,h2] <;> rfl) ?_;refine zd ?_)))
     refine zE ?_;(try simp only [zf,zi,zh,zg,zj]);refine zy (by simp only [T68,zI,go_sem] <;> rfl) ?_;simp only [zK]
     have:zbq l=(List.range (zP 18 l).length).map (zbM l):=by unfold zbq;rw [if_neg hl0]
     rw [this]
     exact zqe rfl (by simp)
theorem f40:ET.funcs.get 40=some T40:=zJ (by kernel_rfl) (by decide)
theorem f90:ET.funcs.get 90=some T90:=zJ (by kernel_rfl) (by decide)
theorem zt0:ET.funcs.get 138=some T138:=zJ (by kernel_rfl) (by decide)
def zaG (w:List Nat) (b:Nat):List Nat:=(w.take (64 * b + 64)).drop (64 * b)
theorem zsd (p:Nat) (w:List Nat) (b:Nat) (hw:zaI w.length) (hb:64 * b + 64≤w.length):FP ET 40 [wv p w,iv b] (.ret (wv p (zaG w b))):=by
 refine zdU f40 (Nat.le_of_ble_eq_true rfl) ?_
 (repeat (first | refine zc ?_ | (refine za ?_;refine zb (by simp (disch:=omega) only [go_sem] <;> rfl) ?_;refine zd ?_)))
 have e1:(64:Int) * (b:Int)=((64 * b:Nat):Int):=by omega
 have e2:((64 * b:Nat):Int) + 64=((64 * b + 64:Nat):Int):=by omega
 have e3:64 * b≤64 * b + 64:=by omega
 have e4:0 < w.length:=by omega
 have e5:List.drop (64 * b) (List.take (64 * b + 64) (List.map uv w))=(zaG w b).map uv:=by simp [zaG,List.map_drop,List.map_take]
 (repeat (first | refine zc ?_ | (refine za ?_;refine zb (by simp (disch:=omega) only [go_sem,e1,e2,e3,e4,hb,e5] <;> rfl) ?_;refine zd ?_)))
 refine zE ?_;(try simp only [zf,zi,zh,zg,zj]);refine zy (by simp only [T40,zI,go_sem] <;> rfl) ?_;simp only [zK]
 exact Frz.list _ _ _
def zcb (n:Nat) (a:Int):Bool:=decide (64≤n) && decide (n % 64=0) && decide (n≤131072) && decide (0≤a) && decide (a < n)
theorem zmB (p:Nat) (w:List Nat) (a:Int) (hw:zaI w.length):FN ET 90 [wv p w,iv a] (if zcb w.length a=true then .ret (.tuple []) else .panic (zcn 2)):=by
 refine zU f90 (Nat.le_of_ble_eq_true rfl) ?_ ?_
 ·split
  ·exact Lb.unit
  ·exact .iface (.int _ _)
 refine za ?_
 by_cases h1:64≤w.length
 rotate_left
 ·have g1:¬ (64:Int)≤w.length:=by omega
  refine zb (by simp (disch:=omega) only [go_sem,g1] <;> rfl) ?_
  refine zaD (by first | rfl | (simp only [go_sem] <;> rfl)) (by simp only [go_sem] <;> rfl) (zb0 2) ?_ ?_;(repeat (first | exact trivial | refine And.intro ?_ ?_ | exact .int _ _ | exact .bool _ | exact .list _ _ _ | exact .elem _ | exact .nilsl | exact .nil _ _ | exact .str _ | refine Frz.aggL ?_ | refine Frz.fnL ?_ | refine Frz.tupL ?_ | refine .iface ?_ | exact zn rfl rfl (by assumption)))
  exact zcB (by simp [zcb,h1])
 have g1:(64:Int)≤w.length:=by omega
 by_cases h2:w.length % 64=0
 rotate_left
 ·have g2:¬ (w.length:Int).tmod 64=0:=by rw [IntWalk.rem_in _ _ (by omega)];omega
  refine zb (by simp (disch:=omega) only [go_sem,g1,g2] <;> rfl) ?_
  refine zaD (by first | rfl | (simp only [go_sem] <;> rfl)) (by simp only [go_sem] <;> rfl) (zb0 2) ?_ ?_;(repeat (first | exact trivial | refine And.intro ?_ ?_ | exact .int _ _ | exact .bool _ | exact .list _ _ _ | exact .elem _ | exact .nilsl | exact .nil _ _ | exact .str _ | refine Frz.aggL ?_ | refine Frz.fnL ?_ | refine Frz.tupL ?_ | refine .iface ?_ | exact zn rfl rfl (by assumption)))
  exact zcB (by simp [zcb,h1,h2])
 have g2:(w.length:Int).tmod 64=0:=by rw [IntWalk.rem_in _ _ (by omega)];omega
 by_cases h3:w.length≤131072
 rotate_left
 ·have g3:¬ (w.length:Int)≤131072:=by omega
  refine zb (by simp (disch:=omega) only [go_sem,g1,g2,g3] <;> rfl) ?_
  refine zaD (by first | rfl | (simp only [go_sem] <;> rfl)) (by simp only [go_sem] <;> rfl) (zb0 2) ?_ ?_;(repeat (first | exact trivial | refine And.intro ?_ ?_ | exact .int _ _ | exact .bool _ | exact .list _ _ _ | exact .elem _ | exact .nilsl | exact .nil _ _ | exact .str _ | refine Frz.aggL ?_ | refine Frz.fnL ?_ | refine Frz.tupL ?_ | refine .iface ?_ | exact zn rfl rfl (by assumption)))
  exact zcB (by simp [zcb,h1,h2,h3])
 have g3:(w.length:Int)≤131072:=by omega
 by_cases h4:(0:Int)≤a
 rotate_left
 ·refine zb (by simp (disch:=omega) only [go_sem,g1,g2,g3,h4] <;> rfl) ?_
  refine zaD (by first | rfl | (simp only [go_sem] <;> rfl)) (by simp only [go_sem] <;> rfl) (zb0 2) ?_ ?_;(repeat (first | exact trivial | refine And.intro ?_ ?_ | exact .int _ _ | exact .bool _ | exact .list _ _ _ | exact .elem _ | exact .nilsl | exact .nil _ _ | exact .str _ | refine Frz.aggL ?_ | refine Frz.fnL ?_ | refine Frz.tupL ?_ | refine .iface ?_ | exact zn rfl rfl (by assumption)))
  exact zcB (by simp [zcb,h1,h2,h3,h4])
 by_cases h5:a < (w.length:Int)
 rotate_left
 ·refine zb (by simp (disch:=omega) only [go_sem,g1,g2,g3,h4,h5] <;> rfl) ?_
  refine zaD (by first | rfl | (simp only [go_sem] <;> rfl)) (by simp only [go_sem] <;> rfl) (zb0 2) ?_ ?_;(repeat (first | exact trivial | refine And.intro ?_ ?_ | exact .int _ _ | exact .bool _ | exact .list _ _ _ | exact .elem _ | exact .nilsl | exact .nil _ _ | exact .str _ | refine Frz.aggL ?_ | refine Frz.fnL ?_ | refine Frz.tupL ?_ | refine .iface ?_ | exact zn rfl rfl (by assumption)))
  exact zcB (by simp [zcb,h1,h2,h3,h4,h5])
 refine zb (by simp (disch:=omega) only [go_sem,g1,g2,g3,h4,h5] <;> rfl) ?_
 refine zH (by first | rfl | (simp only [go_sem] <;> rfl)) (by simp only [go_sem] <;> rfl) (zcI 2) ?_ ?_;(repeat (first | exact trivial | refine And.intro ?_ ?_ | exact .int _ _ | exact .bool _ | exact .list _ _ _ | exact .elem _ | exact .nilsl | exact .nil _ _ | exact .str _ | refine Frz.aggL ?_ | refine Frz.fnL ?_ | refine Frz.tupL ?_ | refine .iface ?_ | exact zn rfl rfl (by assumption)))
 refine zb (by simp (disch:=omega) only [go_sem] <;> rfl) ?_
 have:zcb w.length a=true:=by simp [zcb,h1,h2,h3,h4,h5]
 rw [if_pos this]
 exact ze5 (zdI rfl (Frz.tupL trivial))
theorem f70:ET.funcs.get 70=some T70:=zJ (by kernel_rfl) (by decide)
section
variable {α:Type} (G l m n:List α) (x y z:α)
theorem gm0:(G++x::l)[G.length]?=some x:=by simp
theorem gm1:(G++x::l++m)[G.length]?=some x:=by simp
theorem gm2:(G++x::l++m++n)[G.length]?=some x:=by simp
theorem hm0:(G++x::y::l)[G.length + 1]?=some y:=by simp [List.getElem?_append_right]
theorem hm1:(G++x::y::l++m)[G.length + 1]?=some y:=by rw [List.append_assoc];exact hm0 G _ x y
theorem hm2:(G++x::y::l++m++n)[G.length + 1]?=some y:=by rw [List.append_assoc,List.append_assoc];exact hm0 G _ x y
theorem sm0:(G++x::l).set G.length z=G++z::l:=by rw [List.set_append_right _ _ (Nat.le_refl _)];simp
theorem sm1:(G++x::l++m).set G.length z=G++z::l++m:=by rw [List.append_assoc,List.append_assoc];exact sm0 G _ x z
theorem sm2:(G++x::l++m++n).set G.length z=G++z::l++m++n:=by rw [List.append_assoc,List.append_assoc,List.append_assoc,List.append_assoc];exact sm0 G _ x z
theorem tm0:(G++x::y::l).set (G.length + 1) z=G++x::z::l:=by rw [List.set_append_right _ _ (by omega)];simp
theorem tm1:(G++x::y::l++m).set (G.length + 1) z=G++x::z::l++m:=by rw [List.append_assoc,List.append_assoc];exact tm0 G _ x y z
theorem tm2:(G++x::y::l++m++n).set (G.length + 1) z=G++x::z::l++m++n:=by rw [List.append_assoc,List.append_assoc,List.append_assoc,List.append_assoc];exact tm0 G _ x y z
end
def zbZ (lv:Nat) (ks:List Pr) (i:Nat):zo:=⟨lv,0,(ks.getD (19 * i) (0,0)).1,(ks.getD (19 * i) (0,0)).2,0,((ks.drop (19 * i)).take 19).drop 1⟩
def zbF (lv:Nat) (ks:List Pr):List zo:=(List.range (zP 19 ks).length).map (zbZ lv ks)
@[reducible] def zth (n:zo) (id k:Nat):PV:=.agg [iv n.level,iv n.sib,uv n.low,uv n.left,iv n.way,.sl id k 0 k (2 * k) 2]
theorem LF.append {H:List zk} {lab:Nat}:∀ {a b c d:List PV},LF H lab a b→LF H lab c d→LF H lab (a++c) (b++d)
 | [],[],_,_,_,h=>h
 | _::_,_::_,_,_,h,k=>⟨h.1,LF.append h.2 k⟩
theorem LF.get {H:List zk} {lab:Nat}:∀ {a b:List PV} {i:Nat} {x y:PV},LF H lab a b→a[i]?=some x→b[i]?=some y→Frz H lab x y
 | [],_,_,_,_,_,hx,_=>by simp at hx
 | _::_,[],_,_,_,h,_,_=>h.elim
 | _::_,_::_,0,_,_,h,hx,hy=>by injection hx with hx;injection hy with hy;subst hx hy;exact h.1
 | _::_,_::_,i + 1,_,_,h,hx,hy=>LF.get h.2 hx hy
theorem zo4 {H:List zk} {lab:Nat}:∀ {a b:List PV},LF H lab a b→a.length=b.length
 | [],[],_=>rfl
 | _::_,_::_,h=>by simp [zo4 h.2]
theorem LF.flat {H:List zk} {lab:Nat} {α:Type} {f:α→PV}:∀ {vs:List PV} {L:List α},vs.length=L.length→(∀ (q:Nat) (n:α),L[q]?=some n→∃ v,vs[q]?=some v∧LF H lab v.cells (f n).cells)→LF H lab (vs.flatMap PV.cells) ((L.map f).flatMap PV.cells)
 | [],[],_,_=>trivial
 | v::vs,n::L,hl,h=>by
  have h0:=h 0 n rfl
  obtain ⟨v',e1,e2⟩:=h0
  injection e1 with e1;subst e1
  exact LF.append e2 (LF.flat (by simpa using hl) fun q m hm=>h (q + 1) m hm)
 | [],_::_,hl,_=>by simp at hl
 | _::_,[],hl,_=>by simp at hl
theorem zsQ {H:List zk} {id e G k:Nat} {vs:List PV} {L:List zo} (hH:H[id]?=some (.row e 6 G 0 vs)) (hl:vs.length=L.length∧k=L.length) (hv:∀ (q:Nat) (n:zo),L[q]?=some n→∃ i g,vs[q]?=some (zth n (i + 1) g)∧H[i + 1]?=some (.row 66 2 g 0 (n.pairs.map pv))∧g=n.pairs.length):Frz H 0 (.sl id G 0 k (2 * k) 6) (.list 0 6 (L.map (zN 0))):=by
 have hf:LF H 0 (vs.flatMap PV.cells) ((L.map (zN 0)).flatMap PV.cells):=LF.flat hl.1 fun q n hn=>by
  obtain ⟨i,g,e1,e2,e3⟩:=hv q n hn
  refine ⟨_,e1,.int _ _,.int _ _,.int _ _,.int _ _,.int _ _,?_,trivial⟩
  exact Frz.whole e2 rfl (by simp [e3]) (by simp [e3]) (fun v hv=>by obtain ⟨x,_,rfl⟩:=List.mem_map.1 hv;rfl) zeN
 obtain ⟨hl,rfl⟩:=hl
 have ht:(vs.drop 0).take L.length=vs:=by rw [List.drop_zero,← hl,List.take_length]
 refine .sl hH (Nat.zero_le _) (Nat.le_refl _) (by omega) (Nat.le_refl _) (by simp) (fun v hv=>by obtain ⟨x,_,rfl⟩:=List.mem_map.1 hv;rfl) ?_ ?_
 ·rw [ht];exact zo4 hf
 ·rw [ht];exact fun i x y hx hy=>hf.get hx hy
theorem zqW (p lv:Nat) (ks:List Pr) (hl:ks.length < 1000000) (hb:∀ x∈ks,x.2 < 2048):FP ET 70 [csv p ks,iv lv] (.ret (.list 0 6 ((zbF lv ks).map (zN 0)))):=by
 refine zdU f70 (Nat.le_of_ble_eq_true rfl) ?_
 (repeat (first | refine zc ?_ | (refine za ?_;refine zb (by simp (disch:=omega) only [go_sem] <;> rfl) ?_;refine zd ?_)))
 (repeat refine zc ?_);refine za ?_;refine zb (by simp (disch:=omega) only [go_sem] <;> rfl) ?_
 refine zch (by first | rfl | (simp only [go_sem] <;> rfl)) (by simp only [go_sem] <;> rfl) (zqh p ks hl) rfl ?_ ?_;(repeat (first | exact trivial | refine And.intro ?_ ?_ | exact Id0.int _ _ | exact Id0.bool _ | exact Id0.list _ _ _ | exact Id0.elem _ | exact Id0.nilsl | exact Id0.str _ | exact zc1 _ _ _))
 refine zb (by simp (disch:=omega) only [go_sem] <;> rfl) ?_
 refine zd ?_
 have hlen:=zb1 19 ks
 refine zev 124 6 (i:=4) rfl ?_
 simp only [lzy,List.length_nil,List.nil_append]
 refine zG (zav (fun m s=>∃ (i:Nat) (vs:List PV) (G:List zk),m=(zP 19 ks).length - i∧i≤(zP 19 ks).length∧vs.length=i∧(∀ j,j < i→∃ id,vs[j]?=some (zth (zbZ lv ks j) (id + 1) (zbZ lv ks j).pairs.length)∧G[id]?=some (.row 66 2 (zbZ lv ks j).pairs.length 0 ((zbZ lv ks j).pairs.map pv)))∧s.tm 1=iv lv∧s.tm 4=.sl 0 i 0 i (2 * i) 6∧s.tm 11=.list 0 1 ((zP 19 ks).map (csv p))∧s.tm 12=iv (zP 19 ks).length∧s.tm 13=iv i∧s.df=[]∧s.H=.row 124 6 i 0 vs::G) (n:=(zP 19 ks).length) ?_ ?_)
 ·exact ⟨0,[],[],rfl,by omega,rfl,(fun j hj=>by omega),by simp [upd,zB],by simp [upd],by simp [upd],by simp [upd],by simp [upd],rfl,rfl⟩
 ·rintro m ⟨tm,df,H⟩ ⟨i,vs,G,rfl,hi,hvl,hvs,h1,h4,h11,h12,h13,rfl,rfl⟩
  dsimp only at h1 h4 h11 h12 h13
  (try refine zY ?_);refine zc (za ?_);refine zb (by simp (disch:=omega) only [go_sem,h1,h4,h11,h12,h13] <;> rfl) ?_;refine zd ?_;refine zad (by simp only [go_sem] <;> rfl) ?_ ?_
  ·intro hlt
   have hlt:i < (zP 19 ks).length:=by have:=of_decide_eq_true hlt;omega
   have hci:=zf1 19 ks i hlt
   have hil:19 * i < ks.length:=by omega
   have hc0:((ks.drop (19 * i)).take 19)[0]?=some (ks.getD (19 * i) (0,0)):=by
    rw [List.getElem?_take,if_pos (by omega),List.getElem?_drop,Nat.add_zero,List.getD_eq_getElem?_getD,List.getElem?_eq_getElem hil];rfl
   have hx2:(ks.getD (19 * i) (0,0)).2 < 2048:=by
    rw [List.getD_eq_getElem?_getD,List.getElem?_eq_getElem hil];exact hb _ (List.getElem_mem hil)
   have hcm:∀ x∈(ks.drop (19 * i)).take 19,x.2 < 2048:=fun x hx=>hb x (List.mem_of_mem_drop (List.mem_of_mem_take hx))
   have hcl:((ks.drop (19 * i)).take 19).length≤19:=by simp;omega
   obtain ⟨nd,hnd⟩:∃ nd,nd=zbZ lv ks i:=⟨_,rfl⟩
   have hnd2:nd=⟨lv,0,(ks.getD (19 * i) (0,0)).1,(ks.getD (19 * i) (0,0)).2,0,((ks.drop (19 * i)).take 19).drop 1⟩:=hnd
   generalize (ks.drop (19 * i)).take 19=c at hci hc0 hcm hcl hnd2
   generalize ks.getD (19 * i) (0,0)=c0 at hc0 hx2 hnd2
   (repeat refine zc ?_)
   refine zG ?_
   (repeat (first | refine zc ?_ | (refine za ?_;refine zb (by simp (disch:=omega) only [go_sem,h11,h13,hci] <;> rfl) ?_;refine zd ?_)))
   (repeat refine zc ?_)
   refine zaS ?_
   refine zbv (by first | exact trivial | simp only [go_sem,List.filter_cons,List.filter_nil,List.contains_cons,List.contains_nil,Bool.or_false,Nat.reduceBEq,zb4,zb3,zbJ,h1,hc0]) (by simp (disch:=omega) only [go_sem,h1,hc0] <;> rfl) rfl (by first | rfl | (simp only [go_sem] <;> rfl)) (by simp only [go_sem,h1,hc0] <;> rfl) (by simp (disch:=omega) only [go_sem,h1,hc0] <;> rfl) (by simp only [go_sem] <;> rfl) ?_
   refine zX (by first | exact trivial | simp only [go_sem,h1]) (by simp (disch:=omega) only [go_sem,h1] <;> rfl) rfl ?_
   refine zaf ?_;simp only [zu,zab,zf,go_sem]
   have hcd:List.drop 1 (List.map cv c)=(c.drop 1).map cv:=by simp [List.map_drop]
   have hcp:1≤c.length:=by have:=(List.getElem?_eq_some_iff.1 hc0).1;omega
   (repeat (first | refine zc ?_ | (refine za ?_;refine zb (by simp (disch:=omega) only [go_sem,hcd,hcp] <;> rfl) ?_;refine zd ?_)))
   refine zgV 66 2 (id:=G.length + 1) (v:=.agg [iv lv,iv 0,uv c0.1,uv c0.2,iv 0,.nilsl]) (v':=.agg [iv lv,iv 0,uv c0.1,uv c0.2,iv 0,.sl (G.length + 1 + 1) 0 0 0 0 2]) (e0:=124) (z0:=6) (G:=0) (M:=0) (by simp only [List.getElem?_cons_succ,ze] <;> rfl) rfl (fun k x y hx hy=>?_) ?_
   ·match k with
    | 0=>injection hx with hx;injection hy with hy;subst hx hy;exact .inl rfl
    | 1=>injection hx with hx;injection hy with hy;subst hx hy;exact .inl rfl
    | 2=>injection hx with hx;injection hy with hy;subst hx hy;exact .inl rfl
    | 3=>injection hx with hx;injection hy with hy;subst hx hy;exact .inl rfl
    | 4=>injection hx with hx;injection hy with hy;subst hx hy;exact .inl rfl
    | 5=>injection hx with hx;injection hy with hy;subst hx hy;exact .inr ⟨rfl,by simp [lzy]⟩
    | k + 6=>simp [PV.cells] at hx
   simp only [List.set_cons_succ,zF,List.cons_append,List.append_assoc,List.nil_append]
   generalize hD:c.drop 1=D at *
   have hDl:D.length≤19:=by rw [← hD];simp;omega
   have hDm:∀ x∈D,x.2 < 2048:=fun x hx=>hcm x (by rw [← hD] at hx;exact List.mem_of_mem_drop hx)
   refine zG (zav (fun m s=>∃ (j:Nat) (G2:List zk),m=D.length - j∧j≤D.length∧s.tm 1=iv lv∧s.tm 4=.sl 0 i 0 i (2 * i) 6∧s.tm 11=.list 0 1 ((zP 19 ks).map (csv p))∧s.tm 12=iv (zP 19 ks).length∧s.tm 13=iv i∧s.tm 7=.ptr (G.length + 1) 0 0 0 6∧s.tm 29=csv p D∧s.tm 30=iv D.length∧s.tm 31=iv j∧s.df=[] ∧
    s.H=.row 124 6 i 0 vs::(G++.row 124 6 0 0 [.agg [iv lv,iv 0,uv c0.1,uv c0.2,iv 0,.sl (G.length + 1 + 1) j 0 j (2 * j) 2]]::.row 66 2 j 0 ((D.take j).map pv)::G2)) (n:=D.length) ?_ ?_)
   ·exact ⟨0,[],rfl,by omega,by simp [upd,h1],by simp [upd,h4],by simp [upd,h11],by simp [upd,h12],by simp [upd,h13],by simp [upd],by simp [upd],by simp [upd],by simp [upd],rfl,rfl⟩
   ·clear h1 h4 h11 h12 h13
    rintro m ⟨tm,df,H⟩ ⟨j,G2,rfl,hj,h1,h4,h11,h12,h13,h7,h29,h30,h31,rfl,rfl⟩
    dsimp only at h1 h4 h11 h12 h13 h7 h29 h30 h31
    (try refine zY ?_);refine zc (za ?_);refine zb (by simp (disch:=omega) only [go_sem,h29,h30,h31] <;> rfl) ?_;refine zd ?_;refine zad (by simp only [go_sem] <;> rfl) ?_ ?_
    ·intro hlt
     have hlt:j < D.length:=by have:=of_decide_eq_true hlt;omega
     have hy2:D[j].2 < 2048:=hDm _ (List.getElem_mem hlt)
     have hbb:(j + 1) * 17≤140737488355328:=by omega
     have htl:(D.take j).length=j:=by simp;omega
     (repeat refine zc ?_)
     refine zG ?_
     (repeat (first | refine zc ?_ | (refine za ?_;refine zb (by simp (disch:=omega) only [go_sem,h29,h31,List.getElem?_eq_getElem hlt,ze,zF] <;> rfl) ?_;refine zd ?_)))
     (repeat refine zc ?_);refine za ?_;refine zb (by simp (disch:=omega) only [go_sem,h7,gm0,gm1,gm2,hm0,hm1,hm2,sm0,sm1,sm2,tm0,tm1,tm2,htl,hbb] <;> rfl) ?_
     refine zC ?_;simp only [zf,zi,zh,zg,zu,zj,if_true,↓reduceIte]
     (repeat refine zc ?_);refine za ?_;refine zb (by simp (disch:=omega) only [go_sem,h31] <;> rfl) ?_
     refine zC ?_;simp only [zf,zi,zh,zg,zu,zj,if_true,↓reduceIte]
     have htk:(D.take j).map pv++[PV.agg [uv D[j].1,uv D[j].2]]=(D.take (j + 1)).map pv:=by
      rw [List.take_succ_eq_append_getElem hlt,List.map_append];rfl
     refine ⟨_,?m,j + 1,?G,rfl,hlt,by simp [upd,h1],by simp [upd,h4],by simp [upd,h11],by simp [upd,h12],by simp [upd,h13],by simp [upd,h7],by simp [upd,h29],by simp [upd,h30],by simp [upd,h31],trivial,?H⟩
     case m=>omega
     case H=>rw [← htk];simp only [List.append_assoc,List.cons_append];rfl
    ·intro hlt2
     have hlt2:¬ j < D.length:=by have:=of_decide_eq_false hlt2;omega
     obtain rfl:j=D.length:=by omega
     rw [List.take_length]
     simp only [zf,zi,zh,zg,zu,zj,if_true,reduceIte]
     have hbb:(i + 1) * 65≤140737488355328:=by omega
     (repeat refine zc ?_);refine za ?_;refine zb (by simp (disch:=omega) only [go_sem,h7,h4,gm0,hvl,hbb] <;> rfl) ?_
     refine zC ?_;simp only [zf,zi,zh,zg,zu,zj,if_true,↓reduceIte]
     (repeat refine zc ?_);refine za ?_;refine zb (by simp (disch:=omega) only [go_sem,h13] <;> rfl) ?_
     refine zC ?_;simp only [zf,zi,zh,zg,zu,zj,if_true,↓reduceIte]
     refine ⟨_,?m2,i + 1,?V2,?G2,rfl,hlt,?L2,?F2,by simp [upd,h1],by simp [upd],by simp [upd,h11],by simp [upd,h12],by simp [upd,h13],trivial,?H2⟩
     case H2=>rfl
     case m2=>omega
     case L2=>simp [hvl]
     case F2 =>
      intro q hq
      by_cases hqi:q=i
      ·refine ⟨G.length + 1,?_,?_⟩
       ·rw [hqi,← hnd,hnd2,List.getElem?_append_right (by omega),hvl];simp
       ·rw [hqi,← hnd,hnd2,List.append_assoc];exact hm0 ..
      ·obtain ⟨id,e1,e2⟩:=hvs q (by omega)
       refine ⟨id,?_,?_⟩
       ·rw [List.getElem?_append_left (by omega)];exact e1
       ·rw [List.append_assoc,List.getElem?_append_left (List.getElem?_eq_some_iff.1 e2).1];exact e2
  ·intro hlt
   have hlt:¬ i < (zP 19 ks).length:=by have:=of_decide_eq_false hlt;omega
   obtain rfl:i=(zP 19 ks).length:=by omega
   simp only [zf,zi,zh,zg,zu,zj,if_true,reduceIte]
   (repeat (first | refine zc ?_ | (refine za ?_;refine zb (by simp (disch:=omega) only [go_sem,h4] <;> rfl) ?_;refine zd ?_)))
   refine zE ?_;(try simp only [zf,zi,zh,zg,zj]);refine zy (by simp only [T70,zI,go_sem] <;> rfl) ?_;simp only [zK]
   refine zsQ (L:=zbF lv ks) rfl ⟨by simp [zbF,hvl],by simp [zbF]⟩ fun q n hn=>?_
   have hq:q < (zP 19 ks).length:=by have:=(List.getElem?_eq_some_iff.1 hn).1;simpa [zbF] using this
   obtain ⟨id,e1,e2⟩:=hvs q hq
   have hnq:n=zbZ lv ks q:=by
    simp [zbF,hq] at hn;exact hn.symm
   subst hnq
   exact ⟨_,_,e1,e2,rfl⟩
theorem zt4:ET.funcs.get 102=some T102:=zJ (by kernel_rfl) (by decide)
theorem zn1 (p q:Nat) (a b:List Pr) (ha:zaI a.length) (hb:zaI b.length):FN ET 102 [csv p a,csv q b] (.ret (.bool (decide (a=b)))):=by
 refine zU zt4 (Nat.le_of_ble_eq_true rfl) (.bool _) ?_
 (repeat (first | refine zc ?_ | (refine za ?_;refine zb (by simp (disch:=omega) only [go_sem] <;> rfl) ?_;refine zd ?_)))
 by_cases hl:a.length=b.length
 rotate_left
 ·have g:¬ (a.length:Int)=b.length:=by omega
  have hne:¬ a=b:=fun h=>hl (by rw [h])
  refine zD (by simp only [go_sem] <;> rfl) ?_ ?_
  ·intro _
   (repeat (first | refine zc ?_ | (refine za ?_;refine zb (by simp (disch:=omega) only [go_sem] <;> rfl) ?_;refine zd ?_)))
   refine zE ?_;(try simp only [zf,zi,zh,zg,zj]);refine zy (by simp only [T102,zI,go_sem] <;> rfl) ?_;simp only [zK]
   exact zar.bool (decide_eq_false hne).symm
  ·intro h;simp [g] at h
 have g:(a.length:Int)=b.length:=by omega
 refine zD (by simp only [go_sem] <;> rfl) ?_ ?_
 ·intro h;simp [g] at h
 intro _
 refine zR ?_;show W _ _ _ _ _ _
 (repeat (first | refine zc ?_ | (refine za ?_;refine zb (by simp (disch:=omega) only [go_sem] <;> rfl) ?_;refine zd ?_)))
 refine zG (zav (fun m s=>∃ i:Nat,m=a.length - i∧i≤a.length∧decide (a=b)=decide (a.drop i=b.drop i)∧s.tm 0=csv p a∧s.tm 1=csv q b∧s.tm 12=iv a.length∧s.tm 13=iv i∧s.df=[]∧s.H=[]) (n:=a.length) ?_ ?_)
 ·exact ⟨0,by simp [upd,zB]⟩
 ·rintro m ⟨tm,df,H⟩ ⟨i,rfl,hi,hd,h0,h1,h12,h13,rfl,rfl⟩
  dsimp only at h0 h1 h12 h13
  (try refine zY ?_);refine zc (za ?_);refine zb (by simp (disch:=omega) only [go_sem,h0,h1,h12,h13] <;> rfl) ?_;refine zd ?_;refine zad (by simp only [go_sem] <;> rfl) ?_ ?_
  ·intro hlt
   have hlt:i < a.length:=by have:=of_decide_eq_true hlt;omega
   have hltb:i < b.length:=by omega
   (repeat refine zc ?_)
   refine zG ?_
   (repeat (first | refine zc ?_ | (refine za ?_;refine zb (by simp (disch:=omega) only [go_sem,h13] <;> rfl) ?_;refine zd ?_)))
   (repeat refine zc ?_)
   refine zaS ?_
   refine zX (by first | exact trivial | simp only [go_sem,h0,h1,h13,List.getElem?_eq_getElem hlt,List.getElem?_eq_getElem hltb,zgN]) (by simp (disch:=omega) only [go_sem,h0,h1,h13,List.getElem?_eq_getElem hlt,List.getElem?_eq_getElem hltb,zgN] <;> rfl) rfl ?_
   refine zaf ?_;simp only [zu,zab,zf,go_sem]
   have hda:a.drop i=a[i]::a.drop (i + 1):=List.drop_eq_getElem_cons hlt
   have hdb:b.drop i=b[i]::b.drop (i + 1):=List.drop_eq_getElem_cons hltb
   rw [hda,hdb] at hd
   have hee:(decide (((a[i].1:Nat):Int)=(b[i].1:Nat)) && decide (((a[i].2:Nat):Int)=(b[i].2:Nat)))=decide (a[i]=b[i]):=by
    rw [← Bool.decide_and]
    congr 1
    rw [Prod.ext_iff]
    simp only [Int.natCast_inj]
   rw [hee]
   by_cases hx:a[i]=b[i]
   ·refine zD (by simp only [go_sem] <;> rfl) ?_ ?_
    ·rw [decide_eq_true hx];intro h;cases h
    ·intro _
     refine zR ?_
     simp only [zf,zi,zh,zg,zu,zj,if_true,reduceIte]
     (repeat refine zc ?_);refine za ?_;refine zb (by simp (disch:=omega) only [go_sem,h13] <;> rfl) ?_
     refine zC ?_;simp only [zf,zi,zh,zg,zu,zj,if_true,↓reduceIte]
     refine ⟨_,?_,i + 1,rfl,hlt,?_,by simp [upd,h0],by simp [upd,h1],by simp [upd,h12],by simp [upd,h13],trivial,trivial⟩
     ·omega
     ·rw [hd];simp only [hx,List.cons.injEq,true_and]
   ·refine zD (by simp only [go_sem] <;> rfl) ?_ ?_
    ·intro _
     (repeat (first | refine zc ?_ | (refine za ?_;refine zb (by simp (disch:=omega) only [go_sem] <;> rfl) ?_;refine zd ?_)))
     refine zE ?_;(try simp only [zf,zi,zh,zg,zj]);refine zy (by simp only [T102,zI,go_sem] <;> rfl) ?_;simp only [zK]
     exact zar.bool (by rw [hd];simp only [List.cons.injEq,hx,false_and,decide_false,Bool.not_false])
    ·rw [decide_eq_false hx];intro h;cases h
  ·intro hlt
   have hlt:¬ i < a.length:=by have:=of_decide_eq_false hlt;omega
   obtain rfl:i=a.length:=by omega
   simp only [zf,zi,zh,zg,zu,zj,if_true,reduceIte]
   (repeat (first | refine zc ?_ | (refine za ?_;refine zb (by simp (disch:=omega) only [go_sem] <;> rfl) ?_;refine zd ?_)))
   refine zE ?_;(try simp only [zf,zi,zh,zg,zj]);refine zy (by simp only [T102,zI,go_sem] <;> rfl) ?_;simp only [zK]
   refine zar.bool ?_
   rw [hd,List.drop_length,hl,List.drop_length];rfl
def zd8 (L:List zo) (n:zo) (lv:Int):Bool:=match L.getLast? with
 | none=>decide (n.low=0) && (decide (lv < 0) || decide ((n.level:Int)=lv))
 | some z=>decide (z.low < n.low) && decide (n.level=z.level)
@[reducible] def zcH (p q:Nat) (bs:List Nat) (L:List zo):PV:=.agg [.list p 1 (bs.map fun (b:Nat)=>iv (b:Int)),.list p 6 (L.map (zN q))]
theorem zsq (p q q':Nat) (bs:List Nat) (L:List zo) (n:zo) (lv:Int) (hl:zaI L.length):FN ET 138 [zcH p q bs L,zN q' n,iv lv] (.ret (.bool (zd8 L n lv))):=by
 obtain ⟨nl,ns,nlo,nle,nw,np⟩:=n
 refine zU zt0 (Nat.le_of_ble_eq_true rfl) (.bool _) ?_
 refine zc (za ?_)
 refine zb (by simp (disch:=omega) only [go_sem] <;> rfl) ?_
 refine zd ?_
 (repeat (first | refine zc ?_ | (refine za ?_;refine zb (by simp (disch:=omega) only [go_sem] <;> rfl) ?_;refine zd ?_)))
 by_cases h0:L.length=0
 ·have g0:(L.length:Int)=0:=by omega
  obtain rfl:L=[]:=List.eq_nil_of_length_eq_zero h0
  refine zD (by simp only [go_sem] <;> rfl) ?_ ?_
  ·intro _
   refine zc (za ?_)
   by_cases h1:nlo=0
   ·have g1:(nlo:Int)=0:=by omega
    by_cases h2:lv < 0
    ·refine zb (by simp (disch:=omega) only [go_sem,g1,h2] <;> rfl) ?_
     refine zd ?_
     refine zE ?_;(try simp only [zf,zi,zh,zg,zj]);refine zy (by simp only [T138,zI,go_sem] <;> rfl) ?_;simp only [zK]
     exact zar.bool (by simp [zd8,h1,h2])
    ·refine zb (by simp (disch:=omega) only [go_sem,g1,h2] <;> rfl) ?_
     refine zd ?_
     refine zE ?_;(try simp only [zf,zi,zh,zg,zj]);refine zy (by simp only [T138,zI,go_sem] <;> rfl) ?_;simp only [zK]
     exact zar.bool (by simp [zd8,h1,h2])
   ·have g1:¬ (nlo:Int)=0:=by omega
    refine zb (by simp (disch:=omega) only [go_sem,g1] <;> rfl) ?_
    refine zd ?_
    refine zE ?_;(try simp only [zf,zi,zh,zg,zj]);refine zy (by simp only [T138,zI,go_sem] <;> rfl) ?_;simp only [zK]
    exact zar.bool (by simp [zd8,h1])
  ·intro h;cases h
 ·have g0:¬ (L.length:Int)=0:=by omega
  refine zD (by simp only [go_sem] <;> rfl) ?_ ?_
  ·intro h;exact absurd (of_decide_eq_true h) g0
  ·intro _
   refine zR ?_;show W _ _ _ _ _ _
   obtain ⟨z,hz⟩:∃ z,L.getLast?=some z:=by
    cases hh:L.getLast? with
    | none=>rw [List.getLast?_eq_none_iff] at hh;subst hh;simp at h0
    | some z=>exact ⟨z,rfl⟩
   have hz2:L[L.length - 1]?=some z:=by rw [← List.getLast?_eq_getElem?];exact hz
   have e1:(L.length:Int) - 1=((L.length - 1:Nat):Int):=by omega
   have hg:zd8 L ⟨nl,ns,nlo,nle,nw,np⟩ lv=(decide (z.low < nlo) && decide (nl=z.level)):=by unfold zd8;rw [hz]
   rw [hg]
   obtain ⟨zl,zs,zlo,zle,zw,zp⟩:=z
   (repeat (first | refine zc ?_ | (refine za ?_;refine zb (by simp (disch:=omega) only [go_sem,e1,hz2] <;> rfl) ?_;refine zd ?_)))
   refine za ?_
   by_cases h1:zlo < nlo
   ·have g1:(zlo:Int) < nlo:=by omega
    refine zb (by simp (disch:=omega) only [go_sem,g1] <;> rfl) ?_
    refine zd ?_
    refine zE ?_;(try simp only [zf,zi,zh,zg,zj]);refine zy (by simp only [T138,zI,go_sem] <;> rfl) ?_;simp only [zK]
    exact zar.bool (by simp [h1];try omega)
   ·have g1:¬ (zlo:Int) < nlo:=by omega
    refine zb (by simp (disch:=omega) only [go_sem,g1] <;> rfl) ?_
    refine zd ?_
    refine zE ?_;(try simp only [zf,zi,zh,zg,zj]);refine zy (by simp only [T138,zI,go_sem] <;> rfl) ?_;simp only [zK]
    exact zar.bool (by simp [h1])
theorem f43:ET.funcs.get 43=some T43:=zJ (by kernel_rfl) (by decide)
def zeY (z:Option zo) (x:Pr):Bool:=match z with
 | some z=>!decide (z.low≤x.1)
 | none=>true
def zbK:List zo→List Pr
 | []=>[]
 | n::M=>n.pairs.filter (zeY M.head?)++zbK M
theorem zql (L:List zo) (i:Nat) (h:i < L.length):zbK (L.drop i)=L[i].pairs.filter (zeY L[i + 1]?)++zbK (L.drop (i + 1)):=by
 rw [List.drop_eq_getElem_cons h,zbK,List.head?_drop]
theorem zhu:∀ (a:List Pr) (x:Pr),zag (a++[x])=(zag a && (match a.getLast? with | some y=>decide (y.1 < x.1) | none=>true))
 | [],_=>rfl
 | [a],x=>by simp [zag]
 | a::b::l,x=>by
  have:=zhu (b::l) x
  rw [List.cons_append,List.cons_append,zag,← List.cons_append,this,zag,List.getLast?_cons_cons,Bool.and_assoc]
theorem zht:∀ (a b:List Pr),zag (a++b)=true→zag a=true
 | [],_,_=>rfl
 | [_],_,_=>rfl
 | a::c::l,b,h=>by
  rw [List.cons_append,List.cons_append,zag,← List.cons_append,Bool.and_eq_true] at h
  rw [zag,h.1,Bool.true_and]
  exact zht (c::l) b h.2
def zjC (L:List zo):FE:=if zag (zbK L)=true then .ret (.tuple [psv 0 (zbK L),.bool true]) else .ret (.tuple [psv 0 [],.bool false])
theorem ztP {H:List zk} {L:List zo} {acc:List Pr} {x:Pr} {r:List Pr} (hall:zbK L=acc++x::r) (hx:∃ y,acc.getLast?=some y∧¬ y.1 < x.1):zar H 0 (.ret (.tuple [.nilsl,.bool false])) (zjC L):=by
 have:zag (zbK L)=false:=by
  cases h:zag (zbK L) with
  | false=>rfl
  | true =>
   rw [hall,← List.singleton_append,← List.append_assoc] at h
   have h2:=zht _ _ h
   obtain ⟨y,e1,e2⟩:=hx
   rw [zhu,e1] at h2
   simp [e2] at h2
 unfold zjC
 rw [this]
 exact Frz.tupL ⟨.nil _ _,.bool _,trivial⟩
def zeh (acc:List Pr) (x:Pr):Bool:=match acc.getLast? with
 | some y=>decide (x.1≤y.1)
 | none=>false
theorem zpH {acc:List Pr} {x:Pr} (h:zeh acc x=true):∃ y,acc.getLast?=some y∧¬ y.1 < x.1:=by
 unfold zeh at h
 cases hh:acc.getLast? with
 | none=>rw [hh] at h;cases h
 | some y=>rw [hh] at h;exact ⟨y,rfl,by have:=of_decide_eq_true h;omega⟩
theorem zr6 {acc:List Pr} {x:Pr} (h:zag acc=true) (hb:zeh acc x=false):zag (acc++[x])=true:=by
 rw [zhu,h,Bool.true_and]
 unfold zeh at hb
 cases hh:acc.getLast? with
 | none=>rfl
 | some y=>rw [hh] at hb;have:=of_decide_eq_false hb;simp;omega
theorem zjl (p q:Nat) (bs:List Nat) (L:List zo) (hl:L.length < 1000000) (hp:∀ n∈L,n.pairs.length≤28) (hall:(zbK L).length < 1000000):FN ET 43 [zcH p q bs L] (zjC L):=by
 refine zU f43 (Nat.le_of_ble_eq_true rfl) ?_ ?_
 ·unfold zjC;split
  ·exact Lb.two (Lb.pvs _) (.bool _)
  ·exact Lb.two (Lb.pvs _) (.bool _)
 refine zc (za ?_)
 refine zb (by simp (disch:=omega) only [go_sem] <;> rfl) ?_
 refine zd ?_
 (repeat (first | refine zc ?_ | (refine za ?_;refine zb (by simp (disch:=omega) only [go_sem] <;> rfl) ?_;refine zd ?_)))
 refine zev 66 2 (i:=2) rfl ?_
 simp only [lzy,List.length_cons,List.length_nil,List.cons_append,List.nil_append]
 refine zG (zav (fun m s=>∃ (i:Nat) (acc:List Pr) (G:List zk),m=L.length - i∧i≤L.length∧zbK L=acc++zbK (L.drop i)∧zag acc=true∧s.tm 1=.ptr 0 0 0 0 2∧s.tm 2=.sl 1 acc.length 0 acc.length (2 * acc.length) 2∧s.tm 10=.list p 6 (L.map (zN q))∧s.tm 11=iv L.length∧s.tm 12=iv i∧s.df=[]∧s.H=.row 100 2 0 0 [zcH p q bs L]::.row 66 2 acc.length 0 (acc.map pv)::G) (n:=L.length) ?_ ?_)
 ·exact ⟨0,[],[],rfl,by omega,rfl,rfl,by simp [upd,zB],by simp [upd],by simp [upd],by simp [upd],by simp [upd],rfl,rfl⟩
 ·rintro m ⟨tm,df,H⟩ ⟨i,acc,G,rfl,hi,hac,hri,h1,h2,h10,h11,h12,rfl,rfl⟩
  dsimp only at h1 h2 h10 h11 h12
  (try refine zY ?_);refine zc (za ?_);refine zb (by simp (disch:=omega) only [go_sem,h1,h2,h10,h11,h12] <;> rfl) ?_;refine zd ?_;refine zad (by simp only [go_sem] <;> rfl) ?_ ?_
  ·intro hlt
   have hlt:i < L.length:=by have:=of_decide_eq_true hlt;omega
   have hLi:=List.getElem?_eq_getElem hlt
   rw [zql L i hlt] at hac
   have hn28:=hp _ (List.getElem_mem hlt)
   generalize L[i]=n at *
   (repeat refine zc ?_)
   refine zG ?_
   (repeat (first | refine zc ?_ | (refine za ?_;refine zb (by simp (disch:=omega) only [go_sem,h10,h12,hLi,ze,zF] <;> rfl) ?_;refine zd ?_)))
   generalize hR:zbK (List.drop (i + 1) L)=R at hac
   refine zG (zav (fun m s=>∃ (j:Nat) (acc:List Pr) (G:List zk),m=n.pairs.length - j∧j≤n.pairs.length∧zbK L=acc++((n.pairs.drop j).filter (zeY L[i + 1]?)++R)∧zag acc=true∧s.tm 1=.ptr 0 0 0 0 2∧s.tm 2=.sl 1 acc.length 0 acc.length (2 * acc.length) 2∧s.tm 4=iv i∧s.tm 10=.list p 6 (L.map (zN q))∧s.tm 11=iv L.length∧s.tm 12=iv i∧s.tm 18=psv q n.pairs∧s.tm 19=iv n.pairs.length∧s.tm 20=iv j∧s.df=[]∧s.H=.row 100 2 0 0 [zcH p q bs L]::.row 66 2 acc.length 0 (acc.map pv)::G) (n:=n.pairs.length) ?_ ?_)
   ·exact ⟨0,acc,_,rfl,by omega,hac,hri,by simp [upd,h1],by simp [upd,h2],by simp [upd],by simp [upd,h10],by simp [upd,h11],by simp [upd,h12],by simp [upd],by simp [upd],by simp [upd],rfl,rfl⟩
   ·clear h1 h2 h10 h11 h12 hac hri
    rintro m ⟨tm,df,H⟩ ⟨j,acc,G,rfl,hj,hac,hri,h1,h2,h4,h10,h11,h12,h18,h19,h20,rfl,rfl⟩
    dsimp only at h1 h2 h4 h10 h11 h12 h18 h19 h20
    (try refine zY ?_);refine zc (za ?_);refine zb (by simp (disch:=omega) only [go_sem,h18,h19,h20] <;> rfl) ?_;refine zd ?_;refine zad (by simp only [go_sem] <;> rfl) ?_ ?_
    ·intro hltj
     have hltj:j < n.pairs.length:=by have:=of_decide_eq_true hltj;omega
     have hxj:=List.getElem?_eq_getElem hltj
     rw [List.drop_eq_getElem_cons hltj,List.filter_cons] at hac
     generalize n.pairs[j]=x at *
     (repeat refine zc ?_)
     refine zG ?_
     (repeat (first | refine zc ?_ | (refine za ?_;refine zb (by simp (disch:=omega) only [go_sem,h18,h20,hxj,ze,zF] <;> rfl) ?_;refine zd ?_)))
     (repeat refine zc ?_)
     refine zdH (Q:=fun y s'=>y=.norm∧s'.tm 1=.ptr 0 0 0 0 2∧s'.tm 2=.sl 1 acc.length 0 acc.length (2 * acc.length) 2∧s'.tm 4=iv i∧s'.tm 10=.list p 6 (L.map (zN q))∧s'.tm 11=iv L.length∧s'.tm 12=iv i∧s'.tm 18=psv q n.pairs∧s'.tm 19=iv n.pairs.length∧s'.tm 20=iv j∧s'.tm 41=.bool (!zeY L[i + 1]? x)∧s'.tm 7=.ptr (G.length + 1 + 1) 0 0 0 2∧s'.df=[]∧s'.H=.row 100 2 0 0 [zcH p q bs L]::.row 66 2 acc.length 0 (acc.map pv)::(G++[.row 66 2 0 0 [pv x]])) (zaS ?_) ?_
     ·have e1:((i:Int) + 1)=((i + 1:Nat):Int):=by omega
      by_cases hi1:i + 1 < L.length
      ·have g1:((i + 1:Nat):Int) < (L.length:Nat):=by omega
       have hz:=List.getElem?_eq_getElem hi1
       rw [hz]
       generalize L[i + 1]=z at *
       refine zX (by first | exact trivial | simp only [go_sem,h1,h4,e1,g1,hz,ze]) (by simp (disch:=omega) only [go_sem,h1,h4,e1,g1,hz,ze] <;> rfl) rfl ?_
       refine zaf ?_;simp only [zu,zab,zf,go_sem]
       exact ⟨h1,h2,h4,h10,h11,h12,h18,h19,h20,by simp [zeY]⟩
      ·have g1:¬ ((i + 1:Nat):Int) < (L.length:Nat):=by omega
       have hz:L[i + 1]?=none:=List.getElem?_eq_none (by omega)
       rw [hz]
       refine zX (by first | exact trivial | simp only [go_sem,h1,h4,e1,g1,hz,ze]) (by simp (disch:=omega) only [go_sem,h1,h4,e1,g1,hz,ze] <;> rfl) rfl ?_
       refine zaf ?_;simp only [zu,zab,zf,go_sem]
       exact ⟨h1,h2,h4,h10,h11,h12,h18,h19,h20,by simp [zeY]⟩
     ·clear h1 h2 h4 h10 h11 h12 h18 h19 h20
      rintro y ⟨tm,df,H⟩ ⟨rfl,h1,h2,h4,h10,h11,h12,h18,h19,h20,h41,h7,rfl,rfl⟩
      dsimp only at h1 h2 h4 h10 h11 h12 h18 h19 h20 h41 h7
      simp only [zf,zi,zh,zg,zu,zj,if_true,reduceIte]
      by_cases hk:zeY L[i + 1]? x=true
      rotate_left
      ·rw [if_neg hk] at hac
       have hk:zeY L[i + 1]? x=false:=by simpa using hk
       refine zD (by simp only [go_sem,h41] <;> rfl) ?_ ?_
       ·intro _
        refine zkL ?_
        simp only [zf,zi,zh,zg,zu,zj,if_true,reduceIte]
        (repeat refine zc ?_);refine za ?_;refine zb (by simp (disch:=omega) only [go_sem,h20] <;> rfl) ?_
        refine zC ?_;simp only [zf,zi,zh,zg,zu,zj,if_true,↓reduceIte]
        refine ⟨_,?m1,j + 1,acc,_,rfl,hltj,hac,hri,by simp [upd,h1],by simp [upd,h2],by simp [upd,h4],by simp [upd,h10],by simp [upd,h11],by simp [upd,h12],by simp [upd,h18],by simp [upd,h19],by simp [upd,h20],trivial,rfl⟩
        case m1=>omega
       ·rw [hk];intro h;cases h
      rw [if_pos hk] at hac
      refine zD (by simp only [go_sem,h41] <;> rfl) ?_ ?_
      ·rw [hk];intro h;cases h
      intro _
      refine zR ?_;show W _ _ _ _ _ _
      (repeat (first | refine zc ?_ | (refine za ?_;refine zb (by simp (disch:=omega) only [go_sem,h2] <;> rfl) ?_;refine zd ?_)))
      have hal:acc.length < 1000000:=by have:=congrArg List.length hac;simp only [List.length_append] at this;omega
      have hH:∀ G2:List zk,True:=fun _=>trivial
      refine zdH (Q:=fun y s'=>y=.norm∧s'.tm 1=.ptr 0 0 0 0 2∧s'.tm 2=.sl 1 acc.length 0 acc.length (2 * acc.length) 2∧s'.tm 4=iv i∧s'.tm 10=.list p 6 (L.map (zN q))∧s'.tm 11=iv L.length∧s'.tm 12=iv i∧s'.tm 18=psv q n.pairs∧s'.tm 19=iv n.pairs.length∧s'.tm 20=iv j∧s'.tm 56=.bool (zeh acc x)∧s'.tm 7=.ptr (G.length + 1 + 1) 0 0 0 2∧s'.df=[]∧s'.H=.row 100 2 0 0 [zcH p q bs L]::.row 66 2 acc.length 0 (acc.map pv)::(G++[.row 66 2 0 0 [pv x]])) (zaS ?_) ?_
      ·by_cases ha0:acc.length=0
       ·have g1:¬ (0:Int) < (acc.length:Nat):=by omega
        refine zX (by first | exact trivial | simp only [go_sem,h2,g1]) (by simp (disch:=omega) only [go_sem,h2,g1] <;> rfl) rfl ?_
        refine zaf ?_;simp only [zu,zab,zf,go_sem]
        obtain rfl:acc=[]:=List.eq_nil_of_length_eq_zero ha0
        exact ⟨h1,h2,h4,h10,h11,h12,h18,h19,h20,rfl,h7⟩
       ·have g1:(0:Int) < (acc.length:Nat):=by omega
        have e1:(acc.length:Int) - 1=((acc.length - 1:Nat):Int):=by omega
        have e2:acc.length - 1 < acc.length:=by omega
        obtain ⟨y,hy⟩:∃ y,acc.getLast?=some y:=by
         cases hh:acc.getLast? with
         | none=>rw [List.getLast?_eq_none_iff] at hh;subst hh;simp at ha0
         | some y=>exact ⟨y,rfl⟩
        have hy2:acc[acc.length - 1]?=some y:=by rw [← List.getLast?_eq_getElem?];exact hy
        refine zX (by first | exact trivial | simp only [go_sem,h2,h7,g1,e1,e2,hy2,ze]) (by simp (disch:=omega) only [go_sem,h2,h7,g1,e1,e2,hy2,ze] <;> rfl) rfl ?_
        refine zaf ?_;simp only [zu,zab,zf,go_sem]
        exact ⟨h1,h2,h4,h10,h11,h12,h18,h19,h20,by simp [zeh,hy],h7⟩
      ·clear h1 h2 h4 h10 h11 h12 h18 h19 h20 h41 h7
       rintro y ⟨tm,df,H⟩ ⟨rfl,h1,h2,h4,h10,h11,h12,h18,h19,h20,h56,h7,rfl,rfl⟩
       dsimp only at h1 h2 h4 h10 h11 h12 h18 h19 h20 h56 h7
       simp only [zf,zi,zh,zg,zu,zj,if_true,reduceIte]
       by_cases hk2:zeh acc x=true
       ·refine zD (by simp only [go_sem,h56] <;> rfl) ?_ ?_
        ·intro _
         (repeat (first | refine zc ?_ | (refine za ?_;refine zb (by simp (disch:=omega) only [go_sem] <;> rfl) ?_;refine zd ?_)))
         refine zE ?_;(try simp only [zf,zi,zh,zg,zj]);refine zy (by simp only [T43,zI,go_sem] <;> rfl) ?_;simp only [zK]
         exact ztP hac (zpH hk2)
        ·rw [hk2];intro h;cases h
       have hk2:zeh acc x=false:=by simpa using hk2
       refine zD (by simp only [go_sem,h56] <;> rfl) ?_ ?_
       ·rw [hk2];intro h;cases h
       intro _
       refine zR ?_
       simp only [zf,zi,zh,zg,zu,zj,if_true,reduceIte]
       have hbb:(acc.length + 1) * 17≤140737488355328:=by omega
       (repeat refine zc ?_);refine za ?_;refine zb (by simp (disch:=omega) only [go_sem,h2,h7,hbb,ze] <;> rfl) ?_
       refine zC ?_;simp only [zf,zi,zh,zg,zu,zj,if_true,↓reduceIte]
       (repeat refine zc ?_);refine za ?_;refine zb (by simp (disch:=omega) only [go_sem,h20] <;> rfl) ?_
       refine zC ?_;simp only [zf,zi,zh,zg,zu,zj,if_true,↓reduceIte]
       refine ⟨_,?m3,j + 1,acc++[x],?G3,rfl,hltj,by rw [hac];simp,zr6 hri hk2,by simp [upd,h1],by simp [upd],by simp [upd,h4],by simp [upd,h10],by simp [upd,h11],by simp [upd,h12],by simp [upd,h18],by simp [upd,h19],by simp [upd,h20],trivial,?H3⟩
       case m3=>omega
       case H3=>rw [List.map_append,List.length_append];rfl
    ·intro hltj
     have hltj:¬ j < n.pairs.length:=by have:=of_decide_eq_false hltj;omega
     obtain rfl:j=n.pairs.length:=by omega
     simp only [zf,zi,zh,zg,zu,zj,if_true,reduceIte]
     (repeat refine zc ?_);refine za ?_;refine zb (by simp (disch:=omega) only [go_sem,h12] <;> rfl) ?_
     refine zC ?_;simp only [zf,zi,zh,zg,zu,zj,if_true,↓reduceIte]
     rw [List.drop_length,List.filter_nil,List.nil_append,← hR] at hac
     refine ⟨_,?m9,i + 1,acc,G,rfl,hlt,hac,hri,by simp [upd,h1],by simp [upd,h2],by simp [upd,h10],by simp [upd,h11],by simp [upd,h12],trivial,rfl⟩
     case m9=>omega
  ·intro hlt
   have hlt:¬ i < L.length:=by have:=of_decide_eq_false hlt;omega
   obtain rfl:i=L.length:=by omega
   simp only [zf,zi,zh,zg,zu,zj,if_true,reduceIte]
   (repeat (first | refine zc ?_ | (refine za ?_;refine zb (by simp (disch:=omega) only [go_sem,h2] <;> rfl) ?_;refine zd ?_)))
   refine zE ?_;(try simp only [zf,zi,zh,zg,zj]);refine zy (by simp only [T43,zI,go_sem] <;> rfl) ?_;simp only [zK]
   rw [List.drop_length,zbK,List.append_nil] at hac
   unfold zjC
   rw [hac,if_pos hri]
   refine Frz.tupL ⟨?_,.bool _,trivial⟩
   exact Frz.whole (l:=acc.map pv) rfl rfl (by simp) (by simp) (fun v hv=>by obtain ⟨x,_,rfl⟩:=List.mem_map.1 hv;rfl) zeN
end Fv
end Go.Proofs.YtfomlmhnmheenaaGreat
namespace Go.Proofs.YtfomlmhnmheenaaGreat
namespace Fv
def zcL:Nat→List Nat→Nat
 | 0,_=>0
 | n + 1,s=>zcL n s + if s.contains n=true then 0 else 1
theorem zlH:∀ (n b:Nat) (s:List Nat),zcL n (b::s)≤zcL n s
 | 0,_,_=>Nat.le_refl _
 | n + 1,b,s=>by
  have:=zlH n b s
  rw [zcL,zcL]
  by_cases h:s.contains n=true
  ·have h2:(b::s).contains n=true:=by rw [List.contains_cons,h,Bool.or_true]
   rw [if_pos h,if_pos h2];omega
  ·rw [if_neg h];split <;> omega
theorem zio:∀ (n b:Nat) (s:List Nat),b < n→¬ s.contains b=true→zcL n (b::s) < zcL n s
 | 0,_,_,h,_=>by omega
 | n + 1,b,s,h,hs=>by
  rw [zcL,zcL]
  by_cases hb:b=n
  ·subst hb
   have:=zlH b b s
   have h2:(b::s).contains b=true:=by simp
   rw [if_neg hs,if_pos h2];omega
  ·have:=zio n b s (by omega) hs
   by_cases h3:s.contains n=true
   ·have h2:(b::s).contains n=true:=by rw [List.contains_cons,h3,Bool.or_true]
    rw [if_pos h3,if_pos h2];omega
   ·rw [if_neg h3];split <;> omega
theorem zi6:∀ (n b:Nat) (s:List Nat),zcL n s=0→b < n→s.contains b=true
 | 0,_,_,_,h=>by omega
 | n + 1,b,s,h,hb=>by
  rw [zcL] at h
  by_cases h3:s.contains n=true
  ·by_cases hbn:b=n
   ·subst hbn;exact h3
   ·exact zi6 n b s (by omega) (by omega)
  ·rw [if_neg h3] at h;omega
theorem zhK:∀ (n:Nat) (s:List Nat),zcL n s≤n
 | 0,_=>Nat.le_refl _
 | n + 1,s=>by have:=zhK n s;rw [zcL];split <;> omega
abbrev Lev:=List Nat × List zo
def zb9 (w:List Nat) (lv:Int):Nat→List Nat→List Nat→List zo→Nat→Option (List Nat × List Nat × List zo)
 | 0,seen,bs,ns,b=>if b=0 then some (seen,bs,ns) else none
 | k + 1,seen,bs,ns,b=>if b=0 then some (seen,bs,ns) else
  if decide (w.length / 64≤b) || seen.contains b then none else
  if headB (zaG w b) && zd8 ns (headN (zaG w b)) lv then zb9 w lv k (b::seen) (bs++[b]) (ns++[headN (zaG w b)]) (headN (zaG w b)).sib else none
def zbC (w:List Nat):Nat→List Nat→List Lev→Nat→Int→List Lev × Bool
 | 0,_,acc,_,_=>(acc,false)
 | d + 1,seen,acc,b,lv=>match zb9 w lv (w.length / 64) seen [] [] b with
  | none=>(acc,false)
  | some (_,_,[])=>(acc,false)
  | some (seen',bs,n::ns)=>if n.level=0 then (acc++[(bs,n::ns)],zag (zbK (n::ns))) else zbC w d seen' (acc++[(bs,n::ns)]) n.left ((n.level:Int) - 1)
def zaj (w:List Nat) (a:Nat):List Lev × Bool:=zbC w 14 [] [] (w.getD a 0) (-1)
end Fv
end Go.Proofs.YtfomlmhnmheenaaGreat
namespace Go.Proofs.YtfomlmhnmheenaaGreat
namespace Fv
open Tw
structure zb7 (n:zo):Prop where
 level:n.level≤12
 sib:n.sib < 2048
 way:n.way≤2
 few:n.pairs.length≤27
 rise:zag n.pairs=true
 ptrs:zb6 [n.left] n.pairs=true
 may:∀ p∈n.pairs,zcw n p=true
 left:(n.level=0∧n.left=9223372036854775808)∨(0 < n.level∧zd4 n.left=true)
theorem zdR (p:Nat):zd4 p=true↔(1≤p∧p < 2048):=by unfold zd4;simp
theorem znN {n:zo} {p:Pr} (h:zcw n p=true):p.2 ≠ 0:=by
 unfold zcw at h
 split at h
 ·simp only [Bool.and_eq_true,decide_eq_true_eq] at h;omega
 ·rw [Bool.and_eq_true,zdR] at h;omega
theorem zgE:∀ l:List Pr,(zbW l).length=2 * l.length
 | []=>rfl
 | a::l=>by have:=zgE l;simp only [zbW,List.flatMap_cons,List.length_append,List.length_cons,List.length_nil] at this ⊢;omega
theorem zdh (a:Pr) (l:List Pr):zbW (a::l)=a.1::a.2::zbW l:=by simp [zbW]
theorem zpf (a:Pr) (l:List Pr):zbW (l++[a])=zbW l++[a.1,a.2]:=by simp [zbW]
theorem zof:∀ (m prev:Nat),zb5 prev (List.replicate m 0)=[]
 | 0,_=>rfl
 | 1,_=>rfl
 | m + 2,prev=>by rw [List.replicate_succ,List.replicate_succ,zb5,if_pos rfl]
theorem zjn (m:Nat):∀ (ps:List Pr) (seen:List Nat) (prev:Nat),zb6 seen ps=true→prev∈seen→(∀ p∈ps,p.2 ≠ 0)→zb5 prev (zbW ps++List.replicate m 0)=ps
 | [],_,prev,_,_,_=>by rw [show zbW []=[] from rfl,List.nil_append];exact zof m prev
 | a::ps,seen,prev,h,hm,hz=>by
  rw [zb6,Bool.and_eq_true,Bool.not_eq_true'] at h
  have h1:¬ a.2=prev:=by
   intro e;subst e
   have:seen.contains a.2=true:=by simpa using hm
   rw [this] at h;cases h.1
  rw [zdh,List.cons_append,List.cons_append,zb5,if_neg (hz a (List.mem_cons_self ..)),if_neg h1]
  rw [zjn m ps (a.2::seen) a.2 h.2 (List.mem_cons_self ..) fun p hp=>hz p (List.mem_cons_of_mem _ hp)]
theorem zlN (m:Nat):∀ ps:List Pr,(∀ p∈ps,p.2 ≠ 0)→zbm (zbW ps++List.replicate m 0)=ps.length
 | [],_=>by
  rw [show zbW []=[] from rfl,List.nil_append]
  match m with
  | 0=>rfl
  | 1=>rfl
  | m + 2=>rw [List.replicate_succ,List.replicate_succ,zbm,if_pos rfl];rfl
 | a::ps,hz=>by
  rw [zdh,List.cons_append,List.cons_append,zbm,if_neg (hz a (List.mem_cons_self ..)),zlN m ps fun p hp=>hz p (List.mem_cons_of_mem _ hp)]
  rfl
theorem zlY:∀ m,zd0 (List.replicate m 0)=true
 | 0=>rfl
 | 1=>rfl
 | m + 2=>by rw [List.replicate_succ,List.replicate_succ,zd0,zlY m];rfl
theorem zst (A B:List Nat) (k x y a b:Nat) (hk:k=A.length):((A++x::y::B).set k a).set (k + 1) b=A++a::b::B:=by
 subst hk
 rw [List.set_append_right _ _ (Nat.le_refl _),List.set_append_right _ _ (by omega)]
 simp
theorem zrx (n:zo):zbD n 5=zjY n++List.replicate 56 0:=rfl
theorem zny (n:zo) (h:n.pairs.length≤28):∀ j,j≤n.pairs.length→zbY n j=zjY n++zbW (n.pairs.take j)++List.replicate (56 - 2 * j) 0
 | 0,_=>by rw [zbY,zrx];rfl
 | j + 1,hj=>by
  have hr:List.replicate (56 - 2 * j) 0=0::0::List.replicate (56 - 2 * (j + 1)) 0:=by
   rw [show 56 - 2 * j=(56 - 2 * (j + 1)) + 1 + 1 by omega,List.replicate_succ,List.replicate_succ]
  have hl:(zjY n++zbW (n.pairs.take j)).length=8 + 2 * j:=by
   rw [List.length_append,zgE,List.length_take];simp [zjY];omega
  rw [zbY,zny n h j (by omega),hr,zst _ _ _ _ _ _ _ hl.symm]
  have ht:n.pairs.take (j + 1)=n.pairs.take j++[n.pairs.getD j (0,0)]:=by
   rw [List.take_add_one,List.getD_eq_getElem?_getD,List.getElem?_eq_getElem (by omega)];rfl
  rw [ht,zpf]
  simp [List.append_assoc]
theorem zjM (n:zo) (h:n.pairs.length≤28):zbp n=zjY n++(zbW n.pairs++List.replicate (56 - 2 * n.pairs.length) 0):=by
 unfold zbp
 rw [zny n h _ (Nat.le_refl _),List.take_length,List.append_assoc]
theorem zei (n:zo):(zbp n).length=64:=zcs n _
section
variable {n:zo} (h:zb7 n)
include h
theorem zb7.rowL:(zbW n.pairs++List.replicate (56 - 2 * n.pairs.length) 0).length=56:=by
 have:=h.few
 rw [List.length_append,zgE,List.length_replicate];omega
theorem zb7.left0:n.left ≠ 0:=by
 rcases h.left with ⟨_,e⟩ | ⟨_,e⟩
 ·rw [e];decide
 ·rw [zdR] at e;omega
theorem zb7.row:zbI n.left (zbW n.pairs++List.replicate (56 - 2 * n.pairs.length) 0).length=true:=by
 rw [h.rowL];unfold zbI;simp [h.left0]
theorem zb7.read:zbs n.left (zbW n.pairs++List.replicate (56 - 2 * n.pairs.length) 0)=n.pairs:=by
 unfold zbs
 rw [if_pos h.row]
 exact zjn _ _ [n.left] _ h.ptrs (List.mem_cons_self ..) fun p hp=>znN (h.may p hp)
theorem zb7.drop8:(zbp n).drop 8=zbW n.pairs++List.replicate (56 - 2 * n.pairs.length) 0:=by
 rw [zjM n (by have:=h.few;omega)];rfl
theorem zb7.parts:(zbp n).getD 0 0=7522529147838689024 + n.level∧(zbp n).getD 1 0=n.sib∧(zbp n).getD 2 0=n.low∧(zbp n).getD 3 0=n.left∧(zbp n).getD 4 0=n.way:=by
 rw [zjM n (by have:=h.few;omega)]
 exact ⟨rfl,rfl,rfl,rfl,rfl⟩
omit h in
theorem zlC (k:Nat):zgu (7522529147838689024 + k)=k:=by rw [zkX,Nat.add_sub_cancel_left]
omit h in
theorem zq7 {w:List Nat} {a b c d e:Nat} {ps:List Pr} (h0:zgu (w.getD 0 0)=a) (h1:w.getD 1 0=b) (h2:w.getD 2 0=c) (h3:w.getD 3 0=d) (h4:w.getD 4 0=e) (h5:zbs d (w.drop 8)=ps):headN w=⟨a,b,c,d,e,ps⟩:=by
 unfold headN;rw [h0,h1,h2,h3,h4,h5]
theorem zb7.headN:headN (zbp n)=n:=by
 obtain ⟨p0,p1,p2,p3,p4⟩:=h.parts
 exact zq7 (by rw [p0];exact zlC n.level) p1 p2 p3 p4 (by rw [h.drop8];exact h.read)
theorem zb7.headB:headB (zbp n)=true:=by
 obtain ⟨p0,p1,p2,p3,p4⟩:=h.parts
 unfold Fv.headB
 rw [Bool.and_eq_true,Bool.and_eq_true,p0,zlC]
 refine ⟨⟨by rw [zei];rfl,by rw [zjM n (by have:=h.few;omega)];rfl⟩,?_⟩
 rw [List.all_eq_true]
 intro i hi
 have hi:i < 5:=List.mem_range.1 hi
 match i,hi with
 | 0,_=>rw [p0,zcW,Bool.and_eq_true,decide_eq_true_eq,decide_eq_true_eq];exact ⟨Nat.le_add_right _ _,Nat.add_le_add_left h.level _⟩
 | 1,_=>rw [p1,zcW,decide_eq_true_eq];exact h.sib
 | 2,_=>rfl
 | 3,_ =>
  rw [p3,zcW]
  rcases h.left with ⟨e1,e2⟩ | ⟨e1,e2⟩
  ·rw [e1,e2];rfl
  ·rw [e2,decide_eq_true e1,Bool.and_true,Bool.or_true]
 | 4,_=>rw [p4];show decide (n.way≤2)=true;rw [decide_eq_true_eq];exact h.way
theorem zb7.slots:zcK n.left ((zbp n).drop 8)=0:=by
 have hne:∀ p∈n.pairs,p.2 ≠ 0:=fun p hp=>znN (h.may p hp)
 unfold zcK
 rw [h.drop8,if_pos h.row,if_pos]
 unfold zda
 rw [h.read,h.rise,h.ptrs,zlN _ _ hne,h.rowL]
 have hd:(zbW n.pairs++List.replicate (56 - 2 * n.pairs.length) 0).drop (2 * n.pairs.length)=List.replicate (56 - 2 * n.pairs.length) 0:=by
  rw [← zgE,List.drop_left]
 rw [hd,zlY]
 have:=h.few
 simp;omega
theorem zb7.check:zbG (zbp n)=0:=by
 unfold zbG zdK
 rw [if_pos h.headB,if_pos]
 rw [h.headN,h.slots]
 simp only [decide_true,Bool.true_and,Bool.not_eq_true',List.any_eq_false,Bool.not_eq_true]
 intro p hp
 rw [h.may p hp];simp
theorem zb7.make:zhV n=true:=by
 unfold zhV
 rw [h.check,h.headN,(zis n).2 ⟨h.level,h.sib,h.way,h.few⟩]
 simp
end
structure zrV (lv:Nat) (ns:List zo):Prop where
 ne:ns ≠ []
 each:∀ n∈ns,zb7 n∧n.level=lv∧n.sib=0
 low0:∀ n,ns[0]?=some n→n.low=0
 rise:∀ i n m,ns[i]?=some n→ns[i + 1]?=some m→n.low < m.low
 below:∀ i n m,ns[i]?=some n→ns[i + 1]?=some m→∀ p∈n.pairs,p.1 < m.low
def zai:List Nat→List zo→List zo
 | _::bs,n::ns=>{ n with sib:=bs.headD 0 }::zai bs ns
 | _,_=>[]
theorem zca:∀ (bs:List Nat) (ns:List zo),bs.length=ns.length→(zai bs ns).length=ns.length
 | [],[],_=>rfl
 | _::bs,n::ns,h=>by rw [zai,List.length_cons,List.length_cons,zca bs ns (by simpa using h)]
 | [],_::_,h=>by simp at h
 | _::_,[],h=>by simp at h
theorem zdp:∀ (bs:List Nat) (ns:List zo) (i:Nat) (n:zo),bs.length=ns.length→ns[i]?=some n→(zai bs ns)[i]?=some { n with sib:=bs.getD (i + 1) 0 }
 | [],[],i,n,_,h=>by simp at h
 | [],_::_,_,_,h,_=>by simp at h
 | _::_,[],_,_,h,_=>by simp at h
 | b::bs,n::ns,i,m,hl,h=>by
  rw [zai]
  match i with
  | 0 =>
   rw [List.getElem?_cons_zero] at h ⊢
   injection h with h;subst h
   cases bs <;> rfl
  | i + 1 =>
   rw [List.getElem?_cons_succ] at h ⊢
   rw [zdp bs ns i m (by simpa using hl) h]
   rfl
theorem zqv {bs:List Nat} {ns:List zo} (hl:bs.length=ns.length) (h:ns ≠ []):zai bs ns ≠ []:=by
 intro e
 have:=zca bs ns hl
 rw [e] at this
 exact h (List.eq_nil_of_length_eq_zero this.symm)
def after:Option Nat→Nat→Prop
 | none,n=>n=0
 | some l,n=>l < n
def zf2 (lv:Nat):Option Nat→List Nat→List zo→Prop
 | _,[],[]=>True
 | pl,b::bs,n::ns=>1≤b∧b < 2048∧zb7 n∧n.level=lv∧n.sib=bs.headD 0∧after pl n.low∧(∀ m,ns.head?=some m→∀ p∈n.pairs,p.1 < m.low)∧zf2 lv (some n.low) bs ns
 | _,[],_::_=>False
 | _,_::_,[]=>False
theorem zb7.setSib {n:zo} (h:zb7 n) {s:Nat} (hs:s < 2048):zb7 { n with sib:=s }:=⟨h.level,hs,h.way,h.few,h.rise,h.ptrs,h.may,h.left⟩
theorem znl (lv:Nat):∀ (bs:List Nat) (ns:List zo) (pl:Option Nat),bs.length=ns.length→(∀ b∈bs,1≤b∧b < 2048)→(∀ n∈ns,zb7 n∧n.level=lv)→(∀ n,ns[0]?=some n→after pl n.low)→(∀ i n m,ns[i]?=some n→ns[i + 1]?=some m→n.low < m.low)→(∀ i n m,ns[i]?=some n→ns[i + 1]?=some m→∀ p∈n.pairs,p.1 < m.low)→zf2 lv pl bs (zai bs ns)
 | [],[],_,_,_,_,_,_,_=>trivial
 | [],_::_,_,h,_,_,_,_,_=>by simp at h
 | _::_,[],_,h,_,_,_,_,_=>by simp at h
 | b::bs,n::ns,pl,hl,hb,hn,h0,hr,hw=>by
  have hs:bs.headD 0 < 2048:=by
   cases bs with
   | nil=>decide
   | cons c bs=>exact (hb c (by simp)).2
  have hl':bs.length=ns.length:=by simpa using hl
  have hg:=hn n (List.mem_cons_self ..)
  refine ⟨(hb b (List.mem_cons_self ..)).1,(hb b (List.mem_cons_self ..)).2,hg.1.setSib hs,hg.2,rfl,h0 n rfl,?_,?_⟩
  ·intro m hm p hp
   cases ns with
   | nil=>cases bs <;> simp [zai] at hm
   | cons c ns =>
    cases bs with
    | nil=>simp at hl'
    | cons d bs =>
     simp [zai] at hm
     subst hm
     exact hw 0 n c rfl rfl p hp
  ·refine znl lv bs ns (some n.low) hl' (fun c hc=>hb c (List.mem_cons_of_mem _ hc)) (fun c hc=>hn c (List.mem_cons_of_mem _ hc)) ?_ (fun i a c ha hc=>hr (i + 1) a c ha hc) (fun i a c ha hc=>hw (i + 1) a c ha hc)
   intro m hm
   exact hr 0 n m rfl hm
def zci (w:List Nat) (bs:List Nat) (ns:List zo):Prop:=∀ (i b:Nat) (n:zo),bs[i]?=some b→ns[i]?=some n→b < w.length / 64∧zaG w b=zbp n
theorem zci.tail {w:List Nat} {b:Nat} {bs:List Nat} {n:zo} {ns:List zo} (h:zci w (b::bs) (n::ns)):zci w bs ns:=fun i c m hc hm=>h (i + 1) c m hc hm
theorem zij (w:List Nat) (lv:Nat) (zdz:Int) (hwant:zdz < 0∨(lv:Int)=zdz):∀ (bs:List Nat) (ns:List zo) (pl:Option Nat) (accb:List Nat) (accn:List zo) (seen:List Nat) (k:Nat),zf2 lv pl bs ns→zci w bs ns→(accn.getLast?.map zo.low=pl)→(∀ z,accn.getLast?=some z→z.level=lv)→bs.Nodup→(∀ b∈bs,¬ seen.contains b=true)→zcL (w.length / 64) seen≤k→zb9 w zdz k seen accb accn (bs.headD 0)=some (bs.reverse++seen,accb++bs,accn++ns)
 | [],[],pl,accb,accn,seen,k,_,_,_,_,_,_,_=>by cases k <;> simp [zb9]
 | [],_::_,_,_,_,_,_,h,_,_,_,_,_,_=>h.elim
 | _::_,[],_,_,_,_,_,h,_,_,_,_,_,_=>h.elim
 | b::bs,n::ns,pl,accb,accn,seen,k,hc,hlaid,hpl,hlv,hnd,hseen,hk=>by
  obtain ⟨h1,h2,hg,hl,hsib,hlow,_,hrest⟩:=hc
  obtain ⟨hbl,hw⟩:=hlaid 0 b n rfl rfl
  have hns:¬ seen.contains b=true:=hseen b (List.mem_cons_self ..)
  have hlt:=zio _ b seen hbl hns
  rw [List.nodup_cons] at hnd
  match k with
  | 0=>omega
  | k + 1 =>
   rw [List.headD_cons,zb9,if_neg (by omega),if_neg (by simp only [Bool.or_eq_true,decide_eq_true_eq,not_or];exact ⟨by omega,hns⟩),hw,hg.headB,hg.headN,if_pos]
   ·rw [hsib,zij w lv zdz hwant bs ns (some n.low) (accb++[b]) (accn++[n]) (b::seen) k hrest hlaid.tail (by simp) (fun z hz=>by simp at hz;subst hz;exact hl) hnd.2 ?_ (by omega)]
    ·simp
    ·intro c hc
     have hcb:¬ c=b:=by intro e;subst e;exact hnd.1 hc
     have:=hseen c (List.mem_cons_of_mem _ hc)
     simpa [hcb] using this
   ·rw [Bool.true_and]
    unfold zd8
    cases hz:accn.getLast? with
    | none =>
     rw [hz] at hpl
     simp at hpl
     subst hpl
     simp only [Bool.and_eq_true,Bool.or_eq_true,decide_eq_true_eq]
     exact ⟨hlow,by rw [hl];exact hwant⟩
    | some z =>
     rw [hz] at hpl
     simp at hpl
     subst hpl
     simp only [Bool.and_eq_true,decide_eq_true_eq]
     exact ⟨hlow,by rw [hl,hlv z hz]⟩
def zcF (n:zo):List Pr:=(n.low,n.left)::n.pairs
def zcZ (L:Lev):List Pr:=(L.2.map zo.low).zip L.1
def zgJ:List Lev→Prop
 | []=>False
 | [L]=>zf2 0 none L.1 L.2∧L.2 ≠ []
 | L::M::T=>zf2 (T.length + 1) none L.1 L.2∧L.2 ≠ []∧L.2.flatMap zcF=zcZ M∧zgJ (M::T)
theorem zgJ.chain {L:Lev} {T:List Lev} (h:zgJ (L::T)):zf2 T.length none L.1 L.2∧L.2 ≠ []:=by
 match T,h with
 | [],h=>exact h
 | _::_,h=>exact ⟨h.1,h.2.1⟩
theorem zhY (w:List Nat):∀ (T:List Lev) (L:Lev) (acc:List Lev) (seen:List Nat) (d:Nat) (zdz:Int),zgJ (L::T)→(∀ M∈L::T,zci w M.1 M.2)→((L::T).flatMap Prod.fst).Nodup→(∀ M∈L::T,∀ b∈M.1,¬ seen.contains b=true)→(zdz < 0∨(T.length:Int)=zdz)→T.length + 1≤d→zbC w d seen acc (L.1.headD 0) zdz=(acc++L::T,zag (zbK ((L::T).getLast (by simp)).2))
 | T,L,acc,seen,d,zdz,hs,hl,hnd,hseen,hwant,hd=>by
  obtain ⟨hch,hne⟩:=hs.chain
  rw [List.flatMap_cons,List.nodup_append] at hnd
  have hr:=zij w T.length zdz hwant L.1 L.2 none [] [] seen (w.length / 64) hch (hl L (List.mem_cons_self ..)) rfl (by simp) hnd.1 (hseen L (List.mem_cons_self ..)) (zhK _ _)
  match d with
  | 0=>omega
  | d + 1 =>
   rw [zbC,hr]
   simp only [List.nil_append]
   obtain ⟨bs,ns⟩:=L
   match ns,hne with
   | n::ns,_ =>
   have hb:∃ b bs',bs=b::bs':=by
    cases bs with
    | nil=>exact hch.elim
    | cons b bs=>exact ⟨b,bs,rfl⟩
   obtain ⟨b,bs',rfl⟩:=hb
   have hlv:n.level=T.length:=hch.2.2.2.1
   cases T with
   | nil =>
    simp only
    rw [if_pos (by rw [hlv];rfl)]
    simp
   | cons M T =>
    simp only
    rw [if_neg (by rw [hlv];simp)]
    have hk:=hs.2.2.1
    have hsM:=hs.2.2.2
    have hleft:n.left=M.1.headD 0:=by
     obtain ⟨mb,mn⟩:=M
     obtain ⟨hcM,hneM⟩:=hsM.chain
     cases mn with
     | nil=>exact absurd rfl hneM
     | cons m mn =>
      cases mb with
      | nil=>exact hcM.elim
      | cons c mb =>
       simp [zcF,zcZ] at hk
       rw [hk.1.2];rfl
    rw [hleft,zhY w T M (acc++[(b::bs',n::ns)]) ((b::bs').reverse++seen) d ((n.level:Int) - 1) hsM (fun K hK=>hl K (List.mem_cons_of_mem _ hK)) hnd.2.1 ?_ (by rw [hlv];right;simp) (by simp at hd ⊢;omega)]
    ·simp
    ·intro K hK c hc hcon
     have h1:=hseen K (List.mem_cons_of_mem _ hK) c hc
     have h2:=hnd.2.2
     have hcT:c∈(M::T).flatMap Prod.fst:=List.mem_flatMap.2 ⟨K,hK,hc⟩
     rw [List.contains_iff_mem] at hcon h1
     rw [List.mem_append,List.mem_reverse] at hcon
     rcases hcon with h | h
     ·exact h2 c h c hcT rfl
     ·exact h1 h
termination_by T=>T.length
def zcU (b:Nat) (ws:List Nat):List Pr:=(List.range ws.length).map fun k=>(64 * b + k,ws.getD k 0)
def zaN (w:List Nat) (l:List Pr):List Nat:=l.foldl (fun w x=>w.set x.1 x.2) w
theorem zd5 (w:List Nat) (a b:List Pr):zaN w (a++b)=zaN (zaN w a) b:=List.foldl_append
theorem zdo:∀ (l:List Pr) (w:List Nat),(zaN w l).length=w.length
 | [],_=>rfl
 | x::l,w=>by show (zaN (w.set x.1 x.2) l).length=_;rw [zdo l,List.length_set]
theorem zi7 (w ws:List Nat) (o:Nat):∀ m,m≤ws.length→o + m≤w.length→zaN w ((List.range m).map fun k=>(o + k,ws.getD k 0))=w.take o++ws.take m++w.drop (o + m)
 | 0,_,_=>by simp [zaN]
 | m + 1,h1,h2=>by
  have hd:w.drop (o + m)=w[o + m]::w.drop (o + (m + 1)):=List.drop_eq_getElem_cons (by omega)
  have hl:(w.take o++ws.take m).length=o + m:=by simp;omega
  have ht:ws.take (m + 1)=ws.take m++[ws.getD m 0]:=by
   rw [List.take_add_one,List.getD_eq_getElem?_getD,List.getElem?_eq_getElem (by omega)];rfl
  rw [List.range_succ,List.map_append,zd5,zi7 w ws o m (by omega) (by omega),hd]
  show List.set _ (o + m) (ws.getD m 0)=_
  rw [List.set_append_right _ _ (by omega),hl,Nat.sub_self,List.set_cons_zero,ht]
  simp [List.append_assoc]
theorem zjR (w ws:List Nat) (b:Nat) (h1:ws.length=64) (h2:64 * b + 64≤w.length):zaN w (zcU b ws)=w.take (64 * b)++ws++w.drop (64 * b + 64):=by
 unfold zcU
 rw [zi7 w ws (64 * b) ws.length (Nat.le_refl _) (by omega),List.take_length,h1]
theorem zf7 (w:List Nat) (b j:Nat):(zaG w b)[j]?=if j < 64 then w[64 * b + j]? else none:=by
 unfold zaG
 rw [List.getElem?_drop,List.getElem?_take]
 by_cases h:j < 64
 ·rw [if_pos h,if_pos (by omega)]
 ·rw [if_neg h,if_neg (by omega)]
theorem zpw (w ws:List Nat) (b:Nat) (h1:ws.length=64) (h2:64 * b + 64≤w.length):zaG (zaN w (zcU b ws)) b=ws:=by
 rw [zjR w ws b h1 h2]
 unfold zaG
 have hl:(w.take (64 * b)).length=64 * b:=by simp;omega
 rw [List.take_append_of_le_length (by simp;omega),List.take_of_length_le (by simp;omega),List.drop_append_of_le_length (by omega),List.drop_of_length_le (by omega),List.nil_append]
theorem zns (w ws:List Nat) (b c:Nat) (h1:ws.length=64) (h2:64 * b + 64≤w.length) (h3:¬ c=b):zaG (zaN w (zcU b ws)) c=zaG w c:=by
 apply List.ext_getElem?
 intro j
 rw [zf7,zf7]
 split
 ·rename_i hj
  rw [zjR w ws b h1 h2]
  have hl:(w.take (64 * b)).length=64 * b:=by simp;omega
  by_cases hc:c < b
  ·rw [List.append_assoc,List.getElem?_append_left (by omega),List.getElem?_take,if_pos (by omega)]
  ·rw [List.getElem?_append_right (by simp;omega),List.getElem?_drop]
   congr 1
   simp;omega
 ·rfl
theorem zog (w:List Nat) (r b:Nat) (hb:1≤b):zaG (w.set 0 r) b=zaG w b:=by
 apply List.ext_getElem?
 intro j
 rw [zf7,zf7,List.getElem?_set_ne (by omega)]
def zcx (bs:List Nat) (ns:List zo):List Pr:=(bs.zip ns).flatMap fun x=>zcU x.1 (zbp x.2)
theorem zlW:∀ (bs:List Nat) (ns:List zo) (w:List Nat),bs.length=ns.length→bs.Nodup→(∀ b∈bs,64 * b + 64≤w.length) →
  (∀ (i b:Nat) (n:zo),bs[i]?=some b→ns[i]?=some n→zaG (zaN w (zcx bs ns)) b=zbp n)∧(∀ c,¬ c∈bs→zaG (zaN w (zcx bs ns)) c=zaG w c)
 | [],[],w,_,_,_=>⟨fun i b n h=>by simp at h,fun c _=>rfl⟩
 | [],_::_,_,h,_,_=>by simp at h
 | _::_,[],_,h,_,_=>by simp at h
 | b::bs,n::ns,w,hl,hnd,hw=>by
  rw [List.nodup_cons] at hnd
  have hb:=hw b (List.mem_cons_self ..)
  have ih:=zlW bs ns (zaN w (zcU b (zbp n))) (by simpa using hl) hnd.2 (fun c hc=>by rw [zdo];exact hw c (List.mem_cons_of_mem _ hc))
  have he:zaN w (zcx (b::bs) (n::ns))=zaN (zaN w (zcU b (zbp n))) (zcx bs ns):=by
   rw [← zd5];rfl
  rw [he]
  refine ⟨fun i c m hc hm=>?_,fun c hc=>?_⟩
  ·match i with
   | 0 =>
    injection hc with hc;injection hm with hm;subst hc hm
    rw [ih.2 b hnd.1,zpw _ _ _ (zei n) hb]
   | i + 1=>exact ih.1 i c m hc hm
  ·rw [List.mem_cons,not_or] at hc
   rw [ih.2 c hc.2,zns _ _ _ _ (zei n) hb hc.1]
def zbP (T:List Lev):List Pr:=T.flatMap fun L=>zcx L.1 L.2
theorem zlB:∀ (T:List Lev) (w:List Nat),(∀ L∈T,L.1.length=L.2.length)→(T.flatMap Prod.fst).Nodup→(∀ b∈T.flatMap Prod.fst,64 * b + 64≤w.length) →
  (∀ L∈T,∀ (i b:Nat) (n:zo),L.1[i]?=some b→L.2[i]?=some n→zaG (zaN w (zbP T)) b=zbp n)∧(∀ c,¬ c∈T.flatMap Prod.fst→zaG (zaN w (zbP T)) c=zaG w c)
 | [],w,_,_,_=>⟨fun L h=>by simp at h,fun c _=>rfl⟩
 | K::T,w,hl,hnd,hw=>by
  rw [List.flatMap_cons,List.nodup_append] at hnd
  have hK:=zlW K.1 K.2 w (hl K (List.mem_cons_self ..)) hnd.1 (fun b hb=>hw b (by rw [List.flatMap_cons];exact List.mem_append_left _ hb))
  have ih:=zlB T (zaN w (zcx K.1 K.2)) (fun L hL=>hl L (List.mem_cons_of_mem _ hL)) hnd.2.1 (fun c hc=>by rw [zdo];exact hw c (by rw [List.flatMap_cons];exact List.mem_append_right _ hc))
  have he:zaN w (zbP (K::T))=zaN (zaN w (zcx K.1 K.2)) (zbP T):=by
   rw [← zd5];rfl
  rw [he]
  refine ⟨fun L hL i b n hb hn=>?_,fun c hc=>?_⟩
  ·rcases List.mem_cons.1 hL with rfl | hL
   ·have hbm:b∈L.1:=List.mem_of_getElem? hb
    rw [ih.2 b (fun h=>hnd.2.2 b hbm b h rfl)]
    exact hK.1 i b n hb hn
   ·exact ih.1 L hL i b n hb hn
  ·rw [List.flatMap_cons,List.mem_append,not_or] at hc
   rw [ih.2 c hc.2,hK.2 c hc.1]
theorem zdC:∀ l:List Pr,zag l=true↔∀ (i:Nat) (x y:Pr),l[i]?=some x→l[i + 1]?=some y→x.1 < y.1
 | []=>⟨fun _ i x y h=>by simp at h,fun _=>rfl⟩
 | [a]=>⟨fun _ i x y _ h=>by simp at h,fun _=>rfl⟩
 | a::b::l=>by
  rw [zag,Bool.and_eq_true,decide_eq_true_eq,zdC (b::l)]
  refine ⟨fun h i x y hx hy=>?_,fun h=>⟨h 0 a b rfl rfl,fun i x y hx hy=>h (i + 1) x y hx hy⟩⟩
  match i with
  | 0=>injection hx with hx;injection hy with hy;subst hx hy;exact h.1
  | i + 1=>exact h.2 i x y hx hy
theorem zed {l:List Pr} (h:zag l=true):∀ (k i:Nat) (x y:Pr),l[i]?=some x→l[i + k + 1]?=some y→x.1 < y.1
 | 0,i,x,y,hx,hy=>(zdC l).1 h i x y hx hy
 | k + 1,i,x,y,hx,hy=>by
  have hlen:=(List.getElem?_eq_some_iff.1 hy).1
  have hz:l[i + k + 1]?=some l[i + k + 1]:=List.getElem?_eq_getElem (by omega)
  exact Nat.lt_trans (zed h k i x _ hx hz) ((zdC l).1 h _ _ _ hz hy)
theorem zhs {l:List Pr} (h:zag l=true) (k:Nat):zag (l.drop k)=true:=by
 rw [zdC] at h ⊢
 intro i x y hx hy
 rw [List.getElem?_drop] at hx hy
 exact h (k + i) x y hx (by rw [← hy];rfl)
theorem zkN {l:List Pr} (h:zag l=true) (k:Nat):zag (l.take k)=true:=by
 have:zag (l.take k++l.drop k)=true:=by rw [List.take_append_drop];exact h
 exact zht _ _ this
theorem zet:∀ (l:List Pr) (seen:List Nat),zb6 seen l=true↔(l.map Prod.snd).Nodup∧∀ p∈l,¬ p.2∈seen
 | [],seen=>by simp [zb6]
 | a::l,seen=>by
  rw [zb6,Bool.and_eq_true,Bool.not_eq_true',zet l (a.2::seen),List.map_cons,List.nodup_cons]
  have:(seen.contains a.2=false)↔¬ a.2∈seen:=by rw [← Bool.not_eq_true,List.contains_iff_mem]
  rw [this]
  constructor
  ·rintro ⟨h1,h2,h3⟩
   refine ⟨⟨fun hm=>?_,h2⟩,fun p hp=>?_⟩
   ·obtain ⟨p,hp,e⟩:=List.mem_map.1 hm
    exact h3 p hp (by rw [e];exact List.mem_cons_self ..)
   ·rcases List.mem_cons.1 hp with rfl | hp
    ·exact h1
    ·exact fun h=>h3 p hp (List.mem_cons_of_mem _ h)
  ·rintro ⟨⟨h1,h2⟩,h3⟩
   refine ⟨h3 a (List.mem_cons_self ..),h2,fun p hp h=>?_⟩
   rcases List.mem_cons.1 h with e | h
   ·exact h1 (List.mem_map.2 ⟨p,hp,e⟩)
   ·exact h3 p (List.mem_cons_of_mem _ hp) h
theorem zg9 (k:Nat) (l:List Pr):∀ m,((List.range m).map fun i=>(l.drop (k * i)).take k).flatten=l.take (k * m)
 | 0=>by simp
 | m + 1=>by
  rw [List.range_succ,List.map_append,List.flatten_append,zg9 k l m,Nat.mul_succ,List.take_add]
  simp
theorem zgT:∀ L:List zo,(∀ (i:Nat) (n m:zo),L[i]?=some n→L[i + 1]?=some m→∀ p∈n.pairs,p.1 < m.low)→zbK L=L.flatMap zo.pairs
 | [],_=>rfl
 | n::L,h=>by
  rw [zbK,List.flatMap_cons,zgT L fun i a b ha hb=>h (i + 1) a b ha hb]
  congr 1
  rw [List.filter_eq_self]
  intro p hp
  unfold zeY
  cases hh:L.head? with
  | none=>rfl
  | some m =>
   have:=h 0 n m rfl (by rw [List.head?_eq_getElem?] at hh;exact hh) p hp
   simp;omega
theorem zdD:∀ (bs:List Nat) (ns:List zo),bs.length=ns.length→(zai bs ns).flatMap zo.pairs=ns.flatMap zo.pairs∧(zai bs ns).map zo.low=ns.map zo.low∧(zai bs ns).flatMap zcF=ns.flatMap zcF
 | [],[],_=>⟨rfl,rfl,rfl⟩
 | [],_::_,h=>by simp at h
 | _::_,[],h=>by simp at h
 | b::bs,n::ns,h=>by
  obtain ⟨h1,h2,h3⟩:=zdD bs ns (by simpa using h)
  simp [zai,h1,h2,h3,zcF]
def okP (l:List Pr):Bool:=zag l && zb6 [] l && l.all fun p=>decide (1≤p.2) && decide (p.2≤1099511627776)
theorem zi0 (l:List Pr):okP l=true↔zag l=true∧(l.map Prod.snd).Nodup∧∀ p∈l,1≤p.2∧p.2≤1099511627776:=by
 unfold okP
 rw [Bool.and_eq_true,Bool.and_eq_true,zet,List.all_eq_true]
 simp [and_assoc]
theorem zid {l:List Pr} {a k:Nat} {p:Pr} (h:p∈(l.drop a).take k):∃ j,j < k∧l[a + j]?=some p:=by
 obtain ⟨j,hj,e⟩:=List.mem_iff_getElem.1 h
 have:=List.getElem?_eq_getElem hj
 rw [e,List.getElem?_take] at this
 have hjk:j < k:=by have:=hj;simp at this;omega
 rw [if_pos hjk,List.getElem?_drop] at this
 exact ⟨j,hjk,this⟩
theorem zjm {l:List Pr} (h:(l.map Prod.snd).Nodup) (a k:Nat):(((l.drop a).take k).map Prod.snd).Nodup :=
 h.sublist (((List.take_sublist k _).trans (List.drop_sublist a l)).map _)
theorem getD_some {l:List Pr} {i:Nat} {x:Pr} (h:l[i]?=some x):l.getD i (0,0)=x:=by rw [List.getD_eq_getElem?_getD,h];rfl
theorem get_lt (l:List Pr) {i:Nat} (h:i < l.length):l[i]?=some (l.getD i (0,0)):=by rw [List.getD_eq_getElem?_getD,List.getElem?_eq_getElem h];rfl
theorem zqA {l:List Pr} (h:okP l=true) (i:Nat) (hi:18 * i < l.length∨i=0):zb7 (zbM l i):=by
 rw [zi0] at h
 obtain ⟨h1,h2,h3⟩:=h
 have hm:∀ p∈(zbM l i).pairs,∃ j,j < 18∧l[18 * i + j]?=some p:=fun p hp=>zid hp
 refine ⟨Nat.zero_le _,show 0 < 2048 by decide,Nat.zero_le _,?_,?_,?_,fun p hp=>?_,.inl ⟨rfl,rfl⟩⟩
 ·show ((l.drop (18 * i)).take 18).length≤27
  rw [List.length_take];omega
 ·exact zkN (zhs h1 _) _
 ·rw [zet]
  refine ⟨zjm h2 _ _,fun p hp hq=>?_⟩
  obtain ⟨j,_,hj⟩:=hm p hp
  have:=h3 p (List.mem_of_getElem? hj)
  have hq:p.2=9223372036854775808:=List.mem_singleton.1 hq
  omega
 ·obtain ⟨j,hjk,hj⟩:=hm p hp
  have:=h3 p (List.mem_of_getElem? hj)
  have hl:(zbM l i).low≤p.1:=by
   show (if 0 < i then (l.getD (18 * i) (0,0)).1 else 0)≤p.1
   split
   ·have hlen:=(List.getElem?_eq_some_iff.1 hj).1
    match j with
    | 0=>rw [Nat.add_zero] at hj;rw [getD_some hj];exact Nat.le_refl _
    | j + 1=>exact Nat.le_of_lt (zed h1 j _ _ _ (get_lt l (by omega)) hj)
   ·exact Nat.zero_le _
  unfold zcw
  rw [if_pos (show (zbM l i).level=0 from rfl)]
  simp [this.1,this.2,hl]
theorem zf0 (l:List Pr):zbq l=(List.range (max 1 ((l.length + 17) / 18))).map (zbM l):=by
 unfold zbq
 split
 ·rename_i h;subst h;rfl
 ·rename_i h
  have:0 < l.length:=List.length_pos_iff.2 h
  rw [zb1,Nat.max_eq_right (by omega)]
theorem zdx (l:List Pr):(zbq l).length=max 1 ((l.length + 17) / 18):=by rw [zf0];simp
theorem zdu {n:Nat} {f:Nat→zo} {i:Nat} {x:zo} (h:((List.range n).map f)[i]?=some x):i < n∧x=f i:=by
 have hi:i < n:=by have:=(List.getElem?_eq_some_iff.1 h).1;simpa using this
 rw [List.getElem?_map,List.getElem?_range hi] at h
 injection h with h
 exact ⟨hi,h.symm⟩
theorem zpG {l:List Pr} (h:okP l=true):zrV 0 (zbq l)∧zbK (zbq l)=l:=by
 have h':=(zi0 l).1 h
 obtain ⟨h1,h2,h3⟩:=h'
 rw [zf0]
 have hsm:∀ i,i < max 1 ((l.length + 17) / 18)→18 * i < l.length∨i=0:=fun i hi=>by omega
 have hbelow:∀ (i:Nat) (n m:zo),((List.range (max 1 ((l.length + 17) / 18))).map (zbM l))[i]?=some n→((List.range (max 1 ((l.length + 17) / 18))).map (zbM l))[i + 1]?=some m→∀ p∈n.pairs,p.1 < m.low:=by
  intro i n m hn hm p hp
  obtain ⟨hi,rfl⟩:=zdu hn
  obtain ⟨hj,rfl⟩:=zdu hm
  obtain ⟨j,hjk,hj⟩:=zid hp
  show p.1 < (if 0 < i + 1 then (l.getD (18 * (i + 1)) (0,0)).1 else 0)
  rw [if_pos (Nat.succ_pos _)]
  exact zed h1 (17 - j) _ _ _ hj (by rw [show 18 * i + j + (17 - j) + 1=18 * (i + 1) by omega];exact get_lt l (by omega))
 refine ⟨⟨?_,?_,?_,?_,hbelow⟩,?_⟩
 ·intro e
  have:=congrArg List.length e
  simp at this
 ·intro n hn
  obtain ⟨i,hi,rfl⟩:=List.mem_map.1 hn
  exact ⟨zqA h i (hsm i (List.mem_range.1 hi)),rfl,rfl⟩
 ·intro n hn
  obtain ⟨_,rfl⟩:=zdu hn
  rfl
 ·intro i n m hn hm
  obtain ⟨hi,rfl⟩:=zdu hn
  obtain ⟨hj,rfl⟩:=zdu hm
  show (if 0 < i then (l.getD (18 * i) (0,0)).1 else 0) < (if 0 < i + 1 then (l.getD (18 * (i + 1)) (0,0)).1 else 0)
  rw [if_pos (Nat.succ_pos _)]
  have hlt:18 * (i + 1) < l.length:=by omega
  split
  ·exact zed h1 17 _ _ _ (get_lt l (by omega)) (get_lt l hlt)
  ·exact Nat.lt_of_le_of_lt (Nat.zero_le _) ((zdC l).1 h1 (18 * (i + 1) - 1) _ _ (get_lt l (by omega)) (by rw [show 18 * (i + 1) - 1 + 1=18 * (i + 1) by omega];exact get_lt l hlt))
 ·rw [zgT _ hbelow,List.flatMap_map]
  have:=zg9 18 l (max 1 ((l.length + 17) / 18))
  rw [List.take_of_length_le (by omega)] at this
  refine Eq.trans ?_ this
  rw [List.flatMap_def]
  rfl
theorem zjj (ks:List Pr) (i:Nat) (hi:19 * i < ks.length):(ks.drop (19 * i)).take 19=ks.getD (19 * i) (0,0)::((ks.drop (19 * i)).take 19).drop 1:=by
 have hd:ks.drop (19 * i)=ks[19 * i]::ks.drop (19 * i + 1):=List.drop_eq_getElem_cons hi
 have hg:ks.getD (19 * i) (0,0)=ks[19 * i]:=by rw [List.getD_eq_getElem?_getD,List.getElem?_eq_getElem hi];rfl
 rw [hg,hd];rfl
theorem zpy {lv:Nat} {ks:List Pr} {i:Nat} (hi:19 * i < ks.length):zcF (zbZ lv ks i)=(ks.drop (19 * i)).take 19:=by
 rw [zjj ks i hi];rfl
theorem zo1 {lv:Nat} {ks:List Pr} (h1:1≤lv∧lv≤12) (hr:zag ks=true) (hn:(ks.map Prod.snd).Nodup) (hb:∀ x∈ks,1≤x.2∧x.2 < 2048) (i:Nat) (hi:19 * i < ks.length):zb7 (zbZ lv ks i):=by
 have hc:=zjj ks i hi
 have hrc:zag ((ks.drop (19 * i)).take 19)=true:=zkN (zhs hr _) _
 have hnc:=zjm hn (19 * i) 19
 rw [hc] at hnc
 rw [List.map_cons,List.nodup_cons] at hnc
 have hm:∀ p∈(zbZ lv ks i).pairs,p∈(ks.drop (19 * i)).take 19:=fun p hp=>List.mem_of_mem_drop hp
 have hbk:∀ p∈(ks.drop (19 * i)).take 19,1≤p.2∧p.2 < 2048:=fun p hp=>hb p (List.mem_of_mem_drop (List.mem_of_mem_take hp))
 refine ⟨h1.2,show 0 < 2048 by decide,Nat.zero_le _,?_,?_,?_,fun p hp=>?_,.inr ⟨h1.1,?_⟩⟩
 ·show (((ks.drop (19 * i)).take 19).drop 1).length≤27
  rw [List.length_drop,List.length_take];omega
 ·exact zhs hrc 1
 ·rw [zet]
  refine ⟨hnc.2,fun p hp hq=>?_⟩
  have hq:p.2=(ks.getD (19 * i) (0,0)).2:=List.mem_singleton.1 hq
  exact hnc.1 (List.mem_map.2 ⟨p,hp,hq⟩)
 ·unfold zcw
  rw [if_neg (show ¬ (zbZ lv ks i).level=0 from by show ¬ lv=0;omega),Bool.and_eq_true,zdR,decide_eq_true_eq]
  refine ⟨hbk p (hm p hp),?_⟩
  obtain ⟨j,hj⟩:=List.mem_iff_getElem?.1 hp
  have hj:(((ks.drop (19 * i)).take 19).drop 1)[j]?=some p:=hj
  rw [List.getElem?_drop] at hj
  exact zed hrc j 0 _ p (by rw [hc];rfl) (by rw [← hj,show 0 + j + 1=1 + j by omega])
 ·rw [zdR]
  exact hb _ (List.mem_of_getElem? (get_lt ks hi))
theorem zde (lv:Nat) (ks:List Pr):(zbF lv ks).length=(ks.length + 18) / 19:=by unfold zbF;rw [List.length_map,List.length_range,zb1]
theorem zlJ {lv:Nat} {ks:List Pr} (h1:1≤lv∧lv≤12) (hne:ks ≠ []) (hr:zag ks=true) (h0:(ks.getD 0 (0,0)).1=0) (hn:(ks.map Prod.snd).Nodup) (hb:∀ x∈ks,1≤x.2∧x.2 < 2048):zrV lv (zbF lv ks)∧(zbF lv ks).flatMap zcF=ks:=by
 have hpos:0 < ks.length:=List.length_pos_iff.2 hne
 unfold zbF
 rw [zb1]
 have hlt:∀ i,i < (ks.length + (19 - 1)) / 19→19 * i < ks.length:=fun i hi=>by omega
 refine ⟨⟨?_,?_,?_,?_,?_⟩,?_⟩
 ·intro e
  have:=congrArg List.length e
  simp at this
  omega
 ·intro n hn'
  obtain ⟨i,hi,rfl⟩:=List.mem_map.1 hn'
  exact ⟨zo1 h1 hr hn hb i (hlt i (List.mem_range.1 hi)),rfl,rfl⟩
 ·intro n hn'
  obtain ⟨_,rfl⟩:=zdu hn'
  exact h0
 ·intro i n m hn' hm
  obtain ⟨hi,rfl⟩:=zdu hn'
  obtain ⟨hj,rfl⟩:=zdu hm
  exact zed hr 18 _ _ _ (get_lt ks (hlt i hi)) (get_lt ks (hlt _ hj))
 ·intro i n m hn' hm p hp
  obtain ⟨hi,rfl⟩:=zdu hn'
  obtain ⟨hj,rfl⟩:=zdu hm
  obtain ⟨j,hjk,hpj⟩:=zid (List.mem_of_mem_drop (i:=1) hp)
  show p.1 < (ks.getD (19 * (i + 1)) (0,0)).1
  exact zed hr (18 - j) _ _ _ hpj (by rw [show 19 * i + j + (18 - j) + 1=19 * (i + 1) by omega];exact get_lt ks (hlt _ hj))
 ·have:=zg9 19 ks ((ks.length + (19 - 1)) / 19)
  rw [List.take_of_length_le (by omega)] at this
  rw [List.flatMap_map,List.flatMap_def]
  rw [← this]
  congr 1
  ·rw [this]
   refine List.map_congr_left fun i hi=>?_
   exact zpy (hlt i (List.mem_range.1 hi))
def zgY (free:List Nat):Nat→List zo→Nat→List Lev→Option (List Lev)
 | 0,_,_,_=>none
 | k + 1,l,used,T=>if free.length < used + l.length then none else
  if l.length=1 then some (((free.drop used).take l.length,zai ((free.drop used).take l.length) l)::T) else
  zgY free k (zbF (T.length + 1) ((l.map zo.low).zip ((free.drop used).take l.length))) (used + l.length) (((free.drop used).take l.length,zai ((free.drop used).take l.length) l)::T)
def bndL:Nat→Nat
 | 0=>28
 | 1=>2
 | _=>1
def zic (free:List Nat):Bool:=free.all (fun b=>decide (1≤b) && decide (b < 2048)) && decide free.Nodup
theorem zeH (free:List Nat):zic free=true↔(∀ b∈free,1≤b∧b < 2048)∧free.Nodup:=by
 unfold zic
 rw [Bool.and_eq_true,List.all_eq_true,decide_eq_true_eq]
 simp
structure zhT (p:List Pr) (free:List Nat) (l:List zo) (used:Nat) (T:List Lev):Prop where
 ok:zrV T.length l
 st:match T with | []=>zbK l=p | M::T'=>l.flatMap zcF=zcZ M∧zgJ (M::T')
 last:∀ M,T.getLast?=some M→zbK M.2=p
 len:∀ M∈T,M.1.length=M.2.length
 blocks:T.reverse.flatMap Prod.fst=free.take used
 used:used≤free.length
 bndL:l.length≤bndL T.length
 lvl:T.length≤2
structure zmg (p:List Pr) (free:List Nat) (T:List Lev):Prop where
 st:zgJ T
 one:∃ b n T',T=([b],[n])::T'∧n.sib=0
 last:∀ M,T.getLast?=some M→zbK M.2=p
 len:∀ M∈T,M.1.length=M.2.length
 blocks:∃ used,used≤free.length∧T.reverse.flatMap Prod.fst=free.take used
 few:T.length≤3
section
variable {p:List Pr} {free:List Nat} (hf:zic free=true)
include hf
theorem zhT.level {l:List zo} {used:Nat} {T:List Lev} (h:zhT p free l used T) (hu:¬ free.length < used + l.length) :
  ((free.drop used).take l.length).length=l.length∧zf2 T.length none ((free.drop used).take l.length) (zai ((free.drop used).take l.length) l)∧zai ((free.drop used).take l.length) l ≠ []∧(∀ b∈(free.drop used).take l.length,1≤b∧b < 2048)∧((free.drop used).take l.length).Nodup ∧
  (((free.drop used).take l.length,zai ((free.drop used).take l.length) l)::T).reverse.flatMap Prod.fst=free.take (used + l.length)∧zgJ (((free.drop used).take l.length,zai ((free.drop used).take l.length) l)::T) ∧
  (∀ M,(((free.drop used).take l.length,zai ((free.drop used).take l.length) l)::T).getLast?=some M→zbK M.2=p):=by
 rw [zeH] at hf
 have hbl:((free.drop used).take l.length).length=l.length:=by rw [List.length_take,List.length_drop];omega
 have hbb:∀ b∈(free.drop used).take l.length,1≤b∧b < 2048:=fun b hb=>hf.1 b (List.mem_of_mem_drop (List.mem_of_mem_take hb))
 have hnd:((free.drop used).take l.length).Nodup:=hf.2.sublist ((List.take_sublist _ _).trans (List.drop_sublist _ _))
 have hch:zf2 T.length none ((free.drop used).take l.length) (zai ((free.drop used).take l.length) l) :=
  znl _ _ _ _ hbl hbb (fun n hn=>⟨(h.ok.each n hn).1,(h.ok.each n hn).2.1⟩) (fun n hn=>h.ok.low0 n hn) h.ok.rise h.ok.below
 have hne:=zqv hbl h.ok.ne
 obtain ⟨k1,k2,k3⟩:=zdD _ _ hbl
 refine ⟨hbl,hch,hne,hbb,hnd,?_,?_,?_⟩
 ·rw [List.reverse_cons,List.flatMap_append,h.blocks,List.take_add]
  simp
 ·have hst:=h.st
  cases T with
  | nil=>exact ⟨hch,hne⟩
  | cons M T=>exact ⟨hch,hne,by rw [k3];exact hst.1,hst.2⟩
 ·intro M hM
  have hst:=h.st
  cases hT:T with
  | nil =>
   subst hT
   injection hM with hM;subst hM
   have hr:∀ (i:Nat) (n m:zo),(zai ((free.drop used).take l.length) l)[i]?=some n→(zai ((free.drop used).take l.length) l)[i + 1]?=some m→∀ q∈n.pairs,q.1 < m.low:=by
    intro i n m hn hm
    have hi:i + 1 < l.length:=by have:=(List.getElem?_eq_some_iff.1 hm).1;rw [zca _ _ hbl] at this;exact this
    have e1:=zdp _ _ i _ hbl (List.getElem?_eq_getElem (show i < l.length by omega))
    have e2:=zdp _ _ (i + 1) _ hbl (List.getElem?_eq_getElem hi)
    rw [hn] at e1;rw [hm] at e2
    injection e1 with e1;injection e2 with e2
    subst e1 e2
    exact h.ok.below i (l[i]'(by omega)) (l[i + 1]'hi) (List.getElem?_eq_getElem (show i < l.length by omega)) (List.getElem?_eq_getElem hi)
   have e1:=zgT _ hr
   have e2:=zgT _ h.ok.below
   show zbK (zai _ l)=p
   rw [e1,k1,← e2]
   exact hst
  | cons K T' =>
   refine h.last M ?_
   rw [hT] at hM ⊢
   rw [List.getLast?_cons_cons] at hM
   exact hM
theorem zku:∀ (k:Nat) (l:List zo) (used:Nat) (T T':List Lev),zhT p free l used T→zgY free k l used T=some T'→zmg p free T'
 | 0,l,used,T,T',_,h=>by cases h
 | k + 1,l,used,T,T',hi,h=>by
  rw [zgY] at h
  by_cases hu:free.length < used + l.length
  ·rw [if_pos hu] at h;cases h
  rw [if_neg hu] at h
  obtain ⟨h1,h2,h3,h4,h5,h6,h7,h8⟩:=hi.level hf hu
  have hbd:=hi.bndL
  have hlvl:=hi.lvl
  by_cases ho:l.length=1
  ·rw [if_pos ho] at h
   injection h with h;subst h
   refine ⟨h7,?_,h8,?_,⟨used + l.length,by omega,h6⟩,?_⟩
   ·obtain ⟨n,hn⟩:=List.length_eq_one_iff.1 ho
    obtain ⟨b,hb⟩:=List.length_eq_one_iff.1 (h1.trans ho)
    rw [hb,hn]
    exact ⟨b,{ n with sib:=0 },T,rfl,rfl⟩
   ·intro M hM
    rcases List.mem_cons.1 hM with rfl | hM
    ·exact h1.trans (zca _ _ h1).symm
    ·exact hi.len M hM
   ·simp;omega
  ·rw [if_neg ho] at h
   refine zku k _ _ _ _ ?_ h
   have hne0:0 < l.length:=List.length_pos_iff.2 hi.ok.ne
   have hT1:T.length≤1:=by
    rcases Nat.lt_or_ge T.length 2 with h | h
    ·omega
    ·have e:T.length=2:=by omega
     rw [e] at hbd;simp [bndL] at hbd;omega
   obtain ⟨k1,k2,k3⟩:=zdD _ _ h1
   generalize hbs:(free.drop used).take l.length=bs at *
   have hzl:((l.map zo.low).zip bs).length=l.length:=by simp [h1]
   have hms:((l.map zo.low).zip bs).map Prod.snd=bs:=List.map_snd_zip (by simp [h1])
   have hg:∀ (i:Nat) (x:Pr),((l.map zo.low).zip bs)[i]?=some x→∃ n,l[i]?=some n∧x.1=n.low:=by
    intro i x hx
    rw [List.getElem?_zip_eq_some] at hx
    have h1:=hx.1
    rw [List.getElem?_map] at h1
    cases hn:l[i]? with
    | none=>rw [hn] at h1;cases h1
    | some n=>rw [hn] at h1;injection h1 with h1;exact ⟨n,rfl,h1.symm⟩
   have hz0:(((l.map zo.low).zip bs).getD 0 (0,0)).1=0:=by
    obtain ⟨n,hn,e⟩:=hg 0 _ (get_lt _ (by omega))
    rw [e];exact hi.ok.low0 n hn
   have hrz:zag ((l.map zo.low).zip bs)=true:=by
    rw [zdC]
    intro i x y hx hy
    obtain ⟨n,hn,e⟩:=hg i x hx
    obtain ⟨m,hm,e2⟩:=hg _ y hy
    rw [e,e2];exact hi.ok.rise i n m hn hm
   have hab:=zlJ (lv:=T.length + 1) (ks:=(l.map zo.low).zip bs) ⟨by omega,by omega⟩ (by intro e;rw [e] at hzl;simp at hzl;omega) hrz hz0 (by rw [hms];exact h5) (fun x hx=>h4 x.2 (List.of_mem_zip hx).2)
   refine ⟨hab.1,⟨?_,h7⟩,h8,?_,h6,by omega,?_,by simp;omega⟩
   ·rw [hab.2];unfold zcZ;rw [k2]
   ·intro M hM
    rcases List.mem_cons.1 hM with rfl | hM
    ·exact h1.trans (zca _ _ h1).symm
    ·exact hi.len M hM
   ·rw [zde,hzl]
    show _≤bndL (T.length + 1)
    match hT:T.length,hT1 with
    | 0,_=>rw [hT] at hbd;simp [bndL] at hbd ⊢;omega
    | 1,_=>rw [hT] at hbd;simp [bndL] at hbd ⊢;omega
end
theorem zhM {p:List Pr} (free:List Nat) (hp:okP p=true) (hl:p.length≤500):zhT p free (zbq p) 0 []:=by
 have h:=zpG hp
 refine ⟨h.1,h.2,fun M hM=>by simp at hM,fun M hM=>by simp at hM,rfl,Nat.zero_le _,?_,Nat.zero_le _⟩
 rw [zdx];simp [bndL];omega
def zec:Nat→Nat→Nat
 | 0,n=>n
 | k + 1,n=>n + if n=1 then 0 else zec k ((n + 18) / 19)
def zff (n:Nat):Nat:=zec 4 (max 1 ((n + 17) / 18))
theorem zl1 (free:List Nat):∀ (k:Nat) (l:List zo) (used:Nat) (T:List Lev),3≤k + T.length→1≤k→1≤l.length→l.length≤bndL T.length→(zgY free k l used T=none↔free.length < used + zec k l.length)
 | 0,_,_,_,_,h,_,_=>by omega
 | k + 1,l,used,T,h1,_,h3,h4=>by
  rw [zgY,zec]
  by_cases hu:free.length < used + l.length
  ·rw [if_pos hu]
   exact ⟨fun _=>by omega,fun _=>rfl⟩
  rw [if_neg hu]
  by_cases ho:l.length=1
  ·rw [if_pos ho,if_pos ho]
   exact ⟨fun h=>(by cases h),fun h=>by omega⟩
  rw [if_neg ho,if_neg ho]
  have hT1:T.length≤1:=by
   rcases Nat.lt_or_ge T.length 2 with h | h
   ·omega
   ·obtain ⟨m,e⟩:∃ m,T.length=m + 2:=⟨T.length - 2,by omega⟩
    rw [e] at h4;simp [bndL] at h4;omega
  have hzl:((l.map zo.low).zip ((free.drop used).take l.length)).length=l.length:=by simp;omega
  rw [zl1 free k _ _ _ (by simp;omega) (by omega) (by rw [zde,hzl];omega) ?_,zde,hzl]
  ·omega
  ·rw [zde,hzl]
   show _≤bndL (T.length + 1)
   match hT:T.length,hT1 with
   | 0,_=>rw [hT] at h4;simp [bndL] at h4 ⊢;omega
   | 1,_=>rw [hT] at h4;simp [bndL] at h4 ⊢;omega
def zdF (p:List Pr) (free:List Nat):Option (List Lev):=zgY free 4 (zbq p) 0 []
theorem zjg {p:List Pr} {free:List Nat} (hl:p.length≤500):zdF p free=none↔free.length < zff p.length:=by
 unfold zdF zff
 rw [zl1 free 4 _ _ _ (by decide) (by decide) (by rw [zdx];omega) (by rw [zdx];simp [bndL];omega),zdx,Nat.zero_add]
theorem zqV {p:List Pr} {free:List Nat} {T:List Lev} (hp:okP p=true) (hf:zic free=true) (hl:p.length≤500) (h:zdF p free=some T):zmg p free T:=zku hf 4 _ _ _ _ (zhM free hp hl) h
def zdZ (n:zo) (z:Option zo):Bool:=match n.pairs.getLast?,z with
 | some p,some m=>decide (p.1 < m.low)
 | _,_=>true
def zcp (w:List Nat):List Nat→List zo→Bool
 | b::bs,n::ns=>decide (zbG (zaG w b)=0) && zdZ n ns.head? && zcp w bs ns
 | _,_=>true
def zc3 (w:List Nat):List Lev→Bool
 | []=>true
 | [L]=>zcp w L.1 L.2
 | L::M::T=>zcp w L.1 L.2 && decide (L.2.flatMap zcF=zcZ M) && zc3 w (M::T)
def znB:List Lev→Bool
 | (_,n::_)::_=>decide (n.sib=0)
 | _=>false
def zeR (w:List Nat) (T:List Lev):Bool:=znB T && zc3 w T
theorem zik (w:List Nat) (lv:Nat):∀ (bs:List Nat) (ns:List zo) (pl:Option Nat),zf2 lv pl bs ns→zci w bs ns→zcp w bs ns=true
 | [],[],_,_,_=>rfl
 | [],_::_,_,h,_=>h.elim
 | _::_,[],_,h,_=>h.elim
 | b::bs,n::ns,pl,h,hl=>by
  obtain ⟨_,_,hg,_,_,_,hb,hr⟩:=h
  rw [zcp,zik w lv bs ns _ hr hl.tail,(hl 0 b n rfl rfl).2,hg.check,Bool.and_true]
  simp only [decide_true,Bool.true_and]
  unfold zdZ
  split
  ·rename_i p m hp hm
   rw [decide_eq_true_eq]
   exact hb m hm p (List.mem_of_getLast? hp)
  ·rfl
theorem zlV (w:List Nat):∀ T:List Lev,zgJ T→(∀ M∈T,zci w M.1 M.2)→zc3 w T=true
 | [],h,_=>h.elim
 | [L],h,hl=>zik w 0 _ _ _ h.1 (hl L (List.mem_cons_self ..))
 | L::M::T,h,hl=>by
  rw [zc3,zik w _ _ _ _ h.1 (hl L (List.mem_cons_self ..)),zlV w (M::T) h.2.2.2 fun K hK=>hl K (List.mem_cons_of_mem _ hK),decide_eq_true h.2.2.1]
  rfl
def zhm (T:List Lev):Nat:=match T with
 | L::_=>L.1.headD 0
 | []=>0
def zbA (most:Nat) (T:List Lev):List Nat:=(zaN (List.replicate (64 * (most + 1)) 0) (zbP T.reverse)).set 0 (zhm T)
theorem zkn (most:Nat) (T:List Lev):(zbA most T).length=64 * (most + 1):=by unfold zbA;rw [List.length_set,zdo,List.length_replicate]
theorem zoi {p:List Pr} {free:List Nat} {T:List Lev} {most:Nat} (hp:okP p=true) (hf:zic free=true) (hT:zmg p free T) (hm:∀ b∈free,b≤most) :
  zaj (zbA most T) 0=(T,true)∧zeR (zbA most T) T=true∧∃ M,T.getLast?=some M∧zbK M.2=p:=by
 obtain ⟨hst,⟨b,n,T',rfl,hsib⟩,hlast,hlen,⟨used,hu,hblk⟩,hfew⟩:=hT
 rw [zeH] at hf
 have hnr:((([b],[n])::T').reverse.flatMap Prod.fst).Nodup:=by rw [hblk];exact hf.2.sublist (List.take_sublist _ _)
 have hperm:((([b],[n])::T').reverse.flatMap Prod.fst).Perm ((([b],[n])::T').flatMap Prod.fst):=List.Perm.flatMap_right _ (List.reverse_perm _)
 have hnd:=hperm.nodup hnr
 have hin:∀ c∈(([b],[n])::T').reverse.flatMap Prod.fst,c∈free:=fun c hc=>by rw [hblk] at hc;exact List.mem_of_mem_take hc
 have hlt:=zlB (([b],[n])::T').reverse (List.replicate (64 * (most + 1)) 0) (fun L hL=>hlen L (List.mem_reverse.1 hL)) hnr (fun c hc=>by
  have:=hm c (hin c hc)
  rw [List.length_replicate];omega)
 have hlaid:∀ M∈(([b],[n])::T':List Lev),zci (zbA most (([b],[n])::T')) M.1 M.2:=by
  intro M hM i c m hc hm'
  have hcf:=hin c (List.mem_flatMap.2 ⟨M,List.mem_reverse.2 hM,List.mem_of_getElem? hc⟩)
  have h1:=hm c hcf
  have h2:=hf.1 c hcf
  refine ⟨by rw [zkn];omega,?_⟩
  unfold zbA
  rw [zog _ _ _ h2.1]
  exact hlt.1 M (List.mem_reverse.2 hM) i c m hc hm'
 have hw0:(zbA most (([b],[n])::T')).getD 0 0=b:=by
  unfold zbA
  rw [List.getD_eq_getElem?_getD,List.getElem?_set_self (by rw [zdo,List.length_replicate];omega)]
  rfl
 obtain ⟨M,hM⟩:∃ M,(([b],[n])::T':List Lev).getLast?=some M:=⟨_,List.getLast?_eq_some_getLast (by simp)⟩
 have hr:=zhY (zbA most (([b],[n])::T')) T' ([b],[n]) [] [] 14 (-1) hst hlaid hnd (fun K _ c _ h=>by simp at h) (.inl (by decide)) (by simp at hfew;omega)
 refine ⟨?_,?_,M,hM,hlast M hM⟩
 ·unfold zaj
  rw [hw0]
  refine Eq.trans hr ?_
  have e:(([b],[n])::T':List Lev).getLast (by simp)=M:=Option.some.inj ((List.getLast?_eq_some_getLast _).symm.trans hM)
  rw [e,hlast M hM,((zi0 p).1 hp).1]
  rfl
 ·unfold zeR znB
  rw [zlV _ _ hst hlaid,Bool.and_true]
  simp [hsib]
theorem zi9 {l:List Nat} (h:headB l=true):(headN l).level≤12∧(headN l).sib < 2048∧(headN l).way≤2:=by
 unfold headB at h
 rw [Bool.and_eq_true,List.all_eq_true] at h
 have h0:=h.2 0 (by decide)
 have h1:=h.2 1 (by decide)
 have h4:=h.2 4 (by decide)
 rw [zcW,Bool.and_eq_true,decide_eq_true_eq,decide_eq_true_eq] at h0
 rw [zcW,decide_eq_true_eq] at h1
 have h4:decide (l.getD 4 0≤2)=true:=h4
 rw [decide_eq_true_eq] at h4
 refine ⟨?_,h1,h4⟩
 have:(headN l).level=zgu (l.getD 0 0):=by unfold headN;rfl
 rw [this,zkX]
 omega
theorem zmT {ns ms:List zo} (h:ns ≠ []):(ns++ms).head?=ns.head?:=by
 cases ns with
 | nil=>exact absurd rfl h
 | cons a l=>rfl
theorem zpe (l:List Nat):(headN l).pairs.length≤28:=by unfold headN;exact zej _ _
structure LvF (w:List Nat) (bs:List Nat) (ns:List zo):Prop where
 is:ns=bs.map fun b=>headN (zaG w b)
 each:∀ b∈bs,b < w.length / 64∧headB (zaG w b)=true
 same:∀ n∈ns,∀ z,ns.head?=some z→n.level=z.level
theorem LvF.len {w:List Nat} {bs:List Nat} {ns:List zo} (h:LvF w bs ns):bs.length=ns.length:=by rw [h.is,List.length_map]
theorem LvF.node {w:List Nat} {bs:List Nat} {ns:List zo} (h:LvF w bs ns) {n:zo} (hn:n∈ns):n.pairs.length≤28∧n.level≤12∧n.sib < 2048:=by
 rw [h.is] at hn
 obtain ⟨b,hb,rfl⟩:=List.mem_map.1 hn
 have:=zi9 (h.each b hb).2
 exact ⟨zpe _,this.1,this.2.1⟩
theorem LvF.nil (w:List Nat):LvF w [] []:=⟨rfl,fun b hb=>by simp at hb,fun n hn=>by simp at hn⟩
theorem zhA {w:List Nat} {lv:Int} {N:Nat}:∀ (k:Nat) (seen bs:List Nat) (ns:List zo) (b:Nat) (r:List Nat × List Nat × List zo),zb9 w lv k seen bs ns b=some r→LvF w bs ns→(∀ n,ns.head?=some n→lv < 0∨(n.level:Int)=lv)→bs.length + k≤N→LvF w r.2.1 r.2.2∧(∀ n,r.2.2.head?=some n→lv < 0∨(n.level:Int)=lv)∧r.2.1.length≤N
 | 0,seen,bs,ns,b,r,h,hF,hh,hN=>by
  rw [zb9] at h
  split at h
  ·injection h with h;subst h;exact ⟨hF,hh,by simpa using hN⟩
  ·cases h
 | k + 1,seen,bs,ns,b,r,h,hF,hh,hN=>by
  rw [zb9] at h
  split at h
  ·injection h with h;subst h;exact ⟨hF,hh,by simp;omega⟩
  ·split at h
   ·cases h
   ·rename_i hb
    split at h
    ·rename_i hg
     rw [Bool.and_eq_true] at hg
     have hbl:b < w.length / 64:=by
      cases hd:decide (w.length / 64≤b) with
      | true=>rw [hd] at hb;exact absurd rfl hb
      | false=>have:=of_decide_eq_false hd;omega
     refine zhA k _ _ _ _ r h ⟨by rw [hF.is];simp,fun c hc=>?_,fun n hn z hz=>?_⟩ (fun n hn=>?_) (by simp;omega)
     ·rcases List.mem_append.1 hc with hc | hc
      ·exact hF.each c hc
      ·simp at hc;subst hc;exact ⟨hbl,hg.1⟩
     ·have hgo:=hg.2
      unfold zd8 at hgo
      cases hl:ns.getLast? with
      | none =>
       rw [List.getLast?_eq_none_iff] at hl
       subst hl
       simp at hn hz
       rw [hn,← hz]
      | some y =>
       rw [hl] at hgo
       simp only [Bool.and_eq_true,decide_eq_true_eq] at hgo
       have hne:ns ≠ []:=by intro e;rw [e] at hl;simp at hl
       rw [zmT hne] at hz
       rcases List.mem_append.1 hn with hn | hn
       ·exact hF.same n hn z hz
       ·simp at hn;rw [hn,hgo.2];exact hF.same y (List.mem_of_getLast? hl) z hz
     ·have hgo:=hg.2
      unfold zd8 at hgo
      cases hl:ns.getLast? with
      | none =>
       rw [hl] at hgo
       rw [List.getLast?_eq_none_iff] at hl
       subst hl
       simp only [Bool.and_eq_true,Bool.or_eq_true,decide_eq_true_eq] at hgo
       simp at hn
       rw [← hn];exact hgo.2
      | some y =>
       have hne:ns ≠ []:=by intro e;rw [e] at hl;simp at hl
       rw [zmT hne] at hn
       exact hh n hn
    ·cases h
structure zjN (w:List Nat) (L:Lev):Prop where
 lv:LvF w L.1 L.2
 ne:L.2 ≠ []
 few:L.2.length≤2048
def zhl (L:Lev):Prop:=∀ n∈L.2,0 < n.level
theorem zhZ {w:List Nat} (hw:w.length≤131072):∀ (d:Nat) (seen:List Nat) (acc:List Lev) (b:Nat) (lv:Int),(∀ L∈acc,zjN w L∧zhl L) →
  (∀ L∈(zbC w d seen acc b lv).1,zjN w L)∧(∀ L∈(zbC w d seen acc b lv).1.dropLast,zhl L)∧((zbC w d seen acc b lv).2=true→(zbC w d seen acc b lv).1 ≠ []∧∀ M,(zbC w d seen acc b lv).1.getLast?=some M→zag (zbK M.2)=true)
 | 0,seen,acc,b,lv,h=>⟨fun L hL=>(h L hL).1,fun L hL=>(h L (List.dropLast_subset _ hL)).2,fun e=>by cases e⟩
 | d + 1,seen,acc,b,lv,h=>by
  rw [zbC]
  cases hr:zb9 w lv (w.length / 64) seen [] [] b with
  | none=>exact ⟨fun L hL=>(h L hL).1,fun L hL=>(h L (List.dropLast_subset _ hL)).2,fun e=>by cases e⟩
  | some r =>
   obtain ⟨s',bs,ns⟩:=r
   obtain ⟨k1,k2,k3⟩:=zhA (N:=2048) _ _ _ _ _ _ hr (LvF.nil w) (fun n hn=>by simp at hn) (by simp;omega)
   cases ns with
   | nil=>exact ⟨fun L hL=>(h L hL).1,fun L hL=>(h L (List.dropLast_subset _ hL)).2,fun e=>by cases e⟩
   | cons n ns =>
    have hF:zjN w (bs,n::ns):=⟨k1,by simp,by rw [← k1.len];exact k3⟩
    simp only
    split
    ·refine ⟨fun L hL=>?_,fun L hL=>?_,fun e=>⟨by simp,fun M hM=>?_⟩⟩
     ·rcases List.mem_append.1 hL with hL | hL
      ·exact (h L hL).1
      ·simp at hL;subst hL;exact hF
     ·rw [List.dropLast_concat] at hL
      exact (h L hL).2
     ·simp at hM;subst hM;exact e
    ·rename_i hlv
     refine zhZ hw d _ _ _ _ fun L hL=>?_
     rcases List.mem_append.1 hL with hL | hL
     ·exact h L hL
     ·simp at hL;subst hL
      exact ⟨hF,fun m hm=>by have:=k1.same m hm n rfl;omega⟩
theorem zjw:∀ (L:List zo),(∀ n∈L,n.pairs.length≤28)→(zbK L).length≤28 * L.length
 | [],_=>Nat.zero_le _
 | n::L,h=>by
  have h1:=zjw L fun m hm=>h m (List.mem_cons_of_mem _ hm)
  have h2:=h n (List.mem_cons_self ..)
  have h3:=List.length_filter_le (zeY L.head?) n.pairs
  rw [zbK,List.length_append,List.length_cons]
  omega
end Fv
end Go.Proofs.YtfomlmhnmheenaaGreat
