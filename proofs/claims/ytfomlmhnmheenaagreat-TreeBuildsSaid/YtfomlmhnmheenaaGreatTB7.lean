/- part 7 of the proof of tree_builds. -/
import Derived.Test.YtfomlmhnmheenaaGreatTB6
set_option linter.unusedSimpArgs false
set_option linter.unusedVariables false
namespace Go.Proofs.YtfomlmhnmheenaaGreat
namespace Fv
open Tw
attribute [local go_sem] zaU zaE z7 zac evs ev okv zby zO.cls zaV zbg zbo zV zW upd zB za4 zaZ za9 zaH zaX za5 za7 za2 zaW za0 zaz zba zaY za8 za6 za3 za1 zax zbf zbh zan zaq zbx PV.cells ofC zbd zS zae okF zak spl zaF zaK bnd zao zas zat zaO zbl zT zal zaL zap zbi zbr z9 lenP ze zF zam zbj PV.toT zaC zL Nat.mul_mod_right Int.reduceOfNat Int.reduceToNat Int.cast_ofNat_Int Int.reduceLE Int.reduceLT Int.reduceAdd Int.reduceSub Int.reduceMul Int.reduceNegSucc Nat.reduceEqDiff if_true if_false ite_true ite_false decide_true decide_false Bool.not_true Bool.not_false and_true true_and and_self false_and and_false or_false false_or or_true true_or or_self List.length_cons List.length_nil List.length_map List.getElem?_cons_zero List.getElem?_cons_succ List.getElem?_map List.getElem?_nil Option.map_some Option.map_none Option.getD_some List.append_nil List.nil_append List.cons_append List.take_succ_cons List.take_zero List.drop_zero List.drop_succ_cons List.set_cons_zero List.set_cons_succ Int.toNat_natCast Int.natCast_nonneg Nat.le_refl Nat.zero_le Nat.reduceAdd Nat.reduceSub Nat.reduceMul Nat.reduceLeDiff Nat.reduceLT Bool.false_eq_true Bool.true_eq_false Nat.add_zero Nat.zero_add List.all_cons List.all_nil Bool.and_true Bool.and_self Bool.true_and Nat.reduceMod Nat.reduceDiv eq_self zau zaJ zaa zbb evN zaT dpF zaQ zbu zay zbc zbt zaP Option.some.injEq Option.isSome_some wrap_i64 zQ zaM
attribute [local go_sem ↓] reduceIte
set_option maxRecDepth 100000
theorem zuY:ET.funcs.get 137=some T137:=zJ (by kernel_rfl) (by decide)
theorem f91:ET.funcs.get 91=some T91:=zJ (by kernel_rfl) (by decide)
def rdH (p:Nat) (w:List Nat) (mo:zk) (vs:List PV) (G:List zk):List zk :=
 .row 26 1 0 0 [wv p w]::.row 96 1 0 0 [.sl 5 vs.length 0 vs.length (2 * vs.length) 2]::mo::.row 131 1 0 0 [.map 2]::.row 216 1 0 0 [.fn 137 [.ptr 0 0 0 0 1,.ptr 3 0 0 0 1,.ptr 1 0 0 0 1,.ptr 4 0 0 0 1]]::.row 100 2 vs.length 0 vs::G
def zin (mo:zk) (seen:List Nat):Prop:=(mo=.map0∧seen=[])∨∃ mm:Int→Option PV,mo=.mapI .u64 mm∧∀ q:Nat,mm q=if seen.contains q=true then some (iv 1) else none
theorem ztK {α:Type} (G l:List α) (x y z:α):(G++x::y::z::l)[G.length + 2]?=some z:=by simp [List.getElem?_append_right]
def zmk (H:List zk) (v:PV) (l:Lev):Prop:=∃ i j:Nat,v=.agg [.sl (i + 6) l.1.length 0 l.1.length (2 * l.1.length) 1,.sl (j + 6) l.2.length 0 l.2.length (2 * l.2.length) 6] ∧
 H[i]?=some (.row 3 1 l.1.length 0 (l.1.map fun (b:Nat)=>iv (b:Int)))∧H[j]?=some (.row 124 6 l.2.length 0 (l.2.map (zN 0)))
def zdE (H:List zk) (vs:List PV) (ls:List Lev):Prop:=vs.length=ls.length∧∀ (k:Nat) (v:PV) (l:Lev),vs[k]?=some v→ls[k]?=some l→zmk H v l
def zpL (b:Nat) (lv:Int):List PV:=[uv b,iv lv,.ptr 0 0 0 0 1,.ptr 3 0 0 0 1,.ptr 1 0 0 0 1,.ptr 4 0 0 0 1]
def zhv (p:Nat) (w:List Nat) (mo2:zk) (vs:List PV) (G:List zk) (bs:List Nat) (ns:List zo) (G2:List zk):List zk :=
 .row 26 1 0 0 [wv p w]::.row 96 1 0 0 [.sl 5 vs.length 0 vs.length (2 * vs.length) 2]::mo2::.row 131 1 0 0 [.map 2]::.row 216 1 0 0 [.fn 137 [.ptr 0 0 0 0 1,.ptr 3 0 0 0 1,.ptr 1 0 0 0 1,.ptr 4 0 0 0 1]]::.row 100 2 vs.length 0 vs ::
   (G++.row 100 2 0 0 [.agg [.sl (G.length + 7) bs.length 0 bs.length (2 * bs.length) 1,.sl (G.length + 8) ns.length 0 ns.length (2 * ns.length) 6]]::.row 3 1 bs.length 0 (bs.map fun (b:Nat)=>iv (b:Int))::.row 124 6 ns.length 0 (ns.map (zN 0))::G2)
theorem zmk.mono {G G':List zk} {v:PV} {l:Lev} (h:zmk G v l):zmk (G++G') v l:=by
 obtain ⟨i,j,h1,h2,h3⟩:=h
 exact ⟨i,j,h1,by rw [List.getElem?_append_left (List.getElem?_eq_some_iff.1 h2).1];exact h2,by rw [List.getElem?_append_left (List.getElem?_eq_some_iff.1 h3).1];exact h3⟩
theorem zdE.mono {G G':List zk} {vs:List PV} {ls:List Lev} (h:zdE G vs ls):zdE (G++G') vs ls:=⟨h.1,fun k v l hv hl=>(h.2 k v l hv hl).mono⟩
theorem zdE.snoc {G:List zk} {vs:List PV} {ls:List Lev} (h:zdE G vs ls) (r:zk) (bs:List Nat) (ns:List zo) (X:List zk) (k:Nat) (hk:k=ns.length):zdE (G++r::.row 3 1 bs.length 0 (bs.map fun (b:Nat)=>iv (b:Int))::.row 124 6 k 0 (ns.map (zN 0))::X) (vs++[.agg [.sl (G.length + 7) bs.length 0 bs.length (2 * bs.length) 1,.sl (G.length + 8) k 0 k (2 * k) 6]]) (ls++[(bs,ns)]):=by
 subst hk
 refine ⟨by simp [h.1],fun q v l hv hl=>?_⟩
 rcases Nat.lt_or_ge q vs.length with hq | hq
 ·rw [List.getElem?_append_left hq] at hv
  rw [List.getElem?_append_left (by rw [← h.1];exact hq)] at hl
  exact (h.2 q v l hv hl).mono
 ·rw [List.getElem?_append_right hq] at hv
  rw [List.getElem?_append_right (by rw [← h.1];exact hq)] at hl
  obtain rfl:=List.mem_singleton.1 (List.mem_of_getElem? hv)
  obtain rfl:=List.mem_singleton.1 (List.mem_of_getElem? hl)
  exact ⟨G.length + 1,G.length + 2,rfl,hm0 G _ _ _,ztK G _ _ _ _⟩
def zi1 (p:Nat) (w:List Nat) (r:List Lev × Bool) (e:FE) (H':List zk):Prop:=e=.ret (.bool r.2)∧∃ mo' vs' G',H'=rdH p w mo' vs' G'∧zdE G' vs' r.1
theorem ziF {w:List Nat} {d:Nat} {seen:List Nat} {acc:List Lev} {b:Nat} {lv:Int} (hd:(0≤lv∧lv + 1≤d)∨14≤d) (h:zb9 w lv (w.length / 64) seen [] [] b=none):zbC w d seen acc b lv=(acc,false):=by
 match d,hd with
 | 0,hd=>omega
 | d + 1,_=>rw [zbC,h]
theorem zsm {p:Nat} {w:List Nat} {d:Nat} {seen:List Nat} {acc:List Lev} {b:Nat} {lv:Int} {mo2:zk} {vs:List PV} {G:List zk} {bs:List Nat} {ns:List zo} {G2:List zk} (hd:(0≤lv∧lv + 1≤d)∨14≤d) (h:zb9 w lv (w.length / 64) seen [] [] b=none) (hv:zdE G vs acc):zi1 p w (zbC w d seen acc b lv) (.ret (.bool false)) (zhv p w mo2 vs G bs ns G2):=by
 rw [ziF hd h]
 exact ⟨rfl,mo2,vs,_,rfl,hv.mono⟩
theorem znv {p:Nat} {w:List Nat} {d:Nat} {seen:List Nat} {acc:List Lev} {b:Nat} {lv:Int} {mo2:zk} {vs:List PV} {G:List zk} (hd:(0≤lv∧lv + 1≤d)∨14≤d) (h:zb9 w lv (w.length / 64) seen [] [] b=none) (hv:zdE G vs acc):zi1 p w (zbC w d seen acc b lv) (.ret (.bool false)) (rdH p w mo2 vs G):=by
 rw [ziF hd h]
 exact ⟨rfl,mo2,vs,_,rfl,hv⟩
theorem zfw (n:Nat):(n == n + 1)=false:=by simp
theorem zfE (n:Nat):(n + 1 == n)=false:=by simp
theorem zfA (n:Nat):(n == n + 1 + 1)=false:=by rw [beq_eq_false_iff_ne];omega
theorem zfi (n:Nat):(n + 1 + 1 == n)=false:=by rw [beq_eq_false_iff_ne];omega
theorem zfG (n:Nat):(n + 6 == n + 7)=false:=by simp
theorem zfo (n:Nat):(n + 7 == n + 6)=false:=by simp
theorem zfk (n:Nat):(n + 6 == n + 8)=false:=by simp
theorem zfh (n:Nat):(n + 8 == n + 6)=false:=by simp
theorem zfQ (n:Nat):(n + 7 == n + 8)=false:=by simp
theorem zfm (n:Nat):(n + 8 == n + 7)=false:=by simp
theorem zfy {α:Type} (G G2:List α) (a b c:α):((G++a::b::c::G2).length == G.length)=false:=by rw [beq_eq_false_iff_ne];simp only [List.length_append,List.length_cons,List.length_nil];omega
theorem zfC {α:Type} (G G2:List α) (a b c:α):(G.length == (G++a::b::c::G2).length)=false:=by rw [beq_eq_false_iff_ne];simp only [List.length_append,List.length_cons,List.length_nil];omega
theorem zfx {α:Type} (G G2:List α) (a b c x0:α):((G++a::b::c::G2++[x0]).length == G.length)=false:=by rw [beq_eq_false_iff_ne];simp only [List.length_append,List.length_cons,List.length_nil];omega
theorem zft {α:Type} (G G2:List α) (a b c x0:α):(G.length == (G++a::b::c::G2++[x0]).length)=false:=by rw [beq_eq_false_iff_ne];simp only [List.length_append,List.length_cons,List.length_nil];omega
theorem zfu {α:Type} (G G2:List α) (a b c x0 x1:α):((G++a::b::c::G2++[x0]++[x1]).length == G.length)=false:=by rw [beq_eq_false_iff_ne];simp only [List.length_append,List.length_cons,List.length_nil];omega
theorem zfl {α:Type} (G G2:List α) (a b c x0 x1:α):(G.length == (G++a::b::c::G2++[x0]++[x1]).length)=false:=by rw [beq_eq_false_iff_ne];simp only [List.length_append,List.length_cons,List.length_nil];omega
theorem zfP {α:Type} (G G2:List α) (a b c x0 x1 x2:α):((G++a::b::c::G2++[x0]++[x1]++[x2]).length == G.length)=false:=by rw [beq_eq_false_iff_ne];simp only [List.length_append,List.length_cons,List.length_nil];omega
theorem zfH {α:Type} (G G2:List α) (a b c x0 x1 x2:α):(G.length == (G++a::b::c::G2++[x0]++[x1]++[x2]).length)=false:=by rw [beq_eq_false_iff_ne];simp only [List.length_append,List.length_cons,List.length_nil];omega
theorem zfB {α:Type} (G G2:List α) (a b c:α):((G++a::b::c::G2).length == G.length + 1)=false:=by rw [beq_eq_false_iff_ne];simp only [List.length_append,List.length_cons,List.length_nil];omega
theorem zfz {α:Type} (G G2:List α) (a b c:α):(G.length + 1 == (G++a::b::c::G2).length)=false:=by rw [beq_eq_false_iff_ne];simp only [List.length_append,List.length_cons,List.length_nil];omega
theorem zfV {α:Type} (G G2:List α) (a b c x0:α):((G++a::b::c::G2++[x0]).length == G.length + 1)=false:=by rw [beq_eq_false_iff_ne];simp only [List.length_append,List.length_cons,List.length_nil];omega
theorem zfg {α:Type} (G G2:List α) (a b c x0:α):(G.length + 1 == (G++a::b::c::G2++[x0]).length)=false:=by rw [beq_eq_false_iff_ne];simp only [List.length_append,List.length_cons,List.length_nil];omega
theorem zfI {α:Type} (G G2:List α) (a b c x0 x1:α):((G++a::b::c::G2++[x0]++[x1]).length == G.length + 1)=false:=by rw [beq_eq_false_iff_ne];simp only [List.length_append,List.length_cons,List.length_nil];omega
theorem zfs {α:Type} (G G2:List α) (a b c x0 x1:α):(G.length + 1 == (G++a::b::c::G2++[x0]++[x1]).length)=false:=by rw [beq_eq_false_iff_ne];simp only [List.length_append,List.length_cons,List.length_nil];omega
theorem zfn {α:Type} (G G2:List α) (a b c x0 x1 x2:α):((G++a::b::c::G2++[x0]++[x1]++[x2]).length == G.length + 1)=false:=by rw [beq_eq_false_iff_ne];simp only [List.length_append,List.length_cons,List.length_nil];omega
theorem zfS {α:Type} (G G2:List α) (a b c x0 x1 x2:α):(G.length + 1 == (G++a::b::c::G2++[x0]++[x1]++[x2]).length)=false:=by rw [beq_eq_false_iff_ne];simp only [List.length_append,List.length_cons,List.length_nil];omega
theorem zfF {α:Type} (G G2:List α) (a b c:α):((G++a::b::c::G2).length == G.length + 2)=false:=by rw [beq_eq_false_iff_ne];simp only [List.length_append,List.length_cons,List.length_nil];omega
theorem zfM {α:Type} (G G2:List α) (a b c:α):(G.length + 2 == (G++a::b::c::G2).length)=false:=by rw [beq_eq_false_iff_ne];simp only [List.length_append,List.length_cons,List.length_nil];omega
theorem zfq {α:Type} (G G2:List α) (a b c x0:α):((G++a::b::c::G2++[x0]).length == G.length + 2)=false:=by rw [beq_eq_false_iff_ne];simp only [List.length_append,List.length_cons,List.length_nil];omega
theorem zfT {α:Type} (G G2:List α) (a b c x0:α):(G.length + 2 == (G++a::b::c::G2++[x0]).length)=false:=by rw [beq_eq_false_iff_ne];simp only [List.length_append,List.length_cons,List.length_nil];omega
theorem zfD {α:Type} (G G2:List α) (a b c x0 x1:α):((G++a::b::c::G2++[x0]++[x1]).length == G.length + 2)=false:=by rw [beq_eq_false_iff_ne];simp only [List.length_append,List.length_cons,List.length_nil];omega
theorem zfv {α:Type} (G G2:List α) (a b c x0 x1:α):(G.length + 2 == (G++a::b::c::G2++[x0]++[x1]).length)=false:=by rw [beq_eq_false_iff_ne];simp only [List.length_append,List.length_cons,List.length_nil];omega
theorem zfK {α:Type} (G G2:List α) (a b c x0 x1 x2:α):((G++a::b::c::G2++[x0]++[x1]++[x2]).length == G.length + 2)=false:=by rw [beq_eq_false_iff_ne];simp only [List.length_append,List.length_cons,List.length_nil];omega
theorem zfj {α:Type} (G G2:List α) (a b c x0 x1 x2:α):(G.length + 2 == (G++a::b::c::G2++[x0]++[x1]++[x2]).length)=false:=by rw [beq_eq_false_iff_ne];simp only [List.length_append,List.length_cons,List.length_nil];omega
theorem gl2 {α:Type} (G G2:List α) (a b b' c p q z:α):(G++a::b'::c::G2++[p]++[q]++[z])[(G++a::b::c::G2++[p]++[q]).length]?=some z:=by
 have:(G++a::b::c::G2++[p]++[q]).length=(G++a::b'::c::G2++[p]++[q]).length:=by simp
 rw [this];simp
theorem zfR (n:Nat):(n + 1 == n + 2)=false:=by simp
theorem zfL (n:Nat):(n + 2 == n + 1)=false:=by simp
theorem zfp (n:Nat):(n == n + 2)=false:=by simp
theorem zfJ (n:Nat):(n + 2 == n)=false:=by simp
section
variable {α:Type} (G l m n o:List α) (x y z u:α)
theorem gm3:(G++x::l++m++n++o)[G.length]?=some x:=by rw [List.append_assoc,List.append_assoc,List.append_assoc];exact gm0 G _ x
theorem hm3:(G++x::y::l++m++n++o)[G.length + 1]?=some y:=by rw [List.append_assoc,List.append_assoc,List.append_assoc];exact hm0 G _ x y
theorem zuP:(G++x::y::z::l)[G.length + 2]?=some z:=by simp [List.getElem?_append_right]
theorem km3:(G++x::y::z::l++m++n++o)[G.length + 2]?=some z:=by rw [List.append_assoc,List.append_assoc,List.append_assoc];exact zuP G _ x y z
theorem sm3:(G++x::l++m++n++o).set G.length u=G++u::l++m++n++o:=by simp [List.set_append_right]
theorem tm3:(G++x::y::l++m++n++o).set (G.length + 1) u=G++x::u::l++m++n++o:=by simp [List.set_append_right]
theorem um3:(G++x::y::z::l++m++n++o).set (G.length + 2) u=G++x::y::u::l++m++n++o:=by simp [List.set_append_right]
theorem km0:(G++x::y::z::l)[G.length + 2]?=some z:=by simp [List.getElem?_append_right]
theorem km1:(G++x::y::z::l++m)[G.length + 2]?=some z:=by rw [List.append_assoc];exact km0 G _ x y z
theorem km2:(G++x::y::z::l++m++n)[G.length + 2]?=some z:=by rw [List.append_assoc,List.append_assoc];exact km0 G _ x y z
end
theorem zhR {l:List Nat}:∀ v∈(l.map fun (b:Nat)=>iv (b:Int)).flatMap PV.cells,Id0 v:=fun v hv=>by
 obtain ⟨x,hx,hv⟩:=List.mem_flatMap.1 hv
 obtain ⟨n,_,rfl⟩:=List.mem_map.1 hx
 simp [PV.cells] at hv;subst hv;exact .int _ _
theorem zrt (p:Nat) (w:List Nat) (hw:64≤w.length∧w.length≤131072∧w.length % 64=0):∀ (d:Nat) (seen:List Nat) (acc:List Lev) (b:Nat) (lv:Int) (mo:zk) (vs:List PV) (G:List zk) (hd:(0≤lv∧lv + 1≤d)∨14≤d) (hs:zin mo seen) (hv:zdE G vs acc) (hva:acc.length + d≤100),
  FO ET 137 (zpL b lv) (rdH p w mo vs G) false (zi1 p w (zbC w d seen acc b lv)):=by
 intro d
 induction d with
 | zero=>intro seen acc b lv mo vs G hd;omega
 | succ d ih =>
 intro seen acc b lv mo vs G hd hs hv hva
 refine zcS zuY (Nat.le_of_ble_eq_true rfl) ?_
 unfold zpL rdH
 (repeat (first | refine zc ?_ | (refine za ?_;refine zb (by simp (disch:=omega) only [go_sem] <;> rfl) ?_;refine zd ?_)))
 refine zgV 3 1 (id:=G.length + 6) (v:=.agg [.nilsl,.nilsl]) (v':=.agg [.sl (G.length + 7) 0 0 0 0 1,.nilsl]) (e0:=100) (z0:=2) (G:=0) (M:=0) (by simp only [List.getElem?_cons_succ,ze] <;> rfl) rfl (fun k x y hx hy=>?_) ?_
 ·match k with
  | 0=>injection hx with hx;injection hy with hy;subst hx hy;exact .inr ⟨rfl,by simp [lzy]⟩
  | 1=>injection hx with hx;injection hy with hy;subst hx hy;exact .inl rfl
  | k + 2=>simp [PV.cells] at hx
 simp only [List.set_cons_succ,zF,List.cons_append,List.append_assoc,List.nil_append]
 refine zgV 124 6 (id:=G.length + 6) (v:=.agg [.sl (G.length + 7) 0 0 0 0 1,.nilsl]) (v':=.agg [.sl (G.length + 7) 0 0 0 0 1,.sl (G.length + 8) 0 0 0 0 6]) (e0:=100) (z0:=2) (G:=0) (M:=0) (by simp only [List.getElem?_cons_succ,gm0] <;> rfl) rfl (fun k x y hx hy=>?_) ?_
 ·match k with
  | 0=>injection hx with hx;injection hy with hy;subst hx hy;exact .inl rfl
  | 1=>injection hx with hx;injection hy with hy;subst hx hy;exact .inr ⟨rfl,by simp [lzy]⟩
  | k + 2=>simp [PV.cells] at hx
 simp only [List.set_cons_succ,sm0,List.cons_append,List.append_assoc,List.nil_append]
 have hnb:w.length / 64≤2048:=by omega
 refine zG (zav (fun m s=>∃ (k:Nat) (seen2:List Nat) (bs:List Nat) (ns:List zo) (b2:Nat) (mo2:zk) (G2:List zk),m=k∧zcL (w.length / 64) seen2≤k∧zb9 w lv (w.length / 64) seen [] [] b=zb9 w lv k seen2 bs ns b2∧bs.length=ns.length∧bs.length + k≤2048∧zin mo2 seen2∧s.tm 0=uv b2∧s.tm 1=iv lv∧s.tm 2=.ptr 0 0 0 0 1∧s.tm 3=.ptr 3 0 0 0 1∧s.tm 4=.ptr 1 0 0 0 1∧s.tm 5=.ptr 4 0 0 0 1∧s.tm 9=.ptr (G.length + 6) 0 0 0 2∧s.df=[] ∧
  s.H=zhv p w mo2 vs G bs ns G2) (n:=w.length / 64) ?_ ?_)
 ·exact ⟨_,seen,[],[],b,mo,[],rfl,zhK _ _,rfl,rfl,by simpa using hnb,hs,by simp [upd,zB],by simp [upd,zB],by simp [upd,zB],by simp [upd,zB],by simp [upd,zB],by simp [upd,zB],by simp [upd],rfl,rfl⟩
 ·rintro m ⟨tm,df,H⟩ ⟨k,seen2,bs,ns,b2,mo2,G2,rfl,hun,hrd,hbn,hbk,hs2,h0,h1,h2,h3,h4,h5,h9,rfl,rfl⟩
  dsimp only at h0 h1 h2 h3 h4 h5 h9
  unfold zhv
  (try refine zY ?_);refine zc (za ?_);refine zb (by simp (disch:=omega) only [go_sem,h0] <;> rfl) ?_;refine zd ?_;refine zad (by simp only [go_sem] <;> rfl) ?_ ?_
  ·intro hb0
   have hb0:¬ b2=0:=by simpa using hb0
   have q1:IntKind.i64.wrap ((w.length:Int).tdiv 64)=((w.length / 64:Nat):Int):=by rw [IntWalk.i64_quo _ _ (by omega)];omega
   (repeat refine zc ?_)
   refine zG ?_
   (repeat refine zc ?_)
   refine zdH (Q:=fun y s'=>y=.norm∧s'.tm 0=uv b2∧s'.tm 1=iv lv∧s'.tm 2=.ptr 0 0 0 0 1∧s'.tm 3=.ptr 3 0 0 0 1∧s'.tm 4=.ptr 1 0 0 0 1∧s'.tm 5=.ptr 4 0 0 0 1∧s'.tm 9=.ptr (G.length + 6) 0 0 0 2∧s'.tm 38=.bool (decide (w.length / 64≤b2) || seen2.contains b2)∧s'.df=[]∧s'.H=zhv p w mo2 vs G bs ns G2) (za ?_) ?_
   ·by_cases hge:w.length / 64≤b2
    ·have g1:((w.length / 64:Nat):Int)≤b2:=by omega
     refine zb (by simp (disch:=omega) only [go_sem,h0,h2,h3,q1,g1] <;> rfl) ?_
     refine zC ?_;simp only [zf,zi,zh,zg,zu,zj,if_true,↓reduceIte]
     exact ⟨trivial,h0,h1,h2,h3,h4,h5,h9,by simp [upd,hge],trivial,rfl⟩
    ·have g1:¬ ((w.length / 64:Nat):Int)≤b2:=by omega
     rcases hs2 with ⟨rfl,rfl⟩ | ⟨mm,rfl,hmm⟩
     ·refine zb (by simp (disch:=omega) only [go_sem,h0,h2,h3,q1,g1] <;> rfl) ?_
      refine zC ?_;simp only [zf,zi,zh,zg,zu,zj,if_true,↓reduceIte]
      exact ⟨trivial,h0,h1,h2,h3,h4,h5,h9,by simp [upd,hge],trivial,rfl⟩
     ·have hq:=hmm b2
      by_cases hc:seen2.contains b2=true
      ·rw [if_pos hc] at hq
       refine zb (by simp (disch:=omega) only [go_sem,h0,h2,h3,q1,g1,hq] <;> rfl) ?_
       refine zC ?_;simp only [zf,zi,zh,zg,zu,zj,if_true,↓reduceIte]
       exact ⟨trivial,h0,h1,h2,h3,h4,h5,h9,by rw [hc];simp [upd],trivial,rfl⟩
      ·rw [if_neg hc] at hq
       refine zb (by simp (disch:=omega) only [go_sem,h0,h2,h3,q1,g1,hq] <;> rfl) ?_
       refine zC ?_;simp only [zf,zi,zh,zg,zu,zj,if_true,↓reduceIte]
       have hc:seen2.contains b2=false:=by simpa using hc
       exact ⟨trivial,h0,h1,h2,h3,h4,h5,h9,by rw [hc];simp [upd,hge],trivial,rfl⟩
   ·clear h0 h1 h2 h3 h4 h5 h9
    rintro y ⟨tm,df,H⟩ ⟨rfl,h0,h1,h2,h3,h4,h5,h9,h38,rfl,rfl⟩
    dsimp only at h0 h1 h2 h3 h4 h5 h9 h38
    simp only [zf,zi,zh,zg,zu,zj,if_true,reduceIte]
    by_cases hbad:(decide (w.length / 64≤b2) || seen2.contains b2)=true
    ·refine zD (by simp only [go_sem,h38] <;> rfl) ?_ ?_
     ·intro _
      (repeat (first | refine zc ?_ | (refine za ?_;refine zb (by simp (disch:=omega) only [go_sem] <;> rfl) ?_;refine zd ?_)))
      refine zE ?_;(try simp only [zf,zi,zh,zg,zj]);refine zy (by simp only [T137,zI,go_sem] <;> rfl) ?_;simp only [zK]
      refine zsm hd ?_ hv
      rw [hrd]
      cases m with
      | zero=>rw [zb9,if_neg hb0]
      | succ m=>rw [zb9,if_neg hb0,if_pos hbad]
     ·rw [hbad];intro h;cases h
    have hbad:(decide (w.length / 64≤b2) || seen2.contains b2)=false:=by simpa using hbad
    refine zD (by simp only [go_sem,h38] <;> rfl) ?_ ?_
    ·rw [hbad];intro h;cases h
    intro _
    refine zR ?_;show W _ _ _ _ _ _
    have hbl:b2 < w.length / 64:=by
     cases h:decide (w.length / 64≤b2) with
     | true=>rw [h] at hbad;cases hbad
     | false=>have:=of_decide_eq_false h;omega
    have hbs:¬ seen2.contains b2=true:=by intro h;rw [h,Bool.or_true] at hbad;cases hbad
    refine zc (zdH (Q:=fun y s'=>y=.norm∧s'.tm 0=uv b2∧s'.tm 1=iv lv∧s'.tm 2=.ptr 0 0 0 0 1∧s'.tm 3=.ptr 3 0 0 0 1∧s'.tm 4=.ptr 1 0 0 0 1∧s'.tm 5=.ptr 4 0 0 0 1∧s'.tm 9=.ptr (G.length + 6) 0 0 0 2∧s'.df=[]∧∃ mo3,zin mo3 (b2::seen2)∧s'.H=zhv p w mo3 vs G bs ns G2) (za ?_) ?_)
    ·unfold zhv
     rcases hs2 with ⟨rfl,rfl⟩ | ⟨mm,rfl,hmm⟩
     ·refine zb (by simp (disch:=omega) only [go_sem,h0,h3] <;> rfl) ?_
      refine zC ?_;simp only [zf,zi,zh,zg,zu,zj,if_true,↓reduceIte]
      refine ⟨trivial,h0,h1,h2,h3,h4,h5,h9,trivial,_,.inr ⟨_,rfl,fun q=>?_⟩,rfl⟩
      by_cases hq:q=b2
      ·subst hq;simp
      ·have:¬ (q:Int)=b2:=by omega
       simp [hq,this]
     ·refine zb (by simp (disch:=omega) only [go_sem,h0,h3] <;> rfl) ?_
      refine zC ?_;simp only [zf,zi,zh,zg,zu,zj,if_true,↓reduceIte]
      refine ⟨trivial,h0,h1,h2,h3,h4,h5,h9,trivial,_,.inr ⟨_,rfl,fun q=>?_⟩,rfl⟩
      by_cases hq:q=b2
      ·subst hq;simp
      ·have:¬ (q:Int)=b2:=by omega
       rw [if_neg this,hmm q]
       simp [hq]
    ·clear h0 h1 h2 h3 h4 h5 h9 h38 hs2
     rintro y ⟨tm,df,H⟩ ⟨rfl,h0,h1,h2,h3,h4,h5,h9,rfl,mo3,hs3,rfl⟩
     dsimp only at h0 h1 h2 h3 h4 h5 h9
     simp only [zf,zi,zh,zg,zu,zj,if_true,reduceIte]
     unfold zhv
     have hm1:∃ m',m=m' + 1:=by
      cases m with
      | zero=>exact absurd (zi6 _ b2 seen2 (by omega) hbl) hbs
      | succ m=>exact ⟨m,rfl⟩
     obtain ⟨m',rfl⟩:=hm1
     rw [zb9,if_neg hb0,if_neg (by rw [hbad];decide)] at hrd
     have hof:=zsd p w b2 (by omega) (by omega)
     have hOf:=zpn p (zaG w b2) (by unfold zaG;simp;omega)
     (repeat refine zc ?_)
     refine za ?_
     refine zb (by simp (disch:=omega) only [go_sem,h0,h2] <;> rfl) ?_
     refine zch (by first | rfl | (simp only [go_sem] <;> rfl)) (by simp only [go_sem] <;> rfl) hof rfl ?_ ?_;(repeat (first | exact trivial | refine And.intro ?_ ?_ | exact Id0.int _ _ | exact Id0.bool _ | exact Id0.list _ _ _ | exact Id0.elem _ | exact Id0.nilsl | exact Id0.str _ | exact zc1 _ _ _))
     by_cases hh:headB (zaG w b2)=true
     rotate_left
     ·have hh:headB (zaG w b2)=false:=by simpa using hh
      have he:zgw (zaG w b2)=.ret (.tuple [zN 0 zeD,iv 210]):=by unfold zgw;rw [if_neg (by rw [hh];decide)]
      rw [he] at hOf
      rw [hh,Bool.false_and,if_neg (by decide)] at hrd
      refine zb (by simp (disch:=omega) only [go_sem] <;> rfl) ?_
      refine zH (by first | rfl | (simp only [go_sem] <;> rfl)) (by simp only [go_sem] <;> rfl) hOf ?_ ?_;(repeat (first | exact trivial | refine And.intro ?_ ?_ | exact .int _ _ | exact .bool _ | exact .list _ _ _ | exact .elem _ | exact .nilsl | exact .nil _ _ | exact .str _ | refine Frz.aggL ?_ | refine Frz.fnL ?_ | refine Frz.tupL ?_ | refine .iface ?_ | exact zn rfl rfl (by assumption)))
      refine zb (by simp (disch:=omega) only [go_sem] <;> rfl) ?_
      refine zd ?_
      (repeat (first | refine zc ?_ | (refine za ?_;refine zb (by simp (disch:=omega) only [go_sem] <;> rfl) ?_;refine zd ?_)))
      refine zD (by simp only [go_sem] <;> rfl) ?_ ?_
      ·intro _
       (repeat (first | refine zc ?_ | (refine za ?_;refine zb (by simp (disch:=omega) only [go_sem] <;> rfl) ?_;refine zd ?_)))
       refine zE ?_;(try simp only [zf,zi,zh,zg,zj]);refine zy (by simp only [T137,zI,go_sem] <;> rfl) ?_;simp only [zK]
       refine znv (G:=_) hd hrd ?_
       exact hv.mono.mono
      ·intro h;cases h
     obtain ⟨b12,b2048,bw⟩:=zi9 hh
     rw [zju _ hh] at hOf
     rw [hh,Bool.true_and] at hrd
     generalize headN (zaG w b2)=nd at hOf hrd b12 b2048 bw
     refine zb (by simp (disch:=omega) only [go_sem] <;> rfl) ?_
     refine zH (by first | rfl | (simp only [go_sem] <;> rfl)) (by simp only [go_sem] <;> rfl) hOf ?_ ?_;(repeat (first | exact trivial | refine And.intro ?_ ?_ | exact .int _ _ | exact .bool _ | exact .list _ _ _ | exact .elem _ | exact .nilsl | exact .nil _ _ | exact .str _ | refine Frz.aggL ?_ | refine Frz.fnL ?_ | refine Frz.tupL ?_ | refine .iface ?_ | exact zn rfl rfl (by assumption)))
     refine zb (by simp (disch:=omega) only [go_sem] <;> rfl) ?_
     refine zd ?_
     (repeat refine zc ?_)
     refine za ?_
     refine zb (by simp (disch:=omega) only [go_sem,h1,h9,gm0,gm1,gm2,ze] <;> rfl) ?_
     refine zH (by first | rfl | (simp only [go_sem] <;> rfl)) (by simp only [go_sem] <;> rfl) (zsq 1 0 0 bs ns nd lv (by omega)) ?_ ?_;(repeat (first | exact trivial | refine And.intro ?_ ?_ | exact .int _ _ | exact .bool _ | exact .list _ _ _ | exact .elem _ | exact .nilsl | exact .nil _ _ | exact .str _ | refine Frz.aggL ?_ | refine Frz.fnL ?_ | refine Frz.tupL ?_ | refine .iface ?_ | exact zn rfl rfl (by assumption)))
     ·exact Frz.whole (e:=3) (z':=1) (G:=bs.length) (l:=bs.map fun (b:Nat)=>iv (b:Int)) (by simp only [List.getElem?_cons_succ,hm1] <;> rfl) rfl (by simp) (by simp) (fun v hv=>by obtain ⟨x,_,rfl⟩:=List.mem_map.1 hv;rfl) zhR
     ·refine ⟨Frz.whole (e:=124) (z':=6) (G:=ns.length) (l:=ns.map (zN 0)) (by simp only [List.getElem?_cons_succ,km1] <;> rfl) rfl (by simp) (by simp) (fun v hv=>by obtain ⟨x,_,rfl⟩:=List.mem_map.1 hv;rfl) ze6,trivial⟩
     ·(repeat (first | exact trivial | refine And.intro ?_ ?_ | exact .int _ _ | exact .bool _ | exact .list _ _ _ | exact .elem _ | exact .nilsl | exact .nil _ _ | exact .str _ | refine Frz.aggL ?_ | refine Frz.fnL ?_ | refine Frz.tupL ?_ | refine .iface ?_ | exact zn rfl rfl (by assumption)))
     by_cases hg:zd8 ns nd lv=true
     rotate_left
     ·have hg:zd8 ns nd lv=false:=by simpa using hg
      rw [hg] at hrd ⊢
      rw [if_neg (by decide)] at hrd
      refine zb (by simp (disch:=omega) only [go_sem] <;> rfl) ?_
      refine zd ?_
      refine zD (by simp only [go_sem] <;> rfl) ?_ ?_
      ·intro _
       (repeat (first | refine zc ?_ | (refine za ?_;refine zb (by simp (disch:=omega) only [go_sem] <;> rfl) ?_;refine zd ?_)))
       refine zE ?_;(try simp only [zf,zi,zh,zg,zj]);refine zy (by simp only [T137,zI,go_sem] <;> rfl) ?_;simp only [zK]
       refine znv (G:=_) hd hrd ?_
       exact hv.mono.mono
      ·intro h;cases h
     rw [hg] at hrd ⊢
     rw [if_pos rfl] at hrd
     refine zb (by simp (disch:=omega) only [go_sem] <;> rfl) ?_
     refine zd ?_
     refine zD (by simp only [go_sem] <;> rfl) ?_ ?_
     ·intro h;cases h
     intro _
     refine zR ?_;show W _ _ _ _ _ _
     have hba:(bs.length + 1) * 9≤140737488355328:=by omega
     have hbb:(ns.length + 1) * 65≤140737488355328:=by omega
     (repeat refine zc ?_)
     refine zaS ?_
     refine zbv (by first | exact trivial | simp only [go_sem,List.filter_cons,List.filter_nil,List.contains_cons,List.contains_nil,Bool.or_false,Nat.reduceBEq,zb4,zb3,zbJ,h0,h9,gm0,gm1,gm2,hm0,hm1,hm2,km0,km1,km2,gm3,hm3,km3,sm3,tm3,um3,hba,hbb,ze]) (by simp (disch:=omega) only [go_sem,h0,h9,gm0,gm1,gm2,hm0,hm1,hm2,km0,km1,km2,gm3,hm3,km3,sm3,tm3,um3,hba,hbb,ze] <;> rfl) rfl (by first | rfl | (simp only [go_sem] <;> rfl)) (by simp only [go_sem,h0,h9,gm0,gm1,gm2,hm0,hm1,hm2,km0,km1,km2,gm3,hm3,km3,sm3,tm3,um3,hba,hbb,ze] <;> rfl) (by simp (disch:=omega) only [go_sem,h0,h9,gm0,gm1,gm2,hm0,hm1,hm2,km0,km1,km2,gm3,hm3,km3,sm3,tm3,um3,hba,hbb,ze] <;> rfl) (by simp only [go_sem] <;> rfl) ?_
     refine zbv (by first | exact trivial | simp only [go_sem,List.filter_cons,List.filter_nil,List.contains_cons,List.contains_nil,Bool.or_false,Nat.reduceBEq,zb4,zb3,zbJ,h9,zfy,zfC,zfx,zft,zfu,zfl,zfP,zfH,zfB,zfz,zfV,zfg,zfI,zfs,zfn,zfS,zfF,zfM,zfq,zfT,zfD,zfv,zfK,zfj,zfw,zfE,zfA,zfi,zfR,zfL,zfp,zfJ,zfG,zfo,zfk,zfh,zfQ,zfm,gm0,gm1,gm2,hm0,hm1,hm2,km0,km1,km2,gm3,hm3,km3,sm3,tm3,um3,hba,hbb,ze,gl2]) (by simp (disch:=omega) only [go_sem,h9,zfy,zfC,zfx,zft,zfu,zfl,zfP,zfH,zfB,zfz,zfV,zfg,zfI,zfs,zfn,zfS,zfF,zfM,zfq,zfT,zfD,zfv,zfK,zfj,zfw,zfE,zfA,zfi,zfR,zfL,zfp,zfJ,zfG,zfo,zfk,zfh,zfQ,zfm,gm0,gm1,gm2,hm0,hm1,hm2,km0,km1,km2,gm3,hm3,km3,sm3,tm3,um3,hba,hbb,ze,gl2] <;> rfl) rfl (by first | rfl | (simp only [go_sem] <;> rfl)) (by simp only [go_sem,h9,zfy,zfC,zfx,zft,zfu,zfl,zfP,zfH,zfB,zfz,zfV,zfg,zfI,zfs,zfn,zfS,zfF,zfM,zfq,zfT,zfD,zfv,zfK,zfj,zfw,zfE,zfA,zfi,zfR,zfL,zfp,zfJ,zfG,zfo,zfk,zfh,zfQ,zfm,gm0,gm1,gm2,hm0,hm1,hm2,km0,km1,km2,gm3,hm3,km3,sm3,tm3,um3,hba,hbb,ze,gl2] <;> rfl) (by simp (disch:=omega) only [go_sem,h9,zfy,zfC,zfx,zft,zfu,zfl,zfP,zfH,zfB,zfz,zfV,zfg,zfI,zfs,zfn,zfS,zfF,zfM,zfq,zfT,zfD,zfv,zfK,zfj,zfw,zfE,zfA,zfi,zfR,zfL,zfp,zfJ,zfG,zfo,zfk,zfh,zfQ,zfm,gm0,gm1,gm2,hm0,hm1,hm2,km0,km1,km2,gm3,hm3,km3,sm3,tm3,um3,hba,hbb,ze,gl2] <;> rfl) (by simp only [go_sem] <;> rfl) ?_
     refine zbv (by first | exact trivial | simp only [go_sem,List.filter_cons,List.filter_nil,List.contains_cons,List.contains_nil,Bool.or_false,Nat.reduceBEq,zb4,zb3,zbJ,h9,zfy,zfC,zfx,zft,zfu,zfl,zfP,zfH,zfB,zfz,zfV,zfg,zfI,zfs,zfn,zfS,zfF,zfM,zfq,zfT,zfD,zfv,zfK,zfj,zfw,zfE,zfA,zfi,zfR,zfL,zfp,zfJ,zfG,zfo,zfk,zfh,zfQ,zfm,gm0,gm1,gm2,hm0,hm1,hm2,km0,km1,km2,gm3,hm3,km3,sm3,tm3,um3,hba,hbb,ze,gl2]) (by simp (disch:=omega) only [go_sem,h9,zfy,zfC,zfx,zft,zfu,zfl,zfP,zfH,zfB,zfz,zfV,zfg,zfI,zfs,zfn,zfS,zfF,zfM,zfq,zfT,zfD,zfv,zfK,zfj,zfw,zfE,zfA,zfi,zfR,zfL,zfp,zfJ,zfG,zfo,zfk,zfh,zfQ,zfm,gm0,gm1,gm2,hm0,hm1,hm2,km0,km1,km2,gm3,hm3,km3,sm3,tm3,um3,hba,hbb,ze,gl2] <;> rfl) rfl (by first | rfl | (simp only [go_sem] <;> rfl)) (by simp only [go_sem,h9,zfy,zfC,zfx,zft,zfu,zfl,zfP,zfH,zfB,zfz,zfV,zfg,zfI,zfs,zfn,zfS,zfF,zfM,zfq,zfT,zfD,zfv,zfK,zfj,zfw,zfE,zfA,zfi,zfR,zfL,zfp,zfJ,zfG,zfo,zfk,zfh,zfQ,zfm,gm0,gm1,gm2,hm0,hm1,hm2,km0,km1,km2,gm3,hm3,km3,sm3,tm3,um3,hba,hbb,ze,gl2] <;> rfl) (by simp (disch:=omega) only [go_sem,h9,zfy,zfC,zfx,zft,zfu,zfl,zfP,zfH,zfB,zfz,zfV,zfg,zfI,zfs,zfn,zfS,zfF,zfM,zfq,zfT,zfD,zfv,zfK,zfj,zfw,zfE,zfA,zfi,zfR,zfL,zfp,zfJ,zfG,zfo,zfk,zfh,zfQ,zfm,gm0,gm1,gm2,hm0,hm1,hm2,km0,km1,km2,gm3,hm3,km3,sm3,tm3,um3,hba,hbb,ze,gl2] <;> rfl) (by simp only [go_sem] <;> rfl) ?_
     refine zbv (by first | exact trivial | simp only [go_sem,List.filter_cons,List.filter_nil,List.contains_cons,List.contains_nil,Bool.or_false,Nat.reduceBEq,zb4,zb3,zbJ,h9,zfy,zfC,zfx,zft,zfu,zfl,zfP,zfH,zfB,zfz,zfV,zfg,zfI,zfs,zfn,zfS,zfF,zfM,zfq,zfT,zfD,zfv,zfK,zfj,zfw,zfE,zfA,zfi,zfR,zfL,zfp,zfJ,zfG,zfo,zfk,zfh,zfQ,zfm,gm0,gm1,gm2,hm0,hm1,hm2,km0,km1,km2,gm3,hm3,km3,sm3,tm3,um3,hba,hbb,ze,gl2]) (by simp (disch:=omega) only [go_sem,h9,zfy,zfC,zfx,zft,zfu,zfl,zfP,zfH,zfB,zfz,zfV,zfg,zfI,zfs,zfn,zfS,zfF,zfM,zfq,zfT,zfD,zfv,zfK,zfj,zfw,zfE,zfA,zfi,zfR,zfL,zfp,zfJ,zfG,zfo,zfk,zfh,zfQ,zfm,gm0,gm1,gm2,hm0,hm1,hm2,km0,km1,km2,gm3,hm3,km3,sm3,tm3,um3,hba,hbb,ze,gl2] <;> rfl) rfl (by first | rfl | (simp only [go_sem] <;> rfl)) (by simp only [go_sem,h9,zfy,zfC,zfx,zft,zfu,zfl,zfP,zfH,zfB,zfz,zfV,zfg,zfI,zfs,zfn,zfS,zfF,zfM,zfq,zfT,zfD,zfv,zfK,zfj,zfw,zfE,zfA,zfi,zfR,zfL,zfp,zfJ,zfG,zfo,zfk,zfh,zfQ,zfm,gm0,gm1,gm2,hm0,hm1,hm2,km0,km1,km2,gm3,hm3,km3,sm3,tm3,um3,hba,hbb,ze,gl2] <;> rfl) (by simp (disch:=omega) only [go_sem,h9,zfy,zfC,zfx,zft,zfu,zfl,zfP,zfH,zfB,zfz,zfV,zfg,zfI,zfs,zfn,zfS,zfF,zfM,zfq,zfT,zfD,zfv,zfK,zfj,zfw,zfE,zfA,zfi,zfR,zfL,zfp,zfJ,zfG,zfo,zfk,zfh,zfQ,zfm,gm0,gm1,gm2,hm0,hm1,hm2,km0,km1,km2,gm3,hm3,km3,sm3,tm3,um3,hba,hbb,ze,gl2] <;> rfl) (by simp only [go_sem] <;> rfl) ?_
     refine zX (by first | exact trivial | simp only [go_sem,h9]) (by simp (disch:=omega) only [go_sem,h9] <;> rfl) rfl ?_
     refine zaf ?_;simp only [zu,zab,zf,go_sem]
     have hlb:(bs++[b2]).length=bs.length + 1:=by simp
     have hln:(ns++[nd]).length=ns.length + 1:=by simp
     have hgl:(List.map (zN 0) ns++[zN 0 nd])[ns.length]?=some (zN 0 nd):=by simp
     have hgs:IntKind.i64.wrap ((ns.length + 1:Nat) - 1)=ns.length:=by rw [show ((ns.length + 1:Nat):Int) - 1=(ns.length:Nat) by omega];exact wrap_i64 (by omega) (by omega)
     have hil:ns.length < ns.length + 1:=Nat.lt_succ_self _
     (repeat refine zc ?_)
     refine za ?_
     refine zb (by simp (disch:=omega) only [go_sem,h9,gm0,gm1,gm2,hm0,hm1,hm2,km0,km1,km2,gm3,hm3,km3,ze,hgl,hgs,hil] <;> rfl) ?_
     refine zC ?_;simp only [zf,zi,zh,zg,zu,zj,if_true,↓reduceIte]
     refine ⟨m',Nat.lt_succ_self _,m',b2::seen2,bs++[b2],ns++[nd],nd.sib,mo3,?G,rfl,?hu,hrd,by rw [hlb,hln,hbn],by rw [hlb];omega,hs3,?h0,by simp [upd,h1],by simp [upd,h2],by simp [upd,h3],by simp [upd,h4],by simp [upd,h5],by simp [upd,h9],trivial,?H⟩
     case hu=>have:=zio _ _ _ hbl hbs;omega
     case h0=>simp [upd]
     case H =>
      rw [hlb,hln,List.map_append,List.map_append]
      simp only [List.append_assoc,List.cons_append,List.nil_append]
      rfl
  ·intro hb0
   have hb0:b2=0:=by simpa using hb0
   subst hb0
   have hrd2:zb9 w lv (w.length / 64) seen [] [] b=some (seen2,bs,ns):=by rw [hrd];cases m <;> simp [zb9]
   clear hrd
   obtain ⟨hF,hfst,_⟩:=zhA (N:=2048) _ _ _ _ _ _ hrd2 (LvF.nil w) (fun n hn=>by simp at hn) (by simp;omega)
   dsimp only at hF hfst
   simp only [zf,zi,zh,zg,zu,zj,if_true,reduceIte]
   cases ns with
   | nil =>
    (repeat (first | refine zc ?_ | (refine za ?_;refine zb (by simp (disch:=omega) only [go_sem,h9,gm0,hm0,km0,gm1,hm1,km1] <;> rfl) ?_;refine zd ?_)))
    refine zD (by simp only [go_sem] <;> rfl) ?_ ?_
    ·intro _
     (repeat (first | refine zc ?_ | (refine za ?_;refine zb (by simp (disch:=omega) only [go_sem] <;> rfl) ?_;refine zd ?_)))
     refine zE ?_;(try simp only [zf,zi,zh,zg,zj]);refine zy (by simp only [T137,zI,go_sem] <;> rfl) ?_;simp only [zK]
     have:zbC w (d + 1) seen acc b lv=(acc,false):=by rw [zbC,hrd2]
     rw [this]
     exact ⟨rfl,mo2,vs,_,rfl,hv.mono⟩
    ·intro h;cases h
   | cons nd ns =>
    have g0:¬ ((ns.length + 1:Nat):Int)=0:=by omega
    (repeat (first | refine zc ?_ | (refine za ?_;refine zb (by simp (disch:=omega) only [go_sem,h9,gm0,hm0,km0,gm1,hm1,km1,g0] <;> rfl) ?_;refine zd ?_)))
    refine zD (by simp only [go_sem] <;> rfl) ?_ ?_
    ·intro h;cases h
    intro _
    refine zR ?_;show W _ _ _ _ _ _
    have hvl:=hv.1
    have hbv:(vs.length + 1) * 49≤140737488355328:=by omega
    (repeat refine zc ?_);refine za ?_;refine zb (by simp (disch:=omega) only [go_sem,h4,h9,hbv,gm0,gm1,gm2,ze,gm3] <;> rfl) ?_
    refine zd ?_
    have hg0:(List.map (zN 0) (nd::ns))[0]?=some (zN 0 nd):=rfl
    have hi0:0 < ns.length + 1:=Nat.succ_pos _
    obtain ⟨hpp,b12,b2048⟩:=hF.node (List.mem_cons_self ..)
    (repeat refine zc ?_);refine za ?_;refine zb (by simp (disch:=omega) only [go_sem,h9,hg0,hi0,gm0,gm1,gm2,hm0,hm1,hm2,km0,km1,km2,ze,gm3,hm3,km3] <;> rfl) ?_
    refine zd ?_
    have hX:=fun X=>hv.snoc (.row 100 2 0 0 [.agg [.sl (G.length + 7) bs.length 0 bs.length (2 * bs.length) 1,.sl (G.length + 8) (ns.length + 1) 0 (ns.length + 1) (2 * (ns.length + 1)) 6]]) bs (nd::ns) X (ns.length + 1) rfl
    by_cases hlv:nd.level=0
    ·have g1:(nd.level:Int)=0:=by omega
     (repeat refine zc ?_);refine za ?_;refine zb (by simp (disch:=omega) only [go_sem,g1,ze,gm0,gm1,gm2] <;> rfl) ?_
     refine zd ?_
     refine zD (by simp only [go_sem] <;> rfl) ?_ ?_
     ·intro _
      have hnl:(nd::ns).length≤2048:=by rw [← hF.len];omega
      have hll:=zjw (nd::ns) fun n hn=>(hF.node hn).1
      have hra:zbC w (d + 1) seen acc b lv=(acc++[(bs,nd::ns)],zag (zbK (nd::ns))):=by rw [zbC,hrd2];simp only;rw [if_pos hlv]
      have hlp:=zjl 1 0 bs (nd::ns) (by omega) (fun n hn=>(hF.node hn).1) (by omega)
      unfold zjC at hlp
      by_cases hri:zag (zbK (nd::ns))=true
      ·rw [if_pos hri] at hlp
       (repeat refine zc ?_)
       refine za ?_
       refine zb (by simp (disch:=omega) only [go_sem,h9,gm0,gm1,gm2,gm3,ze] <;> rfl) ?_
       refine zH (by first | rfl | (simp only [go_sem] <;> rfl)) (by simp only [go_sem] <;> rfl) hlp ?_ ?_;(repeat (first | exact trivial | refine And.intro ?_ ?_ | exact .int _ _ | exact .bool _ | exact .list _ _ _ | exact .elem _ | exact .nilsl | exact .nil _ _ | exact .str _ | refine Frz.aggL ?_ | refine Frz.fnL ?_ | refine Frz.tupL ?_ | refine .iface ?_ | exact zn rfl rfl (by assumption)))
       ·exact Frz.whole (e:=3) (z':=1) (G:=bs.length) (l:=bs.map fun (b:Nat)=>iv (b:Int)) (by simp only [List.getElem?_cons_succ,hm2] <;> rfl) rfl (by simp) (by simp) (fun v hv=>by obtain ⟨x,_,rfl⟩:=List.mem_map.1 hv;rfl) zhR
       ·exact ⟨Frz.whole (e:=124) (z':=6) (G:=ns.length + 1) (l:=(nd::ns).map (zN 0)) (by simp only [List.getElem?_cons_succ,km2] <;> rfl) rfl (by simp) (by simp) (fun v hv=>by obtain ⟨x,_,rfl⟩:=List.mem_map.1 hv;rfl) ze6,trivial⟩
       ·(repeat (first | exact trivial | refine And.intro ?_ ?_ | exact .int _ _ | exact .bool _ | exact .list _ _ _ | exact .elem _ | exact .nilsl | exact .nil _ _ | exact .str _ | refine Frz.aggL ?_ | refine Frz.fnL ?_ | refine Frz.tupL ?_ | refine .iface ?_ | exact zn rfl rfl (by assumption)))
       refine zb (by simp (disch:=omega) only [go_sem] <;> rfl) ?_
       refine zd ?_
       (repeat (first | refine zc ?_ | (refine za ?_;refine zb (by simp (disch:=omega) only [go_sem] <;> rfl) ?_;refine zd ?_)))
       refine zE ?_;(try simp only [zf,zi,zh,zg,zj]);refine zy (by simp only [T137,zI,go_sem] <;> rfl) ?_;simp only [zK]
       rw [hra,hri]
       refine ⟨rfl,mo2,_,_,?e1,hX ?X1⟩
       case e1 =>
        unfold rdH
        simp only [List.length_append,List.length_cons,List.length_nil,Nat.zero_add,List.append_assoc,List.cons_append]
        rfl
      ·rw [if_neg hri] at hlp
       have hri:zag (zbK (nd::ns))=false:=by simpa using hri
       (repeat refine zc ?_)
       refine za ?_
       refine zb (by simp (disch:=omega) only [go_sem,h9,gm0,gm1,gm2,gm3,ze] <;> rfl) ?_
       refine zH (by first | rfl | (simp only [go_sem] <;> rfl)) (by simp only [go_sem] <;> rfl) hlp ?_ ?_;(repeat (first | exact trivial | refine And.intro ?_ ?_ | exact .int _ _ | exact .bool _ | exact .list _ _ _ | exact .elem _ | exact .nilsl | exact .nil _ _ | exact .str _ | refine Frz.aggL ?_ | refine Frz.fnL ?_ | refine Frz.tupL ?_ | refine .iface ?_ | exact zn rfl rfl (by assumption)))
       ·exact Frz.whole (e:=3) (z':=1) (G:=bs.length) (l:=bs.map fun (b:Nat)=>iv (b:Int)) (by simp only [List.getElem?_cons_succ,hm2] <;> rfl) rfl (by simp) (by simp) (fun v hv=>by obtain ⟨x,_,rfl⟩:=List.mem_map.1 hv;rfl) zhR
       ·exact ⟨Frz.whole (e:=124) (z':=6) (G:=ns.length + 1) (l:=(nd::ns).map (zN 0)) (by simp only [List.getElem?_cons_succ,km2] <;> rfl) rfl (by simp) (by simp) (fun v hv=>by obtain ⟨x,_,rfl⟩:=List.mem_map.1 hv;rfl) ze6,trivial⟩
       ·(repeat (first | exact trivial | refine And.intro ?_ ?_ | exact .int _ _ | exact .bool _ | exact .list _ _ _ | exact .elem _ | exact .nilsl | exact .nil _ _ | exact .str _ | refine Frz.aggL ?_ | refine Frz.fnL ?_ | refine Frz.tupL ?_ | refine .iface ?_ | exact zn rfl rfl (by assumption)))
       refine zb (by simp (disch:=omega) only [go_sem] <;> rfl) ?_
       refine zd ?_
       (repeat (first | refine zc ?_ | (refine za ?_;refine zb (by simp (disch:=omega) only [go_sem] <;> rfl) ?_;refine zd ?_)))
       refine zE ?_;(try simp only [zf,zi,zh,zg,zj]);refine zy (by simp only [T137,zI,go_sem] <;> rfl) ?_;simp only [zK]
       rw [hra,hri]
       refine ⟨rfl,mo2,_,_,?e2,hX ?X2⟩
       case e2 =>
        unfold rdH
        simp only [List.length_append,List.length_cons,List.length_nil,Nat.zero_add,List.append_assoc,List.cons_append]
        rfl
     ·intro h;cases h
    ·have g1:¬ (nd.level:Int)=0:=by omega
     (repeat refine zc ?_);refine za ?_;refine zb (by simp (disch:=omega) only [go_sem,g1,ze,gm0,gm1,gm2] <;> rfl) ?_
     refine zd ?_
     refine zD (by simp only [go_sem] <;> rfl) ?_ ?_
     ·intro h;cases h
     intro _
     refine zR ?_;show W _ _ _ _ _ _
     have hra:zbC w (d + 1) seen acc b lv=zbC w d seen2 (acc++[(bs,nd::ns)]) nd.left ((nd.level:Int) - 1):=by rw [zbC,hrd2];simp only;rw [if_neg hlv]
     have hfl:=hfst nd rfl
     have ihc:=fun X=>ih seen2 (acc++[(bs,nd::ns)]) nd.left ((nd.level:Int) - 1) mo2 _ _ (by omega) hs2 (hX X) (by simp;omega)
     unfold rdH at ihc
     simp only [show ∀ v:PV,(vs++[v]).length=vs.length + 1 from fun v=>by simp] at ihc
     rw [← hra] at ihc
     (repeat refine zc ?_)
     refine za ?_
     refine zb (by simp (disch:=omega) only [go_sem,h5,gm0,gm1,gm2,gm3,ze] <;> rfl) ?_
     simp only [List.append_assoc,List.cons_append,List.nil_append]
     refine zit (caps:=?caps) (vs:=?vs) ?g1 ?g2 (ihc ?X3) ?g3 ?g4 ?g5
     case g1=>first | rfl | (simp only [z7,zac,go_sem] <;> rfl)
     case g2=>simp only [go_sem,h5] <;> rfl
     case g3=>rfl
     case g4=>rfl
     rintro e H' ⟨rfl,mo',vs',G',rfl,hv'⟩
     refine zb (by simp (disch:=omega) only [go_sem] <;> rfl) ?_
     refine zd ?_
     refine zE ?_;(try simp only [zf,zi,zh,zg,zj]);refine zy (by simp only [T137,zI,go_sem] <;> rfl) ?_;simp only [zK]
     exact ⟨rfl,mo',vs',G',rfl,hv'⟩
theorem f42:ET.funcs.get 42=some T42:=zJ (by kernel_rfl) (by decide)
@[reducible] def zdi (T:List Lev):PV:=.list 0 2 (T.map fun L=>zcH 0 0 L.1 L.2)
theorem Lb.ivn {z:Nat} (l:List Nat):Lb (.list 0 z (l.map fun (b:Nat)=>iv (b:Int))):=.list fun x hx=>by
 obtain ⟨y,hy,hx⟩:=List.mem_flatMap.1 hx
 obtain ⟨n,_,rfl⟩:=List.mem_map.1 hy
 simp [PV.cells] at hx;subst hx;exact .int _ _
theorem Lb.nodes {z:Nat} (l:List zo):Lb (.list 0 z (l.map (zN 0))):=.list fun x hx=>by
 obtain ⟨y,hy,hx⟩:=List.mem_flatMap.1 hx
 obtain ⟨n,_,rfl⟩:=List.mem_map.1 hy
 have:=Lb.node n
 cases this with
 | agg h=>exact h x hx
theorem zlb (T:List Lev):Lb (zdi T):=.list fun x hx=>by
 obtain ⟨y,hy,hx⟩:=List.mem_flatMap.1 hx
 obtain ⟨L,_,rfl⟩:=List.mem_map.1 hy
 simp [PV.cells] at hx
 rcases hx with rfl | rfl
 ·exact Lb.ivn _
 ·exact Lb.nodes _
theorem zr1 {p:Nat} {w:List Nat} {mo:zk} {vs:List PV} {G:List zk} {T:List Lev} (h:zdE G vs T):Frz (rdH p w mo vs G) 0 (.sl 5 vs.length 0 vs.length (2 * vs.length) 2) (zdi T):=by
 have hf:LF (rdH p w mo vs G) 0 (vs.flatMap PV.cells) ((T.map fun L=>zcH 0 0 L.1 L.2).flatMap PV.cells):=LF.flat h.1 fun q L hL=>by
  have hq:q < vs.length:=by rw [h.1];exact (List.getElem?_eq_some_iff.1 hL).1
  obtain ⟨i,j,e1,e2,e3⟩:=h.2 q _ L (List.getElem?_eq_getElem hq) hL
  refine ⟨_,(List.getElem?_eq_getElem hq).trans (congrArg some e1),?_,?_,trivial⟩
  ·exact Frz.whole (e:=3) (z':=1) (G:=L.1.length) (l:=L.1.map fun (b:Nat)=>iv (b:Int)) e2 rfl (by simp) (by simp) (fun v hv=>by obtain ⟨x,_,rfl⟩:=List.mem_map.1 hv;rfl) zhR
  ·exact Frz.whole (e:=124) (z':=6) (G:=L.2.length) (l:=L.2.map (zN 0)) e3 rfl (by simp) (by simp) (fun v hv=>by obtain ⟨x,_,rfl⟩:=List.mem_map.1 hv;rfl) ze6
 have ht:(vs.drop 0).take vs.length=vs:=by rw [List.drop_zero,List.take_length]
 have hl:=h.1
 refine .sl (e:=100) (M:=0) (G:=vs.length) (l:=vs) rfl (Nat.zero_le _) (Nat.le_refl _) (by omega) (Nat.le_refl _) (by simp [hl]) (fun v hv=>by obtain ⟨x,_,rfl⟩:=List.mem_map.1 hv;rfl) ?_ ?_
 ·rw [ht];exact zo4 hf
 ·rw [ht];exact fun i x y hx hy=>hf.get hx hy
theorem zsL (p:Nat) (w:List Nat) (hw:64≤w.length∧w.length≤131072∧w.length % 64=0) (a:Nat) (ha:a < w.length):FN ET 91 [wv p w,iv a] (.ret (.tuple [zdi (zaj w a).1,.bool (zaj w a).2])):=by
 refine zU f91 (Nat.le_of_ble_eq_true rfl) (Lb.two (zlb _) (.bool _)) ?_
 have hwa:(w.map uv)[a]?=some (uv (w.getD a 0)):=by rw [List.getElem?_map,List.getElem?_eq_getElem ha,List.getD_eq_getElem?_getD,List.getElem?_eq_getElem ha];rfl
 (repeat (first | refine zc ?_ | (refine za ?_;refine zb (by simp (disch:=omega) only [go_sem] <;> rfl) ?_;refine zd ?_)))
 refine zfc 100 2 (id:=1) rfl ?_
 simp only [lzy,List.length_cons,List.length_nil,List.set_cons_succ,List.set_cons_zero,List.cons_append,List.nil_append]
 have hc:=zrt p w hw 14 [] [] (w.getD a 0) (-1) .map0 [] [] (.inr (Nat.le_refl _)) (.inl ⟨rfl,rfl⟩) ⟨rfl,fun k v l hv _=>by simp at hv⟩ (by decide)
 change FO ET 137 _ _ _ (zi1 p w (zaj w a)) at hc
 generalize zaj w a=r at hc
 (repeat refine zc ?_)
 refine zaS ?_
 refine zlR (s1:=?_) (caps:=?_) (vs:=?_) ?_ ?_ rfl rfl ?_ ?_ hc ?_ ?_ ?_;rotate_left 3;(first | exact trivial | (simp only [go_sem,hwa,ha]));(simp (disch:=omega) only [go_sem,wrap_i64,zQ,zaM,hwa,ha] <;> rfl);(first | rfl | (simp only [go_sem,hwa,ha] <;> rfl));(simp only [go_sem,hwa,ha] <;> rfl);rfl;rfl
 rintro e H' ⟨rfl,mo',vs',G',rfl,hv'⟩
 refine ⟨_,by simp only [go_sem] <;> rfl,?_⟩
 refine zX (by first | exact trivial | simp only [go_sem,hwa]) (by simp (disch:=omega) only [go_sem,hwa] <;> rfl) rfl ?_
 refine zaf ?_;simp only [zu,zab,zf,go_sem]
 unfold rdH
 (repeat (first | refine zc ?_ | (refine za ?_;refine zb (by simp (disch:=omega) only [go_sem,hwa] <;> rfl) ?_;refine zd ?_)))
 refine zE ?_;(try simp only [zf,zi,zh,zg,zj]);refine zy (by simp only [T91,zI,go_sem] <;> rfl) ?_;simp only [zK]
 exact Frz.tupL ⟨zr1 hv',.bool _,trivial⟩
def ziU (w:List Nat) (a:Int):FE:=if zcb w.length a=true then if (zaj w a.toNat).2=true then .ret (zdi (zaj w a.toNat).1) else .panic (zcn 220) else .panic (zcn 2)
theorem zfZ (n:Nat) (a:Int):zcb n a=true↔(64≤n∧n % 64=0∧n≤131072∧0≤a∧a < n):=by unfold zcb;simp [and_assoc]
theorem zlM (p:Nat) (w:List Nat) (a:Int) (hs:zaI w.length):FN ET 42 [wv p w,iv a] (ziU w a):=by
 have hr:=zmB p w a hs
 unfold ziU
 by_cases h:zcb w.length a=true
 rotate_left
 ·rw [if_neg h] at hr ⊢
  refine zU f42 (Nat.le_of_ble_eq_true rfl) (.iface (.int _ _)) ?_
  (repeat (first | refine zc ?_ | (refine za ?_;refine zb (by simp (disch:=omega) only [go_sem] <;> rfl) ?_;refine zd ?_)))
  (repeat refine zc ?_);refine za ?_;refine zb (by simp (disch:=omega) only [go_sem] <;> rfl) ?_
  refine zaD (by first | rfl | (simp only [go_sem] <;> rfl)) (by simp only [go_sem] <;> rfl) hr ?_ ?_;(repeat (first | exact trivial | refine And.intro ?_ ?_ | exact .int _ _ | exact .bool _ | exact .list _ _ _ | exact .elem _ | exact .nilsl | exact .nil _ _ | exact .str _ | refine Frz.aggL ?_ | refine Frz.fnL ?_ | refine Frz.tupL ?_ | refine .iface ?_ | exact zn rfl rfl (by assumption)))
 rw [if_pos h] at hr ⊢
 have hb:=(zfZ _ _).1 h
 obtain ⟨n,rfl⟩:∃ n:Nat,a=n:=⟨a.toNat,by omega⟩
 have hrd:=zsL p w ⟨hb.1,hb.2.2.1,hb.2.1⟩ n (by omega)
 rw [Int.toNat_natCast]
 generalize zaj w n=r at hrd
 obtain ⟨T,b⟩:=r
 cases b with
 | true =>
  rw [if_pos rfl]
  refine zU f42 (Nat.le_of_ble_eq_true rfl) (zlb _) ?_
  (repeat (first | refine zc ?_ | (refine za ?_;refine zb (by simp (disch:=omega) only [go_sem] <;> rfl) ?_;refine zd ?_)))
  (repeat refine zc ?_);refine za ?_;refine zb (by simp (disch:=omega) only [go_sem] <;> rfl) ?_
  refine zH (by first | rfl | (simp only [go_sem] <;> rfl)) (by simp only [go_sem] <;> rfl) hr ?_ ?_;(repeat (first | exact trivial | refine And.intro ?_ ?_ | exact .int _ _ | exact .bool _ | exact .list _ _ _ | exact .elem _ | exact .nilsl | exact .nil _ _ | exact .str _ | refine Frz.aggL ?_ | refine Frz.fnL ?_ | refine Frz.tupL ?_ | refine .iface ?_ | exact zn rfl rfl (by assumption)))
  refine zb (by simp (disch:=omega) only [go_sem] <;> rfl) ?_
  refine zd ?_
  (repeat refine zc ?_);refine za ?_;refine zb (by simp (disch:=omega) only [go_sem] <;> rfl) ?_
  refine zH (by first | rfl | (simp only [go_sem] <;> rfl)) (by simp only [go_sem] <;> rfl) hrd ?_ ?_;(repeat (first | exact trivial | refine And.intro ?_ ?_ | exact .int _ _ | exact .bool _ | exact .list _ _ _ | exact .elem _ | exact .nilsl | exact .nil _ _ | exact .str _ | refine Frz.aggL ?_ | refine Frz.fnL ?_ | refine Frz.tupL ?_ | refine .iface ?_ | exact zn rfl rfl (by assumption)))
  refine zb (by simp (disch:=omega) only [go_sem] <;> rfl) ?_
  refine zd ?_
  (repeat refine zc ?_);refine za ?_;refine zb (by simp (disch:=omega) only [go_sem] <;> rfl) ?_
  refine zH (by first | rfl | (simp only [go_sem] <;> rfl)) (by simp only [go_sem] <;> rfl) (zcI 220) ?_ ?_;(repeat (first | exact trivial | refine And.intro ?_ ?_ | exact .int _ _ | exact .bool _ | exact .list _ _ _ | exact .elem _ | exact .nilsl | exact .nil _ _ | exact .str _ | refine Frz.aggL ?_ | refine Frz.fnL ?_ | refine Frz.tupL ?_ | refine .iface ?_ | exact zn rfl rfl (by assumption)))
  refine zb (by simp (disch:=omega) only [go_sem] <;> rfl) ?_
  refine zd ?_
  (repeat (first | refine zc ?_ | (refine za ?_;refine zb (by simp (disch:=omega) only [go_sem] <;> rfl) ?_;refine zd ?_)))
  refine zE ?_;(try simp only [zf,zi,zh,zg,zj]);refine zy (by simp only [T42,zI,go_sem] <;> rfl) ?_;simp only [zK]
  exact Frz.list _ _ _
 | false =>
  rw [if_neg (show ¬ (T,false).2=true from Bool.false_ne_true)]
  refine zU f42 (Nat.le_of_ble_eq_true rfl) (.iface (.int _ _)) ?_
  (repeat (first | refine zc ?_ | (refine za ?_;refine zb (by simp (disch:=omega) only [go_sem] <;> rfl) ?_;refine zd ?_)))
  (repeat refine zc ?_);refine za ?_;refine zb (by simp (disch:=omega) only [go_sem] <;> rfl) ?_
  refine zH (by first | rfl | (simp only [go_sem] <;> rfl)) (by simp only [go_sem] <;> rfl) hr ?_ ?_;(repeat (first | exact trivial | refine And.intro ?_ ?_ | exact .int _ _ | exact .bool _ | exact .list _ _ _ | exact .elem _ | exact .nilsl | exact .nil _ _ | exact .str _ | refine Frz.aggL ?_ | refine Frz.fnL ?_ | refine Frz.tupL ?_ | refine .iface ?_ | exact zn rfl rfl (by assumption)))
  refine zb (by simp (disch:=omega) only [go_sem] <;> rfl) ?_
  refine zd ?_
  (repeat refine zc ?_);refine za ?_;refine zb (by simp (disch:=omega) only [go_sem] <;> rfl) ?_
  refine zH (by first | rfl | (simp only [go_sem] <;> rfl)) (by simp only [go_sem] <;> rfl) hrd ?_ ?_;(repeat (first | exact trivial | refine And.intro ?_ ?_ | exact .int _ _ | exact .bool _ | exact .list _ _ _ | exact .elem _ | exact .nilsl | exact .nil _ _ | exact .str _ | refine Frz.aggL ?_ | refine Frz.fnL ?_ | refine Frz.tupL ?_ | refine .iface ?_ | exact zn rfl rfl (by assumption)))
  refine zb (by simp (disch:=omega) only [go_sem] <;> rfl) ?_
  refine zd ?_
  (repeat refine zc ?_);refine za ?_;refine zb (by simp (disch:=omega) only [go_sem] <;> rfl) ?_
  refine zaD (by first | rfl | (simp only [go_sem] <;> rfl)) (by simp only [go_sem] <;> rfl) (zb0 220) ?_ ?_;(repeat (first | exact trivial | refine And.intro ?_ ?_ | exact .int _ _ | exact .bool _ | exact .list _ _ _ | exact .elem _ | exact .nilsl | exact .nil _ _ | exact .str _ | refine Frz.aggL ?_ | refine Frz.fnL ?_ | refine Frz.tupL ?_ | refine .iface ?_ | exact zn rfl rfl (by assumption)))
theorem f16:ET.funcs.get 16=some T16:=zJ (by kernel_rfl) (by decide)
theorem f54:ET.funcs.get 54=some T54:=zJ (by kernel_rfl) (by decide)
theorem c35:ET.caught.get 35=some ():=by kernel_rfl
def zcf (T:List Lev):Lev:=T.getLastD ([],[])
theorem zg4 {T:List Lev} (h:T ≠ []):T[T.length - 1]?=some (zcf T)∧T.getLast?=some (zcf T):=by
 have:T.getLast?=some (zcf T):=by unfold zcf;rw [List.getLastD_eq_getLast?];cases T with
  | nil=>exact absurd rfl h
  | cons a l=>rw [List.getLast?_eq_some_getLast (by simp)];rfl
 exact ⟨by rw [← List.getLast?_eq_getElem?];exact this,this⟩
theorem zjb (w:List Nat):∀ (d:Nat) (seen:List Nat) (acc:List Lev) (b:Nat) (lv:Int),(zbC w d seen acc b lv).1.length≤acc.length + d
 | 0,_,acc,_,_=>Nat.le_refl _
 | d + 1,seen,acc,b,lv=>by
  rw [zbC]
  split
  ·simp
  ·simp
  ·split
   ·simp
   ·refine Nat.le_trans (zjb w d _ _ _ _) ?_
    simp;omega
theorem zhg {w:List Nat} (hw:w.length≤131072) (a:Nat) {T:List Lev} (h:zaj w a=(T,true)):(∀ L∈T,zjN w L)∧(∀ L∈T.dropLast,zhl L)∧T ≠ []∧zag (zbK (zcf T).2)=true∧T.length≤14:=by
 have hle:=zjb w 14 [] [] (w.getD a 0) (-1)
 change (zaj w a).1.length≤0 + 14 at hle
 have hf:=zhZ hw 14 [] [] (w.getD a 0) (-1) (fun L hL=>by simp at hL)
 change (∀ L∈(zaj w a).1,zjN w L)∧(∀ L∈(zaj w a).1.dropLast,zhl L)∧((zaj w a).2=true→(zaj w a).1 ≠ []∧∀ M,(zaj w a).1.getLast?=some M→zag (zbK M.2)=true) at hf
 rw [h] at hf hle
 obtain ⟨h1,h2,h3⟩:=hf
 obtain ⟨h3,h4⟩:=h3 rfl
 exact ⟨h1,h2,h3,h4 _ (zg4 h3).2,by simpa using hle⟩
def zgC (w:List Nat) (a:Int):FE:=if zcb w.length a=true then if (zaj w a.toNat).2=true then .ret (.tuple [psv 0 (zbK (zcf (zaj w a.toNat).1).2),iv 0]) else .ret (.tuple [psv 0 [],iv 220]) else .ret (.tuple [psv 0 [],iv 2])
theorem zsA:FO ET 54 [.ptr 0 0 0 0 1] [.row 41 1 0 0 [.nilsl],.row 31 1 0 0 [iv 0]] false fun e H'=>e=.ret (.tuple [])∧H'=[.row 41 1 0 0 [.nilsl],.row 31 1 0 0 [iv 0]]:=by
 refine zcS f54 (Nat.le_of_ble_eq_true rfl) ?_
 (repeat refine zc ?_);refine za ?_;refine zb (by simp (disch:=omega) only [go_sem] <;> rfl) ?_
 refine zC ?_
 exact ⟨[],rfl,rfl,rfl⟩
theorem zts (p:Nat) (w:List Nat) (a:Int) (hs:zaI w.length):FN ET 16 [wv p w,iv a] (zgC w a):=by
 have hl:=zlM p w a hs
 have hlb:LbE (zgC w a):=by
  unfold zgC
  split
  ·split
   ·exact Lb.two (Lb.pvs _) (.int _ _)
   ·exact Lb.two (Lb.pvs _) (.int _ _)
  ·exact Lb.two (Lb.pvs _) (.int _ _)
 refine zU f16 (Nat.le_of_ble_eq_true rfl) hlb ?_
 (repeat (first | refine zc ?_ | (refine za ?_;refine zb (by simp (disch:=omega) only [go_sem] <;> rfl) ?_;refine zd ?_)))
 (repeat refine zc ?_);refine za ?_;refine zb (by simp (disch:=omega) only [go_sem] <;> rfl) ?_
 refine zhr (f:=35) (p:=.ptr 1 0 0 0 1) (cl:=.fn 54 [.ptr 0 0 0 0 1]) ?_ ?_ c35 ?_
 ·rfl
 ·simp only [go_sem] <;> rfl
 refine zb (by simp (disch:=omega) only [go_sem] <;> rfl) ?_
 refine zd ?_
 (repeat refine zc ?_);refine za ?_;refine zb (by simp (disch:=omega) only [go_sem] <;> rfl) ?_
 have bad:∀ (tm:Nat→PV) (n:Nat),zgC w a=.ret (.tuple [psv 0 [],iv n])→tm 4=.ptr 0 0 0 0 1→tm 5=.ptr 1 0 0 0 1→zew ET T16 (fun e' H=>zar H 0 e' (zgC w a)) (.panic (zcn n)) ⟨tm,[.caught (.ptr 1 0 0 0 1) (.fn 54 [.ptr 0 0 0 0 1])],[.row 41 1 0 0 [.nilsl],.row 31 1 0 0 [iv 0]]⟩:=fun tm n hn h4 h5=>by
  refine ⟨n,54,[.ptr 0 0 0 0 1],false,1,0,1,rfl,rfl,rfl,zsA.mono fun e H he=>?_⟩
  obtain ⟨rfl,rfl⟩:=he
  refine ⟨rfl,_,rfl,[.nilsl,iv n],?_,?_⟩
  ·simp [T16,zI,okv,h4,h5,zax,zbf,zbh,zae]
   rfl
  ·rw [hn];exact Frz.tupL ⟨.nil _ _,.int _ _,trivial⟩
 unfold ziU at hl
 by_cases hr:zcb w.length a=true
 rotate_left
 ·rw [if_neg hr] at hl
  refine zaD (by first | rfl | (simp only [go_sem] <;> rfl)) (by simp only [go_sem] <;> rfl) hl ?_ ?_;(repeat (first | exact trivial | refine And.intro ?_ ?_ | exact .int _ _ | exact .bool _ | exact .list _ _ _ | exact .elem _ | exact .nilsl | exact .nil _ _ | exact .str _ | refine Frz.aggL ?_ | refine Frz.fnL ?_ | refine Frz.tupL ?_ | refine .iface ?_ | exact zn rfl rfl (by assumption)))
  exact bad _ 2 (by unfold zgC;rw [if_neg hr];rfl) rfl rfl
 rw [if_pos hr] at hl
 have hb:=(zfZ _ _).1 hr
 by_cases ht:(zaj w a.toNat).2=true
 rotate_left
 ·rw [if_neg ht] at hl
  refine zaD (by first | rfl | (simp only [go_sem] <;> rfl)) (by simp only [go_sem] <;> rfl) hl ?_ ?_;(repeat (first | exact trivial | refine And.intro ?_ ?_ | exact .int _ _ | exact .bool _ | exact .list _ _ _ | exact .elem _ | exact .nilsl | exact .nil _ _ | exact .str _ | refine Frz.aggL ?_ | refine Frz.fnL ?_ | refine Frz.tupL ?_ | refine .iface ?_ | exact zn rfl rfl (by assumption)))
  exact bad _ 220 (by unfold zgC;rw [if_pos hr,if_neg ht];rfl) rfl rfl
 rw [if_pos ht] at hl
 have hall:zgC w a=.ret (.tuple [psv 0 (zbK (zcf (zaj w a.toNat).1).2),iv 0]):=by unfold zgC;rw [if_pos hr,if_pos ht]
 obtain ⟨f1,f2,f3,f4,f5⟩:=zhg (w:=w) (T:=(zaj w a.toNat).1) (by omega) a.toNat (by rw [← ht])
 rw [hall]
 clear bad
 generalize (zaj w a.toNat).1=T at hl f1 f2 f3 f4 f5
 obtain ⟨g1,g2⟩:=zg4 f3
 have hlen:T.length ≠ 0:=fun h=>f3 (List.eq_nil_of_length_eq_zero h)
 have hLF:=f1 _ (List.mem_of_getElem? g1)
 have hget:(T.map fun L=>zcH 0 0 L.1 L.2)[T.length - 1]?=some (zcH 0 0 (zcf T).1 (zcf T).2):=by rw [List.getElem?_map,g1];rfl
 have hll:=zjw (zcf T).2 fun n hn=>(hLF.lv.node hn).1
 have hfew:=hLF.few
 have hlp:=zjl 0 0 (zcf T).1 (zcf T).2 (by omega) (fun n hn=>(hLF.lv.node hn).1) (by omega)
 unfold zjC at hlp
 rw [if_pos f4] at hlp
 refine zH (by first | rfl | (simp only [go_sem] <;> rfl)) (by simp only [go_sem] <;> rfl) hl ?_ ?_;(repeat (first | exact trivial | refine And.intro ?_ ?_ | exact .int _ _ | exact .bool _ | exact .list _ _ _ | exact .elem _ | exact .nilsl | exact .nil _ _ | exact .str _ | refine Frz.aggL ?_ | refine Frz.fnL ?_ | refine Frz.tupL ?_ | refine .iface ?_ | exact zn rfl rfl (by assumption)))
 refine zb (by simp (disch:=omega) only [go_sem] <;> rfl) ?_
 refine zd ?_
 have hq:IntKind.i64.wrap ((T.length:Int) - 1)=((T.length - 1:Nat):Int):=by rw [wrap_i64 (by omega) (by omega)];omega
 have hi:T.length - 1 < T.length:=by omega
 (repeat refine zc ?_);refine za ?_;refine zb (by simp (disch:=omega) only [go_sem,hq,hget,hi] <;> rfl) ?_
 refine zH (by first | rfl | (simp only [go_sem] <;> rfl)) (by simp only [go_sem] <;> rfl) hlp ?_ ?_;(repeat (first | exact trivial | refine And.intro ?_ ?_ | exact .int _ _ | exact .bool _ | exact .list _ _ _ | exact .elem _ | exact .nilsl | exact .nil _ _ | exact .str _ | refine Frz.aggL ?_ | refine Frz.fnL ?_ | refine Frz.tupL ?_ | refine .iface ?_ | exact zn rfl rfl (by assumption)))
 refine zb (by simp (disch:=omega) only [go_sem] <;> rfl) ?_
 refine zd ?_
 (repeat (first | refine zc ?_ | (refine za ?_;refine zb (by simp (disch:=omega) only [go_sem] <;> rfl) ?_;refine zd ?_)))
 refine zE ?_
 exact ⟨[psv 0 (zbK (zcf T).2),iv 0],rfl,Frz.tupL ⟨.list _ _ _,.int _ _,trivial⟩⟩
@[reducible] def cvI (x:Pr):PV:=.agg [uv x.1,.int .i64 (IntKind.i64.wrap (x.2:Int))]
theorem ztl {x:Pr} (h:x.2 < 9223372036854775808):cvI x=cv x:=by
 unfold cvI cv
 rw [wrap_i64 (by omega) (by omega)]
theorem zq5 (G:List zk) (r r2:zk) (V0:List PV) (ps:List Pr) (hb:V0.length + ps.length < 1000000) (tm:Nat→PV) (G3:List zk) (h8:tm 8=.sl (G.length + 1) V0.length 0 V0.length (2 * V0.length) 2) (h93:tm 93=psv 0 ps) (h94:tm 94=iv ps.length) (h95:tm 95=iv 0) {Q:FX→FSt→Prop}
  (hQ:∀ (tm':Nat→PV) (V:List PV) (G4:List zk),V=V0++ps.map cvI→(∀ k,k ≠ 8→k ≠ 14→(k < 95∨108 < k)→tm' k=tm k)→tm' 8=.sl (G.length + 1) V.length 0 V.length (2 * V.length) 2→Q .norm ⟨tm',[],G++r::.row 138 2 V.length 0 V::r2::G4⟩) :
  W ET ET.caught none c60_4 ⟨tm,[],G++r::.row 138 2 V0.length 0 V0::r2::G3⟩ Q:=by
 unfold c60_4
 refine zG (zav (fun m s=>∃ (j:Nat) (V:List PV) (G4:List zk),m=ps.length - j∧j≤ps.length∧V=V0++(ps.take j).map cvI∧(∀ k,k ≠ 8→k ≠ 14→k ≠ 95→(k < 95∨108 < k)→s.tm k=tm k)∧s.tm 8=.sl (G.length + 1) V.length 0 V.length (2 * V.length) 2∧s.tm 95=iv j∧s.df=[]∧s.H=G++r::.row 138 2 V.length 0 V::r2::G4) (n:=ps.length) ?_ ?_)
 ·exact ⟨0,V0,G3,rfl,Nat.zero_le _,by simp,fun k _ _ _ _=>rfl,h8,h95,rfl,rfl⟩
 ·rintro m ⟨tn,df,H⟩ ⟨j,V,G4,rfl,hj,hV,hf,h8',h95',rfl,rfl⟩
  dsimp only at hf h8' h95'
  have h93':=(hf 93 (by decide) (by decide) (by decide) (by decide)).trans h93
  have h94':=(hf 94 (by decide) (by decide) (by decide) (by decide)).trans h94
  have hVl:V.length=V0.length + j:=by rw [hV];simp;omega
  (try refine zY ?_);refine zc (za ?_);refine zb (by simp (disch:=omega) only [go_sem,h93',h94',h95'] <;> rfl) ?_;refine zd ?_;refine zad (by simp only [go_sem] <;> rfl) ?_ ?_
  ·intro hlt
   have hlt:j < ps.length:=by have:=of_decide_eq_true hlt;omega
   obtain ⟨q,hq⟩:∃ q,ps[j]?=some q:=⟨_,List.getElem?_eq_getElem hlt⟩
   have hqv:(ps.map pv)[j]?=some (pv q):=by rw [List.getElem?_map,hq];rfl
   have hb2:(V.length + 1) * 17≤140737488355328:=by omega
   have hV2:V++[cvI q]=V0++(ps.take (j + 1)).map cvI:=by rw [List.take_add_one,hq,hV];simp
   (repeat refine zc ?_)
   refine zG ?_
   (repeat (first | refine zc ?_ | (refine za ?_;refine zb (by simp (disch:=omega) only [go_sem,h8',h93',h95',hqv,hb2,ze,zF,gm0,gm1,gm2,hm0,hm1,hm2,tm0,tm1,tm2] <;> rfl) ?_;refine zd ?_)))
   (repeat refine zc ?_);refine za ?_;refine zb (by simp (disch:=omega) only [go_sem,h8',h93',h95',hqv,hb2,ze,zF,gm0,gm1,gm2,hm0,hm1,hm2,tm0,tm1,tm2] <;> rfl) ?_
   refine zC ?_;simp only [zf,zi,zh,zg,zu,zj,if_true,↓reduceIte]
   (repeat refine zc ?_);refine za ?_;refine zb (by simp (disch:=omega) only [go_sem,h95'] <;> rfl) ?_
   refine zC ?_;simp only [zf,zi,zh,zg,zu,zj,if_true,↓reduceIte]
   refine ⟨_,?m,j + 1,V++[cvI q],?G4,rfl,hlt,hV2,?f,?h8,by simp [upd,h95'],trivial,?H⟩
   case m=>omega
   case f=>intro k k1 k2 k3 k4;simp (disch:=omega) only [zZ];exact hf k k1 k2 k3 k4
   case h8=>simp [upd]
   case H =>
    rw [List.length_append]
    simp only [List.append_assoc,List.cons_append,List.nil_append]
    rfl
  ·intro hlt
   have hlt:¬ j < ps.length:=by have:=of_decide_eq_false hlt;omega
   obtain rfl:j=ps.length:=by omega
   simp only [zf,zi,zh,zg,zu,zj,if_true,reduceIte]
   refine hQ _ V G4 (by rw [hV,List.take_length]) (fun k k1 k2 k3=>?_) (by simp [upd,h8'])
   simp (disch:=omega) only [zZ]
   exact hf k k1 k2 (by omega) k3
section
variable {α:Type} (G l m n o:List α) (x y z u:α)
theorem um0:(G++x::y::z::l).set (G.length + 2) u=G++x::y::u::l:=by simp [List.set_append_right]
theorem um1:(G++x::y::z::l++m).set (G.length + 2) u=G++x::y::u::l++m:=by simp [List.set_append_right]
theorem um2:(G++x::y::z::l++m++n).set (G.length + 2) u=G++x::y::u::l++m++n:=by simp [List.set_append_right]
end
theorem zqR {M:Lev} {j:Nat} {x:zo} {b:Nat} (hx:M.2[j]?=some x) (hb:M.1[j]?=some b):(zcZ M).take (j + 1)=(zcZ M).take j++[(x.low,b)]:=by
 have:(zcZ M)[j]?=some (x.low,b):=by
  unfold zcZ
  rw [List.getElem?_zip_eq_some]
  exact ⟨by rw [List.getElem?_map,hx];rfl,hb⟩
 rw [List.take_add_one,this];rfl
theorem zqX (G:List zk) (r r1:zk) (T:List Lev) (M:Lev) (n:Nat) (hn:n < 1000000) (hM:T[n + 1]?=some M) (hlen:M.1.length=M.2.length) (hfew:M.2.length≤2048) (tm:Nat→PV) (G3:List zk) (h5:tm 5=zdi T) (h6:tm 6=iv n) (h9:tm 9=.sl (G.length + 2) 0 0 0 0 2) (h120:tm 120=.list 0 6 (M.2.map (zN 0))) (h121:tm 121=iv M.2.length) (h122:tm 122=iv 0) {Q:FX→FSt→Prop}
  (hQ:∀ (tm':Nat→PV) (V:List PV) (G4:List zk),V=(zcZ M).map cv→(∀ k,k ≠ 9→k ≠ 15→k ≠ 16→(k < 122∨142 < k)→tm' k=tm k)→tm' 9=.sl (G.length + 2) V.length 0 V.length (2 * V.length) 2→Q .norm ⟨tm',[],G++r::r1::.row 138 2 V.length 0 V::G4⟩) :
  W ET ET.caught none c60_6 ⟨tm,[],G++r::r1::.row 138 2 0 0 []::G3⟩ Q:=by
 unfold c60_6
 have hLT:(T.map fun L=>zcH 0 0 L.1 L.2)[n + 1]?=some (zcH 0 0 M.1 M.2):=by rw [List.getElem?_map,hM];rfl
 have hnT:n + 1 < T.length:=(List.getElem?_eq_some_iff.1 hM).1
 have e1:((n:Int) + 1)=((n + 1:Nat):Int):=by omega
 have hll:(zcZ M).length=M.2.length:=by unfold zcZ;simp [hlen]
 refine zG (zav (fun m s=>∃ (j:Nat) (V:List PV) (G4:List zk),m=M.2.length - j∧j≤M.2.length∧V=((zcZ M).take j).map cv∧(∀ k,k ≠ 9→k ≠ 15→k ≠ 16→k ≠ 122→(k < 122∨142 < k)→s.tm k=tm k)∧s.tm 9=.sl (G.length + 2) V.length 0 V.length (2 * V.length) 2∧s.tm 122=iv j∧s.df=[]∧s.H=G++r::r1::.row 138 2 V.length 0 V::G4) (n:=M.2.length) ?_ ?_)
 ·exact ⟨0,[],G3,rfl,Nat.zero_le _,by simp,fun k _ _ _ _ _=>rfl,h9,h122,rfl,rfl⟩
 ·rintro m ⟨tn,df,H⟩ ⟨j,V,G4,rfl,hj,hV,hf,h9',h122',rfl,rfl⟩
  dsimp only at hf h9' h122'
  have h5':=(hf 5 (by decide) (by decide) (by decide) (by decide) (by decide)).trans h5
  have h6':=(hf 6 (by decide) (by decide) (by decide) (by decide) (by decide)).trans h6
  have h120':=(hf 120 (by decide) (by decide) (by decide) (by decide) (by decide)).trans h120
  have h121':=(hf 121 (by decide) (by decide) (by decide) (by decide) (by decide)).trans h121
  have hVl:V.length=j:=by rw [hV];simp;omega
  (try refine zY ?_);refine zc (za ?_);refine zb (by simp (disch:=omega) only [go_sem,h120',h121',h122'] <;> rfl) ?_;refine zd ?_;refine zad (by simp only [go_sem] <;> rfl) ?_ ?_
  ·intro hlt
   have hlt:j < M.2.length:=by have:=of_decide_eq_true hlt;omega
   have hlt1:j < M.1.length:=by omega
   obtain ⟨x,hx⟩:∃ x,M.2[j]?=some x:=⟨_,List.getElem?_eq_getElem hlt⟩
   obtain ⟨b,hb⟩:∃ b,M.1[j]?=some b:=⟨_,List.getElem?_eq_getElem hlt1⟩
   have hxv:(M.2.map (zN 0))[j]?=some (zN 0 x):=by rw [List.getElem?_map,hx];rfl
   have hbv:(M.1.map fun (b:Nat)=>iv (b:Int))[j]?=some (iv b):=by rw [List.getElem?_map,hb];rfl
   have hb2:(V.length + 1) * 17≤140737488355328:=by omega
   have hV2:V++[cv (x.low,b)]=((zcZ M).take (j + 1)).map cv:=by rw [zqR hx hb,hV];simp
   (repeat refine zc ?_)
   refine zG ?_
   (repeat (first | refine zc ?_ | (refine za ?_;refine zb (by simp (disch:=omega) only [go_sem,h120',h122',hxv,ze,zF] <;> rfl) ?_;refine zd ?_)))
   refine zaS ?_
   refine zbv (by first | exact trivial | simp only [go_sem,List.filter_cons,List.filter_nil,List.contains_cons,List.contains_nil,Bool.or_false,Nat.reduceBEq,zb4,zb3,zbJ,h9',h5',h6',hLT,hnT,e1,hbv,hlt1,hb2,ze,km0,km1,km2,um0,um1,um2]) (by simp (disch:=omega) only [go_sem,h9',h5',h6',hLT,hnT,e1,hbv,hlt1,hb2,ze,km0,km1,km2,um0,um1,um2] <;> rfl) rfl (by first | rfl | (simp only [go_sem] <;> rfl)) (by simp only [go_sem,h9',h5',h6',hLT,hnT,e1,hbv,hlt1,hb2,ze,km0,km1,km2,um0,um1,um2] <;> rfl) (by simp (disch:=omega) only [go_sem,h9',h5',h6',hLT,hnT,e1,hbv,hlt1,hb2,ze,km0,km1,km2,um0,um1,um2] <;> rfl) (by simp only [go_sem] <;> rfl) ?_
   refine zX (by first | exact trivial | simp only [go_sem,h5']) (by simp (disch:=omega) only [go_sem,h5'] <;> rfl) rfl ?_
   refine zaf ?_;simp only [zu,zab,zf,go_sem]
   (repeat refine zc ?_);refine za ?_;refine zb (by simp (disch:=omega) only [go_sem,h122'] <;> rfl) ?_
   refine zC ?_;simp only [zf,zi,zh,zg,zu,zj,if_true,↓reduceIte]
   refine ⟨_,?m,j + 1,V++[cv (x.low,b)],?G4,rfl,hlt,hV2,?f,?h9,by simp [upd,h122'],trivial,?H⟩
   case m=>omega
   case f=>intro k k1 k2 k3 k4 k5;simp (disch:=omega) only [zZ];exact hf k k1 k2 k3 k4 k5
   case h9=>simp [upd]
   case H =>
    rw [List.length_append]
    simp only [List.append_assoc,List.cons_append,List.nil_append]
    rfl
  ·intro hlt
   have hlt:¬ j < M.2.length:=by have:=of_decide_eq_false hlt;omega
   obtain rfl:j=M.2.length:=by omega
   simp only [zf,zi,zh,zg,zu,zj,if_true,reduceIte]
   refine hQ _ V G4 (by rw [hV,← hll,List.take_length]) (fun k k1 k2 k3 k4=>?_) (by simp [upd,h9'])
   simp (disch:=omega) only [zZ]
   exact hf k k1 k2 k3 (by omega) k4
def zmn (w:List Nat) (L:Lev):List Lev→Bool
 | []=>true
 | M::T=>decide (L.2.flatMap zcF=zcZ M) && zc3 w (M::T)
theorem znu (w:List Nat) (L:Lev) (R:List Lev):zc3 w (L::R)=(zcp w L.1 L.2 && zmn w L R):=by
 cases R with
 | nil=>rw [zc3,zmn,Bool.and_true]
 | cons M R=>rw [zc3,zmn,Bool.and_assoc]
theorem zl9 (w:List Nat) (bs:List Nat) (ns:List zo) (i:Nat) (b:Nat) (n:zo) (hb:bs[i]?=some b) (hn:ns[i]?=some n):zcp w (bs.drop i) (ns.drop i)=(decide (zbG (zaG w b)=0) && zdZ n ns[i + 1]? && zcp w (bs.drop (i + 1)) (ns.drop (i + 1))):=by
 obtain ⟨h1,rfl⟩:=List.getElem?_eq_some_iff.1 hb
 obtain ⟨h2,rfl⟩:=List.getElem?_eq_some_iff.1 hn
 rw [List.drop_eq_getElem_cons h1,List.drop_eq_getElem_cons h2,zcp,List.head?_drop]
theorem zqy (ns:List zo) (i:Nat) (n:zo) (hn:ns[i]?=some n):(ns.take (i + 1)).flatMap zcF=(ns.take i).flatMap zcF++zcF n:=by
 rw [List.take_add_one,hn,List.flatMap_append];simp
theorem zne {ns:List zo} (h:∀ n∈ns,n.pairs.length≤28):(ns.flatMap zcF).length≤29 * ns.length:=by
 induction ns with
 | nil=>exact Nat.zero_le _
 | cons n ns ih =>
  have h1:=h n (List.mem_cons_self ..)
  have h2:=ih fun m hm=>h m (List.mem_cons_of_mem _ hm)
  rw [List.flatMap_cons,List.length_append,List.length_cons]
  have:(zcF n).length=n.pairs.length + 1:=rfl
  omega
theorem gp1 {α:Type} (G l q:List α) (a b b' p:α):(G++a::b'::l++[p]++q)[(G++a::b::l).length]?=some p:=by
 have:(G++a::b::l).length=(G++a::b'::l).length:=by simp
 rw [this,List.append_assoc,List.getElem?_append_right (Nat.le_refl _),Nat.sub_self];rfl
theorem gp2 {α:Type} (G l q:List α) (a b b' p:α):(G++a::b'::(l++p::q))[(G++a::b::l).length]?=some p:=by
 have:=gp1 G l q a b b' p
 rwa [List.append_assoc,List.append_assoc] at this
theorem zrI (p:Nat) (w:List Nat) (hs:zaI w.length) (G:List zk) (r2:zk) (L:Lev) (hLF:zjN w L) (tm:Nat→PV) (G3:List zk) (h0:tm 0=wv p w) (h7:tm 7=.ptr G.length 0 0 0 2) (h8:tm 8=.sl (G.length + 1) 0 0 0 0 2) (h37:tm 37=.list 0 6 (L.2.map (zN 0))) (h38:tm 38=iv L.2.length) (h39:tm 39=iv 0) {Q:FX→FSt→Prop}
  (hP:zcp w L.1 L.2=false→∀ tm' H,Q (.panic (zcn 220)) ⟨tm',[],H⟩)
  (hQ:∀ (tm':Nat→PV) (V:List PV) (G4:List zk),zcp w L.1 L.2=true→V=(L.2.flatMap zcF).map cvI→(∀ (j b:Nat),L.1[j]?=some b→zbG (zaG w b)=0)→(∀ k,k ≠ 8→k ≠ 10→k ≠ 11→k ≠ 12→k ≠ 14→(k < 39∨109 < k)→tm' k=tm k)→tm' 8=.sl (G.length + 1) V.length 0 V.length (2 * V.length) 2→Q .norm ⟨tm',[],G++.row 100 2 0 0 [zcH 0 0 L.1 L.2]::.row 138 2 V.length 0 V::r2::G4⟩) :
  W ET ET.caught none c60_2 ⟨tm,[],G++.row 100 2 0 0 [zcH 0 0 L.1 L.2]::.row 138 2 0 0 []::r2::G3⟩ Q:=by
 unfold c60_2
 have hbl:=hLF.lv.len
 have hfew:=hLF.few
 refine zG (zav (fun m s=>∃ (i:Nat) (V:List PV) (G4:List zk),m=L.2.length - i∧i≤L.2.length∧V=((L.2.take i).flatMap zcF).map cvI∧zcp w L.1 L.2=zcp w (L.1.drop i) (L.2.drop i)∧(∀ (j b:Nat),j < i→L.1[j]?=some b→zbG (zaG w b)=0)∧(∀ k,k ≠ 8→k ≠ 10→k ≠ 11→k ≠ 12→k ≠ 14→(k < 39∨109 < k)→s.tm k=tm k)∧s.tm 8=.sl (G.length + 1) V.length 0 V.length (2 * V.length) 2∧s.tm 39=iv i∧s.df=[]∧s.H=G++.row 100 2 0 0 [zcH 0 0 L.1 L.2]::.row 138 2 V.length 0 V::r2::G4) (n:=L.2.length) ?_ ?_)
 ·exact ⟨0,[],G3,rfl,Nat.zero_le _,rfl,rfl,fun j b h=>absurd h (Nat.not_lt_zero _),fun k _ _ _ _ _ _=>rfl,h8,h39,rfl,rfl⟩
 ·rintro m ⟨tn,df,H⟩ ⟨i,V,G4,rfl,hi,hV,hls,hck,hf,h8',h39',rfl,rfl⟩
  dsimp only at hf h8' h39'
  have h0':=(hf 0 (by decide) (by decide) (by decide) (by decide) (by decide) (by decide)).trans h0
  have h7':=(hf 7 (by decide) (by decide) (by decide) (by decide) (by decide) (by decide)).trans h7
  have h37':=(hf 37 (by decide) (by decide) (by decide) (by decide) (by decide) (by decide)).trans h37
  have h38':=(hf 38 (by decide) (by decide) (by decide) (by decide) (by decide) (by decide)).trans h38
  (try refine zY ?_);refine zc (za ?_);refine zb (by simp (disch:=omega) only [go_sem,h37',h38',h39'] <;> rfl) ?_;refine zd ?_;refine zad (by simp only [go_sem] <;> rfl) ?_ ?_
  rotate_left
  ·intro hlti
   have hlti:¬ i < L.2.length:=by have:=of_decide_eq_false hlti;omega
   obtain rfl:i=L.2.length:=by omega
   simp only [zf,zi,zh,zg,zu,zj,if_true,reduceIte]
   refine hQ _ V G4 (by rw [hls,← hbl,List.drop_length];rfl) (by rw [hV,List.take_length]) (fun j b hb=>hck j b (by have:=(List.getElem?_eq_some_iff.1 hb).1;omega) hb) (fun k k1 k2 k3 k4 k5 k6=>?_) (by simp [upd,h8'])
   simp (disch:=omega) only [zZ]
   exact hf k k1 k2 k3 k4 k5 k6
  intro hlti
  have hlti:i < L.2.length:=by have:=of_decide_eq_true hlti;omega
  obtain ⟨x,hx⟩:∃ x,L.2[i]?=some x:=⟨_,List.getElem?_eq_getElem hlti⟩
  obtain ⟨b,hb⟩:∃ b,L.1[i]?=some b:=⟨_,List.getElem?_eq_getElem (by omega)⟩
  have hbl':i < L.1.length:=by omega
  have hxv:(L.2.map (zN 0))[i]?=some (zN 0 x):=by rw [List.getElem?_map,hx];rfl
  have hbv:(L.1.map fun (b:Nat)=>iv (b:Int))[i]?=some (iv b):=by rw [List.getElem?_map,hb];rfl
  have hbw:=(hLF.lv.each b (List.mem_of_getElem? hb)).1
  have hof:=zsd p w b hs (by omega)
  have hch:=zlq p (zaG w b) (by unfold zaG;simp;omega)
  rw [zl9 w L.1 L.2 i b x hb hx] at hls
  have hKl:=zne (ns:=L.2.take i) fun n hn=>(hLF.lv.node (List.mem_of_mem_take hn)).1
  rw [List.length_take] at hKl
  have hVl:V.length≤29 * L.2.length:=by rw [hV,List.length_map];omega
  have hKt:=zqy L.2 i x hx
  have hxl:=(hLF.lv.node (List.mem_of_getElem? hx)).1
  (repeat refine zc ?_)
  refine zG ?_
  (repeat (first | refine zc ?_ | (refine za ?_;refine zb (by simp (disch:=omega) only [go_sem,h37',h39',hxv,ze,zF] <;> rfl) ?_;refine zd ?_)))
  (repeat refine zc ?_);refine za ?_;refine zb (by simp (disch:=omega) only [go_sem,h0',h7',gm0,gm1,gm2,ze,hbv,hbl'] <;> rfl) ?_
  refine zch (by first | rfl | (simp only [go_sem] <;> rfl)) (by simp only [go_sem] <;> rfl) hof rfl ?_ ?_;(repeat (first | exact trivial | refine And.intro ?_ ?_ | exact Id0.int _ _ | exact Id0.bool _ | exact Id0.list _ _ _ | exact Id0.elem _ | exact Id0.nilsl | exact Id0.str _ | exact zc1 _ _ _))
  refine zb (by simp (disch:=omega) only [go_sem] <;> rfl) ?_
  refine zH (by first | rfl | (simp only [go_sem] <;> rfl)) (by simp only [go_sem] <;> rfl) hch ?_ ?_;(repeat (first | exact trivial | refine And.intro ?_ ?_ | exact .int _ _ | exact .bool _ | exact .list _ _ _ | exact .elem _ | exact .nilsl | exact .nil _ _ | exact .str _ | refine Frz.aggL ?_ | refine Frz.fnL ?_ | refine Frz.tupL ?_ | refine .iface ?_ | exact zn rfl rfl (by assumption)))
  by_cases hc0:zbG (zaG w b)=0
  rotate_left
  ·have g:¬ ((zbG (zaG w b):Nat):Int)=0:=by omega
   refine zb (by simp (disch:=omega) only [go_sem,g] <;> rfl) ?_
   refine zaD (by first | rfl | (simp only [go_sem] <;> rfl)) (by simp only [go_sem] <;> rfl) (zb0 220) ?_ ?_;(repeat (first | exact trivial | refine And.intro ?_ ?_ | exact .int _ _ | exact .bool _ | exact .list _ _ _ | exact .elem _ | exact .nilsl | exact .nil _ _ | exact .str _ | refine Frz.aggL ?_ | refine Frz.fnL ?_ | refine Frz.tupL ?_ | refine .iface ?_ | exact zn rfl rfl (by assumption)))
   exact hP (by rw [hls];simp [hc0]) _ _
  have g:((zbG (zaG w b):Nat):Int)=0:=by omega
  refine zb (by simp (disch:=omega) only [go_sem,g] <;> rfl) ?_
  refine zH (by first | rfl | (simp only [go_sem] <;> rfl)) (by simp only [go_sem] <;> rfl) (zcI 220) ?_ ?_;(repeat (first | exact trivial | refine And.intro ?_ ?_ | exact .int _ _ | exact .bool _ | exact .list _ _ _ | exact .elem _ | exact .nilsl | exact .nil _ _ | exact .str _ | refine Frz.aggL ?_ | refine Frz.fnL ?_ | refine Frz.tupL ?_ | refine .iface ?_ | exact zn rfl rfl (by assumption)))
  refine zb (by simp (disch:=omega) only [go_sem] <;> rfl) ?_
  refine zd ?_
  (repeat refine zc ?_)
  (repeat refine zc ?_);refine za ?_;refine zb (by simp (disch:=omega) only [go_sem,ze] <;> rfl) ?_
  refine zd ?_
  have e1:((i:Int) + 1)=((i + 1:Nat):Int):=by omega
  generalize hH0:G++zk.row 100 2 0 0 [zcH 0 0 L.1 L.2]::.row 138 2 V.length 0 V::r2::G4=H0
  refine zdH (Q:=fun y s'=>(y=.norm∧zdZ x L.2[i + 1]?=true∧(∀ k,k ≠ 8→k ≠ 10→k ≠ 11→k ≠ 12→k ≠ 14→(k < 39∨109 < k)→s'.tm k=tm k)∧s'.tm 8=.sl (G.length + 1) V.length 0 V.length (2 * V.length) 2∧s'.tm 11=.ptr H0.length 0 0 0 6∧s'.tm 39=iv i∧s'.df=[]∧s'.H=H0++[.row 124 6 0 0 [zN 0 x]])∨(y=.panic (zcn 220)∧zdZ x L.2[i + 1]?=false∧s'.df=[])) ?_ ?_
  ·have hfr:∀ (t:Nat→PV),(∀ k,k ≠ 8→k ≠ 10→k ≠ 11→k ≠ 12→k ≠ 14→(k < 39∨109 < k)→t k=tn k)→∀ k,k ≠ 8→k ≠ 10→k ≠ 11→k ≠ 12→k ≠ 14→(k < 39∨109 < k)→t k=tm k:=fun t ht k k1 k2 k3 k4 k5 k6=>(ht k k1 k2 k3 k4 k5 k6).trans (hf k k1 k2 k3 k4 k5 k6)
   by_cases hp0:x.pairs.length=0
   ·have g0:¬ (0:Int) < (x.pairs.length:Nat):=by omega
    (repeat refine zc ?_)
    (repeat refine zc ?_);refine za ?_;refine zb (by simp (disch:=omega) only [go_sem,g0] <;> rfl) ?_
    refine zd ?_
    refine zD (by simp only [go_sem] <;> rfl) ?_ ?_
    ·intro h;cases h
    intro _
    refine zR (.inl ⟨rfl,?_,hfr _ (fun k k1 k2 k3 k4 k5 k6=>by simp (disch:=omega) only [zZ]),h8',by simp [upd],h39',rfl,rfl⟩)
    unfold zdZ;rw [List.eq_nil_of_length_eq_zero hp0];rfl
   have g0:(0:Int) < (x.pairs.length:Nat):=by omega
   subst hH0
   by_cases hi1:i + 1 < L.2.length
   rotate_left
   ·have g1:¬ ((i + 1:Nat):Int) < (L.2.length:Nat):=by omega
    (repeat refine zc ?_)
    (repeat refine zc ?_);refine za ?_;refine zb (by simp (disch:=omega) only [go_sem,g0,g1,e1,h7',gm0,gm1,gm2] <;> rfl) ?_
    refine zd ?_
    refine zD (by simp only [go_sem] <;> rfl) ?_ ?_
    ·intro h;cases h
    intro _
    refine zR (.inl ⟨rfl,?_,hfr _ (fun k k1 k2 k3 k4 k5 k6=>by simp (disch:=omega) only [zZ]),h8',by simp [upd],h39',rfl,rfl⟩)
    unfold zdZ;rw [List.getElem?_eq_none (show L.2.length≤i + 1 by omega)];split
    ·rename_i h;cases h
    ·rfl
   have g1:((i + 1:Nat):Int) < (L.2.length:Nat):=by omega
   obtain ⟨z,hz⟩:∃ z,L.2[i + 1]?=some z:=⟨_,List.getElem?_eq_getElem hi1⟩
   have hzv:(L.2.map (zN 0))[i + 1]?=some (zN 0 z):=by rw [List.getElem?_map,hz];rfl
   obtain ⟨y,hy⟩:∃ y,x.pairs[x.pairs.length - 1]?=some y:=⟨_,List.getElem?_eq_getElem (by omega)⟩
   have hyv:(x.pairs.map pv)[x.pairs.length - 1]?=some (pv y):=by rw [List.getElem?_map,hy];rfl
   have hq:IntKind.i64.wrap ((x.pairs.length:Int) - 1)=((x.pairs.length - 1:Nat):Int):=by rw [wrap_i64 (by omega) (by omega)];omega
   have hq1:x.pairs.length - 1 < x.pairs.length:=by omega
   have hll:zdZ x L.2[i + 1]?=decide (y.1 < z.low):=by unfold zdZ;rw [List.getLast?_eq_getElem?,hy,hz]
   (repeat refine zc ?_)
   (repeat refine zc ?_);refine za ?_;refine zb (by simp (disch:=omega) only [go_sem,g0,g1,e1,h7',gm0,gm1,gm2] <;> rfl) ?_
   refine zd ?_
   refine zD (by simp only [go_sem] <;> rfl) ?_ ?_
   rotate_left
   ·intro h;cases h
   intro _
   refine zaS ?_
   by_cases hlow:y.1 < z.low
   ·have g2:(y.1:Int) < (z.low:Nat):=by omega
    refine zbn (by first | exact trivial | simp only [go_sem,h7',gm0,gm1,gm2,ze,hq,hyv,hq1,e1,hzv,hi1,g2]) (by simp (disch:=omega) only [go_sem,h7',gm0,gm1,gm2,ze,hq,hyv,hq1,e1,hzv,hi1,g2] <;> rfl) rfl rfl (by first | rfl | (simp only [go_sem] <;> rfl)) (by simp only [go_sem,h7',gm0,gm1,gm2,ze,hq,hyv,hq1,e1,hzv,hi1,g2] <;> rfl) (zcI 220) ?_ (by simp only [go_sem] <;> rfl) ?_;(repeat (first | exact trivial | refine And.intro ?_ ?_ | exact .int _ _ | exact .bool _ | exact .list _ _ _ | exact .elem _ | exact .nilsl | exact .nil _ _ | exact .str _ | refine Frz.aggL ?_ | refine Frz.fnL ?_ | refine Frz.tupL ?_ | refine .iface ?_ | exact zn rfl rfl (by assumption)))
    refine zX (by first | exact trivial | simp only [go_sem,h7']) (by simp (disch:=omega) only [go_sem,h7'] <;> rfl) rfl ?_
    refine zaf ?_
    refine .inl ⟨rfl,by rw [hll];simp [hlow],hfr _ (fun k k1 k2 k3 k4 k5 k6=>?_),h8',?_,h39',rfl,rfl⟩
    ·simp (disch:=first | omega | simp) only [zab,zZ]
    ·simp [zab,upd]
   ·have g2:¬ (y.1:Int) < (z.low:Nat):=by omega
    refine zc9 (by first | exact trivial | simp only [go_sem,h7',gm0,gm1,gm2,ze,hq,hyv,hq1,e1,hzv,hi1,g2]) (by simp (disch:=omega) only [go_sem,h7',gm0,gm1,gm2,ze,hq,hyv,hq1,e1,hzv,hi1,g2] <;> rfl) rfl rfl (by first | rfl | (simp only [go_sem] <;> rfl)) (by simp only [go_sem,h7',gm0,gm1,gm2,ze,hq,hyv,hq1,e1,hzv,hi1,g2] <;> rfl) (zb0 220) ?_ ?_;(repeat (first | exact trivial | refine And.intro ?_ ?_ | exact .int _ _ | exact .bool _ | exact .list _ _ _ | exact .elem _ | exact .nilsl | exact .nil _ _ | exact .str _ | refine Frz.aggL ?_ | refine Frz.fnL ?_ | refine Frz.tupL ?_ | refine .iface ?_ | exact zn rfl rfl (by assumption)))
    exact .inr ⟨rfl,by rw [hll];simp [hlow],rfl⟩
  rintro y ⟨tq,df,H⟩ (⟨rfl,hlow,hf2,h8'',h11,h39'',rfl,rfl⟩ | ⟨rfl,hlow,rfl⟩)
  rotate_left
  ·exact hP (by rw [hls];simp [hlow]) _ _
  dsimp only at hf2 h8'' h11 h39''
  subst hH0
  simp only [zf,zi,zh,zg,zu,zj,if_true,reduceIte]
  have hbK:(V.length + 1) * 17≤140737488355328:=by omega
  (repeat refine zc ?_);refine za ?_;refine zb (by simp (disch:=omega) only [go_sem,h8'',h11,gm0,gm1,gm2,hm0,hm1,hm2,tm0,tm1,tm2,ze,hbK] <;> rfl) ?_
  refine zd ?_
  (repeat refine zc ?_)
  (repeat refine zc ?_);refine za ?_;refine zb (by simp (disch:=omega) only [go_sem,h11,gp1,gp2] <;> rfl) ?_
  refine zd ?_
  simp only [List.append_assoc,List.cons_append,List.nil_append]
  obtain ⟨V1,hV1⟩:∃ V1,V1=V++[cvI (x.low,x.left)]:=⟨_,rfl⟩
  have hV1l:V.length + 1=V1.length:=by rw [hV1];simp
  rw [← hV1,hV1l]
  refine zq5 G _ r2 V1 x.pairs (by omega) _ _ (by simp [upd]) (by simp [upd]) (by simp [upd]) (by simp [upd]) (fun tm' V2 G5 hV2 hfr h8=>?_)
  simp only [zf,zi,zh,zg,zu,zj,if_true,reduceIte]
  have h39x:tm' 39=iv i:=(hfr 39 (by decide) (by decide) (by decide)).trans (by simp [upd,h39''])
  (repeat refine zc ?_);refine za ?_;refine zb (by simp (disch:=omega) only [go_sem,h39x] <;> rfl) ?_
  refine zC ?_;simp only [zf,zi,zh,zg,zu,zj,if_true,↓reduceIte]
  refine ⟨_,?m,i + 1,V2,?G6,rfl,hlti,?hV,?hls,?hck,?hf,by simp [upd,h8],by simp [upd,h39x],trivial,?H⟩
  case m=>omega
  case hV=>rw [hV2,hV1,hV,hKt];simp [zcF]
  case hls=>rw [hls,hlow];simp [hc0]
  case hck =>
   intro j c hj hc
   rcases Nat.lt_or_ge j i with h | h
   ·exact hck j c h hc
   ·obtain rfl:j=i:=by omega
    rw [hb] at hc;injection hc with hc;subst hc;exact hc0
  case hf =>
   intro k k1 k2 k3 k4 k5 k6
   simp (disch:=omega) only [zZ]
   rw [hfr k k1 k5 (by omega)]
   simp (disch:=omega) only [zZ]
   exact hf2 k k1 k2 k3 k4 k5 k6
  case H=>rfl
theorem f60:ET.funcs.get 60=some T60:=zJ (by kernel_rfl) (by decide)
theorem zps {l:List Nat} (h:zbG l=0) (hl:0 < (headN l).level):∀ x∈zcF (headN l),x.2 < 2048:=by
 have hh:=zje h
 unfold zbG at h
 rw [if_pos hh] at h
 have hp:zdK l=true:=by
  by_cases hp:zdK l=true
  ·exact hp
  ·rw [if_neg hp] at h;cases h
 unfold zdK at hp
 rw [Bool.and_eq_true,Bool.not_eq_true',List.any_eq_false] at hp
 intro x hx
 rcases List.mem_cons.1 hx with rfl | hx
 ·unfold headB at hh
  rw [Bool.and_eq_true,List.all_eq_true] at hh
  have h3:=hh.2 3 (by decide)
  have e1:(headN l).level=zgu (l.getD 0 0):=by unfold headN;rfl
  have e2:(headN l).left=l.getD 3 0:=by unfold headN;rfl
  rw [zcW,← e1,← e2] at h3
  simp only [Bool.or_eq_true,Bool.and_eq_true,decide_eq_true_eq] at h3
  rcases h3 with ⟨h3,_⟩ | ⟨_,h3⟩
  ·omega
  ·exact ((zdR _).1 h3).2
 ·have:=hp.2 x hx
  have hm:zcw (headN l) x=true:=by simpa using this
  unfold zcw at hm
  rw [if_neg (by omega),Bool.and_eq_true] at hm
  exact ((zdR _).1 hm.1).2
def zim (w:List Nat) (a:Int):FE:=if zcb w.length a=true then if (zaj w a.toNat).2=true then if zeR w (zaj w a.toNat).1=true then .ret (zdi (zaj w a.toNat).1) else .panic (zcn 220) else .panic (zcn 220) else .panic (zcn 2)
theorem zol (p:Nat) (w:List Nat) (a:Int) (hs:zaI w.length) (hwl:w.length≤131072) (T:List Lev) (hl:FN ET 42 [wv p w,iv a] (.ret (zdi T))) (f1:∀ L∈T,zjN w L) (f2:∀ L∈T.dropLast,zhl L) (f3:T ≠ []) (f5:T.length≤14) :
  FN ET 60 [wv p w,iv a] (if zeR w T=true then .ret (zdi T) else .panic (zcn 220)):=by
 refine zU f60 (Nat.le_of_ble_eq_true rfl) ?_ ?_
 ·split
  ·exact zlb _
  ·exact .iface (.int _ _)
 have bad:zeR w T=false→(if zeR w T=true then FE.ret (zdi T) else .panic (zcn 220))=.panic (zcn 220):=fun h=>by rw [h];rfl
 obtain ⟨L0,R,rfl⟩:∃ L0 R,T=L0::R:=by
  cases T with
  | nil=>exact absurd rfl f3
  | cons a l=>exact ⟨a,l,rfl⟩
 have hT0:(List.map (fun L=>zcH 0 0 L.1 L.2) (L0::R))[0]?=some (zcH 0 0 L0.1 L0.2):=rfl
 obtain ⟨n0,hn0⟩:∃ n0:zo,(L0.2.map (zN 0))[0]?=some (zN 0 n0)∧znB (L0::R)=decide (n0.sib=0):=by
  have:=(f1 L0 (List.mem_cons_self ..)).ne
  obtain ⟨bs,ns⟩:=L0
  cases ns with
  | nil=>exact absurd rfl this
  | cons n ns=>exact ⟨n,rfl,rfl⟩
 obtain ⟨hn0,hsb⟩:=hn0
 (repeat (first | refine zc ?_ | (refine za ?_;refine zb (by simp (disch:=omega) only [go_sem] <;> rfl) ?_;refine zd ?_)))
 (repeat refine zc ?_);refine za ?_;refine zb (by simp (disch:=omega) only [go_sem] <;> rfl) ?_
 refine zH (by first | rfl | (simp only [go_sem] <;> rfl)) (by simp only [go_sem] <;> rfl) hl ?_ ?_;(repeat (first | exact trivial | refine And.intro ?_ ?_ | exact .int _ _ | exact .bool _ | exact .list _ _ _ | exact .elem _ | exact .nilsl | exact .nil _ _ | exact .str _ | refine Frz.aggL ?_ | refine Frz.fnL ?_ | refine Frz.tupL ?_ | refine .iface ?_ | exact zn rfl rfl (by assumption)))
 refine zb (by simp (disch:=omega) only [go_sem] <;> rfl) ?_
 refine zd ?_
 have hnl:0 < L0.2.length:=List.length_pos_iff.2 (f1 L0 (List.mem_cons_self ..)).ne
 have hrl:0 < R.length + 1:=Nat.succ_pos _
 by_cases hsib:n0.sib=0
 rotate_left
 ·have g:¬ (n0.sib:Int)=0:=by omega
  (repeat refine zc ?_);refine za ?_;refine zb (by simp (disch:=omega) only [go_sem,hT0,hn0,hnl,hrl,g] <;> rfl) ?_
  refine zaD (by first | rfl | (simp only [go_sem] <;> rfl)) (by simp only [go_sem] <;> rfl) (zb0 220) ?_ ?_;(repeat (first | exact trivial | refine And.intro ?_ ?_ | exact .int _ _ | exact .bool _ | exact .list _ _ _ | exact .elem _ | exact .nilsl | exact .nil _ _ | exact .str _ | refine Frz.aggL ?_ | refine Frz.fnL ?_ | refine Frz.tupL ?_ | refine .iface ?_ | exact zn rfl rfl (by assumption)))
  exact zcB (by rw [bad (by unfold zeR;rw [hsb];simp [hsib])])
 have g:(n0.sib:Int)=0:=by omega
 (repeat refine zc ?_);refine za ?_;refine zb (by simp (disch:=omega) only [go_sem,hT0,hn0,hnl,hrl,g] <;> rfl) ?_
 refine zH (by first | rfl | (simp only [go_sem] <;> rfl)) (by simp only [go_sem] <;> rfl) (zcI 220) ?_ ?_;(repeat (first | exact trivial | refine And.intro ?_ ?_ | exact .int _ _ | exact .bool _ | exact .list _ _ _ | exact .elem _ | exact .nilsl | exact .nil _ _ | exact .str _ | refine Frz.aggL ?_ | refine Frz.fnL ?_ | refine Frz.tupL ?_ | refine .iface ?_ | exact zn rfl rfl (by assumption)))
 refine zb (by simp (disch:=omega) only [go_sem] <;> rfl) ?_
 refine zd ?_
 (repeat (first | refine zc ?_ | (refine za ?_;refine zb (by simp (disch:=omega) only [go_sem,hT0] <;> rfl) ?_;refine zd ?_)))
 have hset:zeR w (L0::R)=zc3 w (L0::R):=by unfold zeR;rw [hsb,hsib];rfl
 rw [hset] at bad ⊢
 clear hset hsb hT0 hn0 hnl hrl g hsib f3
 have hTl:(L0::R).length=R.length + 1:=rfl
 generalize L0::R=T at *
 refine zG (zav (fun m s=>∃ (n:Nat) (G:List zk),m=T.length - n∧n≤T.length∧zc3 w T=zc3 w (T.drop n)∧s.tm 0=wv p w∧s.tm 5=zdi T∧s.tm 29=zdi T∧s.tm 30=iv T.length∧s.tm 31=iv n∧s.df=[]∧s.H=G) (n:=T.length) ?_ ?_)
 ·exact ⟨0,_,rfl,by omega,rfl,by simp [upd,zB],by simp [upd],by simp [upd],by simp [upd];omega,by simp [upd],rfl,rfl⟩
 ·rintro m ⟨tm,df,G⟩ ⟨n,G',rfl,hn,hls,h0,h5,h29,h30,h31,rfl,rfl⟩
  dsimp only at h0 h5 h29 h30 h31
  (try refine zY ?_);refine zc (za ?_);refine zb (by simp (disch:=omega) only [go_sem,h29,h30,h31] <;> rfl) ?_;refine zd ?_;refine zad (by simp only [go_sem] <;> rfl) ?_ ?_
  rotate_left
  ·intro hlt
   have hlt:¬ n < T.length:=by have:=of_decide_eq_false hlt;omega
   obtain rfl:n=T.length:=by omega
   simp only [zf,zi,zh,zg,zu,zj,if_true,reduceIte]
   (repeat (first | refine zc ?_ | (refine za ?_;refine zb (by simp (disch:=omega) only [go_sem,h5] <;> rfl) ?_;refine zd ?_)))
   refine zE ?_;(try simp only [zf,zi,zh,zg,zj]);refine zy (by simp only [T60,zI,go_sem] <;> rfl) ?_;simp only [zK]
   rw [List.drop_length] at hls
   rw [hls]
   exact Frz.list _ _ _
  intro hlt
  have hlt:n < T.length:=by have:=of_decide_eq_true hlt;omega
  obtain ⟨L,hL⟩:∃ L,T[n]?=some L:=⟨_,List.getElem?_eq_getElem hlt⟩
  have hLT:(T.map fun L=>zcH 0 0 L.1 L.2)[n]?=some (zcH 0 0 L.1 L.2):=by rw [List.getElem?_map,hL];rfl
  have hLF:=f1 L (List.mem_of_getElem? hL)
  have hdr:T.drop n=L::T.drop (n + 1):=by rw [List.drop_eq_getElem_cons hlt];obtain ⟨_,e⟩:=List.getElem?_eq_some_iff.1 hL;rw [e]
  rw [hdr,znu] at hls
  have hbl:=hLF.lv.len
  have hfew:=hLF.few
  (repeat refine zc ?_)
  refine zG ?_
  (repeat (first | refine zc ?_ | (refine za ?_;refine zb (by simp (disch:=omega) only [go_sem,h29,h31,hLT,ze,zF] <;> rfl) ?_;refine zd ?_)))
  refine zev 138 2 (i:=8) rfl ?_
  refine zev 138 2 (i:=9) rfl ?_
  simp only [lzy,List.length_append,List.length_cons,List.length_nil,Nat.zero_add,List.append_assoc,List.cons_append,List.nil_append]
  (repeat (first | refine zc ?_ | (refine za ?_;refine zb (by simp (disch:=omega) only [go_sem,gm0] <;> rfl) ?_;refine zd ?_)))
  refine zrI p w hs G _ L hLF _ [] (by simp [upd,h0]) (by simp [upd]) (by simp [upd]) (by simp [upd]) (by simp [upd]) (by simp [upd]) (fun hf tm' H=>?_) (fun tm' V G4 hns hV hck hfr h8=>?_)
  ·exact zcB (by rw [bad (by rw [hls,hf,Bool.false_and])])
  rw [hns,Bool.true_and] at hls
  simp only [zf,zi,zh,zg,zu,zj,if_true,reduceIte]
  have h0':tm' 0=wv p w:=(hfr 0 (by decide) (by decide) (by decide) (by decide) (by decide) (by decide)).trans (by simp [upd,h0])
  have h5':tm' 5=zdi T:=(hfr 5 (by decide) (by decide) (by decide) (by decide) (by decide) (by decide)).trans (by simp [upd,h5])
  have h6':tm' 6=iv n:=(hfr 6 (by decide) (by decide) (by decide) (by decide) (by decide) (by decide)).trans (by simp [upd])
  have h9':tm' 9=.sl (G.length + 2) 0 0 0 0 2:=(hfr 9 (by decide) (by decide) (by decide) (by decide) (by decide) (by decide)).trans (by simp [upd])
  have h29':tm' 29=zdi T:=(hfr 29 (by decide) (by decide) (by decide) (by decide) (by decide) (by decide)).trans (by simp [upd,h29])
  have h30':tm' 30=iv T.length:=(hfr 30 (by decide) (by decide) (by decide) (by decide) (by decide) (by decide)).trans (by simp [upd,h30])
  have h31':tm' 31=iv n:=(hfr 31 (by decide) (by decide) (by decide) (by decide) (by decide) (by decide)).trans (by simp [upd,h31])
  have hq:IntKind.i64.wrap ((T.length:Int) - 1)=((T.length - 1:Nat):Int):=by rw [wrap_i64 (by omega) (by omega)];omega
  by_cases hlast:n + 1=T.length
  ·have g:((n:Nat):Int)=(T.length - 1:Nat):=by omega
   have hd0:T.drop (n + 1)=[]:=List.drop_of_length_le (by omega)
   rw [hd0] at hls
   (repeat refine zc ?_)
   (repeat refine zc ?_);refine za ?_;refine zb (by simp (disch:=omega) only [go_sem,h5',h6',hq,g] <;> rfl) ?_
   refine zd ?_
   refine zD (by simp only [go_sem] <;> rfl) ?_ ?_
   rotate_left
   ·intro h;simp at h
   intro _
   refine zkL ?_
   simp only [zf,zi,zh,zg,zu,zj,if_true,reduceIte]
   (repeat (first | refine zc ?_ | (refine za ?_;refine zb (by simp (disch:=omega) only [go_sem,h5'] <;> rfl) ?_;refine zd ?_)))
   refine zE ?_;(try simp only [zf,zi,zh,zg,zj]);refine zy (by simp only [T60,zI,go_sem] <;> rfl) ?_;simp only [zK]
   rw [hls]
   exact Frz.list _ _ _
  have g:¬ ((n:Nat):Int)=(T.length - 1:Nat):=by omega
  obtain ⟨M,hM⟩:∃ M,T[n + 1]?=some M:=⟨_,List.getElem?_eq_getElem (by omega)⟩
  have hdM:T.drop (n + 1)=M::T.drop (n + 1 + 1):=by rw [List.drop_eq_getElem_cons (show n + 1 < T.length by omega)];obtain ⟨_,e⟩:=List.getElem?_eq_some_iff.1 hM;rw [e]
  have hMF:=f1 M (List.mem_of_getElem? hM)
  have hMT:(T.map fun L=>zcH 0 0 L.1 L.2)[n + 1]?=some (zcH 0 0 M.1 M.2):=by rw [List.getElem?_map,hM];rfl
  have hMn:n + 1 < T.length:=by omega
  have e1:((n:Int) + 1)=((n + 1:Nat):Int):=by omega
  have hLp:zhl L:=f2 L (by
   have:T.dropLast[n]?=some L:=by rw [List.getElem?_dropLast,if_pos (by omega)];exact hL
   exact List.mem_of_getElem? this)
  have hsm:∀ x∈L.2.flatMap zcF,x.2 < 2048:=fun x hx=>by
   obtain ⟨y,hy,hx⟩:=List.mem_flatMap.1 hx
   have hy0:=hLp y hy
   rw [hLF.lv.is] at hy
   obtain ⟨b,hb,rfl⟩:=List.mem_map.1 hy
   obtain ⟨j,hj⟩:=List.mem_iff_getElem?.1 hb
   exact zps (hck j b hj) hy0 x hx
  have hVc:V=(L.2.flatMap zcF).map cv:=by
   rw [hV];exact List.map_congr_left fun x hx=>ztl (by have:=hsm x hx;omega)
  rw [hdM,zmn] at hls
  (repeat refine zc ?_)
  (repeat refine zc ?_);refine za ?_;refine zb (by simp (disch:=omega) only [go_sem,h5',h6',hq,g] <;> rfl) ?_
  refine zd ?_
  refine zD (by simp only [go_sem] <;> rfl) ?_ ?_
  ·intro h;simp at h
  intro _
  refine zR ?_;show W _ _ _ _ _ _
  (repeat refine zc ?_)
  (repeat refine zc ?_);refine za ?_;refine zb (by simp (disch:=omega) only [go_sem,h5',h6',e1,hMT,hMn] <;> rfl) ?_
  refine zd ?_
  refine zqX G _ _ T M n (by omega) hM hMF.lv.len hMF.few _ _ (by simp [upd,h5']) (by simp [upd,h6']) (by simp [upd,h9']) (by simp [upd]) (by simp [upd]) (by simp [upd]) (fun tm2 V2 G5 hV2 hfr2 h9=>?_)
  simp only [zf,zi,zh,zg,zu,zj,if_true,reduceIte]
  have h8x:tm2 8=.sl (G.length + 1) V.length 0 V.length (2 * V.length) 2:=(hfr2 8 (by decide) (by decide) (by decide) (by decide)).trans (by simp [upd,h8])
  have hk1:=zne (ns:=L.2) fun n hn=>(hLF.lv.node hn).1
  have hfew:=hLF.few
  have hMfew:=hMF.few
  have hml:(zcZ M).length=M.2.length:=by unfold zcZ;simp [hMF.lv.len]
  have heq:=zn1 1 1 (L.2.flatMap zcF) (zcZ M) (by omega) (by omega)
  have hflat:∀ l:List Pr,∀ v∈(l.map cv).flatMap PV.cells,Id0 v:=fun l v hv=>by
   obtain ⟨x,hx,hv⟩:=List.mem_flatMap.1 hv
   obtain ⟨y,_,rfl⟩:=List.mem_map.1 hx
   simp [PV.cells] at hv;rcases hv with rfl | rfl <;> exact .int _ _
  have fz1:Frz (G++zk.row 100 2 0 0 [zcH 0 0 L.1 L.2]::.row 138 2 V.length 0 V::.row 138 2 V2.length 0 V2::G5) 1 (.sl (G.length + 1) V.length 0 V.length (2 * V.length) 2) (csv 1 (L.2.flatMap zcF)):=by
   rw [hVc]
   exact Frz.whole (hm0 G _ _ _) rfl (by simp) (by simp) (fun v hv=>by obtain ⟨x,_,rfl⟩:=List.mem_map.1 hv;rfl) (hflat _)
  have fz2:Frz (G++zk.row 100 2 0 0 [zcH 0 0 L.1 L.2]::.row 138 2 V.length 0 V::.row 138 2 V2.length 0 V2::G5) 1 (.sl (G.length + 2) V2.length 0 V2.length (2 * V2.length) 2) (csv 1 (zcZ M)):=by
   rw [hV2]
   exact Frz.whole (km0 G _ _ _ _) rfl (by simp) (by simp) (fun v hv=>by obtain ⟨x,_,rfl⟩:=List.mem_map.1 hv;rfl) (hflat _)
  (repeat refine zc ?_)
  refine za ?_
  refine zb (by simp (disch:=omega) only [go_sem,h8x,h9] <;> rfl) ?_
  refine zH (caps:=?_) (vs:=?_) ?_ ?_ heq ?_ ?_;rotate_left 2;(first | rfl | (simp only [z7,zac,go_sem] <;> rfl));(simp only [go_sem] <;> rfl)
  ·exact ⟨fz1,fz2,trivial⟩
  by_cases hke:L.2.flatMap zcF=zcZ M
  rotate_left
  ·rw [decide_eq_false hke]
   refine zb (by simp (disch:=omega) only [go_sem] <;> rfl) ?_
   refine zaD (by first | rfl | (simp only [go_sem] <;> rfl)) (by simp only [go_sem] <;> rfl) (zb0 220) ?_ ?_;(repeat (first | exact trivial | refine And.intro ?_ ?_ | exact .int _ _ | exact .bool _ | exact .list _ _ _ | exact .elem _ | exact .nilsl | exact .nil _ _ | exact .str _ | refine Frz.aggL ?_ | refine Frz.fnL ?_ | refine Frz.tupL ?_ | refine .iface ?_ | exact zn rfl rfl (by assumption)))
   exact zcB (by rw [bad (by rw [hls];simp [hke])])
  rw [decide_eq_true hke,Bool.true_and] at hls
  rw [decide_eq_true hke]
  refine zb (by simp (disch:=omega) only [go_sem] <;> rfl) ?_
  refine zH (by first | rfl | (simp only [go_sem] <;> rfl)) (by simp only [go_sem] <;> rfl) (zcI 220) ?_ ?_;(repeat (first | exact trivial | refine And.intro ?_ ?_ | exact .int _ _ | exact .bool _ | exact .list _ _ _ | exact .elem _ | exact .nilsl | exact .nil _ _ | exact .str _ | refine Frz.aggL ?_ | refine Frz.fnL ?_ | refine Frz.tupL ?_ | refine .iface ?_ | exact zn rfl rfl (by assumption)))
  refine zb (by simp (disch:=omega) only [go_sem] <;> rfl) ?_
  refine zC ?_;simp only [zf,zi,zh,zg,zu,zj,if_true,↓reduceIte]
  have hx5:tm2 5=zdi T:=(hfr2 5 (by decide) (by decide) (by decide) (by decide)).trans (by simp [upd,h5'])
  have hx0:tm2 0=wv p w:=(hfr2 0 (by decide) (by decide) (by decide) (by decide)).trans (by simp [upd,h0'])
  have hx29:tm2 29=zdi T:=(hfr2 29 (by decide) (by decide) (by decide) (by decide)).trans (by simp [upd,h29'])
  have hx30:tm2 30=iv T.length:=(hfr2 30 (by decide) (by decide) (by decide) (by decide)).trans (by simp [upd,h30'])
  have hx31:tm2 31=iv n:=(hfr2 31 (by decide) (by decide) (by decide) (by decide)).trans (by simp [upd,h31'])
  (repeat refine zc ?_);refine za ?_;refine zb (by simp (disch:=omega) only [go_sem,hx31,e1] <;> rfl) ?_
  refine zC ?_;simp only [zf,zi,zh,zg,zu,zj,if_true,↓reduceIte]
  refine ⟨_,?m,n + 1,_,rfl,hlt,by rw [hls,hdM],by simp [upd,hx0],by simp [upd,hx5],by simp [upd,hx29],by simp [upd,hx30],by simp [upd],trivial,rfl⟩
  case m=>omega
theorem zn6 (p:Nat) (w:List Nat) (a:Int) (hs:zaI w.length):FN ET 60 [wv p w,iv a] (zim w a):=by
 have hl:=zlM p w a hs
 unfold ziU at hl
 unfold zim
 by_cases hr:zcb w.length a=true
 rotate_left
 ·rw [if_neg hr] at hl ⊢
  refine zU f60 (Nat.le_of_ble_eq_true rfl) (.iface (.int _ _)) ?_
  (repeat (first | refine zc ?_ | (refine za ?_;refine zb (by simp (disch:=omega) only [go_sem] <;> rfl) ?_;refine zd ?_)))
  (repeat refine zc ?_);refine za ?_;refine zb (by simp (disch:=omega) only [go_sem] <;> rfl) ?_
  refine zaD (by first | rfl | (simp only [go_sem] <;> rfl)) (by simp only [go_sem] <;> rfl) hl ?_ ?_;(repeat (first | exact trivial | refine And.intro ?_ ?_ | exact .int _ _ | exact .bool _ | exact .list _ _ _ | exact .elem _ | exact .nilsl | exact .nil _ _ | exact .str _ | refine Frz.aggL ?_ | refine Frz.fnL ?_ | refine Frz.tupL ?_ | refine .iface ?_ | exact zn rfl rfl (by assumption)))
 rw [if_pos hr] at hl ⊢
 have hb:=(zfZ _ _).1 hr
 by_cases ht:(zaj w a.toNat).2=true
 rotate_left
 ·rw [if_neg ht] at hl ⊢
  refine zU f60 (Nat.le_of_ble_eq_true rfl) (.iface (.int _ _)) ?_
  (repeat (first | refine zc ?_ | (refine za ?_;refine zb (by simp (disch:=omega) only [go_sem] <;> rfl) ?_;refine zd ?_)))
  (repeat refine zc ?_);refine za ?_;refine zb (by simp (disch:=omega) only [go_sem] <;> rfl) ?_
  refine zaD (by first | rfl | (simp only [go_sem] <;> rfl)) (by simp only [go_sem] <;> rfl) hl ?_ ?_;(repeat (first | exact trivial | refine And.intro ?_ ?_ | exact .int _ _ | exact .bool _ | exact .list _ _ _ | exact .elem _ | exact .nilsl | exact .nil _ _ | exact .str _ | refine Frz.aggL ?_ | refine Frz.fnL ?_ | refine Frz.tupL ?_ | refine .iface ?_ | exact zn rfl rfl (by assumption)))
 rw [if_pos ht] at hl ⊢
 obtain ⟨f1,f2,f3,f4,f5⟩:=zhg (w:=w) (T:=(zaj w a.toNat).1) (by omega) a.toNat (by rw [← ht])
 exact zol p w a hs (by omega) _ hl f1 f2 f3 f5
theorem f21:ET.funcs.get 21=some T21:=zJ (by kernel_rfl) (by decide)
theorem f59:ET.funcs.get 59=some T59:=zJ (by kernel_rfl) (by decide)
theorem zto:FN ET 59 [] (.ret (.tuple [])):=by
 refine zU f59 (Nat.le_of_ble_eq_true rfl) Lb.unit ?_
 refine zR ?_
 exact ⟨[],rfl,Frz.tupL trivial⟩
def zds (w:List Nat) (a:Int):Nat:=if zcb w.length a=true then if (zaj w a.toNat).2=true then if zeR w (zaj w a.toNat).1=true then 0 else 220 else 220 else 2
theorem zqU (p:Nat) (w:List Nat) (a:Int) (hs:zaI w.length):FN ET 21 [wv p w,iv a] (.ret (iv (zds w a:Nat))):=by
 refine zU f21 (Nat.le_of_ble_eq_true rfl) (.int _ _) ?_
 (repeat (first | refine zc ?_ | (refine za ?_;refine zb (by simp (disch:=omega) only [go_sem] <;> rfl) ?_;refine zd ?_)))
 (repeat refine zc ?_);refine za ?_;refine zb (by simp (disch:=omega) only [go_sem] <;> rfl) ?_
 refine zhr (f:=35) (p:=.ptr 0 0 0 0 1) (cl:=.fn 59 []) ?_ ?_ c35 ?_
 ·rfl
 ·simp only [go_sem] <;> rfl
 refine zb (by simp (disch:=omega) only [go_sem] <;> rfl) ?_
 refine zd ?_
 (repeat refine zc ?_);refine za ?_;refine zb (by simp (disch:=omega) only [go_sem] <;> rfl) ?_
 have hs:=zn6 p w a hs
 have bad:∀ (tm:Nat→PV) (n:Nat),zds w a=n→tm 4=.ptr 0 0 0 0 1→zew ET T21 (fun e' H=>zar H 0 e' (.ret (iv (zds w a:Nat)))) (.panic (zcn n)) ⟨tm,[.caught (.ptr 0 0 0 0 1) (.fn 59 [])],[.row 31 1 0 0 [.int .i64 0]]⟩:=fun tm n hn h4=>by
  refine ⟨n,59,[],true,0,0,1,rfl,rfl,rfl,(FN.FO (args:=[]) zto trivial).mono fun e H he=>?_⟩
  obtain ⟨rfl,rfl⟩:=he
  refine ⟨rfl,_,rfl,[.int .i64 n],?_,zar.int (by rw [hn])⟩
  simp [T21,zI,okv,h4,zax,zbf,zbh,zae]
  rfl
 unfold zim at hs
 by_cases hr:zcb w.length a=true
 rotate_left
 ·rw [if_neg hr] at hs
  refine zaD (by first | rfl | (simp only [go_sem] <;> rfl)) (by simp only [go_sem] <;> rfl) hs ?_ ?_;(repeat (first | exact trivial | refine And.intro ?_ ?_ | exact .int _ _ | exact .bool _ | exact .list _ _ _ | exact .elem _ | exact .nilsl | exact .nil _ _ | exact .str _ | refine Frz.aggL ?_ | refine Frz.fnL ?_ | refine Frz.tupL ?_ | refine .iface ?_ | exact zn rfl rfl (by assumption)))
  exact bad _ 2 (by unfold zds;rw [if_neg hr]) rfl
 rw [if_pos hr] at hs
 by_cases ht:(zaj w a.toNat).2=true
 rotate_left
 ·rw [if_neg ht] at hs
  refine zaD (by first | rfl | (simp only [go_sem] <;> rfl)) (by simp only [go_sem] <;> rfl) hs ?_ ?_;(repeat (first | exact trivial | refine And.intro ?_ ?_ | exact .int _ _ | exact .bool _ | exact .list _ _ _ | exact .elem _ | exact .nilsl | exact .nil _ _ | exact .str _ | refine Frz.aggL ?_ | refine Frz.fnL ?_ | refine Frz.tupL ?_ | refine .iface ?_ | exact zn rfl rfl (by assumption)))
  exact bad _ 220 (by unfold zds;rw [if_pos hr,if_neg ht]) rfl
 rw [if_pos ht] at hs
 by_cases hb:zeR w (zaj w a.toNat).1=true
 rotate_left
 ·rw [if_neg hb] at hs
  refine zaD (by first | rfl | (simp only [go_sem] <;> rfl)) (by simp only [go_sem] <;> rfl) hs ?_ ?_;(repeat (first | exact trivial | refine And.intro ?_ ?_ | exact .int _ _ | exact .bool _ | exact .list _ _ _ | exact .elem _ | exact .nilsl | exact .nil _ _ | exact .str _ | refine Frz.aggL ?_ | refine Frz.fnL ?_ | refine Frz.tupL ?_ | refine .iface ?_ | exact zn rfl rfl (by assumption)))
  exact bad _ 220 (by unfold zds;rw [if_pos hr,if_pos ht,if_neg hb]) rfl
 rw [if_pos hb] at hs
 refine zH (by first | rfl | (simp only [go_sem] <;> rfl)) (by simp only [go_sem] <;> rfl) hs ?_ ?_;(repeat (first | exact trivial | refine And.intro ?_ ?_ | exact .int _ _ | exact .bool _ | exact .list _ _ _ | exact .elem _ | exact .nilsl | exact .nil _ _ | exact .str _ | refine Frz.aggL ?_ | refine Frz.fnL ?_ | refine Frz.tupL ?_ | refine .iface ?_ | exact zn rfl rfl (by assumption)))
 refine zb (by simp (disch:=omega) only [go_sem] <;> rfl) ?_
 refine zd ?_
 (repeat (first | refine zc ?_ | (refine za ?_;refine zb (by simp (disch:=omega) only [go_sem] <;> rfl) ?_;refine zd ?_)))
 refine zE ?_
 have:zds w a=0:=by unfold zds;rw [if_pos hr,if_pos ht,if_pos hb]
 rw [this]
 exact ⟨[.int .i64 0],rfl,Frz.int _ _⟩
@[reducible] def zbL (x:Pr):PV:=.agg [iv x.1,uv x.2]
theorem zq0 (r0 r2 r3 r4 r5:zk) (ws:List Nat) (b:Nat) (hb:b < 2048) (hws:ws.length≤64) (tm:Nat→PV) (D:List FD) (V0:List PV) (hV0:V0.length < 1000000) (G:List zk) (h5:tm 5=.ptr 1 0 0 0 1) (h19:tm 19=iv b) (h137:tm 137=wv 0 ws) (h138:tm 138=iv ws.length) (h139:tm 139=iv 0) {Q:FX→FSt→Prop}
  (hQ:∀ (tm':Nat→PV) (V:List PV) (G2:List zk),V=V0++(zcU b ws).map zbL→(∀ k,k ≠ 22→k ≠ 23→(k < 139∨153 < k)→tm' k=tm k)→Q .norm ⟨tm',D,r0::.row 30 1 0 0 [.sl 6 V.length 0 V.length (2 * V.length) 2]::r2::r3::r4::r5::.row 83 2 V.length 0 V::(G++G2)⟩) :
  W ET ET.caught none c26_8 ⟨tm,D,r0::.row 30 1 0 0 [.sl 6 V0.length 0 V0.length (2 * V0.length) 2]::r2::r3::r4::r5::.row 83 2 V0.length 0 V0::G⟩ Q:=by
 unfold c26_8
 refine zG (zav (fun m s=>∃ (j:Nat) (V:List PV) (G2:List zk),m=ws.length - j∧j≤ws.length∧V=V0++((List.range j).map fun k=>(64 * b + k,ws.getD k 0)).map zbL∧(∀ k,k ≠ 22→k ≠ 23→k ≠ 139→(k < 139∨153 < k)→s.tm k=tm k)∧s.tm 139=iv j∧s.df=D∧s.H=r0::.row 30 1 0 0 [.sl 6 V.length 0 V.length (2 * V.length) 2]::r2::r3::r4::r5::.row 83 2 V.length 0 V::(G++G2)) (n:=ws.length) ?_ ?_)
 ·exact ⟨0,V0,[],rfl,Nat.zero_le _,by simp,fun k _ _ _ _=>rfl,h139,rfl,by rw [List.append_nil]⟩
 ·rintro m ⟨tn,df,H⟩ ⟨j,V,G2,rfl,hj,hV,hf,h139',rfl,rfl⟩
  dsimp only at hf h139'
  have h5':=(hf 5 (by decide) (by decide) (by decide) (by decide)).trans h5
  have h19':=(hf 19 (by decide) (by decide) (by decide) (by decide)).trans h19
  have h137':=(hf 137 (by decide) (by decide) (by decide) (by decide)).trans h137
  have h138':=(hf 138 (by decide) (by decide) (by decide) (by decide)).trans h138
  have hVl:V.length=V0.length + j:=by rw [hV];simp
  (try refine zY ?_);refine zc (za ?_);refine zb (by simp (disch:=omega) only [go_sem,h137',h138',h139'] <;> rfl) ?_;refine zd ?_;refine zad (by simp only [go_sem] <;> rfl) ?_ ?_
  ·intro hlt
   have hlt:j < ws.length:=by have:=of_decide_eq_true hlt;omega
   have hqv:(ws.map uv)[j]?=some (uv (ws.getD j 0)):=by rw [List.getElem?_map,List.getElem?_eq_getElem hlt,List.getD_eq_getElem?_getD,List.getElem?_eq_getElem hlt];rfl
   have hb2:(V.length + 1) * 17≤140737488355328:=by omega
   have hV2:V++[zbL (64 * b + j,ws.getD j 0)]=V0++((List.range (j + 1)).map fun k=>(64 * b + k,ws.getD k 0)).map zbL:=by rw [List.range_succ,hV];simp
   have e1:IntKind.i64.wrap (64 * (b:Int))=((64 * b:Nat):Int):=by rw [wrap_i64 (by omega) (by omega)];omega
   have e2:IntKind.i64.wrap (((64 * b:Nat):Int) + (j:Int))=((64 * b + j:Nat):Int):=by rw [wrap_i64 (by omega) (by omega)];omega
   (repeat refine zc ?_)
   refine zG ?_
   (repeat (first | refine zc ?_ | (refine za ?_;refine zb (by simp (disch:=omega) only [go_sem,h137',h139',hlt,hqv] <;> rfl) ?_;refine zd ?_)))
   (repeat refine zc ?_)
   (repeat refine zc ?_);refine za ?_;refine zb (by simp (disch:=omega) only [go_sem,h5',h19',e1,e2,hb2,ze,zF] <;> rfl) ?_
   refine zC ?_;simp only [zf,zi,zh,zg,zu,zj,if_true,↓reduceIte]
   (repeat refine zc ?_);refine za ?_;refine zb (by simp (disch:=omega) only [go_sem,h139'] <;> rfl) ?_
   refine zC ?_;simp only [zf,zi,zh,zg,zu,zj,if_true,↓reduceIte]
   refine ⟨_,?m,j + 1,V++[zbL (64 * b + j,ws.getD j 0)],?G4,rfl,hlt,hV2,?f,by simp [upd,h139'],trivial,?H⟩
   case m=>omega
   case f=>intro k k1 k2 k3 k4;simp (disch:=omega) only [zZ];exact hf k k1 k2 k3 k4
   case H =>
    rw [List.length_append]
    simp only [List.append_assoc,List.cons_append,List.nil_append]
    rfl
  ·intro hlt
   have hlt:¬ j < ws.length:=by have:=of_decide_eq_false hlt;omega
   obtain rfl:j=ws.length:=by omega
   simp only [zf,zi,zh,zg,zu,zj,if_true,reduceIte]
   refine hQ _ V G2 hV (fun k k1 k2 k3=>?_)
   simp (disch:=omega) only [zZ]
   exact hf k k1 k2 (by omega) k3
theorem e10:((1:Int)=0)=False:=eq_false (by decide)
def zct:Option Nat→Nat→Bool
 | none,_=>true
 | some k,n=>decide (k < n)
def zbH (seen:List Nat) (pk:Option Nat) (x:Pr):Bool:=decide (1≤x.2) && decide (x.2≤1099511627776) && !seen.contains x.2 && zct pk x.1
def ze4:List Nat→Option Nat→List Pr→Bool
 | _,_,[]=>true
 | seen,pk,x::l=>zbH seen pk x && ze4 (x.2::seen) (some x.1) l
theorem zj6:∀ (l:List Pr) (seen:List Nat) (pk:Option Nat),ze4 seen pk l=true↔(zb6 seen l=true∧(∀ p∈l,1≤p.2∧p.2≤1099511627776)∧zag l=true∧(∀ x,l.head?=some x→zct pk x.1=true))
 | [],_,_=>⟨fun _=>⟨rfl,by simp,rfl,by simp⟩,fun _=>rfl⟩
 | x::l,seen,pk=>by
  rw [ze4,Bool.and_eq_true,zj6 l,zb6,Bool.and_eq_true]
  unfold zbH
  have hr:zag (x::l)=true↔zag l=true∧∀ y,l.head?=some y→zct (some x.1) y.1=true:=by
   cases l with
   | nil=>simp [zag]
   | cons y l=>rw [zag,Bool.and_eq_true];simp [zct,and_comm]
  rw [hr]
  simp only [Bool.and_eq_true,decide_eq_true_eq,List.head?_cons,Option.some.injEq,forall_eq',List.mem_cons,forall_eq_or_imp]
  constructor
  ·rintro ⟨⟨⟨⟨a,b⟩,c⟩,d⟩,e,f,g,h⟩
   exact ⟨⟨c,e⟩,⟨⟨a,b⟩,f⟩,⟨g,h⟩,d⟩
  ·rintro ⟨⟨c,e⟩,⟨⟨a,b⟩,f⟩,⟨g,h⟩,d⟩
   exact ⟨⟨⟨⟨a,b⟩,c⟩,d⟩,e,f,g,h⟩
theorem zkD (l:List Pr):ze4 [] none l=okP l:=by
 rw [Bool.eq_iff_iff,zj6,zi0,zet]
 constructor
 ·rintro ⟨⟨a,_⟩,b,c,_⟩;exact ⟨c,a,b⟩
 ·rintro ⟨c,a,b⟩;exact ⟨⟨a,by simp⟩,b,c,fun _ _=>rfl⟩
def zcz (l:List Pr) (i:Nat):Option Nat:=if i=0 then none else some (l.getD (i - 1) (0,0)).1
theorem gq1 {α:Type} (r0 r1 r2 r3 r4 r5 r6:α) (G:List α) (x:α):(r0::r1::r2::r3::r4::r5::r6::(G++[x]))[G.length + 7]?=some x:=by simp
set_option maxHeartbeats 4000000 in
theorem zrZ (r0 r1 r2 r3 m5 r6:zk) (p:Nat) (l:List Pr) (hl:l.length < 1000000) (tm:Nat→PV) (D:List FD) (G:List zk) (h0:tm 0=psv p l) (h8:tm 8=.map 4) (h27:tm 27=psv p l) (h28:tm 28=iv l.length) (h29:tm 29=iv 0) {Q:FX→FSt→Prop}
  (hP:okP l=false→∀ (tm':Nat→PV) (m4':zk) (G':List zk),(∀ k,k≤7→tm' k=tm k)→Q (.panic (zcn 2)) ⟨tm',D,r0::r1::r2::r3::m4'::m5::r6::G'⟩)
  (hQ:∀ (tm':Nat→PV) (m4':zk) (G':List zk),okP l=true→(∀ k,k ≠ 10→k ≠ 11→(k < 29∨68 < k)→tm' k=tm k)→Q .norm ⟨tm',D,r0::r1::r2::r3::m4'::m5::r6::G'⟩) :
  W ET ET.caught none c26_0 ⟨tm,D,r0::r1::r2::r3::.map0::m5::r6::G⟩ Q:=by
 unfold c26_0
 refine zG (zav (fun m s=>∃ (i:Nat) (seen:List Nat) (m4:zk) (G2:List zk),m=l.length - i∧i≤l.length∧zin m4 seen∧okP l=ze4 seen (zcz l i) (l.drop i)∧(∀ k,k ≠ 10→k ≠ 11→k ≠ 29→(k < 29∨68 < k)→s.tm k=tm k)∧s.tm 29=iv i∧s.df=D∧s.H=r0::r1::r2::r3::m4::m5::r6::G2) (n:=l.length) ?_ ?_)
 ·exact ⟨0,[],.map0,G,rfl,Nat.zero_le _,.inl ⟨rfl,rfl⟩,(zkD l).symm,fun k _ _ _ _=>rfl,h29,rfl,rfl⟩
 ·rintro m ⟨tn,df,H⟩ ⟨i,seen,m4,G2,rfl,hi,hs,hok,hf,h29',rfl,rfl⟩
  dsimp only at hf h29'
  have h0':=(hf 0 (by decide) (by decide) (by decide) (by decide)).trans h0
  have h8':=(hf 8 (by decide) (by decide) (by decide) (by decide)).trans h8
  have h27':=(hf 27 (by decide) (by decide) (by decide) (by decide)).trans h27
  have h28':=(hf 28 (by decide) (by decide) (by decide) (by decide)).trans h28
  (try refine zY ?_);refine zc (za ?_);refine zb (by simp (disch:=omega) only [go_sem,h27',h28',h29'] <;> rfl) ?_;refine zd ?_;refine zad (by simp only [go_sem] <;> rfl) ?_ ?_
  rotate_left
  ·intro hlt
   have hlt:¬ i < l.length:=by have:=of_decide_eq_false hlt;omega
   obtain rfl:i=l.length:=by omega
   simp only [zf,zi,zh,zg,zu,zj,if_true,reduceIte]
   refine hQ _ m4 G2 (by rw [hok,List.drop_length];rfl) (fun k k1 k2 k3=>?_)
   simp (disch:=omega) only [zZ]
   exact hf k k1 k2 (by omega) k3
  intro hlt
  have hlt:i < l.length:=by have:=of_decide_eq_true hlt;omega
  obtain ⟨x,hx⟩:∃ x,l[i]?=some x:=⟨_,List.getElem?_eq_getElem hlt⟩
  have hxv:(l.map pv)[i]?=some (pv x):=by rw [List.getElem?_map,hx];rfl
  have hdx:l.drop i=x::l.drop (i + 1):=by rw [List.drop_eq_getElem_cons hlt];obtain ⟨_,e⟩:=List.getElem?_eq_some_iff.1 hx;rw [e]
  rw [hdx,ze4] at hok
  have hpk:some x.1=zcz l (i + 1):=by unfold zcz;rw [if_neg (by omega),Nat.add_sub_cancel,List.getD_eq_getElem?_getD,hx];rfl
  rw [hpk] at hok
  (repeat refine zc ?_)
  refine zG ?_
  (repeat (first | refine zc ?_ | (refine za ?_;refine zb (by simp (disch:=omega) only [go_sem,h27',h29',hxv,ze,zF] <;> rfl) ?_;refine zd ?_)))
  (repeat refine zc ?_)
  refine zdH (Q:=fun y s'=>(y=.norm∧zbH seen (zcz l i) x=true∧(∀ k,k ≠ 10→k ≠ 11→k ≠ 29→(k < 29∨68 < k)→s'.tm k=tn k)∧s'.tm 29=iv i∧s'.tm 11=.ptr (G2.length + 7) 0 0 0 2∧s'.df=df∧s'.H=r0::r1::r2::r3::m4::m5::r6::(G2++[.row 66 2 0 0 [pv x]]))∨(y=.panic (zcn 2)∧zbH seen (zcz l i) x=false∧(∀ k,k≤7→s'.tm k=tn k)∧s'.df=df∧s'.H=r0::r1::r2::r3::m4::m5::r6::(G2++[.row 66 2 0 0 [pv x]]))) (zaS ?_) ?_
  ·have h10':True:=trivial
   have h11x:True:=trivial
   by_cases b1:1≤x.2
   rotate_left
   ·have a1:¬ (1:Int)≤x.2:=by omega
    have a1b:¬ (x.2:Int) ≥ 1:=by omega
    refine zc9 (by first | exact trivial | simp only [go_sem,h8',h10',h0',h11x,ze,hxv,a1,a1b]) (by simp (disch:=omega) only [go_sem,h8',h10',h0',h11x,ze,hxv,a1,a1b] <;> rfl) rfl rfl (by first | rfl | (simp only [go_sem] <;> rfl)) (by simp only [go_sem,h8',h10',h0',h11x,ze,hxv,a1,a1b] <;> rfl) (zb0 2) ?_ ?_;(repeat (first | exact trivial | refine And.intro ?_ ?_ | exact .int _ _ | exact .bool _ | exact .list _ _ _ | exact .elem _ | exact .nilsl | exact .nil _ _ | exact .str _ | refine Frz.aggL ?_ | refine Frz.fnL ?_ | refine Frz.tupL ?_ | refine .iface ?_ | exact zn rfl rfl (by assumption)))
    exact .inr ⟨rfl,by simp [zbH,b1],fun k k1=>by simp (disch:=omega) only [zc4,zZ],rfl,rfl⟩
   have a1:(1:Int)≤x.2:=by omega
   by_cases b2:x.2≤1099511627776
   rotate_left
   ·have a2:¬ (x.2:Int)≤1099511627776:=by omega
    refine zc9 (by first | exact trivial | simp only [go_sem,h8',h10',h0',h11x,ze,hxv,a1,a2]) (by simp (disch:=omega) only [go_sem,h8',h10',h0',h11x,ze,hxv,a1,a2] <;> rfl) rfl rfl (by first | rfl | (simp only [go_sem] <;> rfl)) (by simp only [go_sem,h8',h10',h0',h11x,ze,hxv,a1,a2] <;> rfl) (zb0 2) ?_ ?_;(repeat (first | exact trivial | refine And.intro ?_ ?_ | exact .int _ _ | exact .bool _ | exact .list _ _ _ | exact .elem _ | exact .nilsl | exact .nil _ _ | exact .str _ | refine Frz.aggL ?_ | refine Frz.fnL ?_ | refine Frz.tupL ?_ | refine .iface ?_ | exact zn rfl rfl (by assumption)))
    exact .inr ⟨rfl,by simp [zbH,b1,b2],fun k k1=>by simp (disch:=omega) only [zc4,zZ],rfl,rfl⟩
   have a2:(x.2:Int)≤1099511627776:=by omega
   by_cases b3:i=0
   ·subst b3
    have hi0:True:=trivial
    have hi1:True:=trivial
    have hpv:True:=trivial
    have hil:True:=trivial
    have hkey:True:=trivial
    rcases hs with ⟨rfl,rfl⟩ | ⟨mm,rfl,hmm⟩
    ·skip
     refine zbn (by first | exact trivial | simp only [go_sem,h8',h10',h0',h11x,ze,hxv,a1,a2]) (by simp (disch:=omega) only [go_sem,h8',h10',h0',h11x,ze,hxv,a1,a2] <;> rfl) rfl rfl (by first | rfl | (simp only [go_sem] <;> rfl)) (by simp only [go_sem,h8',h10',h0',h11x,ze,hxv,a1,a2] <;> rfl) (zcI 2) ?_ (by simp only [go_sem] <;> rfl) ?_;(repeat (first | exact trivial | refine And.intro ?_ ?_ | exact .int _ _ | exact .bool _ | exact .list _ _ _ | exact .elem _ | exact .nilsl | exact .nil _ _ | exact .str _ | refine Frz.aggL ?_ | refine Frz.fnL ?_ | refine Frz.tupL ?_ | refine .iface ?_ | exact zn rfl rfl (by assumption)))
     refine zX (by first | exact trivial | simp only [go_sem,h8']) (by simp (disch:=omega) only [go_sem,h8'] <;> rfl) rfl ?_
     refine zaf ?_
     refine .inl ⟨rfl,by simp [zbH,b1,b2,zcz,zct],fun k k1 k2 k3 k4=>?_,?_,?_,rfl,rfl⟩
     ·simp (disch:=first | omega | simp) only [zab,zZ]
     ·simp [zab,upd,h29']
     ·simp [zab,upd]
    ·have hq:=hmm x.2
     by_cases hc:seen.contains x.2=true
     ·rw [if_pos hc] at hq
      have hc2:x.2∈seen:=by simpa using hc
      refine zc9 (by first | exact trivial | simp only [go_sem,h8',h10',h0',h11x,ze,hxv,a1,a2,hq,e10]) (by simp (disch:=omega) only [go_sem,h8',h10',h0',h11x,ze,hxv,a1,a2,hq,e10] <;> rfl) rfl rfl (by first | rfl | (simp only [go_sem] <;> rfl)) (by simp only [go_sem,h8',h10',h0',h11x,ze,hxv,a1,a2,hq,e10] <;> rfl) (zb0 2) ?_ ?_;(repeat (first | exact trivial | refine And.intro ?_ ?_ | exact .int _ _ | exact .bool _ | exact .list _ _ _ | exact .elem _ | exact .nilsl | exact .nil _ _ | exact .str _ | refine Frz.aggL ?_ | refine Frz.fnL ?_ | refine Frz.tupL ?_ | refine .iface ?_ | exact zn rfl rfl (by assumption)))
      exact .inr ⟨rfl,by simp [zbH,hc2],fun k k1=>by simp (disch:=omega) only [zc4,zZ],rfl,rfl⟩
     ·rw [if_neg hc] at hq
      have hc2:¬ x.2∈seen:=by simpa using hc
      refine zbn (by first | exact trivial | simp only [go_sem,h8',h10',h0',h11x,ze,hxv,a1,a2,hq]) (by simp (disch:=omega) only [go_sem,h8',h10',h0',h11x,ze,hxv,a1,a2,hq] <;> rfl) rfl rfl (by first | rfl | (simp only [go_sem] <;> rfl)) (by simp only [go_sem,h8',h10',h0',h11x,ze,hxv,a1,a2,hq] <;> rfl) (zcI 2) ?_ (by simp only [go_sem] <;> rfl) ?_;(repeat (first | exact trivial | refine And.intro ?_ ?_ | exact .int _ _ | exact .bool _ | exact .list _ _ _ | exact .elem _ | exact .nilsl | exact .nil _ _ | exact .str _ | refine Frz.aggL ?_ | refine Frz.fnL ?_ | refine Frz.tupL ?_ | refine .iface ?_ | exact zn rfl rfl (by assumption)))
      refine zX (by first | exact trivial | simp only [go_sem,h8']) (by simp (disch:=omega) only [go_sem,h8'] <;> rfl) rfl ?_
      refine zaf ?_
      refine .inl ⟨rfl,by simp [zbH,b1,b2,zcz,zct,hc2],fun k k1 k2 k3 k4=>?_,?_,?_,rfl,rfl⟩
      ·simp (disch:=first | omega | simp) only [zab,zZ]
      ·simp [zab,upd,h29']
      ·simp [zab,upd]
   have hi0:¬ (i:Int)=0:=by omega
   have hi1:IntKind.i64.wrap ((i:Int) - 1)=((i - 1:Nat):Int):=by rw [wrap_i64 (by omega) (by omega)];omega
   have hil:i - 1 < l.length:=by omega
   have hpv:(l.map pv)[i - 1]?=some (pv (l.getD (i - 1) (0,0))):=by rw [List.getElem?_map,get_lt l hil];rfl
   have hpk2:zcz l i=some (l.getD (i - 1) (0,0)).1:=by unfold zcz;rw [if_neg b3]
   generalize l.getD (i - 1) (0,0)=pr at hpv hpk2
   by_cases b4:pr.1 < x.1
   ·have hkey:((pr.1:Nat):Int) < (x.1:Nat):=by omega
    rcases hs with ⟨rfl,rfl⟩ | ⟨mm,rfl,hmm⟩
    ·skip
     refine zbn (by first | exact trivial | simp only [go_sem,h8',h10',h0',h11x,ze,hxv,a1,a2,hi0,hi1,hpv,hil,hkey]) (by simp (disch:=omega) only [go_sem,h8',h10',h0',h11x,ze,hxv,a1,a2,hi0,hi1,hpv,hil,hkey] <;> rfl) rfl rfl (by first | rfl | (simp only [go_sem] <;> rfl)) (by simp only [go_sem,h8',h10',h0',h11x,ze,hxv,a1,a2,hi0,hi1,hpv,hil,hkey] <;> rfl) (zcI 2) ?_ (by simp only [go_sem] <;> rfl) ?_;(repeat (first | exact trivial | refine And.intro ?_ ?_ | exact .int _ _ | exact .bool _ | exact .list _ _ _ | exact .elem _ | exact .nilsl | exact .nil _ _ | exact .str _ | refine Frz.aggL ?_ | refine Frz.fnL ?_ | refine Frz.tupL ?_ | refine .iface ?_ | exact zn rfl rfl (by assumption)))
     refine zX (by first | exact trivial | simp only [go_sem,h8']) (by simp (disch:=omega) only [go_sem,h8'] <;> rfl) rfl ?_
     refine zaf ?_
     refine .inl ⟨rfl,by simp [zbH,b1,b2,hpk2,zct,b4],fun k k1 k2 k3 k4=>?_,?_,?_,rfl,rfl⟩
     ·simp (disch:=first | omega | simp) only [zab,zZ]
     ·simp [zab,upd,h29']
     ·simp [zab,upd]
    ·have hq:=hmm x.2
     by_cases hc:seen.contains x.2=true
     ·rw [if_pos hc] at hq
      have hc2:x.2∈seen:=by simpa using hc
      refine zc9 (by first | exact trivial | simp only [go_sem,h8',h10',h0',h11x,ze,hxv,a1,a2,hq,e10]) (by simp (disch:=omega) only [go_sem,h8',h10',h0',h11x,ze,hxv,a1,a2,hq,e10] <;> rfl) rfl rfl (by first | rfl | (simp only [go_sem] <;> rfl)) (by simp only [go_sem,h8',h10',h0',h11x,ze,hxv,a1,a2,hq,e10] <;> rfl) (zb0 2) ?_ ?_;(repeat (first | exact trivial | refine And.intro ?_ ?_ | exact .int _ _ | exact .bool _ | exact .list _ _ _ | exact .elem _ | exact .nilsl | exact .nil _ _ | exact .str _ | refine Frz.aggL ?_ | refine Frz.fnL ?_ | refine Frz.tupL ?_ | refine .iface ?_ | exact zn rfl rfl (by assumption)))
      exact .inr ⟨rfl,by simp [zbH,hc2],fun k k1=>by simp (disch:=omega) only [zc4,zZ],rfl,rfl⟩
     ·rw [if_neg hc] at hq
      have hc2:¬ x.2∈seen:=by simpa using hc
      refine zbn (by first | exact trivial | simp only [go_sem,h8',h10',h0',h11x,ze,hxv,a1,a2,hi0,hi1,hpv,hil,hkey,hq]) (by simp (disch:=omega) only [go_sem,h8',h10',h0',h11x,ze,hxv,a1,a2,hi0,hi1,hpv,hil,hkey,hq] <;> rfl) rfl rfl (by first | rfl | (simp only [go_sem] <;> rfl)) (by simp only [go_sem,h8',h10',h0',h11x,ze,hxv,a1,a2,hi0,hi1,hpv,hil,hkey,hq] <;> rfl) (zcI 2) ?_ (by simp only [go_sem] <;> rfl) ?_;(repeat (first | exact trivial | refine And.intro ?_ ?_ | exact .int _ _ | exact .bool _ | exact .list _ _ _ | exact .elem _ | exact .nilsl | exact .nil _ _ | exact .str _ | refine Frz.aggL ?_ | refine Frz.fnL ?_ | refine Frz.tupL ?_ | refine .iface ?_ | exact zn rfl rfl (by assumption)))
      refine zX (by first | exact trivial | simp only [go_sem,h8']) (by simp (disch:=omega) only [go_sem,h8'] <;> rfl) rfl ?_
      refine zaf ?_
      refine .inl ⟨rfl,by simp [zbH,b1,b2,hpk2,zct,b4,hc2],fun k k1 k2 k3 k4=>?_,?_,?_,rfl,rfl⟩
      ·simp (disch:=first | omega | simp) only [zab,zZ]
      ·simp [zab,upd,h29']
      ·simp [zab,upd]
   ·have hkey:¬ ((pr.1:Nat):Int) < (x.1:Nat):=by omega
    rcases hs with ⟨rfl,rfl⟩ | ⟨mm,rfl,hmm⟩
    ·skip
     refine zc9 (by first | exact trivial | simp only [go_sem,h8',h10',h0',h11x,ze,hxv,a1,a2,hi0,hi1,hpv,hil,hkey]) (by simp (disch:=omega) only [go_sem,h8',h10',h0',h11x,ze,hxv,a1,a2,hi0,hi1,hpv,hil,hkey] <;> rfl) rfl rfl (by first | rfl | (simp only [go_sem] <;> rfl)) (by simp only [go_sem,h8',h10',h0',h11x,ze,hxv,a1,a2,hi0,hi1,hpv,hil,hkey] <;> rfl) (zb0 2) ?_ ?_;(repeat (first | exact trivial | refine And.intro ?_ ?_ | exact .int _ _ | exact .bool _ | exact .list _ _ _ | exact .elem _ | exact .nilsl | exact .nil _ _ | exact .str _ | refine Frz.aggL ?_ | refine Frz.fnL ?_ | refine Frz.tupL ?_ | refine .iface ?_ | exact zn rfl rfl (by assumption)))
     exact .inr ⟨rfl,by simp [zbH,b1,b2,hpk2,zct,b4],fun k k1=>by simp (disch:=omega) only [zc4,zZ],rfl,rfl⟩
    ·have hq:=hmm x.2
     by_cases hc:seen.contains x.2=true
     ·rw [if_pos hc] at hq
      have hc2:x.2∈seen:=by simpa using hc
      refine zc9 (by first | exact trivial | simp only [go_sem,h8',h10',h0',h11x,ze,hxv,a1,a2,hq,e10]) (by simp (disch:=omega) only [go_sem,h8',h10',h0',h11x,ze,hxv,a1,a2,hq,e10] <;> rfl) rfl rfl (by first | rfl | (simp only [go_sem] <;> rfl)) (by simp only [go_sem,h8',h10',h0',h11x,ze,hxv,a1,a2,hq,e10] <;> rfl) (zb0 2) ?_ ?_;(repeat (first | exact trivial | refine And.intro ?_ ?_ | exact .int _ _ | exact .bool _ | exact .list _ _ _ | exact .elem _ | exact .nilsl | exact .nil _ _ | exact .str _ | refine Frz.aggL ?_ | refine Frz.fnL ?_ | refine Frz.tupL ?_ | refine .iface ?_ | exact zn rfl rfl (by assumption)))
      exact .inr ⟨rfl,by simp [zbH,hc2],fun k k1=>by simp (disch:=omega) only [zc4,zZ],rfl,rfl⟩
     ·rw [if_neg hc] at hq
      have hc2:¬ x.2∈seen:=by simpa using hc
      refine zc9 (by first | exact trivial | simp only [go_sem,h8',h10',h0',h11x,ze,hxv,a1,a2,hi0,hi1,hpv,hil,hkey,hq]) (by simp (disch:=omega) only [go_sem,h8',h10',h0',h11x,ze,hxv,a1,a2,hi0,hi1,hpv,hil,hkey,hq] <;> rfl) rfl rfl (by first | rfl | (simp only [go_sem] <;> rfl)) (by simp only [go_sem,h8',h10',h0',h11x,ze,hxv,a1,a2,hi0,hi1,hpv,hil,hkey,hq] <;> rfl) (zb0 2) ?_ ?_;(repeat (first | exact trivial | refine And.intro ?_ ?_ | exact .int _ _ | exact .bool _ | exact .list _ _ _ | exact .elem _ | exact .nilsl | exact .nil _ _ | exact .str _ | refine Frz.aggL ?_ | refine Frz.fnL ?_ | refine Frz.tupL ?_ | refine .iface ?_ | exact zn rfl rfl (by assumption)))
      exact .inr ⟨rfl,by simp [zbH,b1,b2,hpk2,zct,b4,hc2],fun k k1=>by simp (disch:=omega) only [zc4,zZ],rfl,rfl⟩
  rintro y ⟨tq,df2,H⟩ (⟨rfl,hst,hf2,h29x,h11x,rfl,rfl⟩ | ⟨rfl,hst,hf2,rfl,rfl⟩)
  rotate_left
  ·refine hP (by rw [hok,hst,Bool.false_and]) _ _ _ fun k hk=>?_
   exact (hf2 k hk).trans (hf k (by omega) (by omega) (by omega) (by omega))
  dsimp only at hf2 h29x h11x
  rw [hst,Bool.true_and] at hok
  simp only [zf,zi,zh,zg,zu,zj,if_true,reduceIte]
  have h8x:=(hf2 8 (by decide) (by decide) (by decide) (by decide)).trans h8'
  rcases hs with ⟨rfl,rfl⟩ | ⟨mm,rfl,hmm⟩
  ·(repeat refine zc ?_);refine za ?_;refine zb (by simp (disch:=omega) only [go_sem,h8x,h11x,ze,gq1] <;> rfl) ?_
   refine zC ?_;simp only [zf,zi,zh,zg,zu,zj,if_true,↓reduceIte]
   (repeat refine zc ?_);refine za ?_;refine zb (by simp (disch:=omega) only [go_sem,h29x] <;> rfl) ?_
   refine zC ?_;simp only [zf,zi,zh,zg,zu,zj,if_true,↓reduceIte]
   refine ⟨_,?m1,i + 1,[x.2],_,_,rfl,hlt,.inr ⟨_,rfl,fun q=>?_⟩,hok,fun k k1 k2 k3 k4=>?_,by simp [upd],trivial,rfl⟩
   case m1=>omega
   ·by_cases hq:q=x.2
    ·subst hq;simp
    ·have:¬ (q:Int)=x.2:=by omega
     simp [hq,this]
   ·simp (disch:=omega) only [zZ];exact (hf2 k k1 k2 k3 k4).trans (hf k k1 k2 k3 k4)
  ·(repeat refine zc ?_);refine za ?_;refine zb (by simp (disch:=omega) only [go_sem,h8x,h11x,ze,gq1] <;> rfl) ?_
   refine zC ?_;simp only [zf,zi,zh,zg,zu,zj,if_true,↓reduceIte]
   (repeat refine zc ?_);refine za ?_;refine zb (by simp (disch:=omega) only [go_sem,h29x] <;> rfl) ?_
   refine zC ?_;simp only [zf,zi,zh,zg,zu,zj,if_true,↓reduceIte]
   refine ⟨_,?m2,i + 1,x.2::seen,_,_,rfl,hlt,.inr ⟨_,rfl,fun q=>?_⟩,hok,fun k k1 k2 k3 k4=>?_,by simp [upd],trivial,rfl⟩
   case m2=>omega
   ·by_cases hq:q=x.2
    ·subst hq;simp
    ·have:¬ (q:Int)=x.2:=by omega
     rw [if_neg this,hmm q];simp [hq]
   ·simp (disch:=omega) only [zZ];exact (hf2 k k1 k2 k3 k4).trans (hf k k1 k2 k3 k4)
def okI:List Int→List Int→Bool
 | _,[]=>true
 | seen,b::l=>decide (1≤b) && decide (b < 2048) && !seen.contains b && okI (b::seen) l
theorem zoH:∀ (l seen:List Int),okI seen l=true↔(∀ b∈l,1≤b∧b < 2048)∧l.Nodup∧∀ b∈l,¬ b∈seen
 | [],seen=>by simp [okI]
 | b::l,seen=>by
  rw [okI,Bool.and_eq_true,Bool.and_eq_true,Bool.and_eq_true,zoH l,decide_eq_true_eq,decide_eq_true_eq,Bool.not_eq_true',List.nodup_cons]
  have:(seen.contains b=false)↔¬ b∈seen:=by rw [← Bool.not_eq_true,List.contains_iff_mem]
  rw [this]
  constructor
  ·rintro ⟨⟨⟨a1,a2⟩,a3⟩,b1,b2,b3⟩
   refine ⟨fun c hc=>?_,⟨fun h=>b3 b h (List.mem_cons_self ..),b2⟩,fun c hc=>?_⟩
   ·rcases List.mem_cons.1 hc with rfl | hc
    ·exact ⟨a1,a2⟩
    ·exact b1 c hc
   ·rcases List.mem_cons.1 hc with rfl | hc
    ·exact a3
    ·exact fun h=>b3 c hc (List.mem_cons_of_mem _ h)
  ·rintro ⟨h1,⟨h2,h3⟩,h4⟩
   refine ⟨⟨h1 b (List.mem_cons_self ..),h4 b (List.mem_cons_self ..)⟩,fun c hc=>h1 c (List.mem_cons_of_mem _ hc),h3,fun c hc h=>?_⟩
   rcases List.mem_cons.1 h with rfl | h
   ·exact h2 hc
   ·exact h4 c (List.mem_cons_of_mem _ hc) h
theorem zjp {l:List Int} (h:okI [] l=true):∃ fr:List Nat,l=fr.map (fun (b:Nat)=>(b:Int))∧zic fr=true:=by
 rw [zoH] at h
 obtain ⟨h1,h2,_⟩:=h
 have he:l=(l.map Int.toNat).map (fun (b:Nat)=>(b:Int)):=by
  rw [List.map_map]
  conv=>lhs;rw [← List.map_id l]
  refine List.map_congr_left fun b hb=>?_
  have:=h1 b hb
  show b=((b.toNat:Nat):Int)
  omega
 refine ⟨l.map Int.toNat,he,?_⟩
 rw [zeH]
 refine ⟨fun b hb=>?_,?_⟩
 ·obtain ⟨c,hc,rfl⟩:=List.mem_map.1 hb
  have:=h1 c hc
  omega
 ·rw [he,List.nodup_iff_pairwise_ne,List.pairwise_map] at h2
  exact h2.imp fun h e=>h (by rw [e])
def ztQ (mo:zk) (seen:List Int):Prop:=(mo=.map0∧seen=[])∨∃ mm:Int→Option PV,mo=.mapI .i64 mm∧∀ q:Int,mm q=if seen.contains q=true then some (iv 1) else none
set_option maxHeartbeats 4000000 in
theorem zrG (r0 r1 r2 r3 m4 r6:zk) (p:Nat) (l:List Int) (hl:l.length < 1000000) (tm:Nat→PV) (D:List FD) (G:List zk) (h9:tm 9=.map 5) (h69:tm 69=.list p 1 (l.map iv)) (h70:tm 70=iv l.length) (h71:tm 71=iv 0) {Q:FX→FSt→Prop}
  (hP:okI [] l=false→∀ (tm':Nat→PV) (m5:zk) (G':List zk),(∀ k,k≤7→tm' k=tm k)→Q (.panic (zcn 2)) ⟨tm',D,r0::r1::r2::r3::m4::m5::r6::G'⟩)
  (hQ:∀ (tm':Nat→PV) (m5:zk) (G':List zk),okI [] l=true→(∀ k,k ≠ 13→(k < 71∨90 < k)→tm' k=tm k)→Q .norm ⟨tm',D,r0::r1::r2::r3::m4::m5::r6::G'⟩) :
  W ET ET.caught none c26_2 ⟨tm,D,r0::r1::r2::r3::m4::.map0::r6::G⟩ Q:=by
 unfold c26_2
 refine zG (zav (fun m s=>∃ (i:Nat) (seen:List Int) (m5:zk),m=l.length - i∧i≤l.length∧ztQ m5 seen∧okI [] l=okI seen (l.drop i)∧(∀ k,k ≠ 13→k ≠ 71→(k < 71∨90 < k)→s.tm k=tm k)∧s.tm 71=iv i∧s.df=D∧s.H=r0::r1::r2::r3::m4::m5::r6::G) (n:=l.length) ?_ ?_)
 ·exact ⟨0,[],.map0,rfl,Nat.zero_le _,.inl ⟨rfl,rfl⟩,rfl,fun k _ _ _=>rfl,h71,rfl,rfl⟩
 ·rintro m ⟨tn,df,H⟩ ⟨i,seen,m5,rfl,hi,hs,hok,hf,h71',rfl,rfl⟩
  dsimp only at hf h71'
  have h9':=(hf 9 (by decide) (by decide) (by decide)).trans h9
  have h69':=(hf 69 (by decide) (by decide) (by decide)).trans h69
  have h70':=(hf 70 (by decide) (by decide) (by decide)).trans h70
  (try refine zY ?_);refine zc (za ?_);refine zb (by simp (disch:=omega) only [go_sem,h69',h70',h71'] <;> rfl) ?_;refine zd ?_;refine zad (by simp only [go_sem] <;> rfl) ?_ ?_
  rotate_left
  ·intro hlt
   have hlt:¬ i < l.length:=by have:=of_decide_eq_false hlt;omega
   obtain rfl:i=l.length:=by omega
   simp only [zf,zi,zh,zg,zu,zj,if_true,reduceIte]
   refine hQ _ m5 G (by rw [hok,List.drop_length];rfl) (fun k k1 k2=>?_)
   simp (disch:=omega) only [zZ]
   exact hf k k1 (by omega) k2
  intro hlt
  have hlt:i < l.length:=by have:=of_decide_eq_true hlt;omega
  obtain ⟨x,hx⟩:∃ x,l[i]?=some x:=⟨_,List.getElem?_eq_getElem hlt⟩
  have hxv:(l.map iv)[i]?=some (iv x):=by rw [List.getElem?_map,hx];rfl
  have hdx:l.drop i=x::l.drop (i + 1):=by rw [List.drop_eq_getElem_cons hlt];obtain ⟨_,e⟩:=List.getElem?_eq_some_iff.1 hx;rw [e]
  rw [hdx,okI] at hok
  have bad:∀ (t:Nat→PV),(decide (1≤x) && decide (x < 2048) && !seen.contains x)=false→(∀ k,k≤7→t k=tn k)→Q (.panic (zcn 2)) ⟨t,df,r0::r1::r2::r3::m4::m5::r6::G⟩:=fun t hst hk=>hP (by rw [hok,hst,Bool.false_and]) _ _ _ fun k h=>(hk k h).trans (hf k (by omega) (by omega) (by omega))
  (repeat refine zc ?_)
  refine zG ?_
  (repeat refine zc ?_)
  (repeat (first | refine zc ?_ | (refine za ?_;refine zb (by simp (disch:=omega) only [go_sem,h69',h71',hxv,hlt] <;> rfl) ?_;refine zd ?_)))
  (repeat refine zc ?_)
  refine za ?_
  by_cases b1:1≤x
  rotate_left
  ·refine zb (by simp (disch:=omega) only [go_sem,h9',b1] <;> rfl) ?_
   refine zaD (by first | rfl | (simp only [go_sem] <;> rfl)) (by simp only [go_sem] <;> rfl) (zb0 2) ?_ ?_;(repeat (first | exact trivial | refine And.intro ?_ ?_ | exact .int _ _ | exact .bool _ | exact .list _ _ _ | exact .elem _ | exact .nilsl | exact .nil _ _ | exact .str _ | refine Frz.aggL ?_ | refine Frz.fnL ?_ | refine Frz.tupL ?_ | refine .iface ?_ | exact zn rfl rfl (by assumption)))
   exact bad _ (by simp [b1]) fun k hk=>by simp (disch:=omega) only [zc8,zZ]
  by_cases b2:x < 2048
  rotate_left
  ·refine zb (by simp (disch:=omega) only [go_sem,h9',b1,b2] <;> rfl) ?_
   refine zaD (by first | rfl | (simp only [go_sem] <;> rfl)) (by simp only [go_sem] <;> rfl) (zb0 2) ?_ ?_;(repeat (first | exact trivial | refine And.intro ?_ ?_ | exact .int _ _ | exact .bool _ | exact .list _ _ _ | exact .elem _ | exact .nilsl | exact .nil _ _ | exact .str _ | refine Frz.aggL ?_ | refine Frz.fnL ?_ | refine Frz.tupL ?_ | refine .iface ?_ | exact zn rfl rfl (by assumption)))
   exact bad _ (by simp [b2]) fun k hk=>by simp (disch:=omega) only [zc8,zZ]
  rcases hs with ⟨rfl,rfl⟩ | ⟨mm,rfl,hmm⟩
  ·refine zb (by simp (disch:=omega) only [go_sem,h9',b1,b2] <;> rfl) ?_
   refine zH (by first | rfl | (simp only [go_sem] <;> rfl)) (by simp only [go_sem] <;> rfl) (zcI 2) ?_ ?_;(repeat (first | exact trivial | refine And.intro ?_ ?_ | exact .int _ _ | exact .bool _ | exact .list _ _ _ | exact .elem _ | exact .nilsl | exact .nil _ _ | exact .str _ | refine Frz.aggL ?_ | refine Frz.fnL ?_ | refine Frz.tupL ?_ | refine .iface ?_ | exact zn rfl rfl (by assumption)))
   refine zb (by simp (disch:=omega) only [go_sem] <;> rfl) ?_
   refine zd ?_
   (repeat refine zc ?_);refine za ?_;refine zb (by simp (disch:=omega) only [go_sem,h9'] <;> rfl) ?_
   refine zC ?_;simp only [zf,zi,zh,zg,zu,zj,if_true,↓reduceIte]
   (repeat refine zc ?_);refine za ?_;refine zb (by simp (disch:=omega) only [go_sem,h71'] <;> rfl) ?_
   refine zC ?_;simp only [zf,zi,zh,zg,zu,zj,if_true,↓reduceIte]
   refine ⟨_,?m1,i + 1,[x],_,rfl,hlt,.inr ⟨_,rfl,fun q=>?_⟩,by rw [hok];simp [b1,b2],fun k k1 k2 k3=>?_,by simp [upd,h71'],trivial,rfl⟩
   case m1=>omega
   ·by_cases hq:q=x
    ·subst hq;simp
    ·simp [hq]
   ·simp (disch:=omega) only [zZ];exact hf k k1 k2 k3
  ·have hq:=hmm x
   by_cases hc:seen.contains x=true
   ·rw [if_pos hc] at hq
    refine zb (by simp (disch:=omega) only [go_sem,h9',b1,b2,hq,e10] <;> rfl) ?_
    refine zaD (by first | rfl | (simp only [go_sem] <;> rfl)) (by simp only [go_sem] <;> rfl) (zb0 2) ?_ ?_;(repeat (first | exact trivial | refine And.intro ?_ ?_ | exact .int _ _ | exact .bool _ | exact .list _ _ _ | exact .elem _ | exact .nilsl | exact .nil _ _ | exact .str _ | refine Frz.aggL ?_ | refine Frz.fnL ?_ | refine Frz.tupL ?_ | refine .iface ?_ | exact zn rfl rfl (by assumption)))
    exact bad _ (by rw [hc];simp) fun k hk=>by simp (disch:=omega) only [zc8,zZ]
   ·rw [if_neg hc] at hq
    refine zb (by simp (disch:=omega) only [go_sem,h9',b1,b2,hq] <;> rfl) ?_
    refine zH (by first | rfl | (simp only [go_sem] <;> rfl)) (by simp only [go_sem] <;> rfl) (zcI 2) ?_ ?_;(repeat (first | exact trivial | refine And.intro ?_ ?_ | exact .int _ _ | exact .bool _ | exact .list _ _ _ | exact .elem _ | exact .nilsl | exact .nil _ _ | exact .str _ | refine Frz.aggL ?_ | refine Frz.fnL ?_ | refine Frz.tupL ?_ | refine .iface ?_ | exact zn rfl rfl (by assumption)))
    refine zb (by simp (disch:=omega) only [go_sem] <;> rfl) ?_
    refine zd ?_
    (repeat refine zc ?_);refine za ?_;refine zb (by simp (disch:=omega) only [go_sem,h9'] <;> rfl) ?_
    refine zC ?_;simp only [zf,zi,zh,zg,zu,zj,if_true,↓reduceIte]
    (repeat refine zc ?_);refine za ?_;refine zb (by simp (disch:=omega) only [go_sem,h71'] <;> rfl) ?_
    refine zC ?_;simp only [zf,zi,zh,zg,zu,zj,if_true,↓reduceIte]
    have hc:seen.contains x=false:=by simpa using hc
    refine ⟨_,?m2,i + 1,x::seen,_,rfl,hlt,.inr ⟨_,rfl,fun q=>?_⟩,by rw [hok,hc];simp [b1,b2],fun k k1 k2 k3=>?_,by simp [upd,h71'],trivial,rfl⟩
    case m2=>omega
    ·by_cases hq:q=x
     ·subst hq;simp
     ·rw [if_neg hq,hmm q];simp [hq]
    ·simp (disch:=omega) only [zZ];exact hf k k1 k2 k3
theorem gq2 {α:Type} (r0 r1 r2 r3 r4 r5 r6:α) (G l:List α) (a x:α):(r0::r1::r2::r3::r4::r5::r6::(G++a::l++[x]))[(G++a::l).length + 7]?=some x:=by simp
theorem gq3 {α:Type} (r0 r1 r2 r3 r4 r5 r6:α) (G l:List α) (a x y:α):(r0::r1::r2::r3::r4::r5::r6::(G++a::l++[x])).set ((G++a::l).length + 7) y=r0::r1::r2::r3::r4::r5::r6::(G++a::l++[y]):=by simp
theorem gq4 {α:Type} (r0 r1 r2 r3 r4 r5 r6:α) (G l m:List α) (a x:α):(r0::r1::r2::r3::r4::r5::r6::(G++a::l++[x]++m))[(G++a::l).length + 7]?=some x:=by
 rw [show ∀ n,(r0::r1::r2::r3::r4::r5::r6::(G++a::l++[x]++m))[n + 7]?=(G++a::l++[x]++m)[n]? from fun n=>rfl,List.append_assoc,List.getElem?_append_right (Nat.le_refl _),Nat.sub_self];rfl
theorem gm4 {α:Type} (G l m n o:List α) (x:α):(G++x::l++m++n++o)[G.length]?=some x:=gm3 G l m n o x
theorem sm4 {α:Type} (G l m n o:List α) (x z:α):(G++x::l++m++n++o).set G.length z=G++z::l++m++n++o:=sm3 G l m n o x z
@[reducible] def bfl (free:List Nat):List PV:=free.map fun (b:Nat)=>iv (b:Int)
theorem zgv (xs:List (Nat × zo)):(xs.flatMap fun x=>zcU x.1 (zbp x.2)).length=64 * xs.length:=by
 induction xs with
 | nil=>rfl
 | cons a xs ih=>rw [List.flatMap_cons,List.length_append,ih,List.length_cons];simp [zcU,zei];omega
theorem zm9 {bs:List Nat} {L:List zo} {i b:Nat} {x:zo} (hb:bs[i]?=some b) (hx:L[i]?=some x):(bs.zip L).take (i + 1)=(bs.zip L).take i++[(b,x)]:=by
 have:(bs.zip L)[i]?=some (b,x):=by rw [List.getElem?_zip_eq_some];exact ⟨hb,hx⟩
 rw [List.take_add_one,this];rfl
theorem zro {bs:List Nat} {l:List zo} {i b:Nat} {x:zo} (hb:bs[i]?=some b) (hx:l[i]?=some x):((l.map zo.low).zip bs).take (i + 1)=((l.map zo.low).zip bs).take i++[(x.low,b)]:=by
 have:((l.map zo.low).zip bs)[i]?=some (x.low,b):=by rw [List.getElem?_zip_eq_some];exact ⟨by rw [List.getElem?_map,hx];rfl,hb⟩
 rw [List.take_add_one,this];rfl
theorem zq6 (r0 r3 r4 r5:zk) (q z:Nat) (free:List Nat) (used:Nat) (l:List zo) (hfl:free.length < 1000000) (hul:used + l.length≤free.length) (hfb:∀ b∈free,b < 2048) (hg:∀ n∈l,zb7 n∧n.sib=0) (tm:Nat→PV) (D:List FD) (V0:List PV) (hV0:V0.length + 64 * l.length < 900000) (G:List zk)
  (h1:tm 1=.list q 1 (bfl free)) (h5:tm 5=.ptr 1 0 0 0 1) (h6:tm 6=.ptr 2 0 0 0 1) (h14:tm 14=.list 0 6 (l.map (zN z))) (h16:tm 16=.sl (G.length + 7) 0 0 0 0 2) (h103:tm 103=.list 0 6 (l.map (zN z))) (h104:tm 104=iv l.length) (h105:tm 105=iv 0) {Q:FX→FSt→Prop}
  (hQ:∀ (tm':Nat→PV) (V N:List PV) (G2:List zk),V=V0++(zcx ((free.drop used).take l.length) (zai ((free.drop used).take l.length) l)).map zbL→N=((l.map zo.low).zip ((free.drop used).take l.length)).map cv→(∀ k,(k < 16∨161 < k)→tm' k=tm k)→tm' 16=.sl (G.length + 7) N.length 0 N.length (2 * N.length) 2→Q .norm ⟨tm',D,r0::.row 30 1 0 0 [.sl 6 V.length 0 V.length (2 * V.length) 2]::.row 3 1 0 0 [iv used]::r3::r4::r5::.row 83 2 V.length 0 V::(G++.row 138 2 N.length 0 N::G2)⟩) :
  W ET ET.caught none c26_6 ⟨tm,D,r0::.row 30 1 0 0 [.sl 6 V0.length 0 V0.length (2 * V0.length) 2]::.row 3 1 0 0 [iv used]::r3::r4::r5::.row 83 2 V0.length 0 V0::(G++[.row 138 2 0 0 []])⟩ Q:=by
 unfold c26_6
 have hbl:((free.drop used).take l.length).length=l.length:=by rw [List.length_take,List.length_drop];omega
 have hbg:∀ i,i < l.length→((free.drop used).take l.length)[i]?=some (free.getD (used + i) 0):=fun i hi=>by
  rw [List.getElem?_take,if_pos hi,List.getElem?_drop,List.getD_eq_getElem?_getD,List.getElem?_eq_getElem (show used + i < free.length by omega)];rfl
 generalize hbs:(free.drop used).take l.length=bs at *
 have hll:=zca bs l hbl
 have hVl:∀ i,(((bs.zip (zai bs l)).take i).flatMap fun x=>zcU x.1 (zbp x.2)).length≤64 * i:=fun i=>by
  rw [zgv,List.length_take];omega
 refine zG (zav (fun m s=>∃ (i:Nat) (V N:List PV) (G2:List zk),m=l.length - i∧i≤l.length∧V=V0++(((bs.zip (zai bs l)).take i).flatMap fun x=>zcU x.1 (zbp x.2)).map zbL∧N=(((l.map zo.low).zip bs).take i).map cv∧(∀ k,k ≠ 105→(k < 16∨(103≤k∧k < 106)∨161 < k)→s.tm k=tm k)∧s.tm 16=.sl (G.length + 7) N.length 0 N.length (2 * N.length) 2∧s.tm 105=iv i∧s.df=D∧s.H=r0::.row 30 1 0 0 [.sl 6 V.length 0 V.length (2 * V.length) 2]::.row 3 1 0 0 [iv used]::r3::r4::r5::.row 83 2 V.length 0 V::(G++.row 138 2 N.length 0 N::G2)) (n:=l.length) ?_ ?_)
 ·exact ⟨0,V0,[],[],rfl,Nat.zero_le _,by simp,rfl,fun k _ _=>rfl,h16,h105,rfl,rfl⟩
 ·rintro m ⟨tn,df,H⟩ ⟨i,V,N,G2,rfl,hi,hV,hN,hf,h16',h105',rfl,rfl⟩
  dsimp only at hf h16' h105'
  have h1':=(hf 1 (by decide) (by decide)).trans h1
  have h5':=(hf 5 (by decide) (by decide)).trans h5
  have h6':=(hf 6 (by decide) (by decide)).trans h6
  have h14':=(hf 14 (by decide) (by decide)).trans h14
  have h103':=(hf 103 (by decide) (by decide)).trans h103
  have h104':=(hf 104 (by decide) (by decide)).trans h104
  have hVli:=hVl i
  have hVlen:V.length≤V0.length + 64 * i:=by rw [hV,List.length_append,List.length_map];omega
  have hNl:N.length=i:=by rw [hN];simp;omega
  (try refine zY ?_);refine zc (za ?_);refine zb (by simp (disch:=omega) only [go_sem,h103',h104',h105'] <;> rfl) ?_;refine zd ?_;refine zad (by simp only [go_sem] <;> rfl) ?_ ?_
  rotate_left
  ·intro hlt
   have hlt:¬ i < l.length:=by have:=of_decide_eq_false hlt;omega
   obtain rfl:i=l.length:=by omega
   simp only [zf,zi,zh,zg,zu,zj,if_true,reduceIte]
   refine hQ _ V N G2 ?_ ?_ (fun k k1=>?_) (by simp [upd,h16'])
   ·rw [hV,List.take_of_length_le (by simp;omega)];rfl
   ·rw [hN,List.take_of_length_le (by simp;omega)]
   ·simp (disch:=omega) only [zZ]
    exact hf k (by omega) (by omega)
  intro hlt
  have hlt:i < l.length:=by have:=of_decide_eq_true hlt;omega
  obtain ⟨x,hx⟩:∃ x,l[i]?=some x:=⟨_,List.getElem?_eq_getElem hlt⟩
  have hxv:(l.map (zN z))[i]?=some (zN z x):=by rw [List.getElem?_map,hx];rfl
  obtain ⟨b,hb⟩:∃ b,b=free.getD (used + i) 0:=⟨_,rfl⟩
  have hbi:=hbg i hlt
  rw [← hb] at hbi
  have hfi:used + i < free.length:=by omega
  have hfv:(bfl free)[used + i]?=some (iv b):=by rw [List.getElem?_map,List.getElem?_eq_getElem hfi,hb,List.getD_eq_getElem?_getD,List.getElem?_eq_getElem hfi];rfl
  have hbm:b < 2048:=by
   rw [hb,List.getD_eq_getElem?_getD,List.getElem?_eq_getElem hfi]
   exact hfb _ (List.getElem_mem _)
  have hli:=zdp bs l i x hbl hx
  have hgx:=hg x (List.mem_of_getElem? hx)
  have e1:((used:Int) + (i:Int))=((used + i:Nat):Int):=by omega
  have e2:((i:Int) + 1)=((i + 1:Nat):Int):=by omega
  have e3:(((used + i:Nat):Int) + 1)=((used + i + 1:Nat):Int):=by omega
  generalize hx':({ x with sib:=bs.getD (i + 1) 0 }:zo)=x' at hli
  have hsib:bs.getD (i + 1) 0 < 2048:=by
   rcases Nat.lt_or_ge (i + 1) l.length with h | h
   ·rw [List.getD_eq_getElem?_getD,hbg _ h]
    show free.getD _ 0 < 2048
    rw [List.getD_eq_getElem?_getD,List.getElem?_eq_getElem (show used + (i + 1) < free.length by omega)]
    exact hfb _ (List.getElem_mem _)
   ·rw [List.getD_eq_getElem?_getD,List.getElem?_eq_none (by omega)];decide
  have hgx':zb7 x':=by rw [← hx'];exact hgx.1.setSib hsib
  (repeat refine zc ?_)
  refine zG ?_
  (repeat refine zc ?_)
  (repeat refine zc ?_);refine za ?_;refine zb (by simp (disch:=omega) only [go_sem,h103',h105',hxv,hlt,ze,zF] <;> rfl) ?_
  refine zd ?_
  (repeat refine zc ?_)
  (repeat refine zc ?_);refine za ?_;refine zb (by simp (disch:=omega) only [go_sem,h1',h6',e1,hfv,hfi] <;> rfl) ?_
  refine zd ?_
  refine zc (zdH (Q:=fun y s'=>y=.norm∧(∀ k,k ≠ 105→(k < 16∨(103≤k∧k < 106)∨161 < k)→s'.tm k=tn k)∧s'.tm 16=.sl (G.length + 7) N.length 0 N.length (2 * N.length) 2∧s'.tm 18=.ptr ((G++zk.row 138 2 N.length 0 N::G2).length + 7) 0 0 0 6∧s'.tm 19=iv b∧s'.tm 105=iv i∧s'.df=df∧s'.H=r0::.row 30 1 0 0 [.sl 6 V.length 0 V.length (2 * V.length) 2]::.row 3 1 0 0 [iv used]::r3::r4::r5::.row 83 2 V.length 0 V::(G++.row 138 2 N.length 0 N::G2++[.row 124 6 0 0 [zN z x']])) ?_ ?_)
  ·by_cases hi1:i + 1 < l.length
   ·have g1:((i + 1:Nat):Int) < (l.length:Nat):=by omega
    have hfi2:used + i + 1 < free.length:=by omega
    have hfv2:(bfl free)[used + i + 1]?=some (iv (bs.getD (i + 1) 0:Nat)):=by
     rw [List.getD_eq_getElem?_getD,hbg _ hi1,List.getElem?_map,List.getElem?_eq_getElem hfi2]
     show _=some (iv (free.getD (used + (i + 1)) 0:Nat))
     rw [List.getD_eq_getElem?_getD,List.getElem?_eq_getElem (show used + (i + 1) < free.length by omega)];rfl
    (repeat refine zc ?_)
    (repeat refine zc ?_);refine za ?_;refine zb (by simp (disch:=omega) only [go_sem,h14',e2,g1] <;> rfl) ?_
    refine zd ?_
    refine zD (by simp only [go_sem] <;> rfl) ?_ ?_
    rotate_left
    ·intro h;cases h
    intro _
    refine za ?_
    refine zb (by simp (disch:=omega) only [go_sem,h1',h6',e1,e3,hfv2,hfi2,gq2,gq3] <;> rfl) ?_
    refine zC ?_
    refine ⟨rfl,fun k k1 k2=>?_,by simp [upd,h16'],by simp [upd],by simp [upd],by simp [upd,h105'],rfl,?_⟩
    ·simp (disch:=omega) only [zZ]
    ·rw [← hx']
   ·have g1:¬ ((i + 1:Nat):Int) < (l.length:Nat):=by omega
    (repeat refine zc ?_)
    (repeat refine zc ?_);refine za ?_;refine zb (by simp (disch:=omega) only [go_sem,h14',e2,g1] <;> rfl) ?_
    refine zd ?_
    refine zD (by simp only [go_sem] <;> rfl) ?_ ?_
    ·intro h;cases h
    intro _
    refine zR ⟨rfl,fun k k1 k2=>?_,by simp [upd,h16'],by simp [upd],by simp [upd],by simp [upd,h105'],rfl,?_⟩
    ·simp (disch:=omega) only [zZ]
    ·have:x'=x:=by
      rw [← hx',List.getD_eq_getElem?_getD,List.getElem?_eq_none (show bs.length≤i + 1 by omega)]
      have:=hgx.2
      obtain ⟨a1,a2,a3,a4,a5,a6⟩:=x
      dsimp only at this
      rw [this];rfl
     rw [this]
  rintro y ⟨tq,df2,H⟩ ⟨rfl,hf2,h16q,h18,h19,h105q,rfl,rfl⟩
  dsimp only at hf2 h16q h18 h19 h105q
  simp only [zf,zi,zh,zg,zu,zj,if_true,reduceIte]
  have hmk:=zsO z x' (by have:=hgx'.few;omega)
  rw [hgx'.make] at hmk
  unfold zmw at hmk
  rw [if_pos rfl] at hmk
  (repeat refine zc ?_)
  refine za ?_
  refine zb (by simp (disch:=omega) only [go_sem,h18,gq2] <;> rfl) ?_
  refine zH (by first | rfl | (simp only [go_sem] <;> rfl)) (by simp only [go_sem] <;> rfl) hmk ?_ ?_;(repeat (first | exact trivial | refine And.intro ?_ ?_ | exact .int _ _ | exact .bool _ | exact .list _ _ _ | exact .elem _ | exact .nilsl | exact .nil _ _ | exact .str _ | refine Frz.aggL ?_ | refine Frz.fnL ?_ | refine Frz.tupL ?_ | refine .iface ?_ | exact zn rfl rfl (by assumption)))
  refine zb (by simp (disch:=omega) only [go_sem] <;> rfl) ?_
  refine zd ?_
  (repeat refine zc ?_)
  refine za ?_
  refine zb (by simp (disch:=omega) only [go_sem] <;> rfl) ?_
  refine zH (by first | rfl | (simp only [go_sem] <;> rfl)) (by simp only [go_sem] <;> rfl) (zcI 2) ?_ ?_;(repeat (first | exact trivial | refine And.intro ?_ ?_ | exact .int _ _ | exact .bool _ | exact .list _ _ _ | exact .elem _ | exact .nilsl | exact .nil _ _ | exact .str _ | refine Frz.aggL ?_ | refine Frz.fnL ?_ | refine Frz.tupL ?_ | refine .iface ?_ | exact zn rfl rfl (by assumption)))
  refine zb (by simp (disch:=omega) only [go_sem] <;> rfl) ?_
  refine zd ?_
  (repeat refine zc ?_)
  (repeat refine zc ?_);refine za ?_;refine zb (by simp (disch:=omega) only [go_sem] <;> rfl) ?_
  refine zd ?_
  have h5q:tq 5=.ptr 1 0 0 0 1:=(hf2 5 (by decide) (by decide)).trans h5'
  refine zq0 r0 _ r3 r4 r5 (zbp x') b hbm (by rw [zei];omega) _ df2 V (by omega) _ (by simp [upd,h5q]) (by simp [upd,h19]) (by simp [upd]) (by simp [upd]) (by simp [upd]) (fun tm2 V2 G3 hV2 hfr=>?_)
  simp only [zf,zi,zh,zg,zu,zj,if_true,reduceIte]
  have h16x:tm2 16=.sl (G.length + 7) N.length 0 N.length (2 * N.length) 2:=(hfr 16 (by decide) (by decide) (by decide)).trans (by simp [upd,h16q])
  have h18x:tm2 18=.ptr ((G++zk.row 138 2 N.length 0 N::G2).length + 7) 0 0 0 6:=(hfr 18 (by decide) (by decide) (by decide)).trans (by simp [upd,h18])
  have h19x:tm2 19=iv b:=(hfr 19 (by decide) (by decide) (by decide)).trans (by simp [upd,h19])
  have h105x:tm2 105=iv i:=(hfr 105 (by decide) (by decide) (by decide)).trans (by simp [upd,h105q])
  have hbN:(N.length + 1) * 17≤140737488355328:=by omega
  have hN2:N++[cv (x.low,b)]=(((l.map zo.low).zip bs).take (i + 1)).map cv:=by rw [zro hbi hx,hN];simp
  have hV3:V2=V0++(((bs.zip (zai bs l)).take (i + 1)).flatMap fun x=>zcU x.1 (zbp x.2)).map zbL:=by rw [hV2,hV,zm9 hbi hli];simp
  have hxl:x'.low=x.low:=by rw [← hx']
  (repeat refine zc ?_)
  (repeat refine zc ?_);refine za ?_;refine zb (by simp (disch:=omega) only [go_sem,h16x,h18x,h19x,gq4,gm0,gm1,gm2,gm3,gm4,sm0,sm1,sm2,sm3,sm4,hbN,hxl] <;> rfl) ?_
  refine zC ?_;simp only [zf,zi,zh,zg,zu,zj,if_true,↓reduceIte]
  (repeat refine zc ?_);refine za ?_;refine zb (by simp (disch:=omega) only [go_sem,h105x] <;> rfl) ?_
  refine zC ?_;simp only [zf,zi,zh,zg,zu,zj,if_true,↓reduceIte]
  refine ⟨_,?m,i + 1,V2,N++[cv (x.low,b)],?G5,rfl,hlt,hV3,hN2,fun k k1 k2=>?_,by simp [upd],by simp [upd,h105x],trivial,?H⟩
  case m=>omega
  case H =>
   rw [List.length_append]
   simp only [List.append_assoc,List.cons_append,List.nil_append]
   rfl
  ·simp (disch:=omega) only [zZ]
   rw [hfr k (by omega) (by omega) (by omega)]
   simp (disch:=omega) only [zZ]
   exact (hf2 k k1 k2).trans (hf k k1 k2)
end Fv
end Go.Proofs.YtfomlmhnmheenaaGreat
namespace Go.Proofs.YtfomlmhnmheenaaGreat
namespace Fv
open Tw
theorem zhT.next {p:List Pr} {free:List Nat} (hf:zic free=true) {l:List zo} {used:Nat} {T:List Lev} (hi:zhT p free l used T) (hu:¬ free.length < used + l.length) (ho:¬ l.length=1) :
  zhT p free (zbF (T.length + 1) ((l.map zo.low).zip ((free.drop used).take l.length))) (used + l.length) (((free.drop used).take l.length,zai ((free.drop used).take l.length) l)::T):=by
 obtain ⟨h1,h2,h3,h4,h5,h6,h7,h8⟩:=hi.level hf hu
 have hbd:=hi.bndL
 have hlvl:=hi.lvl
 have hne0:0 < l.length:=List.length_pos_iff.2 hi.ok.ne
 have hT1:T.length≤1:=by
  rcases Nat.lt_or_ge T.length 2 with h | h
  ·omega
  ·have e:T.length=2:=by omega
   rw [e] at hbd;simp [Fv.bndL] at hbd;omega
 obtain ⟨k1,k2,k3⟩:=zdD _ _ h1
 generalize hbs:(free.drop used).take l.length=bs at *
 have hzl:((l.map zo.low).zip bs).length=l.length:=by simp [h1]
 have hms:((l.map zo.low).zip bs).map Prod.snd=bs:=List.map_snd_zip (by simp [h1])
 have hg:∀ (i:Nat) (x:Pr),((l.map zo.low).zip bs)[i]?=some x→∃ n,l[i]?=some n∧x.1=n.low:=by
  intro i x hx
  rw [List.getElem?_zip_eq_some] at hx
  have h1:=hx.1
  rw [List.getElem?_map] at h1
  cases hn:l[i]? with
  | none=>rw [hn] at h1;cases h1
  | some n=>rw [hn] at h1;injection h1 with h1;exact ⟨n,rfl,h1.symm⟩
 have hz0:(((l.map zo.low).zip bs).getD 0 (0,0)).1=0:=by
  obtain ⟨n,hn,e⟩:=hg 0 _ (get_lt _ (by omega))
  rw [e];exact hi.ok.low0 n hn
 have hrz:zag ((l.map zo.low).zip bs)=true:=by
  rw [zdC]
  intro i x y hx hy
  obtain ⟨n,hn,e⟩:=hg i x hx
  obtain ⟨m,hm,e2⟩:=hg _ y hy
  rw [e,e2];exact hi.ok.rise i n m hn hm
 have hab:=zlJ (lv:=T.length + 1) (ks:=(l.map zo.low).zip bs) ⟨by omega,by omega⟩ (by intro e;rw [e] at hzl;simp at hzl;omega) hrz hz0 (by rw [hms];exact h5) (fun x hx=>h4 x.2 (List.of_mem_zip hx).2)
 refine ⟨hab.1,⟨?_,h7⟩,h8,?_,h6,by omega,?_,by simp;omega⟩
 ·rw [hab.2];unfold zcZ;rw [k2]
 ·intro M hM
  rcases List.mem_cons.1 hM with rfl | hM
  ·exact h1.trans (zca _ _ h1).symm
  ·exact hi.len M hM
 ·rw [zde,hzl]
  show _≤Fv.bndL (T.length + 1)
  match hT:T.length,hT1 with
  | 0,_=>rw [hT] at hbd;simp [Fv.bndL] at hbd ⊢;omega
  | 1,_=>rw [hT] at hbd;simp [Fv.bndL] at hbd ⊢;omega
end Fv
end Go.Proofs.YtfomlmhnmheenaaGreat
namespace Go.Proofs.YtfomlmhnmheenaaGreat
namespace Fv
open Tw
attribute [local go_sem] zaU zaE z7 zac evs ev okv zby zO.cls zaV zbg zbo zV zW upd zB za4 zaZ za9 zaH zaX za5 za7 za2 zaW za0 zaz zba zaY za8 za6 za3 za1 zax zbf zbh zan zaq zbx PV.cells ofC zbd zS zae okF zak spl zaF zaK bnd zao zas zat zaO zbl zT zal zaL zap zbi zbr z9 lenP ze zF zam zbj PV.toT zaC zL Nat.mul_mod_right Int.reduceOfNat Int.reduceToNat Int.cast_ofNat_Int Int.reduceLE Int.reduceLT Int.reduceAdd Int.reduceSub Int.reduceMul Int.reduceNegSucc Nat.reduceEqDiff if_true if_false ite_true ite_false decide_true decide_false Bool.not_true Bool.not_false and_true true_and and_self false_and and_false or_false false_or or_true true_or or_self List.length_cons List.length_nil List.length_map List.getElem?_cons_zero List.getElem?_cons_succ List.getElem?_map List.getElem?_nil Option.map_some Option.map_none Option.getD_some List.append_nil List.nil_append List.cons_append List.take_succ_cons List.take_zero List.drop_zero List.drop_succ_cons List.set_cons_zero List.set_cons_succ Int.toNat_natCast Int.natCast_nonneg Nat.le_refl Nat.zero_le Nat.reduceAdd Nat.reduceSub Nat.reduceMul Nat.reduceLeDiff Nat.reduceLT Bool.false_eq_true Bool.true_eq_false Nat.add_zero Nat.zero_add List.all_cons List.all_nil Bool.and_true Bool.and_self Bool.true_and Nat.reduceMod Nat.reduceDiv eq_self zau zaJ zaa zbb evN zaT dpF zaQ zbu zay zbc zbt zaP Option.some.injEq Option.isSome_some wrap_i64 zQ zaM
attribute [local go_sem ↓] reduceIte
set_option maxRecDepth 100000
theorem f26:ET.funcs.get 26=some T26:=zJ (by kernel_rfl) (by decide)
theorem f67:ET.funcs.get 67=some T67:=zJ (by kernel_rfl) (by decide)
@[reducible] def ziE (n:Nat):FE:=.ret (.tuple [iv 0,.list 0 2 (([]:List Pr).map zbL),iv 0,iv n])
@[reducible] def bOk (T:List Lev):FE:=.ret (.tuple [iv (zhm T),.list 0 2 ((zbP T.reverse).map zbL),iv (T.reverse.flatMap Prod.fst).length,iv 0])
def zcl (l:List Pr) (fr:List Int):FE:=if okP l && okI [] fr then match zdF l (fr.map Int.toNat) with
 | none=>ziE 221
 | some T=>bOk T else ziE 2
theorem zs1 (a b c:PV) (r3:zk) (R:List zk):FO ET 67 [.ptr 0 0 0 0 1,.ptr 1 0 0 0 1,.ptr 2 0 0 0 1] (.row 3 1 0 0 [a]::.row 30 1 0 0 [b]::.row 3 1 0 0 [c]::r3::R) false fun e H'=>e=.ret (.tuple [])∧H'=.row 3 1 0 0 [iv 0]::.row 30 1 0 0 [.nilsl]::.row 3 1 0 0 [iv 0]::r3::R:=by
 refine zcS f67 (Nat.le_of_ble_eq_true rfl) ?_
 (repeat refine zc ?_);refine za ?_;refine zb (by simp (disch:=omega) only [go_sem] <;> rfl) ?_
 refine zC ?_
 exact ⟨[],rfl,rfl,rfl⟩
theorem zla (l:List Pr):Lb (.list 0 2 (l.map zbL)):=.list fun x hx=>by
 obtain ⟨y,hy,hx⟩:=List.mem_flatMap.1 hx
 obtain ⟨n,_,rfl⟩:=List.mem_map.1 hy
 simp [PV.cells] at hx;rcases hx with rfl | rfl <;> exact .int _ _
theorem Lb.four {a b c d:PV} (ha:Lb a) (hb:Lb b) (hc:Lb c) (hd:Lb d):Lb (.tuple [a,b,c,d]):=.tuple fun v hv=>by
 simp at hv;rcases hv with h | h | h | h <;> subst h <;> assumption
theorem znh (l:List Pr) (fr:List Int):LbE (zcl l fr):=by
 unfold zcl
 split
 ·split
  ·exact Lb.four (.int _ _) (zla _) (.int _ _) (.int _ _)
  ·exact Lb.four (.int _ _) (zla _) (.int _ _) (.int _ _)
 ·exact Lb.four (.int _ _) (zla _) (.int _ _) (.int _ _)
set_option maxHeartbeats 4000000 in
theorem zrq (p q:Nat) (l:List Pr) (fr:List Int) (hl:l.length≤500) (hfr:fr.length≤2000):FN ET 26 [psv p l,.list q 1 (fr.map iv)] (zcl l fr):=by
 refine zU f26 (Nat.le_of_ble_eq_true rfl) (znh l fr) ?_
 (repeat (first | refine zc ?_ | (refine za ?_;refine zb (by simp (disch:=omega) only [go_sem] <;> rfl) ?_;refine zd ?_)))
 (repeat refine zc ?_);refine za ?_;refine zb (by simp (disch:=omega) only [go_sem] <;> rfl) ?_
 refine zhr (f:=35) (p:=.ptr 3 0 0 0 1) (cl:=.fn 67 [.ptr 0 0 0 0 1,.ptr 1 0 0 0 1,.ptr 2 0 0 0 1]) ?_ ?_ c35 ?_
 ·rfl
 ·simp only [go_sem] <;> rfl
 refine zb (by simp (disch:=omega) only [go_sem] <;> rfl) ?_
 refine zd ?_
 (repeat (first | refine zc ?_ | (refine za ?_;refine zb (by simp (disch:=omega) only [go_sem] <;> rfl) ?_;refine zd ?_)))
 have bad:∀ (tm:Nat→PV) (n:Nat) (a b c:PV) (R:List zk),zcl l fr=ziE n→tm 4=.ptr 0 0 0 0 1→tm 5=.ptr 1 0 0 0 1→tm 6=.ptr 2 0 0 0 1→tm 7=.ptr 3 0 0 0 1→zew ET T26 (fun e' H=>zar H 0 e' (zcl l fr)) (.panic (zcn n)) ⟨tm,[.caught (.ptr 3 0 0 0 1) (.fn 67 [.ptr 0 0 0 0 1,.ptr 1 0 0 0 1,.ptr 2 0 0 0 1])],.row 3 1 0 0 [a]::.row 30 1 0 0 [b]::.row 3 1 0 0 [c]::.row 31 1 0 0 [iv 0]::R⟩:=fun tm n a b c R hn h4 h5 h6 h7=>by
  refine ⟨n,67,[.ptr 0 0 0 0 1,.ptr 1 0 0 0 1,.ptr 2 0 0 0 1],false,3,0,1,rfl,rfl,rfl,(zs1 a b c _ R).mono fun e H he=>?_⟩
  obtain ⟨rfl,rfl⟩:=he
  refine ⟨rfl,_,rfl,[iv 0,.nilsl,iv 0,iv n],?_,?_⟩
  ·simp [T26,zI,okv,h4,h5,h6,h7,zax,zbf,zbh,zae]
   rfl
  ·rw [hn];exact Frz.tupL ⟨.int _ _,.nil _ _,.int _ _,.int _ _,trivial⟩
 refine zfc 83 2 (id:=1) rfl ?_
 simp only [lzy,List.length_cons,List.length_nil,List.set_cons_succ,List.set_cons_zero,List.cons_append,List.nil_append]
 refine zrZ _ _ _ _ _ _ p l (by omega) _ _ [] (by simp [upd,zB]) (by simp [upd,zB]) (by simp [upd,zB]) (by simp [upd,zB]) (by simp [upd,zB]) (fun hok tm' m4 G hfr0=>?_) (fun tm1 m4 G1 hokP hf1=>?_)
 ·exact bad _ 2 _ _ _ _ (by unfold zcl;rw [hok];rfl) ((hfr0 4 (by decide)).trans (by simp [upd])) ((hfr0 5 (by decide)).trans (by simp [upd])) ((hfr0 6 (by decide)).trans (by simp [upd])) ((hfr0 7 (by decide)).trans (by simp [upd]))
 simp only [zf,zi,zh,zg,zu,zj,if_true,reduceIte]
 have k0:tm1 0=psv p l:=(hf1 0 (by decide) (by decide) (by decide)).trans (by simp [upd,zB])
 have k1:tm1 1=.list q 1 (fr.map iv):=(hf1 1 (by decide) (by decide) (by decide)).trans (by simp [upd,zB])
 have k4:tm1 4=.ptr 0 0 0 0 1:=(hf1 4 (by decide) (by decide) (by decide)).trans (by simp [upd,zB])
 have k5:tm1 5=.ptr 1 0 0 0 1:=(hf1 5 (by decide) (by decide) (by decide)).trans (by simp [upd,zB])
 have k6:tm1 6=.ptr 2 0 0 0 1:=(hf1 6 (by decide) (by decide) (by decide)).trans (by simp [upd,zB])
 have k7:tm1 7=.ptr 3 0 0 0 1:=(hf1 7 (by decide) (by decide) (by decide)).trans (by simp [upd,zB])
 have k9:tm1 9=.map 5:=(hf1 9 (by decide) (by decide) (by decide)).trans (by simp [upd,zB])
 clear hf1
 (repeat refine zc ?_)
 (repeat refine zc ?_);refine za ?_;refine zb (by simp (disch:=omega) only [go_sem,k1] <;> rfl) ?_
 refine zd ?_
 refine zrG _ _ _ _ _ _ q fr (by omega) _ _ G1 (by simp [upd,k9]) (by simp [upd]) (by simp [upd]) (by simp [upd]) (fun hok tm' m5 G hfr0=>?_) (fun tm2 m5 G2 hokI hf2=>?_)
 ·exact bad _ 2 _ _ _ _ (by unfold zcl;rw [hok,Bool.and_false];rfl) ((hfr0 4 (by decide)).trans (by simp [upd,k4])) ((hfr0 5 (by decide)).trans (by simp [upd,k5])) ((hfr0 6 (by decide)).trans (by simp [upd,k6])) ((hfr0 7 (by decide)).trans (by simp [upd,k7]))
 simp only [zf,zi,zh,zg,zu,zj,if_true,reduceIte]
 have j0:tm2 0=psv p l:=(hf2 0 (by decide) (by decide)).trans (by simp [upd,k0])
 have j1:tm2 1=.list q 1 (fr.map iv):=(hf2 1 (by decide) (by decide)).trans (by simp [upd,k1])
 have j4:tm2 4=.ptr 0 0 0 0 1:=(hf2 4 (by decide) (by decide)).trans (by simp [upd,k4])
 have j5:tm2 5=.ptr 1 0 0 0 1:=(hf2 5 (by decide) (by decide)).trans (by simp [upd,k5])
 have j6:tm2 6=.ptr 2 0 0 0 1:=(hf2 6 (by decide) (by decide)).trans (by simp [upd,k6])
 have j7:tm2 7=.ptr 3 0 0 0 1:=(hf2 7 (by decide) (by decide)).trans (by simp [upd,k7])
 clear hf2 k0 k1 k4 k5 k6 k7 k9
 obtain ⟨free,rfl,hokF⟩:=zjp hokI
 have hfree:(free.map fun (b:Nat)=>(b:Int)).map Int.toNat=free:=by rw [List.map_map];exact List.map_id free
 have hbE:zcl l (free.map fun (b:Nat)=>(b:Int))=match zdF l free with
   | none=>ziE 221
   | some T=>bOk T:=by unfold zcl;rw [hokP,hokI,hfree];rfl
 have hfv:(free.map fun (b:Nat)=>(b:Int)).map iv=bfl free:=by rw [List.map_map];rfl
 rw [hfv] at j1
 have hfl:free.length≤2000:=by simpa using hfr
 rw [hbE] at bad ⊢
 (repeat refine zc ?_)
 refine za ?_
 refine zb (by simp (disch:=omega) only [go_sem,j0] <;> rfl) ?_
 refine zch (by first | rfl | (simp only [go_sem] <;> rfl)) (by simp only [go_sem] <;> rfl) (zqT p l (by omega)) rfl ?_ ?_;(repeat (first | exact trivial | refine And.intro ?_ ?_ | exact Id0.int _ _ | exact Id0.bool _ | exact Id0.list _ _ _ | exact Id0.elem _ | exact Id0.nilsl | exact Id0.str _ | exact zc1 _ _ _))
 refine zb (by simp (disch:=omega) only [go_sem] <;> rfl) ?_
 refine zd ?_
 (repeat (first | refine zc ?_ | (refine za ?_;refine zb (by simp (disch:=omega) only [go_sem] <;> rfl) ?_;refine zd ?_)))
 have hff:=(zeH free).1 hokF
 refine zG (zav (fun m s=>∃ (k:Nat) (nl:List zo) (used:Nat) (T:List Lev) (z:Nat) (V:List PV) (G:List zk),m=k∧1≤k∧3≤k + T.length∧zhT l free nl used T∧zdF l free=zgY free k nl used T∧used=(T.reverse.flatMap Prod.fst).length∧V=(zbP T.reverse).map zbL∧V.length=64 * used∧s.tm 1=.list q 1 (bfl free)∧s.tm 4=.ptr 0 0 0 0 1∧s.tm 5=.ptr 1 0 0 0 1∧s.tm 6=.ptr 2 0 0 0 1∧s.tm 7=.ptr 3 0 0 0 1∧s.tm 14=.list 0 6 (nl.map (zN z))∧s.tm 15=iv (T.length + 1:Nat)∧s.df=[.caught (.ptr 3 0 0 0 1) (.fn 67 [.ptr 0 0 0 0 1,.ptr 1 0 0 0 1,.ptr 2 0 0 0 1])]∧s.H=.row 3 1 0 0 [iv 0]::.row 30 1 0 0 [.sl 6 V.length 0 V.length (2 * V.length) 2]::.row 3 1 0 0 [iv used]::.row 31 1 0 0 [iv 0]::m4::m5::.row 83 2 V.length 0 V::G) (n:=4) ?_ ?_)
 ·exact ⟨4,zbq l,0,[],p,[],_,rfl,by decide,by decide,zhM free hokP hl,rfl,rfl,rfl,rfl,by simp [upd,j1],by simp [upd,j4],by simp [upd,j5],by simp [upd,j6],by simp [upd,j7],by simp [upd],by simp [upd],rfl,rfl⟩
 ·clear j0 j1 j4 j5 j6 j7
  rintro m ⟨tm,df,H⟩ ⟨k,nl,used,T,z,V,G,rfl,hk1,hk3,hI,hbd,hus,hV,hVl,h1,h4,h5,h6,h7,h14,h15,rfl,rfl⟩
  dsimp only at h1 h4 h5 h6 h7 h14 h15
  obtain ⟨k,rfl⟩:∃ k,m=k + 1:=⟨m - 1,by omega⟩
  have hnl0:0 < nl.length:=List.length_pos_iff.2 hI.ok.ne
  have hnlb:nl.length≤28:=by
   have:=hI.bndL
   have hb:∀ t,bndL t≤28:=fun t=>by match t with | 0=>decide | 1=>decide | t + 2=>exact (show 1≤28 by decide)
   exact Nat.le_trans this (hb _)
  rw [zgY] at hbd
  have hul:=hI.used
  have hw:IntKind.i64.wrap ((used:Int) + (nl.length:Int))=((used + nl.length:Nat):Int):=by rw [wrap_i64 (by omega) (by omega)];omega
  (repeat refine zc ?_)
  refine zG ?_
  (repeat refine zc ?_)
  refine za ?_
  by_cases hsp:free.length < used + nl.length
  ·rw [if_pos hsp] at hbd
   have g:¬ ((used + nl.length:Nat):Int)≤free.length:=by omega
   refine zb (by simp (disch:=omega) only [go_sem,h6,h14,h1,hw,g,List.length_map] <;> rfl) ?_
   refine zaD (by first | rfl | (simp only [go_sem] <;> rfl)) (by simp only [go_sem] <;> rfl) (zb0 221) ?_ ?_;(repeat (first | exact trivial | refine And.intro ?_ ?_ | exact .int _ _ | exact .bool _ | exact .list _ _ _ | exact .elem _ | exact .nilsl | exact .nil _ _ | exact .str _ | refine Frz.aggL ?_ | refine Frz.fnL ?_ | refine Frz.tupL ?_ | refine .iface ?_ | exact zn rfl rfl (by assumption)))
   refine bad _ 221 _ _ _ _ (by rw [hbd]) ?_ ?_ ?_ ?_
   ·simp (disch:=omega) only [zc8,zZ];exact h4
   ·simp (disch:=omega) only [zc8,zZ];exact h5
   ·simp (disch:=omega) only [zc8,zZ];exact h6
   ·simp (disch:=omega) only [zc8,zZ];exact h7
  rw [if_neg hsp] at hbd
  have g:((used + nl.length:Nat):Int)≤free.length:=by omega
  refine zb (by simp (disch:=omega) only [go_sem,h6,h14,h1,hw,g,List.length_map] <;> rfl) ?_
  refine zH (by first | rfl | (simp only [go_sem] <;> rfl)) (by simp only [go_sem] <;> rfl) (zcI 221) ?_ ?_;(repeat (first | exact trivial | refine And.intro ?_ ?_ | exact .int _ _ | exact .bool _ | exact .list _ _ _ | exact .elem _ | exact .nilsl | exact .nil _ _ | exact .str _ | refine Frz.aggL ?_ | refine Frz.fnL ?_ | refine Frz.tupL ?_ | refine .iface ?_ | exact zn rfl rfl (by assumption)))
  refine zb (by simp (disch:=omega) only [go_sem] <;> rfl) ?_
  refine zd ?_
  (repeat (first | refine zc ?_ | (refine za ?_;refine zb (by simp (disch:=omega) only [go_sem] <;> rfl) ?_;refine zd ?_)))
  refine zev 138 2 (i:=16) rfl ?_
  simp only [lzy,List.length_cons,List.length_nil,Nat.zero_add,List.append_assoc,List.cons_append,List.nil_append]
  (repeat (first | refine zc ?_ | (refine za ?_;refine zb (by simp (disch:=omega) only [go_sem,h14] <;> rfl) ?_;refine zd ?_)))
  obtain ⟨v1,v2,v3,v4,v5,v6,v7,v8⟩:=hI.level hokF hsp
  have hnx:=hI.next hokF hsp
  have hlvl:=hI.lvl
  refine zq6 _ _ _ _ q z free used nl (by omega) (by omega) (fun b hb=>(hff.1 b hb).2) (fun n hn=>⟨(hI.ok.each n hn).1,(hI.ok.each n hn).2.2⟩) _ _ V (by omega) G (by simp [upd,h1]) (by simp [upd,h5]) (by simp [upd,h6]) (by simp [upd,h14]) (by simp [upd]) (by simp [upd]) (by simp [upd]) (by simp [upd]) (fun tm3 V2 N G3 hV2 hN hf3 h16=>?_)
  simp only [zf,zi,zh,zg,zu,zj,if_true,reduceIte]
  have x1:tm3 1=.list q 1 (bfl free):=(hf3 1 (by decide)).trans (by simp [upd,h1])
  have x4:tm3 4=.ptr 0 0 0 0 1:=(hf3 4 (by decide)).trans (by simp [upd,h4])
  have x5:tm3 5=.ptr 1 0 0 0 1:=(hf3 5 (by decide)).trans (by simp [upd,h5])
  have x6:tm3 6=.ptr 2 0 0 0 1:=(hf3 6 (by decide)).trans (by simp [upd,h6])
  have x7:tm3 7=.ptr 3 0 0 0 1:=(hf3 7 (by decide)).trans (by simp [upd,h7])
  have x14:tm3 14=.list 0 6 (nl.map (zN z)):=(hf3 14 (by decide)).trans (by simp [upd,h14])
  have x15:tm3 15=iv (T.length + 1:Nat):=(hf3 15 (by decide)).trans (by simp [upd,h15])
  generalize hbs:(free.drop used).take nl.length=bs at *
  have hpl:(zcx bs (zai bs nl)).length=64 * nl.length:=by
   unfold zcx;rw [zgv];simp [v1,zca bs nl v1]
  have hV3:V2=(zbP ((bs,zai bs nl)::T).reverse).map zbL:=by
   rw [hV2,hV,List.reverse_cons,zbP,zbP,List.flatMap_append];simp
  have hV2l:V2.length=64 * (used + nl.length):=by rw [hV2,List.length_append,List.length_map,hpl];omega
  have hus2:used + nl.length=(((bs,zai bs nl)::T).reverse.flatMap Prod.fst).length:=by
   rw [List.reverse_cons,List.flatMap_append,List.length_append,← hus];simp [v1]
  clear hf3 h1 h4 h5 h6 h7 h14 h15
  by_cases ho:nl.length=1
  ·rw [if_pos ho] at hbd
   have g1:((nl.length:Nat):Int)=1:=by omega
   obtain ⟨b0,hb0⟩:=List.length_eq_one_iff.1 (v1.trans ho)
   obtain ⟨n0,hn0⟩:=List.length_eq_one_iff.1 ho
   have hN0:N=[cv (n0.low,b0)]:=by rw [hN,hb0,hn0];rfl
   subst hN0
   (repeat refine zc ?_)
   (repeat refine zc ?_);refine za ?_;refine zb (by simp (disch:=omega) only [go_sem,x6,x14,hw,List.length_map] <;> rfl) ?_
   refine zd ?_
   (repeat refine zc ?_)
   (repeat refine zc ?_);refine za ?_;refine zb (by simp (disch:=omega) only [go_sem,x14,g1,List.length_map] <;> rfl) ?_
   refine zd ?_
   refine zD (by simp only [go_sem] <;> rfl) ?_ ?_
   rotate_left
   ·intro h;cases h
   intro _
   (repeat refine zc ?_)
   refine zaS ?_
   refine zbv (by first | exact trivial | simp only [go_sem,List.filter_cons,List.filter_nil,List.contains_cons,List.contains_nil,Bool.or_false,Nat.reduceBEq,zb4,zb3,zbJ,x4,x5,x6,x7,h16,gm0]) (by simp (disch:=omega) only [go_sem,x4,x5,x6,x7,h16,gm0] <;> rfl) rfl (by first | rfl | (simp only [go_sem] <;> rfl)) (by simp only [go_sem,x4,x5,x6,x7,h16,gm0] <;> rfl) (by simp (disch:=omega) only [go_sem,x4,x5,x6,x7,h16,gm0] <;> rfl) (by simp only [go_sem] <;> rfl) ?_
   refine zbv (by first | exact trivial | simp only [go_sem,List.filter_cons,List.filter_nil,List.contains_cons,List.contains_nil,Bool.or_false,Nat.reduceBEq,zb4,zb3,zbJ,x4,x5,x6,x7,h16,gm0]) (by simp (disch:=omega) only [go_sem,x4,x5,x6,x7,h16,gm0] <;> rfl) rfl (by first | rfl | (simp only [go_sem] <;> rfl)) (by simp only [go_sem,x4,x5,x6,x7,h16,gm0] <;> rfl) (by simp (disch:=omega) only [go_sem,x4,x5,x6,x7,h16,gm0] <;> rfl) (by simp only [go_sem] <;> rfl) ?_
   refine zbv (by first | exact trivial | simp only [go_sem,List.filter_cons,List.filter_nil,List.contains_cons,List.contains_nil,Bool.or_false,Nat.reduceBEq,zb4,zb3,zbJ,x4,x5,x6,x7,h16,gm0]) (by simp (disch:=omega) only [go_sem,x4,x5,x6,x7,h16,gm0] <;> rfl) rfl (by first | rfl | (simp only [go_sem] <;> rfl)) (by simp only [go_sem,x4,x5,x6,x7,h16,gm0] <;> rfl) (by simp (disch:=omega) only [go_sem,x4,x5,x6,x7,h16,gm0] <;> rfl) (by simp only [go_sem] <;> rfl) ?_
   refine zbv (by first | exact trivial | simp only [go_sem,List.filter_cons,List.filter_nil,List.contains_cons,List.contains_nil,Bool.or_false,Nat.reduceBEq,zb4,zb3,zbJ,x4,x5,x6,x7,h16,gm0]) (by simp (disch:=omega) only [go_sem,x4,x5,x6,x7,h16,gm0] <;> rfl) rfl (by first | rfl | (simp only [go_sem] <;> rfl)) (by simp only [go_sem,x4,x5,x6,x7,h16,gm0] <;> rfl) (by simp (disch:=omega) only [go_sem,x4,x5,x6,x7,h16,gm0] <;> rfl) (by simp only [go_sem] <;> rfl) ?_
   refine zX (by first | exact trivial | simp only [go_sem,x4]) (by simp (disch:=omega) only [go_sem,x4] <;> rfl) rfl ?_
   refine zaf ?_;simp only [zu,zab,zf,go_sem]
   refine zE ?_
   have hT:(match zdF l free with
    | none=>ziE 221
    | some T=>bOk T)=bOk ((bs,zai bs nl)::T):=by rw [hbd]
   rw [hT]
   have hroot:zhm ((bs,zai bs nl)::T)=b0:=by rw [hb0];rfl
   refine ⟨[iv b0,.sl 6 V2.length 0 V2.length (2 * V2.length) 2,iv (used + nl.length:Nat),iv 0],?_,Frz.tupL ⟨?_,?_,?_,.int _ _,trivial⟩⟩
   ·simp [T26,zI,okv,x4,x5,x6,x7,upd,zax,zbf,zbh,zae]
    rfl
   ·rw [hroot];exact .int _ _
   ·rw [← hV3]
    refine Frz.whole rfl rfl rfl (Nat.le_refl _) (fun v hv=>?_) (fun v hv=>?_)
    ·rw [hV3] at hv;obtain ⟨x,_,rfl⟩:=List.mem_map.1 hv;rfl
    ·rw [hV3] at hv
     obtain ⟨x,hx,hv⟩:=List.mem_flatMap.1 hv
     obtain ⟨y,_,rfl⟩:=List.mem_map.1 hx
     simp [PV.cells] at hv;rcases hv with rfl | rfl <;> exact .int _ _
   ·rw [← hus2];exact .int _ _
  ·rw [if_neg ho] at hbd
   have g1:¬ ((nl.length:Nat):Int)=1:=by omega
   have hnx:=hnx ho
   have hT1:T.length≤1:=by
    have:=hnx.lvl
    simp at this;omega
   have g2:((T.length + 1:Nat):Int)≤12:=by omega
   (repeat refine zc ?_)
   (repeat refine zc ?_);refine za ?_;refine zb (by simp (disch:=omega) only [go_sem,x6,x14,hw,List.length_map] <;> rfl) ?_
   refine zd ?_
   (repeat refine zc ?_)
   (repeat refine zc ?_);refine za ?_;refine zb (by simp (disch:=omega) only [go_sem,x14,g1,List.length_map] <;> rfl) ?_
   refine zd ?_
   refine zD (by simp only [go_sem] <;> rfl) ?_ ?_
   ·intro h;cases h
   intro _
   refine zR ?_;show W _ _ _ _ _ _
   (repeat refine zc ?_)
   refine za ?_
   refine zb (by simp (disch:=omega) only [go_sem,x15,g2] <;> rfl) ?_
   refine zH (by first | rfl | (simp only [go_sem] <;> rfl)) (by simp only [go_sem] <;> rfl) (zcI 3) ?_ ?_;(repeat (first | exact trivial | refine And.intro ?_ ?_ | exact .int _ _ | exact .bool _ | exact .list _ _ _ | exact .elem _ | exact .nilsl | exact .nil _ _ | exact .str _ | refine Frz.aggL ?_ | refine Frz.fnL ?_ | refine Frz.tupL ?_ | refine .iface ?_ | exact zn rfl rfl (by assumption)))
   refine zb (by simp (disch:=omega) only [go_sem] <;> rfl) ?_
   refine zd ?_
   have hkl:((nl.map zo.low).zip bs).length=nl.length:=by simp [v1]
   have hab:=(zqW 1 (T.length + 1) ((nl.map zo.low).zip bs) (by omega) (fun x hx=>(v4 x.2 (List.of_mem_zip hx).2).2)).stays (Lb.nodes _)
   have hflat:∀ l:List Pr,∀ v∈(l.map cv).flatMap PV.cells,Id0 v:=fun l v hv=>by
    obtain ⟨x,hx,hv⟩:=List.mem_flatMap.1 hv
    obtain ⟨y,_,rfl⟩:=List.mem_map.1 hx
    simp [PV.cells] at hv;rcases hv with rfl | rfl <;> exact .int _ _
   (repeat refine zc ?_)
   refine za ?_
   refine zb (by simp (disch:=omega) only [go_sem,h16,x15] <;> rfl) ?_
   refine zH (caps:=?_) (vs:=?_) ?_ ?_ hab ?_ ?_;rotate_left 2;(first | rfl | (simp only [z7,zac,go_sem] <;> rfl));(simp only [go_sem] <;> rfl)
   ·refine ⟨?_,.int _ _,trivial⟩
    refine Frz.whole (e:=138) (z':=2) (G:=N.length) (l:=((nl.map zo.low).zip bs).map cv) ?_ rfl (by rw [hN]) (by rw [hN];exact Nat.le_refl _) (fun v hv=>by obtain ⟨x,_,rfl⟩:=List.mem_map.1 hv;rfl) (hflat _)
    rw [← hN]
    exact gm0 G G3 _
   refine zb (by simp (disch:=omega) only [go_sem] <;> rfl) ?_
   refine zC ?_;simp only [zf,zi,zh,zg,zu,zj,if_true,↓reduceIte]
   (repeat refine zc ?_);refine za ?_;refine zb (by simp (disch:=omega) only [go_sem,x15] <;> rfl) ?_
   refine zC ?_;simp only [zf,zi,zh,zg,zu,zj,if_true,↓reduceIte]
   refine ⟨k,Nat.lt_succ_self _,k,_,used + nl.length,(bs,zai bs nl)::T,0,V2,_,rfl,by omega,?_,hnx,hbd,hus2,hV3,hV2l,by simp [upd,x1],by simp [upd,x4],by simp [upd,x5],by simp [upd,x6],by simp [upd,x7],by simp [upd],?_,trivial,rfl⟩
   ·simp;omega
   ·simp [upd]
theorem f13:ET.funcs.get 13=some T13:=zJ (by kernel_rfl) (by decide)
theorem zn3 (p q:Nat) (a b:List Pr) (ha:zaI a.length) (hb:zaI b.length):FN ET 13 [.list p 2 (a.map zbL),.list q 2 (b.map zbL)] (.ret (.bool (decide (a=b)))):=by
 refine zU f13 (Nat.le_of_ble_eq_true rfl) (.bool _) ?_
 (repeat (first | refine zc ?_ | (refine za ?_;refine zb (by simp (disch:=omega) only [go_sem] <;> rfl) ?_;refine zd ?_)))
 by_cases hl:a.length=b.length
 rotate_left
 ·have g:¬ (a.length:Int)=b.length:=by omega
  have hne:¬ a=b:=fun h=>hl (by rw [h])
  (repeat refine zc ?_)
  refine zD (by simp only [go_sem] <;> rfl) ?_ ?_
  ·intro _
   (repeat (first | refine zc ?_ | (refine za ?_;refine zb (by simp (disch:=omega) only [go_sem] <;> rfl) ?_;refine zd ?_)))
   refine zE ?_;(try simp only [zf,zi,zh,zg,zj]);refine zy (by simp only [T13,zI,go_sem] <;> rfl) ?_;simp only [zK]
   exact zar.bool (decide_eq_false hne).symm
  ·intro h;simp [g] at h
 have g:(a.length:Int)=b.length:=by omega
 (repeat refine zc ?_)
 refine zD (by simp only [go_sem] <;> rfl) ?_ ?_
 ·intro h;simp [g] at h
 intro _
 refine zR ?_;show W _ _ _ _ _ _
 (repeat (first | refine zc ?_ | (refine za ?_;refine zb (by simp (disch:=omega) only [go_sem] <;> rfl) ?_;refine zd ?_)))
 refine zG (zav (fun m s=>∃ i:Nat,m=a.length - i∧i≤a.length∧decide (a=b)=decide (a.drop i=b.drop i)∧s.tm 0=.list p 2 (a.map zbL)∧s.tm 1=.list q 2 (b.map zbL)∧s.tm 5=iv i∧s.df=[]∧s.H=[]) (n:=a.length) ?_ ?_)
 ·exact ⟨0,by simp [upd,zB]⟩
 ·rintro m ⟨tm,df,H⟩ ⟨i,rfl,hi,hd,h0,h1,h5,rfl,rfl⟩
  dsimp only at h0 h1 h5
  (try refine zY ?_);refine zc (za ?_);refine zb (by simp (disch:=omega) only [go_sem,h0,h1,h5,List.length_map] <;> rfl) ?_;refine zd ?_;refine zad (by simp only [go_sem] <;> rfl) ?_ ?_
  ·intro hlt
   have hlt:i < a.length:=by have:=of_decide_eq_true hlt;omega
   have hltb:i < b.length:=by omega
   have hda:a.drop i=a[i]::a.drop (i + 1):=List.drop_eq_getElem_cons hlt
   have hdb:b.drop i=b[i]::b.drop (i + 1):=List.drop_eq_getElem_cons hltb
   have hav:(a.map zbL)[i]?=some (zbL a[i]):=by rw [List.getElem?_map,List.getElem?_eq_getElem hlt];rfl
   have hbv:(b.map zbL)[i]?=some (zbL b[i]):=by rw [List.getElem?_map,List.getElem?_eq_getElem hltb];rfl
   have hee:(decide (((a[i].1:Nat):Int)=(b[i].1:Nat)) && decide (((a[i].2:Nat):Int)=(b[i].2:Nat)))=decide (a[i]=b[i]):=by
    rw [← Bool.decide_and]
    congr 1
    rw [Prod.ext_iff]
    simp only [Int.natCast_inj]
   rw [hda,hdb] at hd
   generalize a[i]=x at *
   generalize b[i]=y at *
   (repeat refine zc ?_)
   refine zG ?_
   (repeat refine zc ?_)
   refine zaS ?_
   refine zX (by first | exact trivial | simp only [go_sem,h0,h1,h5,hav,hbv,hlt,hltb,zgN,List.length_map]) (by simp (disch:=omega) only [go_sem,h0,h1,h5,hav,hbv,hlt,hltb,zgN,List.length_map] <;> rfl) rfl ?_
   refine zaf ?_;simp only [zu,zab,zf,go_sem]
   rw [hee]
   by_cases hx:x=y
   ·refine zD (by simp only [go_sem] <;> rfl) ?_ ?_
    ·rw [decide_eq_true hx];intro h;cases h
    ·intro _
     refine zR ?_
     simp only [zf,zi,zh,zg,zu,zj,if_true,reduceIte]
     (repeat refine zc ?_);refine za ?_;refine zb (by simp (disch:=omega) only [go_sem,h5] <;> rfl) ?_
     refine zC ?_;simp only [zf,zi,zh,zg,zu,zj,if_true,↓reduceIte]
     refine ⟨_,?m,i + 1,rfl,hlt,?_,by simp [upd,h0],by simp [upd,h1],by simp [upd,h5],trivial,trivial⟩
     case m=>omega
     rw [hd];simp only [hx,List.cons.injEq,true_and]
   ·refine zD (by simp only [go_sem] <;> rfl) ?_ ?_
    ·intro _
     (repeat (first | refine zc ?_ | (refine za ?_;refine zb (by simp (disch:=omega) only [go_sem] <;> rfl) ?_;refine zd ?_)))
     refine zE ?_;(try simp only [zf,zi,zh,zg,zj]);refine zy (by simp only [T13,zI,go_sem] <;> rfl) ?_;simp only [zK]
     exact zar.bool (by rw [hd];simp only [List.cons.injEq,hx,false_and,decide_false])
    ·rw [decide_eq_false hx];intro h;cases h
  ·intro hlt
   have hlt:¬ i < a.length:=by have:=of_decide_eq_false hlt;omega
   obtain rfl:i=a.length:=by omega
   simp only [zf,zi,zh,zg,zu,zj,if_true,reduceIte]
   (repeat (first | refine zc ?_ | (refine za ?_;refine zb (by simp (disch:=omega) only [go_sem] <;> rfl) ?_;refine zd ?_)))
   refine zE ?_;(try simp only [zf,zi,zh,zg,zj]);refine zy (by simp only [T13,zI,go_sem] <;> rfl) ?_;simp only [zK]
   refine zar.bool ?_
   rw [hd,List.drop_length,hl,List.drop_length];rfl
theorem f20:ET.funcs.get 20=some T20:=zJ (by kernel_rfl) (by decide)
theorem zmY (p q:Nat) (a b:List Pr) (ha:zaI a.length) (hb:zaI b.length):FN ET 20 [.list p 2 (a.map pv),.list q 2 (b.map pv)] (.ret (.bool (decide (a=b)))):=by
 refine zU f20 (Nat.le_of_ble_eq_true rfl) (.bool _) ?_
 (repeat (first | refine zc ?_ | (refine za ?_;refine zb (by simp (disch:=omega) only [go_sem] <;> rfl) ?_;refine zd ?_)))
 by_cases hl:a.length=b.length
 rotate_left
 ·have g:¬ (a.length:Int)=b.length:=by omega
  have hne:¬ a=b:=fun h=>hl (by rw [h])
  (repeat refine zc ?_)
  refine zD (by simp only [go_sem] <;> rfl) ?_ ?_
  ·intro _
   (repeat (first | refine zc ?_ | (refine za ?_;refine zb (by simp (disch:=omega) only [go_sem] <;> rfl) ?_;refine zd ?_)))
   refine zE ?_;(try simp only [zf,zi,zh,zg,zj]);refine zy (by simp only [T20,zI,go_sem] <;> rfl) ?_;simp only [zK]
   exact zar.bool (decide_eq_false hne).symm
  ·intro h;simp [g] at h
 have g:(a.length:Int)=b.length:=by omega
 (repeat refine zc ?_)
 refine zD (by simp only [go_sem] <;> rfl) ?_ ?_
 ·intro h;simp [g] at h
 intro _
 refine zR ?_;show W _ _ _ _ _ _
 (repeat (first | refine zc ?_ | (refine za ?_;refine zb (by simp (disch:=omega) only [go_sem] <;> rfl) ?_;refine zd ?_)))
 refine zG (zav (fun m s=>∃ i:Nat,m=a.length - i∧i≤a.length∧decide (a=b)=decide (a.drop i=b.drop i)∧s.tm 0=.list p 2 (a.map pv)∧s.tm 1=.list q 2 (b.map pv)∧s.tm 5=iv i∧s.df=[]∧s.H=[]) (n:=a.length) ?_ ?_)
 ·exact ⟨0,by simp [upd,zB]⟩
 ·rintro m ⟨tm,df,H⟩ ⟨i,rfl,hi,hd,h0,h1,h5,rfl,rfl⟩
  dsimp only at h0 h1 h5
  (try refine zY ?_);refine zc (za ?_);refine zb (by simp (disch:=omega) only [go_sem,h0,h1,h5,List.length_map] <;> rfl) ?_;refine zd ?_;refine zad (by simp only [go_sem] <;> rfl) ?_ ?_
  ·intro hlt
   have hlt:i < a.length:=by have:=of_decide_eq_true hlt;omega
   have hltb:i < b.length:=by omega
   have hda:a.drop i=a[i]::a.drop (i + 1):=List.drop_eq_getElem_cons hlt
   have hdb:b.drop i=b[i]::b.drop (i + 1):=List.drop_eq_getElem_cons hltb
   have hav:(a.map pv)[i]?=some (pv a[i]):=by rw [List.getElem?_map,List.getElem?_eq_getElem hlt];rfl
   have hbv:(b.map pv)[i]?=some (pv b[i]):=by rw [List.getElem?_map,List.getElem?_eq_getElem hltb];rfl
   have hee:(decide (((a[i].1:Nat):Int)=(b[i].1:Nat)) && decide (((a[i].2:Nat):Int)=(b[i].2:Nat)))=decide (a[i]=b[i]):=by
    rw [← Bool.decide_and]
    congr 1
    rw [Prod.ext_iff]
    simp only [Int.natCast_inj]
   rw [hda,hdb] at hd
   generalize a[i]=x at *
   generalize b[i]=y at *
   (repeat refine zc ?_)
   refine zG ?_
   (repeat refine zc ?_)
   refine zaS ?_
   refine zX (by first | exact trivial | simp only [go_sem,h0,h1,h5,hav,hbv,hlt,hltb,zgN,List.length_map]) (by simp (disch:=omega) only [go_sem,h0,h1,h5,hav,hbv,hlt,hltb,zgN,List.length_map] <;> rfl) rfl ?_
   refine zaf ?_;simp only [zu,zab,zf,go_sem]
   rw [hee]
   by_cases hx:x=y
   ·refine zD (by simp only [go_sem] <;> rfl) ?_ ?_
    ·rw [decide_eq_true hx];intro h;cases h
    ·intro _
     refine zR ?_
     simp only [zf,zi,zh,zg,zu,zj,if_true,reduceIte]
     (repeat refine zc ?_);refine za ?_;refine zb (by simp (disch:=omega) only [go_sem,h5] <;> rfl) ?_
     refine zC ?_;simp only [zf,zi,zh,zg,zu,zj,if_true,↓reduceIte]
     refine ⟨_,?m,i + 1,rfl,hlt,?_,by simp [upd,h0],by simp [upd,h1],by simp [upd,h5],trivial,trivial⟩
     case m=>omega
     rw [hd];simp only [hx,List.cons.injEq,true_and]
   ·refine zD (by simp only [go_sem] <;> rfl) ?_ ?_
    ·intro _
     (repeat (first | refine zc ?_ | (refine za ?_;refine zb (by simp (disch:=omega) only [go_sem] <;> rfl) ?_;refine zd ?_)))
     refine zE ?_;(try simp only [zf,zi,zh,zg,zj]);refine zy (by simp only [T20,zI,go_sem] <;> rfl) ?_;simp only [zK]
     exact zar.bool (by rw [hd];simp only [List.cons.injEq,hx,false_and,decide_false])
    ·rw [decide_eq_false hx];intro h;cases h
  ·intro hlt
   have hlt:¬ i < a.length:=by have:=of_decide_eq_false hlt;omega
   obtain rfl:i=a.length:=by omega
   simp only [zf,zi,zh,zg,zu,zj,if_true,reduceIte]
   (repeat (first | refine zc ?_ | (refine za ?_;refine zb (by simp (disch:=omega) only [go_sem] <;> rfl) ?_;refine zd ?_)))
   refine zE ?_;(try simp only [zf,zi,zh,zg,zj]);refine zy (by simp only [T20,zI,go_sem] <;> rfl) ?_;simp only [zK]
   refine zar.bool ?_
   rw [hd,List.drop_length,hl,List.drop_length];rfl
theorem f15:ET.funcs.get 15=some T15:=zJ (by kernel_rfl) (by decide)
theorem znD (e:Int):FN ET 15 [iv e] (.ret (iv e)):=by
 refine zU f15 (Nat.le_of_ble_eq_true rfl) (.int _ _) ?_
 (repeat (first | refine zc ?_ | (refine za ?_;refine zb (by simp (disch:=omega) only [go_sem] <;> rfl) ?_;refine zd ?_)))
 refine zE ?_
 exact ⟨[iv e],rfl,Frz.int _ _⟩
theorem f99:ET.funcs.get 99=some T99:=zJ (by kernel_rfl) (by decide)
theorem zcV (x:Nat):FN ET 99 [iv 0,uv x] (.ret (.bool (decide (1≤x) && decide (x≤1099511627776)))):=by
 refine zU f99 (Nat.le_of_ble_eq_true rfl) (.bool _) ?_
 (repeat (first | refine zc ?_ | (refine za ?_;refine zb (by simp (disch:=omega) only [go_sem] <;> rfl) ?_;refine zd ?_)))
 (repeat refine zc ?_)
 refine zD (by simp only [go_sem] <;> rfl) ?_ ?_
 rotate_left
 ·intro h;cases h
 intro _
 by_cases b1:1≤x
 ·have a1:(1:Int)≤x:=by omega
  by_cases b2:x≤1099511627776
  ·have a2:(x:Int)≤1099511627776:=by omega
   (repeat (first | refine zc ?_ | (refine za ?_;refine zb (by simp (disch:=omega) only [go_sem,a1,a2] <;> rfl) ?_;refine zd ?_)))
   refine zE ?_;(try simp only [zf,zi,zh,zg,zj]);refine zy (by simp only [T99,zI,go_sem] <;> rfl) ?_;simp only [zK]
   exact zar.bool (by simp [b1,b2])
  ·have a2:¬ (x:Int)≤1099511627776:=by omega
   (repeat (first | refine zc ?_ | (refine za ?_;refine zb (by simp (disch:=omega) only [go_sem,a1,a2] <;> rfl) ?_;refine zd ?_)))
   refine zE ?_;(try simp only [zf,zi,zh,zg,zj]);refine zy (by simp only [T99,zI,go_sem] <;> rfl) ?_;simp only [zK]
   exact zar.bool (by simp [b1,b2])
 ·have a1:¬ (1:Int)≤x:=by omega
  (repeat (first | refine zc ?_ | (refine za ?_;refine zb (by simp (disch:=omega) only [go_sem,a1] <;> rfl) ?_;refine zd ?_)))
  refine zE ?_;(try simp only [zf,zi,zh,zg,zj]);refine zy (by simp only [T99,zI,go_sem] <;> rfl) ?_;simp only [zK]
  exact zar.bool (by simp [b1])
theorem f52:ET.funcs.get 52=some T52:=zJ (by kernel_rfl) (by decide)
theorem zrQ (n:Nat) (hn:n≤500):FN ET 52 [iv n] (.ret (iv (zff n:Nat))):=by
 refine zU f52 (Nat.le_of_ble_eq_true rfl) (.int _ _) ?_
 have q1:IntKind.i64.wrap (((n:Int) + 17).tdiv 18)=(((n + 17) / 18:Nat):Int):=by rw [show (n:Int) + 17=((n + 17:Nat):Int) by omega,IntWalk.i64_quo _ _ (by omega)];omega
 have hm:max (1:Int) (((n + 17) / 18:Nat):Int)=((max 1 ((n + 17) / 18):Nat):Int):=by omega
 (repeat (first | refine zc ?_ | (refine za ?_;refine zb (by simp (disch:=omega) only [go_sem,q1,hm] <;> rfl) ?_;refine zd ?_)))
 refine zG (zav (fun m s=>∃ (t m' c:Nat),m=m'∧t≤2∧1≤m'∧m'≤bndL t∧c≤10000 * (t + 1)∧zff n + m'=c + zec (4 - t) m'∧s.tm 3=iv m'∧s.tm 4=iv c∧s.df=[]∧s.H=[]) (n:=max 1 ((n + 17) / 18)) ?_ ?_)
 ·exact ⟨0,_,_,rfl,by decide,by omega,by simp [bndL];omega,by omega,Nat.add_comm _ _,by simp [upd],by simp [upd],rfl,rfl⟩
 ·rintro m ⟨tm,df,H⟩ ⟨t,m',c,rfl,ht,h1,hb,hc,hn,h3,h4,rfl,rfl⟩
  dsimp only at h3 h4
  (try refine zY ?_);refine zc (za ?_);refine zb (by simp (disch:=omega) only [go_sem,h3,h4] <;> rfl) ?_;refine zd ?_;refine zad (by simp only [go_sem] <;> rfl) ?_ ?_
  ·intro hlt
   have hlt:1 < m:=by have:=of_decide_eq_true hlt;omega
   have q2:IntKind.i64.wrap (((m:Int) + 18).tdiv 19)=(((m + 18) / 19:Nat):Int):=by
    have:m≤28:=Nat.le_trans hb (by match t with | 0=>decide | 1=>decide | t + 2=>exact (show 1≤28 by decide))
    rw [show (m:Int) + 18=((m + 18:Nat):Int) by omega,IntWalk.i64_quo _ _ (by omega)];omega
   have hm28:m≤28:=Nat.le_trans hb (by match t with | 0=>decide | 1=>decide | t + 2=>exact (show 1≤28 by decide))
   have q3:IntKind.i64.wrap ((c:Int) + (((m + 18) / 19:Nat):Int))=((c + (m + 18) / 19:Nat):Int):=by rw [wrap_i64 (by omega) (by omega)];omega
   (repeat refine zc ?_)
   refine zG ?_
   (repeat refine zc ?_)
   (repeat refine zc ?_);refine za ?_;refine zb (by simp (disch:=omega) only [go_sem,h3,q2] <;> rfl) ?_
   refine zd ?_
   (repeat refine zc ?_);refine za ?_;refine zb (by simp (disch:=omega) only [go_sem,h3,h4,q3] <;> rfl) ?_
   refine zC ?_;simp only [zf,zi,zh,zg,zu,zj,if_true,↓reduceIte]
   refine ⟨(m + 18) / 19,by omega,t + 1,(m + 18) / 19,c + (m + 18) / 19,rfl,?_,by omega,?_,by omega,?_,by simp [upd],by simp [upd],trivial,trivial⟩
   ·match t,ht,hb with
    | 0,_,_=>decide
    | 1,_,_=>decide
    | 2,_,hb=>simp [bndL] at hb;omega
   ·match t,ht,hb with
    | 0,_,hb=>simp [bndL] at hb ⊢;omega
    | 1,_,hb=>simp [bndL] at hb ⊢;omega
    | 2,_,hb=>simp [bndL] at hb;omega
   ·have e:4 - t=(4 - (t + 1)) + 1:=by omega
    rw [e,zec,if_neg (by omega)] at hn
    omega
  ·intro hlt
   have hlt:¬ 1 < m:=by have:=of_decide_eq_false hlt;omega
   obtain rfl:m=1:=by omega
   simp only [zf,zi,zh,zg,zu,zj,if_true,reduceIte]
   (repeat (first | refine zc ?_ | (refine za ?_;refine zb (by simp (disch:=omega) only [go_sem,h4] <;> rfl) ?_;refine zd ?_)))
   refine zE ?_;(try simp only [zf,zi,zh,zg,zj]);refine zy (by simp only [T52,zI,go_sem] <;> rfl) ?_;simp only [zK]
   have e:4 - t=(3 - t) + 1:=by omega
   rw [e,zec,if_pos rfl] at hn
   have:zff n=c:=by omega
   rw [this]
   exact Frz.int _ _
theorem f71:ET.funcs.get 71=some T71:=zJ (by kernel_rfl) (by decide)
theorem zlt:∀ (l s t:List Int),(∀ b,b∈s↔b∈t)→okI s l=okI t l
 | [],_,_,_=>rfl
 | b::l,s,t,h=>by
  rw [okI,okI,zlt l (b::s) (b::t) fun c=>by simp [h c]]
  congr 3
  rw [Bool.eq_iff_iff,List.contains_iff_mem,List.contains_iff_mem]
  exact h b
theorem zoa (p:Nat) (l:List Int) (hl:l.length < 1000000):FN ET 71 [.list p 1 (l.map iv)] (.ret (.bool (okI [] l))):=by
 refine zU f71 (Nat.le_of_ble_eq_true rfl) (.bool _) ?_
 (repeat (first | refine zc ?_ | (refine za ?_;refine zb (by simp (disch:=omega) only [go_sem] <;> rfl) ?_;refine zd ?_)))
 refine zG (zav (fun m s=>∃ i:Nat,m=l.length - i∧i≤l.length∧okI [] l=okI (l.take i) (l.drop i)∧s.tm 0=.list p 1 (l.map iv)∧s.tm 3=iv i∧s.df=[]∧s.H=[]) (n:=l.length) ?_ ?_)
 ·exact ⟨0,by simp [upd,zB]⟩
 ·rintro m ⟨tm,df,H⟩ ⟨i,rfl,hi,hd,h0,h3,rfl,rfl⟩
  dsimp only at h0 h3
  (try refine zY ?_);refine zc (za ?_);refine zb (by simp (disch:=omega) only [go_sem,h0,h3,List.length_map] <;> rfl) ?_;refine zd ?_;refine zad (by simp only [go_sem] <;> rfl) ?_ ?_
  rotate_left
  ·intro hlt
   have hlt:¬ i < l.length:=by have:=of_decide_eq_false hlt;omega
   obtain rfl:i=l.length:=by omega
   simp only [zf,zi,zh,zg,zu,zj,if_true,reduceIte]
   (repeat (first | refine zc ?_ | (refine za ?_;refine zb (by simp (disch:=omega) only [go_sem] <;> rfl) ?_;refine zd ?_)))
   refine zE ?_;(try simp only [zf,zi,zh,zg,zj]);refine zy (by simp only [T71,zI,go_sem] <;> rfl) ?_;simp only [zK]
   refine zar.bool ?_
   rw [hd,List.drop_length];rfl
  intro hlt
  have hlt:i < l.length:=by have:=of_decide_eq_true hlt;omega
  obtain ⟨x,hx⟩:∃ x,l[i]?=some x:=⟨_,List.getElem?_eq_getElem hlt⟩
  have hxv:(l.map iv)[i]?=some (iv x):=by rw [List.getElem?_map,hx];rfl
  have hdx:l.drop i=x::l.drop (i + 1):=by rw [List.drop_eq_getElem_cons hlt];obtain ⟨_,e⟩:=List.getElem?_eq_some_iff.1 hx;rw [e]
  rw [hdx,okI] at hd
  have hle:i≤l.length:=hi
  have htk:(l.map iv).take i=(l.take i).map iv:=by rw [List.map_take]
  have hhas:=ztB p (l.take i) x (by rw [List.length_take];omega)
  (repeat refine zc ?_)
  refine zG ?_
  (repeat refine zc ?_)
  refine zaS ?_
  by_cases b1:x < 1
  ·refine zf9 (by first | exact trivial | simp only [go_sem,h0,h3,hxv,hlt,b1,List.length_map]) (by simp (disch:=omega) only [go_sem,h0,h3,hxv,hlt,b1,List.length_map] <;> rfl) rfl (by simp only [go_sem,h0,h3,hxv,hlt,b1,List.length_map] <;> rfl) (by simp only [go_sem] <;> rfl) ?_
   refine zX (by first | exact trivial | simp only [go_sem,h0]) (by simp (disch:=omega) only [go_sem,h0] <;> rfl) rfl ?_
   refine zaf ?_;simp only [zu,zab,zf,go_sem]
   refine zD (by simp only [go_sem] <;> rfl) ?_ ?_
   ·intro _
    (repeat (first | refine zc ?_ | (refine za ?_;refine zb (by simp (disch:=omega) only [go_sem] <;> rfl) ?_;refine zd ?_)))
    refine zE ?_;(try simp only [zf,zi,zh,zg,zj]);refine zy (by simp only [T71,zI,go_sem] <;> rfl) ?_;simp only [zK]
    refine zar.bool ?_
    rw [hd];simp;omega
   ·intro h;cases h
  by_cases b2:2047 < x
  ·refine zf9 (by first | exact trivial | simp only [go_sem,h0,h3,hxv,hlt,b1,b2,List.length_map]) (by simp (disch:=omega) only [go_sem,h0,h3,hxv,hlt,b1,b2,List.length_map] <;> rfl) rfl (by simp only [go_sem,h0,h3,hxv,hlt,b1,b2,List.length_map] <;> rfl) (by simp only [go_sem] <;> rfl) ?_
   refine zX (by first | exact trivial | simp only [go_sem,h0]) (by simp (disch:=omega) only [go_sem,h0] <;> rfl) rfl ?_
   refine zaf ?_;simp only [zu,zab,zf,go_sem]
   refine zD (by simp only [go_sem] <;> rfl) ?_ ?_
   ·intro _
    (repeat (first | refine zc ?_ | (refine za ?_;refine zb (by simp (disch:=omega) only [go_sem] <;> rfl) ?_;refine zd ?_)))
    refine zE ?_;(try simp only [zf,zi,zh,zg,zj]);refine zy (by simp only [T71,zI,go_sem] <;> rfl) ?_;simp only [zK]
    refine zar.bool ?_
    rw [hd];simp;omega
   ·intro h;cases h
  refine zbn (by first | exact trivial | simp only [go_sem,h0,h3,hxv,hlt,hle,b1,b2,htk,List.length_map]) (by simp (disch:=omega) only [go_sem,h0,h3,hxv,hlt,hle,b1,b2,htk,List.length_map] <;> rfl) rfl rfl (by first | rfl | (simp only [go_sem] <;> rfl)) (by simp only [go_sem,h0,h3,hxv,hlt,hle,b1,b2,htk,List.length_map] <;> rfl) hhas ?_ (by simp only [go_sem] <;> rfl) ?_;(repeat (first | exact trivial | refine And.intro ?_ ?_ | exact .int _ _ | exact .bool _ | exact .list _ _ _ | exact .elem _ | exact .nilsl | exact .nil _ _ | exact .str _ | refine Frz.aggL ?_ | refine Frz.fnL ?_ | refine Frz.tupL ?_ | refine .iface ?_ | exact zn rfl rfl (by assumption)))
  refine zX (by first | exact trivial | simp only [go_sem,h0]) (by simp (disch:=omega) only [go_sem,h0] <;> rfl) rfl ?_
  refine zaf ?_;simp only [zu,zab,zf,go_sem]
  by_cases hc:(l.take i).contains x=true
  ·refine zD (by simp only [go_sem,hc] <;> rfl) ?_ ?_
   ·intro _
    (repeat (first | refine zc ?_ | (refine za ?_;refine zb (by simp (disch:=omega) only [go_sem] <;> rfl) ?_;refine zd ?_)))
    refine zE ?_;(try simp only [zf,zi,zh,zg,zj]);refine zy (by simp only [T71,zI,go_sem] <;> rfl) ?_;simp only [zK]
    refine zar.bool ?_
    rw [hd,hc];simp
   ·intro h;cases h
  have hc:(l.take i).contains x=false:=by simpa using hc
  refine zD (by simp only [go_sem,hc] <;> rfl) ?_ ?_
  ·intro h;cases h
  intro _
  refine zR ?_
  simp only [zf,zi,zh,zg,zu,zj,if_true,reduceIte]
  (repeat refine zc ?_);refine za ?_;refine zb (by simp (disch:=omega) only [go_sem,h3] <;> rfl) ?_
  refine zC ?_;simp only [zf,zi,zh,zg,zu,zj,if_true,↓reduceIte]
  refine ⟨_,?m,i + 1,rfl,hlt,?_,by simp [upd,h0],by simp [upd,h3],trivial,trivial⟩
  case m=>omega
  rw [hd,hc]
  have:l.take (i + 1)=l.take i++[x]:=by rw [List.take_add_one,hx];rfl
  rw [this,zlt _ (x::l.take i) (l.take i++[x]) fun b=>by simp [or_comm]]
  have e1:decide (1≤x)=true:=by simp;omega
  have e2:decide (x < 2048)=true:=by simp;omega
  rw [e1,e2];simp
theorem f53:ET.funcs.get 53=some T53:=zJ (by kernel_rfl) (by decide)
set_option maxHeartbeats 4000000 in
theorem zoj (p:Nat) (l:List Pr) (hl:l.length < 1000000):FN ET 53 [psv p l] (.ret (.bool (okP l))):=by
 refine zU f53 (Nat.le_of_ble_eq_true rfl) (.bool _) ?_
 (repeat (first | refine zc ?_ | (refine za ?_;refine zb (by simp (disch:=omega) only [go_sem] <;> rfl) ?_;refine zd ?_)))
 refine zG (zav (fun m s=>∃ (i:Nat) (seen:List Nat) (mo:zk),m=l.length - i∧i≤l.length∧zin mo seen∧okP l=ze4 seen (zcz l i) (l.drop i)∧s.tm 0=psv p l∧s.tm 3=.map 0∧s.tm 4=iv i∧s.df=[]∧s.H=[mo]) (n:=l.length) ?_ ?_)
 ·exact ⟨0,[],.map0,rfl,Nat.zero_le _,.inl ⟨rfl,rfl⟩,(zkD l).symm,by simp [upd,zB],by simp [upd],by simp [upd],rfl,rfl⟩
 ·rintro m ⟨tm,df,H⟩ ⟨i,seen,mo,rfl,hi,hs,hd,h0,h3,h4,rfl,rfl⟩
  dsimp only at h0 h3 h4
  (try refine zY ?_);refine zc (za ?_);refine zb (by simp (disch:=omega) only [go_sem,h0,h4,List.length_map] <;> rfl) ?_;refine zd ?_;refine zad (by simp only [go_sem] <;> rfl) ?_ ?_
  rotate_left
  ·intro hlt
   have hlt:¬ i < l.length:=by have:=of_decide_eq_false hlt;omega
   obtain rfl:i=l.length:=by omega
   simp only [zf,zi,zh,zg,zu,zj,if_true,reduceIte]
   (repeat (first | refine zc ?_ | (refine za ?_;refine zb (by simp (disch:=omega) only [go_sem] <;> rfl) ?_;refine zd ?_)))
   refine zE ?_;(try simp only [zf,zi,zh,zg,zj]);refine zy (by simp only [T53,zI,go_sem] <;> rfl) ?_;simp only [zK]
   refine zar.bool ?_
   rw [hd,List.drop_length];rfl
  intro hlt
  have hlt:i < l.length:=by have:=of_decide_eq_true hlt;omega
  obtain ⟨x,hx⟩:∃ x,l[i]?=some x:=⟨_,List.getElem?_eq_getElem hlt⟩
  have hxv:(l.map pv)[i]?=some (pv x):=by rw [List.getElem?_map,hx];rfl
  have hdx:l.drop i=x::l.drop (i + 1):=by rw [List.drop_eq_getElem_cons hlt];obtain ⟨_,e⟩:=List.getElem?_eq_some_iff.1 hx;rw [e]
  rw [hdx,ze4] at hd
  have hpk:some x.1=zcz l (i + 1):=by unfold zcz;rw [if_neg (by omega),Nat.add_sub_cancel,List.getD_eq_getElem?_getD,hx];rfl
  rw [hpk] at hd
  (repeat refine zc ?_)
  refine zG ?_
  (repeat refine zc ?_)
  refine zdH (Q:=fun y s'=>y=.norm∧s'.tm 46=.bool (!zbH seen (zcz l i) x)∧s'.tm 0=psv p l∧s'.tm 3=.map 0∧s'.tm 4=iv i∧s'.df=[]∧s'.H=[mo]) (zaS ?_) ?_
  ·by_cases b0:(decide (1≤x.2) && decide (x.2≤1099511627776))=true
   rotate_left
   ·have b0:(decide (1≤x.2) && decide (x.2≤1099511627776))=false:=by simpa using b0
    refine zbn (by first | exact trivial | simp only [go_sem,h0,h3,h4,hxv,hlt,List.length_map,b0]) (by simp (disch:=omega) only [go_sem,h0,h3,h4,hxv,hlt,List.length_map,b0] <;> rfl) rfl rfl (by first | rfl | (simp only [go_sem] <;> rfl)) (by simp only [go_sem,h0,h3,h4,hxv,hlt,List.length_map,b0] <;> rfl) (zcV x.2) ?_ (by simp only [go_sem] <;> rfl) ?_;(repeat (first | exact trivial | refine And.intro ?_ ?_ | exact .int _ _ | exact .bool _ | exact .list _ _ _ | exact .elem _ | exact .nilsl | exact .nil _ _ | exact .str _ | refine Frz.aggL ?_ | refine Frz.fnL ?_ | refine Frz.tupL ?_ | refine .iface ?_ | exact zn rfl rfl (by assumption)))
    refine zX (by first | exact trivial | simp only [go_sem,h0,h3,h4,hxv,hlt,List.length_map,b0]) (by simp (disch:=omega) only [go_sem,h0,h3,h4,hxv,hlt,List.length_map,b0] <;> rfl) rfl ?_
    refine zaf ?_;simp only [zu,zab,zf,go_sem]
    exact ⟨by simp [zbH,b0],h0,h3,h4⟩
   have b1:1≤x.2:=by simp at b0;exact b0.1
   have b2:x.2≤1099511627776:=by simp at b0;exact b0.2
   by_cases b3:i=0
   ·subst b3
    rcases hs with ⟨rfl,rfl⟩ | ⟨mm,rfl,hmm⟩
    ·skip
     refine zbn (by first | exact trivial | simp only [go_sem,h0,h3,h4,hxv,hlt,List.length_map,b0]) (by simp (disch:=omega) only [go_sem,h0,h3,h4,hxv,hlt,List.length_map,b0] <;> rfl) rfl rfl (by first | rfl | (simp only [go_sem] <;> rfl)) (by simp only [go_sem,h0,h3,h4,hxv,hlt,List.length_map,b0] <;> rfl) (zcV x.2) ?_ (by simp only [go_sem] <;> rfl) ?_;(repeat (first | exact trivial | refine And.intro ?_ ?_ | exact .int _ _ | exact .bool _ | exact .list _ _ _ | exact .elem _ | exact .nilsl | exact .nil _ _ | exact .str _ | refine Frz.aggL ?_ | refine Frz.fnL ?_ | refine Frz.tupL ?_ | refine .iface ?_ | exact zn rfl rfl (by assumption)))
     refine zX (by first | exact trivial | simp only [go_sem,h0,h3,h4,hxv,hlt,List.length_map,b0]) (by simp (disch:=omega) only [go_sem,h0,h3,h4,hxv,hlt,List.length_map,b0] <;> rfl) rfl ?_
     refine zaf ?_;simp only [zu,zab,zf,go_sem]
     exact ⟨by simp [zbH,b1,b2,zcz,zct],h0,h3,h4⟩
    ·have hq:=hmm x.2
     by_cases hc:seen.contains x.2=true
     ·rw [if_pos hc] at hq
      have hc2:x.2∈seen:=by simpa using hc
      refine zbn (by first | exact trivial | simp only [go_sem,h0,h3,h4,hxv,hlt,List.length_map,b0,hq]) (by simp (disch:=omega) only [go_sem,h0,h3,h4,hxv,hlt,List.length_map,b0,hq] <;> rfl) rfl rfl (by first | rfl | (simp only [go_sem] <;> rfl)) (by simp only [go_sem,h0,h3,h4,hxv,hlt,List.length_map,b0,hq] <;> rfl) (zcV x.2) ?_ (by simp only [go_sem] <;> rfl) ?_;(repeat (first | exact trivial | refine And.intro ?_ ?_ | exact .int _ _ | exact .bool _ | exact .list _ _ _ | exact .elem _ | exact .nilsl | exact .nil _ _ | exact .str _ | refine Frz.aggL ?_ | refine Frz.fnL ?_ | refine Frz.tupL ?_ | refine .iface ?_ | exact zn rfl rfl (by assumption)))
      refine zX (by first | exact trivial | simp only [go_sem,h0,h3,h4,hxv,hlt,List.length_map,b0,hq]) (by simp (disch:=omega) only [go_sem,h0,h3,h4,hxv,hlt,List.length_map,b0,hq] <;> rfl) rfl ?_
      refine zaf ?_;simp only [zu,zab,zf,go_sem]
      exact ⟨by simp [zbH,b1,b2,zcz,zct,hc2],h0,h3,h4⟩
     ·rw [if_neg hc] at hq
      have hc2:¬ x.2∈seen:=by simpa using hc
      refine zbn (by first | exact trivial | simp only [go_sem,h0,h3,h4,hxv,hlt,List.length_map,b0,hq]) (by simp (disch:=omega) only [go_sem,h0,h3,h4,hxv,hlt,List.length_map,b0,hq] <;> rfl) rfl rfl (by first | rfl | (simp only [go_sem] <;> rfl)) (by simp only [go_sem,h0,h3,h4,hxv,hlt,List.length_map,b0,hq] <;> rfl) (zcV x.2) ?_ (by simp only [go_sem] <;> rfl) ?_;(repeat (first | exact trivial | refine And.intro ?_ ?_ | exact .int _ _ | exact .bool _ | exact .list _ _ _ | exact .elem _ | exact .nilsl | exact .nil _ _ | exact .str _ | refine Frz.aggL ?_ | refine Frz.fnL ?_ | refine Frz.tupL ?_ | refine .iface ?_ | exact zn rfl rfl (by assumption)))
      refine zX (by first | exact trivial | simp only [go_sem,h0,h3,h4,hxv,hlt,List.length_map,b0,hq]) (by simp (disch:=omega) only [go_sem,h0,h3,h4,hxv,hlt,List.length_map,b0,hq] <;> rfl) rfl ?_
      refine zaf ?_;simp only [zu,zab,zf,go_sem]
      exact ⟨by simp [zbH,b1,b2,zcz,zct,hc2],h0,h3,h4⟩
   have hi0:(0:Int) < (i:Int):=by omega
   have hi1:IntKind.i64.wrap ((i:Int) - 1)=((i - 1:Nat):Int):=by rw [wrap_i64 (by omega) (by omega)];omega
   have hil:i - 1 < l.length:=by omega
   have hpv:(l.map pv)[i - 1]?=some (pv (l.getD (i - 1) (0,0))):=by rw [List.getElem?_map,get_lt l hil];rfl
   have hpk2:zcz l i=some (l.getD (i - 1) (0,0)).1:=by unfold zcz;rw [if_neg b3]
   generalize l.getD (i - 1) (0,0)=pr at hpv hpk2
   by_cases b4:pr.1 < x.1
   ·have hkey:¬ ((x.1:Nat):Int)≤(pr.1:Nat):=by omega
    rcases hs with ⟨rfl,rfl⟩ | ⟨mm,rfl,hmm⟩
    ·skip
     refine zbn (by first | exact trivial | simp only [go_sem,h0,h3,h4,hxv,hlt,List.length_map,b0,hi0,hi1,hil,hpv,hkey]) (by simp (disch:=omega) only [go_sem,h0,h3,h4,hxv,hlt,List.length_map,b0,hi0,hi1,hil,hpv,hkey] <;> rfl) rfl rfl (by first | rfl | (simp only [go_sem] <;> rfl)) (by simp only [go_sem,h0,h3,h4,hxv,hlt,List.length_map,b0,hi0,hi1,hil,hpv,hkey] <;> rfl) (zcV x.2) ?_ (by simp only [go_sem] <;> rfl) ?_;(repeat (first | exact trivial | refine And.intro ?_ ?_ | exact .int _ _ | exact .bool _ | exact .list _ _ _ | exact .elem _ | exact .nilsl | exact .nil _ _ | exact .str _ | refine Frz.aggL ?_ | refine Frz.fnL ?_ | refine Frz.tupL ?_ | refine .iface ?_ | exact zn rfl rfl (by assumption)))
     refine zX (by first | exact trivial | simp only [go_sem,h0,h3,h4,hxv,hlt,List.length_map,b0,hi0,hi1,hil,hpv,hkey]) (by simp (disch:=omega) only [go_sem,h0,h3,h4,hxv,hlt,List.length_map,b0,hi0,hi1,hil,hpv,hkey] <;> rfl) rfl ?_
     refine zaf ?_;simp only [zu,zab,zf,go_sem]
     exact ⟨by simp [zbH,b1,b2,hpk2,zct,b4],h0,h3,h4⟩
    ·have hq:=hmm x.2
     by_cases hc:seen.contains x.2=true
     ·rw [if_pos hc] at hq
      have hc2:x.2∈seen:=by simpa using hc
      refine zbn (by first | exact trivial | simp only [go_sem,h0,h3,h4,hxv,hlt,List.length_map,b0,hi0,hi1,hil,hpv,hkey,hq]) (by simp (disch:=omega) only [go_sem,h0,h3,h4,hxv,hlt,List.length_map,b0,hi0,hi1,hil,hpv,hkey,hq] <;> rfl) rfl rfl (by first | rfl | (simp only [go_sem] <;> rfl)) (by simp only [go_sem,h0,h3,h4,hxv,hlt,List.length_map,b0,hi0,hi1,hil,hpv,hkey,hq] <;> rfl) (zcV x.2) ?_ (by simp only [go_sem] <;> rfl) ?_;(repeat (first | exact trivial | refine And.intro ?_ ?_ | exact .int _ _ | exact .bool _ | exact .list _ _ _ | exact .elem _ | exact .nilsl | exact .nil _ _ | exact .str _ | refine Frz.aggL ?_ | refine Frz.fnL ?_ | refine Frz.tupL ?_ | refine .iface ?_ | exact zn rfl rfl (by assumption)))
      refine zX (by first | exact trivial | simp only [go_sem,h0,h3,h4,hxv,hlt,List.length_map,b0,hi0,hi1,hil,hpv,hkey,hq]) (by simp (disch:=omega) only [go_sem,h0,h3,h4,hxv,hlt,List.length_map,b0,hi0,hi1,hil,hpv,hkey,hq] <;> rfl) rfl ?_
      refine zaf ?_;simp only [zu,zab,zf,go_sem]
      exact ⟨by simp [zbH,b1,b2,hpk2,zct,b4,hc2],h0,h3,h4⟩
     ·rw [if_neg hc] at hq
      have hc2:¬ x.2∈seen:=by simpa using hc
      refine zbn (by first | exact trivial | simp only [go_sem,h0,h3,h4,hxv,hlt,List.length_map,b0,hi0,hi1,hil,hpv,hkey,hq]) (by simp (disch:=omega) only [go_sem,h0,h3,h4,hxv,hlt,List.length_map,b0,hi0,hi1,hil,hpv,hkey,hq] <;> rfl) rfl rfl (by first | rfl | (simp only [go_sem] <;> rfl)) (by simp only [go_sem,h0,h3,h4,hxv,hlt,List.length_map,b0,hi0,hi1,hil,hpv,hkey,hq] <;> rfl) (zcV x.2) ?_ (by simp only [go_sem] <;> rfl) ?_;(repeat (first | exact trivial | refine And.intro ?_ ?_ | exact .int _ _ | exact .bool _ | exact .list _ _ _ | exact .elem _ | exact .nilsl | exact .nil _ _ | exact .str _ | refine Frz.aggL ?_ | refine Frz.fnL ?_ | refine Frz.tupL ?_ | refine .iface ?_ | exact zn rfl rfl (by assumption)))
      refine zX (by first | exact trivial | simp only [go_sem,h0,h3,h4,hxv,hlt,List.length_map,b0,hi0,hi1,hil,hpv,hkey,hq]) (by simp (disch:=omega) only [go_sem,h0,h3,h4,hxv,hlt,List.length_map,b0,hi0,hi1,hil,hpv,hkey,hq] <;> rfl) rfl ?_
      refine zaf ?_;simp only [zu,zab,zf,go_sem]
      exact ⟨by simp [zbH,b1,b2,hpk2,zct,b4,hc2],h0,h3,h4⟩
   ·have hkey:((x.1:Nat):Int)≤(pr.1:Nat):=by omega
    refine zbn (by first | exact trivial | simp only [go_sem,h0,h3,h4,hxv,hlt,List.length_map,b0,hi0,hi1,hil,hpv,hkey]) (by simp (disch:=omega) only [go_sem,h0,h3,h4,hxv,hlt,List.length_map,b0,hi0,hi1,hil,hpv,hkey] <;> rfl) rfl rfl (by first | rfl | (simp only [go_sem] <;> rfl)) (by simp only [go_sem,h0,h3,h4,hxv,hlt,List.length_map,b0,hi0,hi1,hil,hpv,hkey] <;> rfl) (zcV x.2) ?_ (by simp only [go_sem] <;> rfl) ?_;(repeat (first | exact trivial | refine And.intro ?_ ?_ | exact .int _ _ | exact .bool _ | exact .list _ _ _ | exact .elem _ | exact .nilsl | exact .nil _ _ | exact .str _ | refine Frz.aggL ?_ | refine Frz.fnL ?_ | refine Frz.tupL ?_ | refine .iface ?_ | exact zn rfl rfl (by assumption)))
    refine zX (by first | exact trivial | simp only [go_sem,h0,h3,h4,hxv,hlt,List.length_map,b0,hi0,hi1,hil,hpv,hkey]) (by simp (disch:=omega) only [go_sem,h0,h3,h4,hxv,hlt,List.length_map,b0,hi0,hi1,hil,hpv,hkey] <;> rfl) rfl ?_
    refine zaf ?_;simp only [zu,zab,zf,go_sem]
    exact ⟨by simp [zbH,b1,b2,hpk2,zct,b4],h0,h3,h4⟩
  clear h0 h3 h4
  rintro y ⟨tm,df,H⟩ ⟨rfl,h46,h0,h3,h4,rfl,rfl⟩
  dsimp only at h46 h0 h3 h4
  simp only [zf,zi,zh,zg,zu,zj,if_true,reduceIte]
  by_cases hst:zbH seen (zcz l i) x=true
  rotate_left
  ·have hst:zbH seen (zcz l i) x=false:=by simpa using hst
   refine zD (by simp only [go_sem,h46] <;> rfl) ?_ ?_
   ·intro _
    (repeat (first | refine zc ?_ | (refine za ?_;refine zb (by simp (disch:=omega) only [go_sem] <;> rfl) ?_;refine zd ?_)))
    refine zE ?_;(try simp only [zf,zi,zh,zg,zj]);refine zy (by simp only [T53,zI,go_sem] <;> rfl) ?_;simp only [zK]
    refine zar.bool ?_
    rw [hd,hst];rfl
   ·rw [hst];intro h;cases h
  rw [hst,Bool.true_and] at hd
  refine zD (by simp only [go_sem,h46] <;> rfl) ?_ ?_
  ·rw [hst];intro h;cases h
  intro _
  refine zR ?_;show W _ _ _ _ _ _
  rcases hs with ⟨rfl,rfl⟩ | ⟨mm,rfl,hmm⟩
  ·(repeat refine zc ?_);refine za ?_;refine zb (by simp (disch:=omega) only [go_sem,h0,h3,h4,hxv,hlt,List.length_map] <;> rfl) ?_
   refine zC ?_;simp only [zf,zi,zh,zg,zu,zj,if_true,↓reduceIte]
   (repeat refine zc ?_);refine za ?_;refine zb (by simp (disch:=omega) only [go_sem,h4] <;> rfl) ?_
   refine zC ?_;simp only [zf,zi,zh,zg,zu,zj,if_true,↓reduceIte]
   refine ⟨_,?m1,i + 1,[x.2],_,rfl,hlt,.inr ⟨_,rfl,fun q=>?_⟩,hd,by simp [upd,h0],by simp [upd,h3],by simp [upd,h4],trivial,rfl⟩
   case m1=>omega
   by_cases hq:q=x.2
   ·subst hq;simp
   ·have:¬ (q:Int)=x.2:=by omega
    simp [hq,this]
  ·(repeat refine zc ?_);refine za ?_;refine zb (by simp (disch:=omega) only [go_sem,h0,h3,h4,hxv,hlt,List.length_map] <;> rfl) ?_
   refine zC ?_;simp only [zf,zi,zh,zg,zu,zj,if_true,↓reduceIte]
   (repeat refine zc ?_);refine za ?_;refine zb (by simp (disch:=omega) only [go_sem,h4] <;> rfl) ?_
   refine zC ?_;simp only [zf,zi,zh,zg,zu,zj,if_true,↓reduceIte]
   refine ⟨_,?m2,i + 1,x.2::seen,_,rfl,hlt,.inr ⟨_,rfl,fun q=>?_⟩,hd,by simp [upd,h0],by simp [upd,h3],by simp [upd,h4],trivial,rfl⟩
   case m2=>omega
   by_cases hq:q=x.2
   ·subst hq;simp
   ·have:¬ (q:Int)=x.2:=by omega
    rw [if_neg this,hmm q];simp [hq]
theorem f72:ET.funcs.get 72=some T72:=zJ (by kernel_rfl) (by decide)
theorem zoS (p:Nat) (n:zo) (h1:n.level≤12) (h2:n.sib < 2048) (h3:n.way≤2) (hp:n.pairs.length≤27):FN ET 72 [zN p n] (.ret (wv 0 (zbp n))):=by
 refine zU f72 (Nat.le_of_ble_eq_true rfl) (Lb.uvs _) ?_
 have e0:(7522529147838689024:Int) + (n.level:Int)=((7522529147838689024 + n.level:Nat):Int):=by omega
 have g:∀ k,k < 64→∃ v,((zbD n k).map uv)[k]?=some v:=fun k hk=>⟨_,List.getElem?_eq_getElem (by rw [List.length_map,zfe];exact hk)⟩
 have s:∀ k,(zbD n (k + 1)).map uv=((zbD n k).map uv).set k (uv (ziZ k n)):=fun k=>by rw [show zbD n (k + 1)=(zbD n k).set k (ziZ k n) from rfl,List.map_set]
 obtain ⟨v0,g0⟩:=g 0 (by decide)
 obtain ⟨v1,g1⟩:=g 1 (by decide)
 obtain ⟨v2,g2⟩:=g 2 (by decide)
 obtain ⟨v3,g3⟩:=g 3 (by decide)
 obtain ⟨v4,g4⟩:=g 4 (by decide)
 have s0:((zbD n 0).map uv).set 0 (.int .u64 ((7522529147838689024 + n.level:Nat):Int))=(zbD n 1).map uv:=(s 0).symm
 have s1:((zbD n 1).map uv).set 1 (.int .u64 (n.sib:Int))=(zbD n 2).map uv:=(s 1).symm
 have s2:((zbD n 2).map uv).set 2 (.int .u64 (n.low:Int))=(zbD n 3).map uv:=(s 2).symm
 have s3:((zbD n 3).map uv).set 3 (.int .u64 (n.left:Int))=(zbD n 4).map uv:=(s 3).symm
 have s4:((zbD n 4).map uv).set 4 (.int .u64 (n.way:Int))=(zbD n 5).map uv:=(s 4).symm
 (repeat refine zc ?_)
 (repeat refine zc ?_);refine za ?_;refine zb (by simp (disch:=omega) only [go_sem] <;> rfl) ?_
 refine zd ?_
 (repeat refine zc ?_)
 (repeat refine zc ?_);refine za ?_;refine zb (by simp (disch:=omega) only [go_sem] <;> rfl) ?_
 refine zd ?_
 have h00:List.replicate 64 (PV.int .u64 0)=(zbD n 0).map uv:=by rw [show zbD n 0=List.replicate 64 0 from rfl,List.map_replicate];rfl
 rw [h00]
 generalize hL0:(zbD n 0).map uv=L0 at *
 generalize hL1:(zbD n 1).map uv=L1 at *
 generalize hL2:(zbD n 2).map uv=L2 at *
 generalize hL3:(zbD n 3).map uv=L3 at *
 generalize hL4:(zbD n 4).map uv=L4 at *
 generalize hL5:(zbD n 5).map uv=L5 at *
 (repeat refine zc ?_)
 refine zaS ?_
 refine zbv (by first | exact trivial | simp only [go_sem,List.filter_cons,List.filter_nil,List.contains_cons,List.contains_nil,Bool.or_false,Nat.reduceBEq,zb4,zb3,zbJ,e0,g0,s0]) (by simp (disch:=omega) only [go_sem,e0,g0,s0] <;> rfl) rfl (by first | rfl | (simp only [go_sem] <;> rfl)) (by simp only [go_sem,e0,g0,s0] <;> rfl) (by simp (disch:=omega) only [go_sem,e0,g0,s0] <;> rfl) (by simp only [go_sem] <;> rfl) ?_
 refine zbv (by first | exact trivial | simp only [go_sem,List.filter_cons,List.filter_nil,List.contains_cons,List.contains_nil,Bool.or_false,Nat.reduceBEq,zb4,zb3,zbJ,g1,s1]) (by simp (disch:=omega) only [go_sem,g1,s1] <;> rfl) rfl (by first | rfl | (simp only [go_sem] <;> rfl)) (by simp only [go_sem,g1,s1] <;> rfl) (by simp (disch:=omega) only [go_sem,g1,s1] <;> rfl) (by simp only [go_sem] <;> rfl) ?_
 refine zbv (by first | exact trivial | simp only [go_sem,List.filter_cons,List.filter_nil,List.contains_cons,List.contains_nil,Bool.or_false,Nat.reduceBEq,zb4,zb3,zbJ,g2,s2]) (by simp (disch:=omega) only [go_sem,g2,s2] <;> rfl) rfl (by first | rfl | (simp only [go_sem] <;> rfl)) (by simp only [go_sem,g2,s2] <;> rfl) (by simp (disch:=omega) only [go_sem,g2,s2] <;> rfl) (by simp only [go_sem] <;> rfl) ?_
 refine zbv (by first | exact trivial | simp only [go_sem,List.filter_cons,List.filter_nil,List.contains_cons,List.contains_nil,Bool.or_false,Nat.reduceBEq,zb4,zb3,zbJ,g3,s3]) (by simp (disch:=omega) only [go_sem,g3,s3] <;> rfl) rfl (by first | rfl | (simp only [go_sem] <;> rfl)) (by simp only [go_sem,g3,s3] <;> rfl) (by simp (disch:=omega) only [go_sem,g3,s3] <;> rfl) (by simp only [go_sem] <;> rfl) ?_
 refine zbv (by first | exact trivial | simp only [go_sem,List.filter_cons,List.filter_nil,List.contains_cons,List.contains_nil,Bool.or_false,Nat.reduceBEq,zb4,zb3,zbJ,g4,s4]) (by simp (disch:=omega) only [go_sem,g4,s4] <;> rfl) rfl (by first | rfl | (simp only [go_sem] <;> rfl)) (by simp only [go_sem,g4,s4] <;> rfl) (by simp (disch:=omega) only [go_sem,g4,s4] <;> rfl) (by simp only [go_sem] <;> rfl) ?_
 refine zX (by first | exact trivial | simp only [go_sem,e0]) (by simp (disch:=omega) only [go_sem,e0] <;> rfl) rfl ?_
 refine zaf ?_;simp only [zu,zab,zf,go_sem]
 (repeat (first | refine zc ?_ | (refine za ?_;refine zb (by simp (disch:=omega) only [go_sem] <;> rfl) ?_;refine zd ?_)))
 subst hL5
 refine zG (zav (fun m s=>∃ (j:Nat) (G:List zk),m=n.pairs.length - j∧j≤n.pairs.length∧s.tm 1=.ptr 0 0 0 0 6∧s.tm 3=.sl 1 0 0 64 128 1∧s.tm 4=iv j∧s.df=[]∧s.H=.row 124 6 0 0 [zN p n]::.row 24 1 0 0 ((zbY n j).map uv)::G) (n:=n.pairs.length) ?_ ?_)
 ·exact ⟨0,_,rfl,Nat.zero_le _,by simp [upd],by simp [upd],by simp [upd],rfl,rfl⟩
 ·rintro m ⟨tm,df,H⟩ ⟨j,G,rfl,hj,t1,t3,t4,rfl,rfl⟩
  dsimp only at t1 t3 t4
  (try refine zY ?_);refine zc (za ?_);refine zb (by simp (disch:=omega) only [go_sem,t1,t3,t4,List.length_map] <;> rfl) ?_;refine zd ?_;refine zad (by simp only [go_sem] <;> rfl) ?_ ?_
  ·intro hlt
   have hlt:j < n.pairs.length:=by have:=of_decide_eq_true hlt;omega
   have hpj:(n.pairs.map pv)[j]?=some (pv (n.pairs.getD j (0,0))):=by rw [List.getElem?_map,get_lt _ hlt];rfl
   obtain ⟨o1,ho1⟩:∃ old,(zbY n j)[8 + 2 * j]?=some old:=⟨_,List.getElem?_eq_getElem (by rw [zcs];omega)⟩
   obtain ⟨o2,ho2⟩:∃ old,((zbY n j).set (8 + 2 * j) (n.pairs.getD j (0,0)).1)[8 + 2 * j + 1]?=some old:=⟨_,List.getElem?_eq_getElem (by rw [List.length_set,zcs];omega)⟩
   have w1:IntKind.i64.wrap (2 * (j:Int))=((2 * j:Nat):Int):=by rw [wrap_i64 (by omega) (by omega)];omega
   have w2:IntKind.i64.wrap (8 + ((2 * j:Nat):Int))=((8 + 2 * j:Nat):Int):=by rw [wrap_i64 (by omega) (by omega)];omega
   have w3:IntKind.i64.wrap (9 + ((2 * j:Nat):Int))=((8 + 2 * j + 1:Nat):Int):=by rw [wrap_i64 (by omega) (by omega)];omega
   have c1:8 + 2 * j < 64:=by omega
   have c2:8 + 2 * j + 1 < 64:=by omega
   have z1:((zbY n j).map uv)[8 + 2 * j]?=some (uv o1):=by rw [List.getElem?_map,ho1];rfl
   have z2:(((zbY n j).set (8 + 2 * j) (n.pairs.getD j (0,0)).1).map uv)[8 + 2 * j + 1]?=some (uv o2):=by rw [List.getElem?_map,ho2];rfl
   have y1:((zbY n j).map uv).set (8 + 2 * j) (.int .u64 ((n.pairs.getD j (0,0)).1:Int))=((zbY n j).set (8 + 2 * j) (n.pairs.getD j (0,0)).1).map uv:=List.map_set.symm
   have y2:(((zbY n j).set (8 + 2 * j) (n.pairs.getD j (0,0)).1).map uv).set (8 + 2 * j + 1) (.int .u64 ((n.pairs.getD j (0,0)).2:Int))=(zbY n (j + 1)).map uv:=List.map_set.symm
   generalize n.pairs.getD j (0,0)=q at *
   generalize (zbY n j).map uv=K0 at *
   generalize ((zbY n j).set (8 + 2 * j) q.1).map uv=K1 at *
   (repeat refine zc ?_)
   refine zG ?_
   (repeat refine zc ?_)
   refine zaS ?_
   refine zbv (by first | exact trivial | simp only [go_sem,List.filter_cons,List.filter_nil,List.contains_cons,List.contains_nil,Bool.or_false,Nat.reduceBEq,zb4,zb3,zbJ,t1,t3,t4,hpj,hlt,w1,w2,w3,c1,c2,z1,y1]) (by simp (disch:=omega) only [go_sem,t1,t3,t4,hpj,hlt,w1,w2,w3,c1,c2,z1,y1] <;> rfl) rfl (by first | rfl | (simp only [go_sem] <;> rfl)) (by simp only [go_sem,t1,t3,t4,hpj,hlt,w1,w2,w3,c1,c2,z1,y1] <;> rfl) (by simp (disch:=omega) only [go_sem,t1,t3,t4,hpj,hlt,w1,w2,w3,c1,c2,z1,y1] <;> rfl) (by simp only [go_sem] <;> rfl) ?_
   refine zbv (by first | exact trivial | simp only [go_sem,List.filter_cons,List.filter_nil,List.contains_cons,List.contains_nil,Bool.or_false,Nat.reduceBEq,zb4,zb3,zbJ,t1,t3,t4,hpj,hlt,w1,w2,w3,c1,c2,z2,y2]) (by simp (disch:=omega) only [go_sem,t1,t3,t4,hpj,hlt,w1,w2,w3,c1,c2,z2,y2] <;> rfl) rfl (by first | rfl | (simp only [go_sem] <;> rfl)) (by simp only [go_sem,t1,t3,t4,hpj,hlt,w1,w2,w3,c1,c2,z2,y2] <;> rfl) (by simp (disch:=omega) only [go_sem,t1,t3,t4,hpj,hlt,w1,w2,w3,c1,c2,z2,y2] <;> rfl) (by simp only [go_sem] <;> rfl) ?_
   refine zX (by first | exact trivial | simp only [go_sem,t3]) (by simp (disch:=omega) only [go_sem,t3] <;> rfl) rfl ?_
   refine zaf ?_;simp only [zu,zab,zf,go_sem]
   (repeat refine zc ?_);refine za ?_;refine zb (by simp (disch:=omega) only [go_sem,t4] <;> rfl) ?_
   refine zC ?_;simp only [zf,zi,zh,zg,zu,zj,if_true,↓reduceIte]
   refine ⟨_,?m2,j + 1,G,rfl,hlt,by simp [upd,t1],by simp [upd,t3],by simp [upd,t4],trivial,rfl⟩
   case m2=>omega
  ·intro hlt
   have hlt:¬ j < n.pairs.length:=by have:=of_decide_eq_false hlt;omega
   obtain rfl:j=n.pairs.length:=by omega
   simp only [zf,zi,zh,zg,zu,zj,if_true,reduceIte]
   (repeat (first | refine zc ?_ | (refine za ?_;refine zb (by simp (disch:=omega) only [go_sem,t3] <;> rfl) ?_;refine zd ?_)))
   refine zE ?_;(try simp only [zf,zi,zh,zg,zj]);refine zy (by simp only [T72,zI,go_sem] <;> rfl) ?_;simp only [zK]
   refine Frz.whole (l:=(zbY n n.pairs.length).map uv) rfl rfl (by simp [zcs]) (by simp [zcs]) (fun v hv=>?_) zli
   obtain ⟨x,_,rfl⟩:=List.mem_map.1 hv
   rfl
theorem f28:ET.funcs.get 28=some T28:=zJ (by kernel_rfl) (by decide)
theorem Frz.wholeM {H:List zk} {lab id e z z' G M o n q:Nat} {l:List PV} (hH:H[id]?=some (.row e z' G M l)) (hM:M≤G) (ho:o=0) (hl:n=l.length) (hq:2 * l.length≤q) (hz:∀ v∈l,v.cells.length=z) (hs:∀ v∈l.flatMap PV.cells,Id0 v) :
  Frz H lab (.sl id G o n q z) (.list lab z l):=by
 subst ho hl
 refine .sl hH hM (Nat.le_refl _) (by omega) hq rfl hz (by simp) fun i x y hx hy=>?_
 have:x=y:=by
  simp at hx
  rw [hx] at hy;injection hy
 subst this
 exact (hs _ (List.mem_of_getElem? hy)).frz
@[reducible] def zbR (n:zo) (pvl:PV):PV:=.agg [iv n.level,iv n.sib,uv n.low,uv n.left,iv n.way,pvl]
def zeL (H:List zk) (pvl:PV) (ps:List Pr):Prop:=(pvl=.nilsl∧ps=[])∨∃ id g,pvl=.sl id g 0 ps.length (2 * ps.length) 2∧H[id]?=some (.row 66 2 g 0 (ps.map pv))
def zdl:PV→Option Nat
 | .sl id _ _ _ _ _=>some id
 | _=>none
structure Lvl (H:List zk) (vs:List PV) (ps:List PV) (nodes:List zo):Prop where
 lenV:vs.length=nodes.length
 lenP:ps.length=nodes.length
 val:∀ (q:Nat) (n:zo) (p:PV),nodes[q]?=some n→ps[q]?=some p→vs[q]?=some (zbR n p)∧zeL H p n.pairs
 dist:∀ (q r:Nat) (x y:PV) (a:Nat),ps[q]?=some x→ps[r]?=some y→zdl x=some a→zdl y=some a→q=r
def isP:zk→Prop
 | .row e _ _ _ _=>e=66
 | _=>False
theorem zeL.keep {H H':List zk} {p:PV} {ps:List Pr} (h:zeL H p ps) (k:∀ (id:Nat) (o:zk),zdl p=some id→isP o→H[id]?=some o→H'[id]?=some o):zeL H' p ps:=by
 rcases h with h | ⟨id,g,rfl,h2⟩
 ·exact .inl h
 ·exact .inr ⟨id,g,rfl,k id _ rfl rfl h2⟩
theorem Lvl.keep {H H':List zk} {vs ps:List PV} {nodes:List zo} (h:Lvl H vs ps nodes) (k:∀ (id:Nat) (o:zk),isP o→H[id]?=some o→H'[id]?=some o):Lvl H' vs ps nodes :=
 ⟨h.lenV,h.lenP,fun q n p hn hp=>⟨(h.val q n p hn hp).1,(h.val q n p hn hp).2.keep fun id o _ ho hi=>k id o ho hi⟩,h.dist⟩
theorem Lvl.nil (H:List zk):Lvl H [] [] []:=⟨rfl,rfl,fun q n p h=>by simp at h,fun q r x y a h=>by simp at h⟩
theorem Lvl.snoc {H:List zk} {vs ps:List PV} {nodes:List zo} (h:Lvl H vs ps nodes) (n:zo) (hn:n.pairs=[]):Lvl H (vs++[zbR n .nilsl]) (ps++[.nilsl]) (nodes++[n]):=by
 refine ⟨by simp [h.lenV],by simp [h.lenP],fun q m p hm hp=>?_,fun q r x y a hx hy ha hb=>?_⟩
 ·rcases Nat.lt_or_ge q nodes.length with hq | hq
  ·rw [List.getElem?_append_left hq] at hm
   rw [List.getElem?_append_left (by rw [h.lenP];exact hq)] at hp
   rw [List.getElem?_append_left (by rw [h.lenV];exact hq)]
   exact h.val q m p hm hp
  ·rw [List.getElem?_append_right hq] at hm
   rw [List.getElem?_append_right (by rw [h.lenP];exact hq)] at hp
   rw [List.getElem?_append_right (by rw [h.lenV];exact hq)]
   rw [h.lenP] at hp;rw [h.lenV]
   obtain rfl:=List.mem_singleton.1 (List.mem_of_getElem? hm)
   obtain rfl:=List.mem_singleton.1 (List.mem_of_getElem? hp)
   have h0:q - nodes.length=0:=by have:=(List.getElem?_eq_some_iff.1 hm).1;simp at this;omega
   rw [h0]
   exact ⟨rfl,.inl ⟨rfl,hn⟩⟩
 ·have hl:∀ (s:Nat) (z:PV),(ps++[PV.nilsl])[s]?=some z→zdl z=some a→ps[s]?=some z:=fun s z hz he=>by
   rcases Nat.lt_or_ge s ps.length with hs | hs
   ·rwa [List.getElem?_append_left hs] at hz
   ·rw [List.getElem?_append_right hs] at hz
    obtain rfl:=List.mem_singleton.1 (List.mem_of_getElem? hz)
    simp [zdl] at he
  exact h.dist q r x y a (hl q x hx ha) (hl r y hy hb) ha hb
theorem Lvl.last {H H':List zk} {vf pf:List PV} {front:List zo} {v p p':PV} {nd nd':zo} (h:Lvl H (vf++[v]) (pf++[p]) (front++[nd])) (hlv:vf.length=front.length) (hlp:pf.length=front.length)
  (hp':zeL H' p' nd'.pairs) (hd:∀ a,zdl p'=some a→zdl p=some a∨H.length≤a) (k:∀ (id:Nat) (o:zk),isP o→H[id]?=some o→H'[id]?=some o∨zdl p=some id):Lvl H' (vf++[zbR nd' p']) (pf++[p']) (front++[nd']):=by
 have hlast:(pf++[p])[front.length]?=some p:=by rw [← hlp];simp
 have hpq:∀ (q:Nat) (x:PV),q < front.length→pf[q]?=some x→(pf++[p])[q]?=some x:=fun q x hq hx=>by rw [List.getElem?_append_left (by omega)];exact hx
 have hbound:∀ (q:Nat) (x:PV) (a:Nat),q < front.length→pf[q]?=some x→zdl x=some a→a < H.length:=fun q x a hq hx ha=>by
  obtain ⟨n,hn⟩:∃ n,front[q]?=some n:=⟨_,List.getElem?_eq_getElem hq⟩
  have:=(h.val q n x (by rw [List.getElem?_append_left hq];exact hn) (hpq q x hq hx)).2
  rcases this with ⟨rfl,_⟩ | ⟨id,g,rfl,h2⟩
  ·simp [zdl] at ha
  ·simp [zdl] at ha;subst ha;exact (List.getElem?_eq_some_iff.1 h2).1
 refine ⟨by simp [hlv],by simp [hlp],fun q m x hm hx=>?_,fun q r x y a hx hy ha hb=>?_⟩
 ·rcases Nat.lt_or_ge q front.length with hq | hq
  ·rw [List.getElem?_append_left hq] at hm
   rw [List.getElem?_append_left (by omega)] at hx
   rw [List.getElem?_append_left (by omega)]
   have hv:=h.val q m x (by rw [List.getElem?_append_left hq];exact hm) (hpq q x hq hx)
   rw [List.getElem?_append_left (by omega)] at hv
   refine ⟨hv.1,hv.2.keep fun id o he ho hi=>?_⟩
   rcases k id o ho hi with h1 | h1
   ·exact h1
   ·exact absurd (h.dist q front.length x p id (hpq q x hq hx) hlast he h1) (by omega)
  ·rw [List.getElem?_append_right hq] at hm
   rw [List.getElem?_append_right (by omega)] at hx
   rw [List.getElem?_append_right (by omega)]
   have h0:q - front.length=0:=by have:=(List.getElem?_eq_some_iff.1 hm).1;simp at this;omega
   rw [h0] at hm
   rw [hlp,h0] at hx
   rw [hlv,h0]
   injection hm with hm;injection hx with hx
   subst hm hx
   exact ⟨rfl,hp'⟩
 ·have hcase:∀ (s:Nat) (z:PV),(pf++[p'])[s]?=some z→(s < front.length∧pf[s]?=some z)∨(s=front.length∧z=p'):=fun s z hz=>by
   rcases Nat.lt_or_ge s front.length with hs | hs
   ·rw [List.getElem?_append_left (by omega)] at hz
    exact .inl ⟨hs,hz⟩
   ·rw [List.getElem?_append_right (by omega)] at hz
    have h0:s - pf.length=0:=by have:=(List.getElem?_eq_some_iff.1 hz).1;simp at this;omega
    rw [h0] at hz;injection hz with hz
    exact .inr ⟨by omega,hz.symm⟩
  have key:∀ (s:Nat) (z:PV),s < front.length→pf[s]?=some z→zdl z=some a→zdl p'=some a→False:=fun s z hs hz he hp=>by
   rcases hd a hp with h1 | h1
   ·exact absurd (h.dist s front.length z p a (hpq s z hs hz) hlast he h1) (by omega)
   ·have:=hbound s z a hs hz he;omega
  rcases hcase q x hx with ⟨h1,h2⟩ | ⟨h1,h2⟩
  ·rcases hcase r y hy with ⟨h3,h4⟩ | ⟨h3,h4⟩
   ·exact h.dist q r x y a (hpq q x h1 h2) (hpq r y h3 h4) ha hb
   ·rw [h4] at hb;exact (key q x h1 h2 ha hb).elim
  ·rcases hcase r y hy with ⟨h3,h4⟩ | ⟨h3,h4⟩
   ·rw [h2] at ha;exact (key r y h3 h4 hb ha).elim
   ·omega
theorem zgD (ks:List Pr) (m j:Nat) (h:j < m) (hm:m≤ks.length):(ks.take m).getD j (0,0)=ks.getD j (0,0):=by
 rw [List.getD_eq_getElem?_getD,List.getD_eq_getElem?_getD,List.getElem?_take,if_pos h]
theorem zkg (k:Nat) (ks:List Pr) (m j:Nat) (h:k * j + k≤m):((ks.take m).drop (k * j)).take k=(ks.drop (k * j)).take k:=by
 rw [List.drop_take,List.take_take,Nat.min_eq_left (by omega)]
theorem zkf (k:Nat) (ks:List Pr) (m j:Nat) (h:m≤k * j + k):((ks.take m).drop (k * j)).take k=(ks.drop (k * j)).take (m - k * j):=by
 rw [List.drop_take,List.take_take,Nat.min_eq_right (by omega)]
def zcr (n:zo) (l:List Pr):zo:={ n with pairs:=l }
def zj0 (lv i:Nat) (x:Pr) (L:List zo):List zo:=if i % 19=0 then L++[⟨lv,0,x.1,x.2,0,[]⟩] else
 match L.getLast? with
 | some n=>L.dropLast++[zcr n (n.pairs++[x])]
 | none=>L
theorem zlT (lv:Nat) (ks:List Pr) (m c:Nat) (hm:m≤ks.length) (hc:19 * c≤m):(List.range c).map (zbZ lv (ks.take m))=(List.range c).map (zbZ lv ks):=by
 refine List.map_congr_left fun j hj=>?_
 have hj:j < c:=List.mem_range.1 hj
 unfold zbZ
 rw [zgD ks m _ (by omega) hm,zkg 19 ks m j (by omega)]
theorem zqp (lv:Nat) (ks:List Pr) (m c:Nat) (hm:m≤ks.length) (h1:19 * c < m) (h2:m≤19 * c + 19):zbZ lv (ks.take m) c=⟨lv,0,(ks.getD (19 * c) (0,0)).1,(ks.getD (19 * c) (0,0)).2,0,((ks.drop (19 * c)).take (m - 19 * c)).drop 1⟩:=by
 unfold zbZ
 rw [zgD ks m _ h1 hm,zkf 19 ks m c h2]
theorem zg1 (lv:Nat) (ks:List Pr) (m c:Nat) (hm:m≤ks.length) (h1:19 * c < m) (h2:m≤19 * c + 19):zbF lv (ks.take m)=(List.range c).map (zbZ lv ks)++[⟨lv,0,(ks.getD (19 * c) (0,0)).1,(ks.getD (19 * c) (0,0)).2,0,((ks.drop (19 * c)).take (m - 19 * c)).drop 1⟩]:=by
 unfold zbF
 have:(zP 19 (ks.take m)).length=c + 1:=by rw [zb1,List.length_take,Nat.min_eq_left hm];omega
 rw [this,List.range_succ,List.map_append,zlT lv ks m c hm (by omega)]
 simp only [List.map_cons,List.map_nil]
 rw [zqp lv ks m c hm h1 h2]
theorem zph (lv:Nat) (ks:List Pr) (i:Nat) (hi:i < ks.length):zbF lv (ks.take (i + 1))=zj0 lv i (ks.getD i (0,0)) (zbF lv (ks.take i)):=by
 unfold zj0
 by_cases h:i % 19=0
 ·rw [if_pos h]
  obtain ⟨c,rfl⟩:∃ c,i=19 * c:=⟨i / 19,by omega⟩
  rw [zg1 lv ks (19 * c + 1) c (by omega) (by omega) (by omega)]
  have e:zbF lv (ks.take (19 * c))=(List.range c).map (zbZ lv ks):=by
   unfold zbF
   have:(zP 19 (ks.take (19 * c))).length=c:=by rw [zb1,List.length_take,Nat.min_eq_left (by omega)];omega
   rw [this,zlT lv ks (19 * c) c (by omega) (by omega)]
  rw [e]
  have:((ks.drop (19 * c)).take (19 * c + 1 - 19 * c)).drop 1=[]:=by
   apply List.drop_of_length_le;rw [List.length_take];omega
  rw [this]
 ·rw [if_neg h]
  have hc1:19 * (i / 19) < i:=by omega
  rw [zg1 lv ks i (i / 19) (by omega) hc1 (by omega),zg1 lv ks (i + 1) (i / 19) (by omega) (by omega) (by omega)]
  simp only [List.getLast?_concat,List.dropLast_concat,zcr]
  congr 3
  have e:i + 1 - 19 * (i / 19)=(i - 19 * (i / 19)) + 1:=by omega
  rw [e,List.take_add_one,List.drop_append_of_le_length (by rw [List.length_take,List.length_drop];omega)]
  congr 1
  rw [List.getElem?_drop,show 19 * (i / 19) + (i - 19 * (i / 19))=i by omega,get_lt ks hi];rfl
def zex (i:Nat) (x:Pr) (L:List zo):List zo:=if 0 < i∧i % 18=0 then L++[⟨0,0,x.1,9223372036854775808,0,[]⟩] else L
def zmp (x:Pr) (L:List zo):List zo:=match L.getLast? with
 | some n=>L.dropLast++[zcr n (n.pairs++[x])]
 | none=>L
theorem zre (ks:List Pr) (m c:Nat) (hm:m≤ks.length) (hc:18 * c≤m):(List.range c).map (zbM (ks.take m))=(List.range c).map (zbM ks):=by
 refine List.map_congr_left fun j hj=>?_
 have hj:j < c:=List.mem_range.1 hj
 unfold zbM
 rw [zgD ks m _ (by omega) hm,zkg 18 ks m j (by omega)]
theorem zf3 (ks:List Pr) (m c:Nat) (hm:m≤ks.length) (h1:18 * c < m∨(m=0∧c=0)) (h2:m≤18 * c + 18):zbq (ks.take m)=(List.range c).map (zbM ks)++[⟨0,0,if 0 < c then (ks.getD (18 * c) (0,0)).1 else 0,9223372036854775808,0,(ks.drop (18 * c)).take (m - 18 * c)⟩]:=by
 rw [zf0,List.length_take,Nat.min_eq_left hm]
 have:max 1 ((m + 17) / 18)=c + 1:=by omega
 rw [this,List.range_succ,List.map_append,zre ks m c hm (by omega)]
 simp only [List.map_cons,List.map_nil]
 congr 2
 unfold zbM
 rw [zkf 18 ks m c h2]
 by_cases hc:0 < c
 ·rw [if_pos hc,if_pos hc,zgD ks m _ (by omega) hm]
 ·rw [if_neg hc,if_neg hc]
theorem zqc (ks:List Pr) (i:Nat) (hi:i < ks.length):zbq (ks.take (i + 1))=zmp (ks.getD i (0,0)) (zex i (ks.getD i (0,0)) (zbq (ks.take i))):=by
 unfold zex
 by_cases h:0 < i∧i % 18=0
 ·rw [if_pos h]
  obtain ⟨c,rfl⟩:∃ c,i=18 * (c + 1):=⟨i / 18 - 1,by omega⟩
  rw [zf3 ks (18 * (c + 1) + 1) (c + 1) (by omega) (by omega) (by omega),zf3 ks (18 * (c + 1)) c (by omega) (by omega) (by omega)]
  unfold zmp
  simp only [List.getLast?_concat,List.dropLast_concat,zcr]
  rw [List.range_succ,List.map_append]
  simp only [List.map_cons,List.map_nil,List.nil_append]
  congr 2
  ·congr 2
   unfold zbM
   congr 1
   rw [show 18 * (c + 1) - 18 * c=18 by omega]
  ·rw [if_pos (Nat.succ_pos _)]
   congr 1
   rw [show 18 * (c + 1) + 1 - 18 * (c + 1)=1 by omega]
   rw [List.drop_eq_getElem_cons hi,List.take_succ_cons,List.take_zero,List.getD_eq_getElem?_getD,List.getElem?_eq_getElem hi];rfl
 ·rw [if_neg h]
  have hc1:18 * (i / 18) < i∨(i=0∧i / 18=0):=by omega
  rw [zf3 ks i (i / 18) (by omega) hc1 (by omega),zf3 ks (i + 1) (i / 18) (by omega) (by omega) (by omega)]
  unfold zmp
  simp only [List.getLast?_concat,List.dropLast_concat,zcr]
  congr 3
  have e:i + 1 - 18 * (i / 18)=(i - 18 * (i / 18)) + 1:=by omega
  rw [e,List.take_add_one]
  congr 1
  rw [List.getElem?_drop,show 18 * (i / 18) + (i - 18 * (i / 18))=i by omega,get_lt ks hi];rfl
theorem f73:ET.funcs.get 73=some T73:=zJ (by kernel_rfl) (by decide)
def zd1 (H H':List zk):Prop:=∀ (id:Nat) (o:zk),H[id]?=some o→H'[id]?=some o
theorem zd1.refl (H:List zk):zd1 H H:=fun _ _ h=>h
theorem zd1.app {H Hc:List zk} (h:zd1 H Hc) (X:List zk):zd1 H (Hc++X):=fun id o ho=>by
 have:=h id o ho
 rw [List.getElem?_append_left (List.getElem?_eq_some_iff.1 this).1];exact this
theorem zd1.set {H Hc:List zk} (h:zd1 H Hc) {a:Nat} (ha:H.length≤a) (o':zk):zd1 H (Hc.set a o'):=fun id o ho=>by
 have hlt:=(List.getElem?_eq_some_iff.1 ho).1
 rw [List.getElem?_set_ne (by omega)]
 exact h id o ho
theorem zbk {α:Type} {l X:List α} {i:Nat} {x:α} (h:l[i]?=some x):(l++X)[i]?=some x:=by
 rw [List.getElem?_append_left (List.getElem?_eq_some_iff.1 h).1];exact h
theorem Lvl.other {H:List zk} {vs ps:List PV} {nodes:List zo} (h:Lvl H vs ps nodes) {a:Nat} {o o':zk} (ha:H[a]?=some o) (ho:¬ isP o) (X:List zk):Lvl ((H++X).set a o') vs ps nodes :=
 h.keep fun id q hq hi=>by
  have hne:a ≠ id:=fun e=>by subst e;rw [ha] at hi;injection hi with hi;subst hi;exact ho hq
  rw [List.getElem?_set_ne hne]
  exact zbk hi
theorem zhX {α:Type} {l:List α} (h:l ≠ []):∃ f x,l=f++[x]:=⟨l.dropLast,l.getLast h,(List.dropLast_concat_getLast h).symm⟩
theorem zgW {α:Type} {l:List α} {n:Nat} (h:l.length=n + 1):∃ f x,l=f++[x]∧f.length=n:=by
 obtain ⟨f,x,rfl⟩:=zhX (l:=l) (by intro e;rw [e] at h;simp at h)
 exact ⟨f,x,rfl,by simpa using h⟩
theorem zqr {lv:Nat} {ks:List Pr} {n:zo} (h:n∈zbF lv ks):n.pairs.length≤18:=by
 unfold zbF at h
 obtain ⟨i,_,rfl⟩:=List.mem_map.1 h
 show (((ks.drop (19 * i)).take 19).drop 1).length≤18
 rw [List.length_drop,List.length_take];omega
set_option maxHeartbeats 4000000 in
theorem zpl (H:List zk) (i8 g8 M8 i13 g13:Nat) (vs8 ps8:List PV) (l:List zo) (bs:List Nat) (lv:Nat) (hr8:H[i8]?=some (.row 124 6 g8 M8 vs8)) (hM8:M8≤g8) (hlv:Lvl H vs8 ps8 l) (hr13:H[i13]?=some (.row 3 1 g13 0 (bfl bs))) (hlen:bs.length=l.length) (hl:l.length≤1000) (hl0:∀ n∈l,n.level=lv) (hlv12:lv≤12) (hb:∀ b∈bs,b < 2048) :
  FO ET 73 [.sl i8 g8 0 l.length (2 * l.length) 6,.sl i13 g13 0 l.length (2 * l.length) 1] H false (fun e H'=>zd1 H H'∧∃ idL g M vs ps,e=.ret (.sl idL g 0 vs.length (2 * vs.length) 6)∧M≤g∧H.length≤idL∧H'[idL]?=some (.row 124 6 g M vs)∧Lvl H' vs ps (zbF (lv + 1) ((l.map zo.low).zip bs))∧∀ p∈ps,∀ a,zdl p=some a→H.length≤a):=by
 refine zcS f73 (Nat.le_of_ble_eq_true rfl) ?_
 have hkl:((l.map zo.low).zip bs).length=l.length:=by simp [hlen]
 generalize hks:(l.map zo.low).zip bs=ks at *
 (repeat (first | refine zc ?_ | (refine za ?_;refine zb (by simp (disch:=omega) only [go_sem] <;> rfl) ?_;refine zd ?_)))
 refine zev 124 6 (i:=5) rfl ?_
 simp only [lzy]
 refine zG (zav (fun m s=>∃ (i:Nat) (Hc:List zk) (idL g M:Nat) (vs ps:List PV),m=l.length - i∧i≤l.length∧zd1 H Hc∧M≤g∧Hc[idL]?=some (.row 124 6 g M vs)∧H.length≤idL∧Lvl Hc vs ps (zbF (lv + 1) (ks.take i))∧(∀ p∈ps,∀ a,zdl p=some a→H.length≤a)∧s.tm 0=.sl i8 g8 0 l.length (2 * l.length) 6∧s.tm 1=.sl i13 g13 0 l.length (2 * l.length) 1∧s.tm 5=.sl idL g 0 vs.length (2 * vs.length) 6∧s.tm 6=iv i∧s.df=[]∧s.H=Hc) (n:=l.length) ?_ ?_)
 ·exact ⟨0,_,H.length,0,0,[],[],rfl,Nat.zero_le _,(zd1.refl H).app _,Nat.le_refl _,by simp,Nat.le_refl _,(by rw [List.take_zero];exact Lvl.nil _),fun p hp=>by simp at hp,by simp [upd,zB],by simp [upd,zB],by simp [upd],by simp [upd],rfl,rfl⟩
 ·rintro m ⟨tm,df,Hc⟩ ⟨i,Hc',idL,g,M,vs,ps,rfl,hi,hst,hM,hL,hidL,hlvl,hids,h0,h1,h5,h6,rfl,rfl⟩
  dsimp only at h0 h1 h5 h6
  (try refine zY ?_);refine zc (za ?_);refine zb (by simp (disch:=omega) only [go_sem,h0,h6] <;> rfl) ?_;refine zd ?_;refine zad (by simp only [go_sem] <;> rfl) ?_ ?_
  rotate_left
  ·intro hlt
   have hlt:¬ i < l.length:=by have:=of_decide_eq_false hlt;omega
   obtain rfl:i=l.length:=by omega
   simp only [zf,zi,zh,zg,zu,zj,if_true,reduceIte]
   (repeat (first | refine zc ?_ | (refine za ?_;refine zb (by simp (disch:=omega) only [go_sem,h5] <;> rfl) ?_;refine zd ?_)))
   refine zE ?_;(try simp only [zf,zi,zh,zg,zj]);refine zy (by simp only [T73,zI,go_sem] <;> rfl) ?_;simp only [zK]
   rw [← hkl,List.take_length] at hlvl
   exact ⟨hst,idL,g,M,vs,ps,rfl,hM,hidL,hL,hlvl,hids⟩
  intro hlt
  have hlt:i < l.length:=by have:=of_decide_eq_true hlt;omega
  obtain ⟨x,hx⟩:∃ x,l[i]?=some x:=⟨_,List.getElem?_eq_getElem hlt⟩
  obtain ⟨b,hbb⟩:∃ b,bs[i]?=some b:=⟨_,List.getElem?_eq_getElem (by omega)⟩
  obtain ⟨px,hpx⟩:∃ px,ps8[i]?=some px:=⟨_,List.getElem?_eq_getElem (by rw [hlv.lenP];exact hlt)⟩
  have hv8:=(hlv.val i x px hx hpx).1
  have hbv:(bfl bs)[i]?=some (iv b):=by rw [List.getElem?_map,hbb];rfl
  have hbm:=hb b (List.mem_of_getElem? hbb)
  have hxl:=hl0 x (List.mem_of_getElem? hx)
  have hkx:ks.getD i (0,0)=(x.low,b):=by
   have:ks[i]?=some (x.low,b):=by rw [← hks,List.getElem?_zip_eq_some];exact ⟨by rw [List.getElem?_map,hx];rfl,hbb⟩
   exact getD_some this
  have hstep:=zph (lv + 1) ks i (by omega)
  rw [hkx] at hstep
  have h8:=hst i8 _ hr8
  have h13:=hst i13 _ hr13
  have hblen:(bfl bs).length=l.length:=by rw [List.length_map,hlen]
  have r1:(i:Int).tmod 19=((i % 19:Nat):Int):=rfl
  have hal:(zbF (lv + 1) (ks.take i)).length≤1000:=by rw [zde,List.length_take];omega
  have hvl:=hlvl.lenV
  (repeat refine zc ?_)
  refine zG ?_
  by_cases hm:i % 19=0
  ·have g1:((i % 19:Nat):Int)=0:=by omega
   have hl1:IntKind.i64.wrap ((x.level:Int) + 1)=((lv + 1:Nat):Int):=by rw [wrap_i64 (by omega) (by omega)];omega
   have hbb2:(vs.length + 1) * 65≤140737488355328:=by omega
   have hLX:∀ X,(Hc++X)[idL]?=some (.row 124 6 g M vs):=fun X=>zbk hL
   unfold zj0 at hstep
   rw [if_pos hm] at hstep
   (repeat refine zc ?_)
   (repeat refine zc ?_);refine za ?_;refine zb (by simp (disch:=omega) only [go_sem,h6,zaH,r1,g1] <;> rfl) ?_
   refine zd ?_
   refine zD (by simp only [go_sem] <;> rfl) ?_ ?_
   rotate_left
   ·intro h;cases h
   intro _
   (repeat refine zc ?_)
   refine zaS ?_
   refine zbv (by first | exact trivial | simp only [go_sem,List.filter_cons,List.filter_nil,List.contains_cons,List.contains_nil,Bool.or_false,Nat.reduceBEq,zb4,zb3,zbJ,h0,h1,h5,h6,h8,h13,hL,hLX,hv8,hbv,hlt,hM8,hl1,hbb2,ze]) (by simp (disch:=omega) only [go_sem,h0,h1,h5,h6,h8,h13,hL,hLX,hv8,hbv,hlt,hM8,hl1,hbb2,ze] <;> rfl) rfl (by first | rfl | (simp only [go_sem] <;> rfl)) (by simp only [go_sem,h0,h1,h5,h6,h8,h13,hL,hLX,hv8,hbv,hlt,hM8,hl1,hbb2,ze] <;> rfl) (by simp (disch:=omega) only [go_sem,h0,h1,h5,h6,h8,h13,hL,hLX,hv8,hbv,hlt,hM8,hl1,hbb2,ze] <;> rfl) (by simp only [go_sem] <;> rfl) ?_
   refine zX (by first | exact trivial | simp only [go_sem,h0]) (by simp (disch:=omega) only [go_sem,h0] <;> rfl) rfl ?_
   refine zaf ?_;simp only [zu,zab,zf,go_sem]
   refine zkL ?_
   simp only [zf,zi,zh,zg,zu,zj,if_true,reduceIte]
   (repeat refine zc ?_);refine za ?_;refine zb (by simp (disch:=omega) only [go_sem,h6] <;> rfl) ?_
   refine zC ?_;simp only [zf,zi,zh,zg,zu,zj,if_true,↓reduceIte]
   refine ⟨_,?m,i + 1,_,idL,g + 1,M,vs++[zbR ⟨lv + 1,0,x.low,b,0,[]⟩ .nilsl],ps++[.nilsl],rfl,hlt,(hst.app _).set hidL _,by omega,List.getElem?_set_self (by rw [List.length_append];have:=(List.getElem?_eq_some_iff.1 hL).1;omega),hidL,?L,?I,by simp [upd,h0],by simp [upd,h1],by simp [upd],by simp [upd,h6],trivial,rfl⟩
   case m=>omega
   case L=>rw [hstep];exact (hlvl.snoc _ rfl).other hL (fun h=>absurd (show (124:Nat)=66 from h) (by decide)) _
   case I =>
    intro p hp a ha
    rcases List.mem_append.1 hp with hp | hp
    ·exact hids p hp a ha
    ·obtain rfl:=List.mem_singleton.1 hp;cases ha
  ·have g1:¬ ((i % 19:Nat):Int)=0:=by omega
   have hne:(zbF (lv + 1) (ks.take i)).length ≠ 0:=by rw [zde,List.length_take];omega
   obtain ⟨front,nd,hfr⟩:=zhX (l:=zbF (lv + 1) (ks.take i)) (fun e=>hne (by rw [e];rfl))
   rw [hfr] at hlvl hstep hal
   have hvl:=hlvl.lenV
   have hpl:=hlvl.lenP
   rw [List.length_append] at hvl hpl
   obtain ⟨vf,v,rfl,hvf⟩:=zgW hvl
   obtain ⟨pf,p,rfl,hpf⟩:=zgW hpl
   have hat:=hlvl.val front.length nd p (by simp) (by rw [← hpf];simp)
   have hv:v=zbR nd p:=by
    have h:=hat.1
    rw [← hvf,List.getElem?_append_right (Nat.le_refl _),Nat.sub_self] at h
    injection h
   subst hv
   have hpa:=hat.2
   have hpid:=hids p (List.mem_append_right _ (List.mem_singleton.2 rfl))
   unfold zj0 at hstep
   rw [if_neg hm] at hstep
   simp only [List.getLast?_concat,List.dropLast_concat] at hstep
   have hvfl:vf.length≤1000:=by rw [List.length_append] at hal;omega
   have hsub:IntKind.i64.wrap (((vf.length + 1:Nat):Int) - 1)=(vf.length:Int):=by rw [wrap_i64 (by omega) (by omega)];omega
   have hvv:(vf++[zbR nd p]).length=vf.length + 1:=by simp
   have hvi:vf.length < vf.length + 1:=Nat.lt_succ_self _
   have hvg:(vf++[zbR nd p])[vf.length]?=some (zbR nd p):=by simp
   have hvs:∀ y,(vf++[zbR nd p]).set vf.length y=vf++[y]:=fun y=>by simp
   have hLX:∀ X,(Hc++X)[idL]?=some (.row 124 6 g M (vf++[zbR nd p])):=fun X=>zbk hL
   rw [hvv] at h5
   (repeat refine zc ?_)
   (repeat refine zc ?_);refine za ?_;refine zb (by simp (disch:=omega) only [go_sem,h6,zaH,r1,g1] <;> rfl) ?_
   refine zd ?_
   refine zD (by simp only [go_sem] <;> rfl) ?_ ?_
   ·intro h;cases h
   intro _
   refine zR ?_;show W _ _ _ _ _ _
   (repeat refine zc ?_)
   (repeat refine zc ?_);refine za ?_;refine zb (by simp (disch:=omega) only [go_sem,h5,hsub] <;> rfl) ?_
   refine zd ?_
   (repeat refine zc ?_)
   refine zaS ?_
   rcases hpa with ⟨rfl,hnp⟩ | ⟨idp,gp,rfl,hrp⟩
   ·have hbb2:1 * 17≤140737488355328:=by omega
    have hLXY:∀ X Y,(Hc++X++Y)[idL]?=some (.row 124 6 g M (vf++[zbR nd .nilsl])):=fun X Y=>zbk (zbk hL)
    refine zbv (by first | exact trivial | simp only [go_sem,List.filter_cons,List.filter_nil,List.contains_cons,List.contains_nil,Bool.or_false,Nat.reduceBEq,zb4,zb3,zbJ,h0,h1,h5,h6,h8,h13,hL,hLX,hM,hv8,hbv,hlt,hM8,hvg,hvi,ze]) (by simp (disch:=omega) only [go_sem,h0,h1,h5,h6,h8,h13,hL,hLX,hM,hv8,hbv,hlt,hM8,hvg,hvi,ze] <;> rfl) rfl (by first | rfl | (simp only [go_sem] <;> rfl)) (by simp only [go_sem,h0,h1,h5,h6,h8,h13,hL,hLX,hM,hv8,hbv,hlt,hM8,hvg,hvi,ze] <;> rfl) (by simp (disch:=omega) only [go_sem,h0,h1,h5,h6,h8,h13,hL,hLX,hM,hv8,hbv,hlt,hM8,hvg,hvi,ze] <;> rfl) (by simp only [go_sem] <;> rfl) ?_
    refine zbv (by first | exact trivial | simp only [go_sem,List.filter_cons,List.filter_nil,List.contains_cons,List.contains_nil,Bool.or_false,Nat.reduceBEq,zb4,zb3,zbJ,h0,h1,h5,h6,hL,hLX,hLXY,hM,hvg,hvi,hvs,ze]) (by simp (disch:=omega) only [go_sem,h0,h1,h5,h6,hL,hLX,hLXY,hM,hvg,hvi,hvs,ze] <;> rfl) rfl (by first | rfl | (simp only [go_sem] <;> rfl)) (by simp only [go_sem,h0,h1,h5,h6,hL,hLX,hLXY,hM,hvg,hvi,hvs,ze] <;> rfl) (by simp (disch:=omega) only [go_sem,h0,h1,h5,h6,hL,hLX,hLXY,hM,hvg,hvi,hvs,ze] <;> rfl) (by simp only [go_sem] <;> rfl) ?_
    refine zX (by first | exact trivial | simp only [go_sem,h0]) (by simp (disch:=omega) only [go_sem,h0] <;> rfl) rfl ?_
    refine zaf ?_;simp only [zu,zab,zf,go_sem]
    simp only [zf,zi,zh,zg,zu,zj,if_true,reduceIte]
    (repeat refine zc ?_);refine za ?_;refine zb (by simp (disch:=omega) only [go_sem,h6] <;> rfl) ?_
    refine zC ?_;simp only [zf,zi,zh,zg,zu,zj,if_true,↓reduceIte]
    have hlc:idL < Hc.length:=(List.getElem?_eq_some_iff.1 hL).1
    refine ⟨_,?m,i + 1,_,idL,g,g,vf++[zbR (zcr nd (nd.pairs++[(x.low,b)])) (.sl (Hc.length + 1) 0 0 1 2 2)],pf++[.sl (Hc.length + 1) 0 0 1 2 2],rfl,hlt,((hst.app _).app _).set hidL _,Nat.le_refl _,?G,hidL,?L,?I,by simp [upd,h0],by simp [upd,h1],by simp [upd,h5],by simp [upd,h6],trivial,rfl⟩
    case m=>omega
    case G =>
     rw [List.getElem?_set_self (by simp only [List.length_append,List.length_cons,List.length_nil];omega)]
     simp [zcr]
    case L =>
     rw [hstep]
     refine hlvl.last hvf hpf ?_ (fun a ha=>?_) (fun id o ho hi=>?_)
     ·refine .inr ⟨Hc.length + 1,0,by simp [zcr,hnp],?_⟩
      rw [List.getElem?_set_ne (by omega)]
      simp [zcr,hnp]
     ·right
      have:Hc.length + 1=a:=by simpa [zdl] using ha
      show Hc.length≤a
      omega
     ·left
      have hne:idL ≠ id:=fun e=>by subst e;rw [hL] at hi;injection hi with hi;subst hi;exact absurd (show (124:Nat)=66 from ho) (by decide)
      rw [List.getElem?_set_ne hne]
      exact zbk (zbk hi)
    case I =>
     intro p hp a ha
     rcases List.mem_append.1 hp with hp | hp
     ·exact hids p (List.mem_append_left _ hp) a ha
     ·obtain rfl:=List.mem_singleton.1 hp
      have:Hc.length + 1=a:=by simpa [zdl] using ha
      have:=List.getElem?_eq_some_iff.1 hL
      omega
   ·have hkl2:nd.pairs.length≤18:=zqr (n:=nd) (by rw [hfr];exact List.mem_append_right _ (List.mem_singleton.2 rfl))
    have hbb2:(nd.pairs.length + 1) * 17≤140737488355328:=by omega
    have hrX:∀ X,(Hc++X)[idp]?=some (.row 66 2 gp 0 (nd.pairs.map pv)):=fun X=>zbk hrp
    have hipl:idp < Hc.length:=(List.getElem?_eq_some_iff.1 hrp).1
    have hidp:H.length≤idp:=hpid idp rfl
    have d1:idL ≠ idp:=fun e=>by subst e;rw [hL] at hrp;injection hrp with hrp;injection hrp with hrp;cases hrp
    have d2:i8 ≠ idp:=by have:=(List.getElem?_eq_some_iff.1 hr8).1;omega
    have d3:i13 ≠ idp:=by have:=(List.getElem?_eq_some_iff.1 hr13).1;omega
    have d4:Hc.length ≠ idp:=by omega
    have b1:(idL == idp)=false:=by simpa using d1
    have b2:(i8 == idp)=false:=by simpa using d2
    have b3:(i13 == idp)=false:=by simpa using d3
    have b4:(Hc.length == idp)=false:=by simpa using d4
    have b1':(idp == idL)=false:=by simpa using d1.symm
    have b2':(idp == i8)=false:=by simpa using d2.symm
    have b3':(idp == i13)=false:=by simpa using d3.symm
    have b4':(idp == Hc.length)=false:=by simpa using d4.symm
    have hLS:∀ X y,((Hc++X).set idp y)[idL]?=some (.row 124 6 g M (vf++[zbR nd (.sl idp gp 0 nd.pairs.length (2 * nd.pairs.length) 2)])):=fun X y=>by rw [List.getElem?_set_ne (fun e=>d1 e.symm)];exact zbk hL
    refine zbv (by first | exact trivial | simp only [go_sem,List.filter_cons,List.filter_nil,List.contains_cons,List.contains_nil,Bool.or_false,Nat.reduceBEq,zb4,zb3,zbJ,h0,h1,h5,h6,h8,h13,hL,hLX,hM,hv8,hbv,hlt,hM8,hvg,hvi,hrX,hbb2,ze]) (by simp (disch:=omega) only [go_sem,h0,h1,h5,h6,h8,h13,hL,hLX,hM,hv8,hbv,hlt,hM8,hvg,hvi,hrX,hbb2,ze] <;> rfl) rfl (by first | rfl | (simp only [go_sem] <;> rfl)) (by simp only [go_sem,h0,h1,h5,h6,h8,h13,hL,hLX,hM,hv8,hbv,hlt,hM8,hvg,hvi,hrX,hbb2,ze] <;> rfl) (by simp (disch:=omega) only [go_sem,h0,h1,h5,h6,h8,h13,hL,hLX,hM,hv8,hbv,hlt,hM8,hvg,hvi,hrX,hbb2,ze] <;> rfl) (by simp only [go_sem] <;> rfl) ?_
    refine zbv (by first | exact trivial | simp only [go_sem,List.filter_cons,List.filter_nil,List.contains_cons,List.contains_nil,Bool.or_false,Nat.reduceBEq,zb4,zb3,zbJ,h0,h1,h5,h6,hL,hLX,hLS,hM,hvg,hvi,hvs,ze,b1,b2,b3,b4,b1',b2',b3',b4']) (by simp (disch:=omega) only [go_sem,h0,h1,h5,h6,hL,hLX,hLS,hM,hvg,hvi,hvs,ze,b1,b2,b3,b4,b1',b2',b3',b4'] <;> rfl) rfl (by first | rfl | (simp only [go_sem] <;> rfl)) (by simp only [go_sem,h0,h1,h5,h6,hL,hLX,hLS,hM,hvg,hvi,hvs,ze,b1,b2,b3,b4,b1',b2',b3',b4'] <;> rfl) (by simp (disch:=omega) only [go_sem,h0,h1,h5,h6,hL,hLX,hLS,hM,hvg,hvi,hvs,ze,b1,b2,b3,b4,b1',b2',b3',b4'] <;> rfl) (by simp only [go_sem] <;> rfl) ?_
    refine zX (by first | exact trivial | simp only [go_sem,h0]) (by simp (disch:=omega) only [go_sem,h0] <;> rfl) rfl ?_
    refine zaf ?_;simp only [zu,zab,zf,go_sem]
    simp only [zf,zi,zh,zg,zu,zj,if_true,reduceIte]
    (repeat refine zc ?_);refine za ?_;refine zb (by simp (disch:=omega) only [go_sem,h6] <;> rfl) ?_
    refine zC ?_;simp only [zf,zi,zh,zg,zu,zj,if_true,↓reduceIte]
    have hlc:idL < Hc.length:=(List.getElem?_eq_some_iff.1 hL).1
    refine ⟨_,?m,i + 1,_,idL,g,g,vf++[zbR (zcr nd (nd.pairs++[(x.low,b)])) (.sl idp (gp + 1) 0 (nd.pairs.length + 1) (2 * (nd.pairs.length + 1)) 2)],pf++[.sl idp (gp + 1) 0 (nd.pairs.length + 1) (2 * (nd.pairs.length + 1)) 2],rfl,hlt,((hst.app _).set hidp _).set hidL _,Nat.le_refl _,?G,hidL,?L,?I,by simp [upd,h0],by simp [upd,h1],by simp [upd,h5],by simp [upd,h6],trivial,rfl⟩
    case m=>omega
    case G =>
     rw [List.getElem?_set_self (by simp only [List.length_set,List.length_append,List.length_cons,List.length_nil];omega)]
     simp [zcr]
    case L =>
     rw [hstep]
     refine hlvl.last hvf hpf ?_ (fun a ha=>?_) (fun id o ho hi=>?_)
     ·refine .inr ⟨idp,gp + 1,by simp [zcr],?_⟩
      rw [List.getElem?_set_ne d1,List.getElem?_set_self (by simp only [List.length_append,List.length_cons,List.length_nil];omega)]
      simp [zcr]
     ·left
      exact ha
     ·by_cases he:idp=id
      ·right;rw [← he];rfl
      ·left
       have hne:idL ≠ id:=fun e=>by subst e;rw [hL] at hi;injection hi with hi;subst hi;exact absurd (show (124:Nat)=66 from ho) (by decide)
       rw [List.getElem?_set_ne hne,List.getElem?_set_ne he]
       exact zbk hi
    case I =>
     intro p hp a ha
     rcases List.mem_append.1 hp with hp | hp
     ·exact hids p (List.mem_append_left _ hp) a ha
     ·obtain rfl:=List.mem_singleton.1 hp
      have:idp=a:=by simpa [zdl] using ha
      omega
def zbQ (a:Nat) (H H':List zk):Prop:=∀ (id:Nat) (o:zk),id ≠ a→H[id]?=some o→H'[id]?=some o
theorem zbQ.refl (a:Nat) (H:List zk):zbQ a H H:=fun _ _ _ h=>h
theorem zbQ.app {a:Nat} {H Hc:List zk} (h:zbQ a H Hc) (X:List zk):zbQ a H (Hc++X):=fun id o hi ho=>zbk (h id o hi ho)
theorem zbQ.set {a:Nat} {H Hc:List zk} (h:zbQ a H Hc) (o':zk):zbQ a H (Hc.set a o'):=fun id o hi ho=>by
 rw [List.getElem?_set_ne (fun e=>hi e.symm)]
 exact h id o hi ho
theorem zbQ.trans {a:Nat} {H H' H'':List zk} (h:zbQ a H H') (k:zbQ a H' H''):zbQ a H H'':=fun id o hi ho=>k id o hi (h id o hi ho)
theorem zjL {H X:List zk} {a:Nat} {o o':zk} (h:H[a]?=some o):((H++X).set a o')[a]?=some o':=by
 have:=(List.getElem?_eq_some_iff.1 h).1
 rw [List.getElem?_set_self (by rw [List.length_append];omega)]
theorem zrr (q:Nat) (free:List Nat) (used n:Nat) (hfl:free.length < 1000000) (hul:used + n≤free.length) (tm:Nat→PV) (H:List zk) (idL g:Nat) (z8:Nat) (idA:Nat) (hA:H[idA]?=some (.row 3 1 0 0 [])) (h1:tm 1=.list q 1 (bfl free)) (h8:tm 8=.sl idL g 0 n z8 6) (h12:tm 12=iv used) (h13:tm 13=.sl idA 0 0 0 0 1) (h14:tm 14=iv 0) {Q:FX→FSt→Prop}
  (hQ:∀ (tm':Nat→PV) (H':List zk),zbQ idA H H'→H'[idA]?=some (.row 3 1 n 0 (bfl ((free.drop used).take n)))→(∀ k,k ≠ 13→k ≠ 14→(k < 74∨88 < k)→tm' k=tm k)→tm' 13=.sl idA n 0 n (2 * n) 1→Q .norm ⟨tm',[],H'⟩) :
  W ET ET.caught none c27_4 ⟨tm,[],H⟩ Q:=by
 unfold c27_4
 have hbg:∀ i,i < n→((free.drop used).take n)[i]?=some (free.getD (used + i) 0):=fun i hi=>by
  rw [List.getElem?_take,if_pos hi,List.getElem?_drop,List.getD_eq_getElem?_getD,List.getElem?_eq_getElem (show used + i < free.length by omega)];rfl
 have hbl:((free.drop used).take n).length=n:=by rw [List.length_take,List.length_drop];omega
 generalize hbs:(free.drop used).take n=bs at *
 refine zG (zav (fun m s=>∃ (i:Nat) (Hc:List zk),m=n - i∧i≤n∧zbQ idA H Hc∧Hc[idA]?=some (.row 3 1 i 0 (bfl (bs.take i)))∧(∀ k,k ≠ 13→k ≠ 14→(k < 74∨88 < k)→s.tm k=tm k)∧s.tm 13=.sl idA i 0 i (2 * i) 1∧s.tm 14=iv i∧s.df=[]∧s.H=Hc) (n:=n) ?_ ?_)
 ·exact ⟨0,H,rfl,Nat.zero_le _,.refl _ _,hA,fun k _ _ _=>rfl,h13,h14,rfl,rfl⟩
 ·rintro m ⟨tn,df,Hc⟩ ⟨i,Hc',rfl,hi,hst,hr,hf,h13',h14',rfl,rfl⟩
  dsimp only at hf h13' h14'
  have h1':=(hf 1 (by decide) (by decide) (by decide)).trans h1
  have h8':=(hf 8 (by decide) (by decide) (by decide)).trans h8
  have h12':=(hf 12 (by decide) (by decide) (by decide)).trans h12
  (try refine zY ?_);refine zc (za ?_);refine zb (by simp (disch:=omega) only [go_sem,h8',h14'] <;> rfl) ?_;refine zd ?_;refine zad (by simp only [go_sem] <;> rfl) ?_ ?_
  ·intro hlt
   have hlt:i < n:=by have:=of_decide_eq_true hlt;omega
   have hfi:used + i < free.length:=by omega
   have hfv:(bfl free)[used + i]?=some (iv (free.getD (used + i) 0:Nat)):=by rw [List.getElem?_map,List.getElem?_eq_getElem hfi,List.getD_eq_getElem?_getD,List.getElem?_eq_getElem hfi];rfl
   have e1:((used:Int) + (i:Int))=((used + i:Nat):Int):=by omega
   have hb2:(i + 1) * 9≤140737488355328:=by omega
   have hlen:(bfl (bs.take i)).length=i:=by rw [List.length_map,List.length_take];omega
   have hX:∀ X,(Hc++X)[idA]?=some (.row 3 1 i 0 (bfl (bs.take i))):=fun X=>zbk hr
   have hstep:bfl (bs.take (i + 1))=bfl (bs.take i)++[iv (free.getD (used + i) 0:Nat)]:=by
    rw [List.take_add_one,hbg i hlt];simp
   generalize free.getD (used + i) 0=b at *
   (repeat refine zc ?_)
   refine zG ?_
   (repeat refine zc ?_)
   (repeat refine zc ?_);refine za ?_;refine zb (by simp (disch:=omega) only [go_sem,h1',h12',h13',h14',e1,hfi,hfv,hb2,hlen,hX,ze] <;> rfl) ?_
   refine zC ?_;simp only [zf,zi,zh,zg,zu,zj,if_true,↓reduceIte]
   (repeat refine zc ?_);refine za ?_;refine zb (by simp (disch:=omega) only [go_sem,h14'] <;> rfl) ?_
   refine zC ?_;simp only [zf,zi,zh,zg,zu,zj,if_true,↓reduceIte]
   refine ⟨_,?m,i + 1,_,rfl,hlt,(hst.app _).set _,?G,fun k k1 k2 k3=>?_,by simp [upd],by simp [upd,h14'],trivial,rfl⟩
   case m=>omega
   case G=>rw [zjL hr,hstep]
   ·simp (disch:=omega) only [zZ];exact hf k k1 k2 k3
  ·intro hlt
   have hlt:¬ i < n:=by have:=of_decide_eq_false hlt;omega
   obtain rfl:i=n:=by omega
   simp only [zf,zi,zh,zg,zu,zj,if_true,reduceIte]
   refine hQ _ Hc hst (by rw [hr,← hbl,List.take_length]) (fun k k1 k2 k3=>?_) (by simp [upd,h13'])
   simp (disch:=omega) only [zZ]
   exact hf k k1 k2 k3
theorem zrf (bs ws:List Nat) (i b:Nat) (hb:bs[i]?=some b) (hbm:b < 2048) (hws:ws.length=64) (hbs:bs.length < 1000000) (tm:Nat→PV) (H:List zk) (idO:Nat) (V0:List PV) (hV0:V0.length < 1000000) (idA gA:Nat) (hne:idA ≠ idO) (hO:H[idO]?=some (.row 83 2 V0.length 0 V0)) (hA:H[idA]?=some (.row 3 1 gA 0 (bfl bs))) (h11:tm 11=.sl idO V0.length 0 V0.length (2 * V0.length) 2) (h13:tm 13=.sl idA gA 0 bs.length (2 * bs.length) 1) (h15:tm 15=iv i) (h16:tm 16=wv 0 ws) (h17:tm 17=iv 0) {Q:FX→FSt→Prop}
  (hQ:∀ (tm':Nat→PV) (H':List zk) (V:List PV),V=V0++(zcU b ws).map zbL→zbQ idO H H'→H'[idO]?=some (.row 83 2 V.length 0 V)→(∀ k,k ≠ 11→k ≠ 17→(k < 114∨132 < k)→tm' k=tm k)→tm' 11=.sl idO V.length 0 V.length (2 * V.length) 2→Q .norm ⟨tm',[],H'⟩) :
  W ET ET.caught none c27_8 ⟨tm,[],H⟩ Q:=by
 unfold c27_8
 refine zG (zav (fun m s=>∃ (j:Nat) (V:List PV) (Hc:List zk),m=64 - j∧j≤64∧V=V0++((List.range j).map fun k=>(64 * b + k,ws.getD k 0)).map zbL∧zbQ idO H Hc∧Hc[idO]?=some (.row 83 2 V.length 0 V)∧(∀ k,k ≠ 11→k ≠ 17→(k < 114∨132 < k)→s.tm k=tm k)∧s.tm 11=.sl idO V.length 0 V.length (2 * V.length) 2∧s.tm 17=iv j∧s.df=[]∧s.H=Hc) (n:=64) ?_ ?_)
 ·exact ⟨0,V0,H,rfl,Nat.zero_le _,by simp,.refl _ _,hO,fun k _ _ _=>rfl,h11,h17,rfl,rfl⟩
 ·rintro m ⟨tn,df,Hc⟩ ⟨j,V,Hc',rfl,hj,hV,hst,hr,hf,h11',h17',rfl,rfl⟩
  dsimp only at hf h11' h17'
  have h13':=(hf 13 (by decide) (by decide) (by decide)).trans h13
  have h15':=(hf 15 (by decide) (by decide) (by decide)).trans h15
  have h16':=(hf 16 (by decide) (by decide) (by decide)).trans h16
  have hVl:V.length=V0.length + j:=by rw [hV];simp
  (try refine zY ?_);refine zc (za ?_);refine zb (by simp (disch:=omega) only [go_sem,h17'] <;> rfl) ?_;refine zd ?_;refine zad (by simp only [go_sem] <;> rfl) ?_ ?_
  ·intro hlt
   have hlt:j < 64:=by have:=of_decide_eq_true hlt;omega
   have hA':=hst idA _ hne hA
   have hbv:(bfl bs)[i]?=some (iv b):=by rw [List.getElem?_map,hb];rfl
   have hib:i < bs.length:=(List.getElem?_eq_some_iff.1 hb).1
   have hlt2:j < ws.length:=by omega
   have hqv:(ws.map uv)[j]?=some (uv (ws.getD j 0)):=by rw [List.getElem?_map,List.getElem?_eq_getElem hlt2,List.getD_eq_getElem?_getD,List.getElem?_eq_getElem hlt2];rfl
   have hb2:(V.length + 1) * 17≤140737488355328:=by omega
   have hV2:V++[zbL (64 * b + j,ws.getD j 0)]=V0++((List.range (j + 1)).map fun k=>(64 * b + k,ws.getD k 0)).map zbL:=by rw [List.range_succ,hV];simp
   have e1:IntKind.i64.wrap (64 * (b:Int))=((64 * b:Nat):Int):=by rw [wrap_i64 (by omega) (by omega)];omega
   have e2:IntKind.i64.wrap (((64 * b:Nat):Int) + (j:Int))=((64 * b + j:Nat):Int):=by rw [wrap_i64 (by omega) (by omega)];omega
   have hX:∀ X,(Hc++X)[idO]?=some (.row 83 2 V.length 0 V):=fun X=>zbk hr
   (repeat refine zc ?_)
   refine zG ?_
   (repeat refine zc ?_)
   refine zaS ?_
   refine zbv (by first | exact trivial | simp only [go_sem,List.filter_cons,List.filter_nil,List.contains_cons,List.contains_nil,Bool.or_false,Nat.reduceBEq,zb4,zb3,zbJ,h11',h13',h15',h16',h17',hA',hbv,hib,hlt2,hqv,e1,e2,hb2,hX,ze]) (by simp (disch:=omega) only [go_sem,h11',h13',h15',h16',h17',hA',hbv,hib,hlt2,hqv,e1,e2,hb2,hX,ze] <;> rfl) rfl (by first | rfl | (simp only [go_sem] <;> rfl)) (by simp only [go_sem,h11',h13',h15',h16',h17',hA',hbv,hib,hlt2,hqv,e1,e2,hb2,hX,ze] <;> rfl) (by simp (disch:=omega) only [go_sem,h11',h13',h15',h16',h17',hA',hbv,hib,hlt2,hqv,e1,e2,hb2,hX,ze] <;> rfl) (by simp only [go_sem] <;> rfl) ?_
   refine zX (by first | exact trivial | simp only [go_sem,h15']) (by simp (disch:=omega) only [go_sem,h15'] <;> rfl) rfl ?_
   refine zaf ?_;simp only [zu,zab,zf,go_sem]
   (repeat refine zc ?_);refine za ?_;refine zb (by simp (disch:=omega) only [go_sem,h17'] <;> rfl) ?_
   refine zC ?_;simp only [zf,zi,zh,zg,zu,zj,if_true,↓reduceIte]
   refine ⟨_,?m,j + 1,V++[zbL (64 * b + j,ws.getD j 0)],_,rfl,hlt,hV2,(hst.app _).set _,?G,fun k k1 k2 k3=>?_,by simp [upd],by simp [upd,h17'],trivial,rfl⟩
   case m=>omega
   case G=>rw [zjL hr,List.length_append];rfl
   ·simp (disch:=omega) only [zZ];exact hf k k1 k2 k3
  ·intro hlt
   have hlt:¬ j < 64:=by have:=of_decide_eq_false hlt;omega
   obtain rfl:j=64:=by omega
   simp only [zf,zi,zh,zg,zu,zj,if_true,reduceIte]
   refine hQ _ Hc V (by rw [hV,zcU,hws]) hst hr (fun k k1 k2 k3=>?_) (by simp [upd,h11'])
   simp (disch:=omega) only [zZ]
   exact hf k k1 k2 k3
theorem znH {l:List Pr} {n:zo} (h:n∈zbq l):n.pairs.length≤18:=by
 rw [zf0] at h
 obtain ⟨i,_,rfl⟩:=List.mem_map.1 h
 show ((l.drop (18 * i)).take 18).length≤18
 rw [List.length_take];omega
set_option maxHeartbeats 4000000 in
theorem zq1 (p:Nat) (l:List Pr) (hl:l.length≤500) (tm:Nat→PV) (H:List zk) (idL g0 M0:Nat) (vs0 ps0:List PV) (hM0:M0≤g0) (hL0:H[idL]?=some (.row 124 6 g0 M0 vs0)) (hlv0:Lvl H vs0 ps0 (zbq [])) (h0:tm 0=psv p l) (h8:tm 8=.sl idL g0 0 vs0.length (2 * vs0.length) 6) (h9:tm 9=iv 0) {Q:FX→FSt→Prop}
  (hQ:∀ (tm':Nat→PV) (H':List zk) (g M:Nat) (vs ps:List PV),M≤g→H'[idL]?=some (.row 124 6 g M vs)→Lvl H' vs ps (zbq l)→(∀ k,k ≠ 8→k ≠ 9→k ≠ 10→(k < 34∨73 < k)→tm' k=tm k)→tm' 8=.sl idL g 0 vs.length (2 * vs.length) 6→Q .norm ⟨tm',[],H'⟩) :
  W ET ET.caught none c27_0 ⟨tm,[],H⟩ Q:=by
 unfold c27_0
 refine zG (zav (fun m s=>∃ (i:Nat) (Hc:List zk) (g M:Nat) (vs ps:List PV),m=l.length - i∧i≤l.length∧M≤g∧Hc[idL]?=some (.row 124 6 g M vs)∧Lvl Hc vs ps (zbq (l.take i))∧(∀ k,k ≠ 8→k ≠ 9→k ≠ 10→(k < 34∨73 < k)→s.tm k=tm k)∧s.tm 8=.sl idL g 0 vs.length (2 * vs.length) 6∧s.tm 9=iv i∧s.df=[]∧s.H=Hc) (n:=l.length) ?_ ?_)
 ·exact ⟨0,H,g0,M0,vs0,ps0,rfl,Nat.zero_le _,hM0,hL0,by rw [List.take_zero];exact hlv0,fun k _ _ _ _=>rfl,h8,h9,rfl,rfl⟩
 ·rintro m ⟨tn,df,Hc⟩ ⟨i,Hc',g,M,vs,ps,rfl,hi,hM,hL,hlvl,hf,h8',h9',rfl,rfl⟩
  dsimp only at hf h8' h9'
  have h0':=(hf 0 (by decide) (by decide) (by decide) (by decide)).trans h0
  (try refine zY ?_);refine zc (za ?_);refine zb (by simp (disch:=omega) only [go_sem,h0',h9',List.length_map] <;> rfl) ?_;refine zd ?_;refine zad (by simp only [go_sem] <;> rfl) ?_ ?_
  rotate_left
  ·intro hlt
   have hlt:¬ i < l.length:=by have:=of_decide_eq_false hlt;omega
   obtain rfl:i=l.length:=by omega
   simp only [zf,zi,zh,zg,zu,zj,if_true,reduceIte]
   rw [List.take_length] at hlvl
   refine hQ _ Hc g M vs ps hM hL hlvl (fun k k1 k2 k3 k4=>?_) (by simp [upd,h8'])
   simp (disch:=omega) only [zZ]
   exact hf k k1 k2 k3 k4
  intro hlt
  have hlt:i < l.length:=by have:=of_decide_eq_true hlt;omega
  obtain ⟨x,hx⟩:∃ x,l[i]?=some x:=⟨_,List.getElem?_eq_getElem hlt⟩
  have hxv:(l.map pv)[i]?=some (pv x):=by rw [List.getElem?_map,hx];rfl
  have hstep:=zqc l i hlt
  rw [getD_some hx] at hstep
  have r1:(i:Int).tmod 18=((i % 18:Nat):Int):=rfl
  have hnl:(zbq (l.take i)).length≤28:=by rw [zdx,List.length_take];omega
  have hvl:=hlvl.lenV
  have hfew:∀ n∈zex i x (zbq (l.take i)),n.pairs.length≤18:=by
   intro n hn
   unfold zex at hn
   split at hn
   ·rcases List.mem_append.1 hn with hn | hn
    ·exact znH hn
    ·obtain rfl:=List.mem_singleton.1 hn;exact Nat.zero_le _
   ·exact znH hn
  have hnz:zex i x (zbq (l.take i)) ≠ []:=by
   unfold zex
   split
   ·simp
   ·intro e;have:=congrArg List.length e;rw [zdx] at this;simp at this
  have hnw:(zex i x (zbq (l.take i))).length≤29:=by
   unfold zex
   split
   ·rw [List.length_append];simp;omega
   ·omega
  generalize hnodes:zex i x (zbq (l.take i))=nodes at hstep hfew hnz hnw
  (repeat refine zc ?_)
  refine zG ?_
  refine zc (zdH (Q:=fun y s'=>y=.norm∧∃ (g M:Nat) (vs ps:List PV),M≤g∧s'.H[idL]?=some (.row 124 6 g M vs)∧Lvl s'.H vs ps nodes∧(∀ k,k ≠ 8→k ≠ 9→k ≠ 10→(k < 34∨73 < k)→s'.tm k=tn k)∧s'.tm 8=.sl idL g 0 vs.length (2 * vs.length) 6∧s'.tm 9=iv i∧s'.df=[]) ?_ ?_)
  ·by_cases hm:0 < i∧i % 18=0
   ·have g1:((i % 18:Nat):Int)=0:=by omega
    have g0:(0:Int) < (i:Int):=by omega
    have hbb2:(vs.length + 1) * 65≤140737488355328:=by omega
    have hLX:∀ X,(Hc++X)[idL]?=some (.row 124 6 g M vs):=fun X=>zbk hL
    unfold zex at hnodes
    rw [if_pos hm] at hnodes
    (repeat refine zc ?_)
    (repeat refine zc ?_);refine za ?_;refine zb (by simp (disch:=omega) only [go_sem,h9',zaH,r1,g1,g0] <;> rfl) ?_
    refine zd ?_
    refine zD (by simp only [go_sem] <;> rfl) ?_ ?_
    rotate_left
    ·intro h;cases h
    intro _
    refine za ?_
    refine zb (by simp (disch:=omega) only [go_sem,h0',h8',h9',hxv,hlt,hbb2,hLX,ze] <;> rfl) ?_
    refine zC ?_
    refine ⟨rfl,g + 1,M,vs++[zbR ⟨0,0,x.1,9223372036854775808,0,[]⟩ .nilsl],ps++[.nilsl],by omega,zjL hL,?_,fun k k1 k2 k3 k4=>?_,by simp [upd],by simp [upd,h9'],rfl⟩
    ·rw [← hnodes]
     exact (hlvl.snoc _ rfl).other hL (fun h=>absurd (show (124:Nat)=66 from h) (by decide)) _
    ·simp (disch:=omega) only [zZ]
   ·unfold zex at hnodes
    rw [if_neg hm] at hnodes
    by_cases g0:0 < i
    ·have g0':(0:Int) < (i:Int):=by omega
     have g1:¬ ((i % 18:Nat):Int)=0:=by omega
     (repeat refine zc ?_)
     (repeat refine zc ?_);refine za ?_;refine zb (by simp (disch:=omega) only [go_sem,h9',zaH,r1,g1,g0'] <;> rfl) ?_
     refine zd ?_
     refine zD (by simp only [go_sem] <;> rfl) ?_ ?_
     ·intro h;cases h
     intro _
     refine zR ⟨rfl,g,M,vs,ps,hM,hL,by rw [← hnodes];exact hlvl,fun k k1 k2 k3 k4=>?_,by simp [upd,h8'],by simp [upd,h9'],rfl⟩
     simp (disch:=omega) only [zZ]
    ·obtain rfl:i=0:=by omega
     (repeat refine zc ?_)
     (repeat refine zc ?_);refine za ?_;refine zb (by simp (disch:=omega) only [go_sem,h9'] <;> rfl) ?_
     refine zd ?_
     refine zD (by simp only [go_sem] <;> rfl) ?_ ?_
     ·intro h;cases h
     intro _
     refine zR ⟨rfl,g,M,vs,ps,hM,hL,by rw [← hnodes];exact hlvl,fun k k1 k2 k3 k4=>?_,by simp [upd,h8'],by simp [upd,h9'],rfl⟩
     simp (disch:=omega) only [zZ]
  clear hM hL hlvl hvl h8' h9'
  rintro y ⟨tq,df,Hc⟩ ⟨rfl,g,M,vs,ps,hM,hL,hlvl,hf2,h8',h9',rfl⟩
  dsimp only at hM hL hlvl hf2 h8' h9'
  simp only [zf,zi,zh,zg,zu,zj,if_true,reduceIte]
  have h0q:=(hf2 0 (by decide) (by decide) (by decide) (by decide)).trans h0'
  obtain ⟨front,nd,hfr⟩:=zhX (l:=nodes) hnz
  subst hfr
  have hvl:=hlvl.lenV
  have hpl:=hlvl.lenP
  rw [List.length_append] at hvl hpl
  obtain ⟨vf,v,rfl,hvf⟩:=zgW hvl
  obtain ⟨pf,p',rfl,hpf⟩:=zgW hpl
  have hat:=hlvl.val front.length nd p' (by simp) (by rw [← hpf];simp)
  have hv:v=zbR nd p':=by
   have h:=hat.1
   rw [← hvf,List.getElem?_append_right (Nat.le_refl _),Nat.sub_self] at h
   injection h
  subst hv
  have hpa:=hat.2
  have hkl2:nd.pairs.length≤18:=hfew nd (List.mem_append_right _ (List.mem_singleton.2 rfl))
  unfold zmp at hstep
  simp only [List.getLast?_concat,List.dropLast_concat] at hstep
  have hvfl:vf.length≤1000:=by rw [List.length_append] at hnw;omega
  have hsub:IntKind.i64.wrap (((vf.length + 1:Nat):Int) - 1)=(vf.length:Int):=by rw [wrap_i64 (by omega) (by omega)];omega
  have hvv:(vf++[zbR nd p']).length=vf.length + 1:=by simp
  have hvi:vf.length < vf.length + 1:=Nat.lt_succ_self _
  have hvg:(vf++[zbR nd p'])[vf.length]?=some (zbR nd p'):=by simp
  have hvs:∀ y,(vf++[zbR nd p']).set vf.length y=vf++[y]:=fun y=>by simp
  have hLX:∀ X,(Hc++X)[idL]?=some (.row 124 6 g M (vf++[zbR nd p'])):=fun X=>zbk hL
  rw [hvv] at h8'
  (repeat refine zc ?_)
  (repeat refine zc ?_);refine za ?_;refine zb (by simp (disch:=omega) only [go_sem,h8',hsub] <;> rfl) ?_
  refine zd ?_
  (repeat refine zc ?_)
  refine zaS ?_
  rcases hpa with ⟨rfl,hnp⟩ | ⟨idp,gp,rfl,hrp⟩
  ·have hLXY:∀ X Y,(Hc++X++Y)[idL]?=some (.row 124 6 g M (vf++[zbR nd .nilsl])):=fun X Y=>zbk (zbk hL)
   refine zbv (by first | exact trivial | simp only [go_sem,List.filter_cons,List.filter_nil,List.contains_cons,List.contains_nil,Bool.or_false,Nat.reduceBEq,zb4,zb3,zbJ,h0q,h8',h9',hL,hLX,hM,hxv,hlt,hvg,hvi,ze,List.length_map]) (by simp (disch:=omega) only [go_sem,h0q,h8',h9',hL,hLX,hM,hxv,hlt,hvg,hvi,ze,List.length_map] <;> rfl) rfl (by first | rfl | (simp only [go_sem] <;> rfl)) (by simp only [go_sem,h0q,h8',h9',hL,hLX,hM,hxv,hlt,hvg,hvi,ze,List.length_map] <;> rfl) (by simp (disch:=omega) only [go_sem,h0q,h8',h9',hL,hLX,hM,hxv,hlt,hvg,hvi,ze,List.length_map] <;> rfl) (by simp only [go_sem] <;> rfl) ?_
   refine zbv (by first | exact trivial | simp only [go_sem,List.filter_cons,List.filter_nil,List.contains_cons,List.contains_nil,Bool.or_false,Nat.reduceBEq,zb4,zb3,zbJ,h0q,h8',h9',hL,hLX,hLXY,hM,hvg,hvi,hvs,ze]) (by simp (disch:=omega) only [go_sem,h0q,h8',h9',hL,hLX,hLXY,hM,hvg,hvi,hvs,ze] <;> rfl) rfl (by first | rfl | (simp only [go_sem] <;> rfl)) (by simp only [go_sem,h0q,h8',h9',hL,hLX,hLXY,hM,hvg,hvi,hvs,ze] <;> rfl) (by simp (disch:=omega) only [go_sem,h0q,h8',h9',hL,hLX,hLXY,hM,hvg,hvi,hvs,ze] <;> rfl) (by simp only [go_sem] <;> rfl) ?_
   refine zX (by first | exact trivial | simp only [go_sem,h0q]) (by simp (disch:=omega) only [go_sem,h0q] <;> rfl) rfl ?_
   refine zaf ?_;simp only [zu,zab,zf,go_sem]
   simp only [zf,zi,zh,zg,zu,zj,if_true,reduceIte]
   (repeat refine zc ?_);refine za ?_;refine zb (by simp (disch:=omega) only [go_sem,h9'] <;> rfl) ?_
   refine zC ?_;simp only [zf,zi,zh,zg,zu,zj,if_true,↓reduceIte]
   have hlc:idL < Hc.length:=(List.getElem?_eq_some_iff.1 hL).1
   refine ⟨_,?m,i + 1,_,g,g,vf++[zbR (zcr nd (nd.pairs++[x])) (.sl (Hc.length + 1) 0 0 1 2 2)],pf++[.sl (Hc.length + 1) 0 0 1 2 2],rfl,hlt,Nat.le_refl _,?G,?L,fun k k1 k2 k3 k4=>?_,by simp [upd,h8'],by simp [upd,h9'],trivial,rfl⟩
   case m=>omega
   case G =>
    rw [List.getElem?_set_self (by simp only [List.length_append,List.length_cons,List.length_nil];omega)]
    simp [zcr]
   case L =>
    rw [hstep]
    refine hlvl.last hvf hpf ?_ (fun a ha=>?_) (fun id o ho hi=>?_)
    ·refine .inr ⟨Hc.length + 1,0,by simp [zcr,hnp],?_⟩
     rw [List.getElem?_set_ne (by omega)]
     simp [zcr,hnp]
    ·right
     have:Hc.length + 1=a:=by simpa [zdl] using ha
     show Hc.length≤a
     omega
    ·left
     have hne:idL ≠ id:=fun e=>by subst e;rw [hL] at hi;injection hi with hi;subst hi;exact absurd (show (124:Nat)=66 from ho) (by decide)
     rw [List.getElem?_set_ne hne]
     exact zbk (zbk hi)
   ·simp (disch:=omega) only [zZ];exact (hf2 k k1 k2 k3 k4).trans (hf k k1 k2 k3 k4)
  ·have hbb2:(nd.pairs.length + 1) * 17≤140737488355328:=by omega
   have hrX:∀ X,(Hc++X)[idp]?=some (.row 66 2 gp 0 (nd.pairs.map pv)):=fun X=>zbk hrp
   have hipl:idp < Hc.length:=(List.getElem?_eq_some_iff.1 hrp).1
   have d1:idL ≠ idp:=fun e=>by subst e;rw [hL] at hrp;injection hrp with hrp;injection hrp with hrp;cases hrp
   have d4:Hc.length ≠ idp:=by omega
   have b1:(idL == idp)=false:=by simpa using d1
   have b4:(Hc.length == idp)=false:=by simpa using d4
   have b1':(idp == idL)=false:=by simpa using d1.symm
   have b4':(idp == Hc.length)=false:=by simpa using d4.symm
   have hLS:∀ X y,((Hc++X).set idp y)[idL]?=some (.row 124 6 g M (vf++[zbR nd (.sl idp gp 0 nd.pairs.length (2 * nd.pairs.length) 2)])):=fun X y=>by rw [List.getElem?_set_ne (fun e=>d1 e.symm)];exact zbk hL
   refine zbv (by first | exact trivial | simp only [go_sem,List.filter_cons,List.filter_nil,List.contains_cons,List.contains_nil,Bool.or_false,Nat.reduceBEq,zb4,zb3,zbJ,h0q,h8',h9',hL,hLX,hM,hxv,hlt,hvg,hvi,hrX,hbb2,ze,List.length_map]) (by simp (disch:=omega) only [go_sem,h0q,h8',h9',hL,hLX,hM,hxv,hlt,hvg,hvi,hrX,hbb2,ze,List.length_map] <;> rfl) rfl (by first | rfl | (simp only [go_sem] <;> rfl)) (by simp only [go_sem,h0q,h8',h9',hL,hLX,hM,hxv,hlt,hvg,hvi,hrX,hbb2,ze,List.length_map] <;> rfl) (by simp (disch:=omega) only [go_sem,h0q,h8',h9',hL,hLX,hM,hxv,hlt,hvg,hvi,hrX,hbb2,ze,List.length_map] <;> rfl) (by simp only [go_sem] <;> rfl) ?_
   refine zbv (by first | exact trivial | simp only [go_sem,List.filter_cons,List.filter_nil,List.contains_cons,List.contains_nil,Bool.or_false,Nat.reduceBEq,zb4,zb3,zbJ,h0q,h8',h9',hL,hLX,hLS,hM,hvg,hvi,hvs,ze,b1,b4,b1',b4']) (by simp (disch:=omega) only [go_sem,h0q,h8',h9',hL,hLX,hLS,hM,hvg,hvi,hvs,ze,b1,b4,b1',b4'] <;> rfl) rfl (by first | rfl | (simp only [go_sem] <;> rfl)) (by simp only [go_sem,h0q,h8',h9',hL,hLX,hLS,hM,hvg,hvi,hvs,ze,b1,b4,b1',b4'] <;> rfl) (by simp (disch:=omega) only [go_sem,h0q,h8',h9',hL,hLX,hLS,hM,hvg,hvi,hvs,ze,b1,b4,b1',b4'] <;> rfl) (by simp only [go_sem] <;> rfl) ?_
   refine zX (by first | exact trivial | simp only [go_sem,h0q]) (by simp (disch:=omega) only [go_sem,h0q] <;> rfl) rfl ?_
   refine zaf ?_;simp only [zu,zab,zf,go_sem]
   simp only [zf,zi,zh,zg,zu,zj,if_true,reduceIte]
   (repeat refine zc ?_);refine za ?_;refine zb (by simp (disch:=omega) only [go_sem,h9'] <;> rfl) ?_
   refine zC ?_;simp only [zf,zi,zh,zg,zu,zj,if_true,↓reduceIte]
   have hlc:idL < Hc.length:=(List.getElem?_eq_some_iff.1 hL).1
   refine ⟨_,?m,i + 1,_,g,g,vf++[zbR (zcr nd (nd.pairs++[x])) (.sl idp (gp + 1) 0 (nd.pairs.length + 1) (2 * (nd.pairs.length + 1)) 2)],pf++[.sl idp (gp + 1) 0 (nd.pairs.length + 1) (2 * (nd.pairs.length + 1)) 2],rfl,hlt,Nat.le_refl _,?G,?L,fun k k1 k2 k3 k4=>?_,by simp [upd,h8'],by simp [upd,h9'],trivial,rfl⟩
   case m=>omega
   case G =>
    rw [List.getElem?_set_self (by simp only [List.length_set,List.length_append,List.length_cons,List.length_nil];omega)]
    simp [zcr]
   case L =>
    rw [hstep]
    refine hlvl.last hvf hpf ?_ (fun a ha=>?_) (fun id o ho hi=>?_)
    ·refine .inr ⟨idp,gp + 1,by simp [zcr],?_⟩
     rw [List.getElem?_set_ne d1,List.getElem?_set_self (by simp only [List.length_append,List.length_cons,List.length_nil];omega)]
     simp [zcr]
    ·left
     exact ha
    ·by_cases he:idp=id
     ·right;rw [← he];rfl
     ·left
      have hne:idL ≠ id:=fun e=>by subst e;rw [hL] at hi;injection hi with hi;subst hi;exact absurd (show (124:Nat)=66 from ho) (by decide)
      rw [List.getElem?_set_ne hne,List.getElem?_set_ne he]
      exact zbk hi
   ·simp (disch:=omega) only [zZ];exact (hf2 k k1 k2 k3 k4).trans (hf k k1 k2 k3 k4)
theorem Lvl.setNode {H:List zk} {vs ps:List PV} {nodes:List zo} (h:Lvl H vs ps nodes) {q:Nat} {n n':zo} {p:PV} (hn:nodes[q]?=some n) (hp:ps[q]?=some p) (he:n'.pairs=n.pairs):Lvl H (vs.set q (zbR n' p)) ps (nodes.set q n'):=by
 have hq:q < nodes.length:=(List.getElem?_eq_some_iff.1 hn).1
 refine ⟨by simp [h.lenV],by simp [h.lenP],fun r m x hm hx=>?_,h.dist⟩
 by_cases hr:r=q
 ·subst hr
  rw [List.getElem?_set_self hq] at hm
  rw [List.getElem?_set_self (by rw [h.lenV];exact hq)]
  injection hm with hm;subst hm
  rw [hp] at hx;injection hx with hx;subst hx
  exact ⟨rfl,by rw [he];exact (h.val r n p hn hp).2⟩
 ·rw [List.getElem?_set_ne (fun e=>hr e.symm)] at hm ⊢
  exact h.val r m x hm hx
theorem Lvl.but {H H':List zk} {vs ps:List PV} {nodes:List zo} (h:Lvl H vs ps nodes) {a:Nat} {o:zk} (ha:H[a]?=some o) (ho:¬ isP o) (k:zbQ a H H'):Lvl H' vs ps nodes :=
 h.keep fun id q hq hi=>k id q (fun e=>by subst e;rw [ha] at hi;injection hi with hi;subst hi;exact ho hq) hi
theorem Lvl.set0 {H:List zk} {vs ps:List PV} {nodes:List zo} (h:Lvl H vs ps nodes) {a:Nat} {o o':zk} (ha:H[a]?=some o) (ho:¬ isP o):Lvl (H.set a o') vs ps nodes :=
 h.but ha ho ((zbQ.refl a H).set o')
theorem zeL.frz {H:List zk} {p:PV} {ps:List Pr} (h:zeL H p ps):Frz H 1 p (psv 1 ps):=by
 rcases h with ⟨rfl,rfl⟩ | ⟨id,g,rfl,h2⟩
 ·exact .nil _ _
 ·exact Frz.whole h2 rfl (by simp) (by simp) (fun v hv=>by obtain ⟨x,_,rfl⟩:=List.mem_map.1 hv;rfl) zeN
def zeG (bs:List Nat) (q:Nat) (n:zo):zo:={ n with sib:=bs.getD (q + 1) 0 }
set_option maxHeartbeats 4000000 in
theorem zrH (bs:List Nat) (nl:List zo) (hbl:bs.length=nl.length) (hnl:nl.length≤100) (hbm:∀ b∈bs,b < 2048) (hg:∀ n∈nl,zb7 n∧n.sib=0) (tm:Nat→PV) (H:List zk) (idL idA idO g M0 gA:Nat) (vs0 ps V0:List PV) (hV0:V0.length < 900000) (hM0:M0≤g) (hL0:H[idL]?=some (.row 124 6 g M0 vs0)) (hlv0:Lvl H vs0 ps nl) (hA0:H[idA]?=some (.row 3 1 gA 0 (bfl bs))) (hO0:H[idO]?=some (.row 83 2 V0.length 0 V0)) (h8:tm 8=.sl idL g 0 nl.length (2 * nl.length) 6) (h11:tm 11=.sl idO V0.length 0 V0.length (2 * V0.length) 2) (h13:tm 13=.sl idA gA 0 bs.length (2 * bs.length) 1) (h15:tm 15=iv 0) {Q:FX→FSt→Prop}
  (hQ:∀ (tm':Nat→PV) (H':List zk) (M:Nat) (vs V:List PV),M≤g→H'[idL]?=some (.row 124 6 g M vs)→Lvl H' vs ps (zai bs nl)→H'[idA]?=some (.row 3 1 gA 0 (bfl bs))→H'[idO]?=some (.row 83 2 V.length 0 V)→V=V0++(zcx bs (zai bs nl)).map zbL→(∀ k,k < 11∨(11 < k∧k < 15)∨132 < k→tm' k=tm k)→tm' 11=.sl idO V.length 0 V.length (2 * V.length) 2→Q .norm ⟨tm',[],H'⟩) :
  W ET ET.caught none c27_6 ⟨tm,[],H⟩ Q:=by
 unfold c27_6
 have hll:=zca bs nl hbl
 have hVl:∀ i,(((bs.zip (zai bs nl)).take i).flatMap fun x=>zcU x.1 (zbp x.2)).length≤64 * i:=fun i=>by
  rw [zgv,List.length_take];omega
 refine zG (zav (fun m s=>∃ (i:Nat) (Hc:List zk) (M:Nat) (vs V:List PV) (nodes:List zo),m=nl.length - i∧i≤nl.length∧M≤g∧Hc[idL]?=some (.row 124 6 g M vs)∧Lvl Hc vs ps nodes∧nodes.length=nl.length∧(∀ (q:Nat) (n:zo),nl[q]?=some n→nodes[q]?=some (if q < i then zeG bs q n else n))∧Hc[idA]?=some (.row 3 1 gA 0 (bfl bs))∧Hc[idO]?=some (.row 83 2 V.length 0 V)∧V=V0++(((bs.zip (zai bs nl)).take i).flatMap fun x=>zcU x.1 (zbp x.2)).map zbL∧(∀ k,k < 11∨(11 < k∧k < 15)∨132 < k→s.tm k=tm k)∧s.tm 11=.sl idO V.length 0 V.length (2 * V.length) 2∧s.tm 15=iv i∧s.df=[]∧s.H=Hc) (n:=nl.length) ?_ ?_)
 ·exact ⟨0,H,M0,vs0,V0,nl,rfl,Nat.zero_le _,hM0,hL0,hlv0,rfl,fun q n hn=>by rw [if_neg (Nat.not_lt_zero _)];exact hn,hA0,hO0,by simp,fun k _=>rfl,h11,h15,rfl,rfl⟩
 ·rintro m ⟨tn,df,Hc⟩ ⟨i,Hc',M,vs,V,nodes,rfl,hi,hM,hL,hlvl,hnlen,hnode,hA,hO,hV,hf,h11',h15',rfl,rfl⟩
  dsimp only at hf h11' h15'
  have h8':=(hf 8 (by decide)).trans h8
  have h13':=(hf 13 (by decide)).trans h13
  have hVli:=hVl i
  have hVlen:V.length≤V0.length + 64 * i:=by rw [hV,List.length_append,List.length_map];omega
  (try refine zY ?_);refine zc (za ?_);refine zb (by simp (disch:=omega) only [go_sem,h8',h15'] <;> rfl) ?_;refine zd ?_;refine zad (by simp only [go_sem] <;> rfl) ?_ ?_
  rotate_left
  ·intro hlt
   have hlt:¬ i < nl.length:=by have:=of_decide_eq_false hlt;omega
   obtain rfl:i=nl.length:=by omega
   simp only [zf,zi,zh,zg,zu,zj,if_true,reduceIte]
   have hnl2:nodes=zai bs nl:=by
    apply List.ext_getElem?
    intro q
    rcases Nat.lt_or_ge q nl.length with hq | hq
    ·have hn:=List.getElem?_eq_getElem hq
     rw [hnode q _ hn,if_pos hq,zdp bs nl q _ hbl hn];rfl
    ·rw [List.getElem?_eq_none (by omega),List.getElem?_eq_none (by omega)]
   rw [hnl2] at hlvl
   refine hQ _ Hc M vs V hM hL hlvl hA hO ?_ (fun k k1=>?_) (by simp [upd,h11'])
   ·rw [hV,List.take_of_length_le (by simp;omega)];rfl
   ·simp (disch:=omega) only [zZ]
    exact hf k k1
  intro hlt
  have hlt:i < nl.length:=by have:=of_decide_eq_true hlt;omega
  obtain ⟨x,hx⟩:∃ x,nl[i]?=some x:=⟨_,List.getElem?_eq_getElem hlt⟩
  obtain ⟨b,hb⟩:∃ b,bs[i]?=some b:=⟨_,List.getElem?_eq_getElem (by omega)⟩
  obtain ⟨p,hp⟩:∃ p,ps[i]?=some p:=⟨_,List.getElem?_eq_getElem (by rw [hlvl.lenP];omega)⟩
  have hxn:nodes[i]?=some x:=by have:=hnode i x hx;rwa [if_neg (Nat.lt_irrefl _)] at this
  have hvx:=(hlvl.val i x p hxn hp).1
  have hgx:=hg x (List.mem_of_getElem? hx)
  have hli:=zdp bs nl i x hbl hx
  change (zai bs nl)[i]?=some (zeG bs i x) at hli
  have hbmb:=hbm b (List.mem_of_getElem? hb)
  have hsib:bs.getD (i + 1) 0 < 2048:=by
   rcases Nat.lt_or_ge (i + 1) bs.length with h | h
   ·rw [List.getD_eq_getElem?_getD,List.getElem?_eq_getElem h]
    exact hbm _ (List.getElem_mem _)
   ·rw [List.getD_eq_getElem?_getD,List.getElem?_eq_none (by omega)];decide
  have hgx':zb7 (zeG bs i x):=hgx.1.setSib hsib
  have dLO:idO ≠ idL:=fun e=>by subst e;rw [hL] at hO;injection hO with hO;injection hO with hO;cases hO
  have dLA:idA ≠ idL:=fun e=>by subst e;rw [hL] at hA;injection hA with hA;injection hA with hA;cases hA
  have dAO:idA ≠ idO:=fun e=>by subst e;rw [hO] at hA;injection hA with hA;injection hA with hA;cases hA
  have e2:((i:Int) + 1)=((i + 1:Nat):Int):=by omega
  have hvsl:i < vs.length:=by rw [hlvl.lenV];omega
  (repeat refine zc ?_)
  refine zG ?_
  refine zc (zdH (Q:=fun y s'=>y=.norm∧∃ (M:Nat) (vs:List PV) (nodes:List zo),M≤g∧s'.H[idL]?=some (.row 124 6 g M vs)∧Lvl s'.H vs ps nodes∧nodes.length=nl.length∧(∀ (q:Nat) (n:zo),nl[q]?=some n→nodes[q]?=some (if q < i + 1 then zeG bs q n else n))∧s'.H[idA]?=some (.row 3 1 gA 0 (bfl bs))∧s'.H[idO]?=some (.row 83 2 V.length 0 V)∧(∀ k,k < 15∨132 < k→s'.tm k=tn k)∧s'.tm 15=iv i∧s'.df=[]) ?_ ?_)
  ·by_cases hi1:i + 1 < nl.length
   ·have g1:((i + 1:Nat):Int) < (nl.length:Nat):=by omega
    have hi1b:i + 1 < bs.length:=by omega
    have hbv:(bfl bs)[i + 1]?=some (iv (bs.getD (i + 1) 0:Nat)):=by rw [List.getElem?_map,List.getElem?_eq_getElem hi1b,List.getD_eq_getElem?_getD,List.getElem?_eq_getElem hi1b];rfl
    (repeat refine zc ?_)
    (repeat refine zc ?_);refine za ?_;refine zb (by simp (disch:=omega) only [go_sem,h8',h15',e2,g1] <;> rfl) ?_
    refine zd ?_
    refine zD (by simp only [go_sem] <;> rfl) ?_ ?_
    rotate_left
    ·intro h;cases h
    intro _
    refine za ?_
    refine zb (by simp (disch:=omega) only [go_sem,h8',h13',h15',e2,hi1b,hbv,hA,hL,hM,hvx,hlt] <;> rfl) ?_
    refine zC ?_
    refine ⟨rfl,g,vs.set i (zbR (zeG bs i x) p),nodes.set i (zeG bs i x),Nat.le_refl _,?G,?L,by simp [hnlen],?N,?A,?O,fun k k1=>?_,by simp [upd,h15'],rfl⟩
    case G=>rw [List.getElem?_set_self (List.getElem?_eq_some_iff.1 hL).1];rfl
    case L=>exact (hlvl.setNode (n':=zeG bs i x) hxn hp rfl).set0 hL (fun h=>absurd (show (124:Nat)=66 from h) (by decide))
    case N =>
     intro q n hn
     by_cases hq:q=i
     ·subst hq
      rw [List.getElem?_set_self (by omega),if_pos (Nat.lt_succ_self _)]
      rw [hx] at hn;injection hn with hn;subst hn;rfl
     ·rw [List.getElem?_set_ne (fun e=>hq e.symm),hnode q n hn]
      by_cases h1:q < i
      ·rw [if_pos h1,if_pos (by omega)]
      ·rw [if_neg h1,if_neg (by omega)]
    case A=>rw [List.getElem?_set_ne (fun e=>dLA e.symm)];exact hA
    case O=>rw [List.getElem?_set_ne (fun e=>dLO e.symm)];exact hO
    ·simp (disch:=omega) only [zZ]
   ·have g1:¬ ((i + 1:Nat):Int) < (nl.length:Nat):=by omega
    (repeat refine zc ?_)
    (repeat refine zc ?_);refine za ?_;refine zb (by simp (disch:=omega) only [go_sem,h8',h15',e2,g1] <;> rfl) ?_
    refine zd ?_
    refine zD (by simp only [go_sem] <;> rfl) ?_ ?_
    ·intro h;cases h
    intro _
    refine zR ⟨rfl,M,vs,nodes,hM,hL,hlvl,hnlen,?_,hA,hO,fun k k1=>?_,by simp [upd,h15'],rfl⟩
    ·intro q n hn
     rw [hnode q n hn]
     by_cases h1:q < i
     ·rw [if_pos h1,if_pos (by omega)]
     ·by_cases hq:q=i
      ·subst hq
       rw [if_neg h1,if_pos (Nat.lt_succ_self _)]
       rw [hx] at hn;injection hn with hn;subst hn
       have h0:=hgx.2
       unfold zeG
       rw [List.getD_eq_getElem?_getD,List.getElem?_eq_none (show bs.length≤q + 1 by omega)]
       obtain ⟨a1,a2,a3,a4,a5,a6⟩:=x
       dsimp only at h0
       rw [h0];rfl
      ·rw [if_neg h1,if_neg (by omega)]
    ·simp (disch:=omega) only [zZ]
  clear hM hL hlvl hA hO hnlen hnode hxn hvx h15' hvsl
  rintro y ⟨tq,df,Hc⟩ ⟨rfl,M,vs,nodes,hM,hL,hlvl,hnlen,hnode,hA,hO,hf2,h15',rfl⟩
  dsimp only at hM hL hlvl hA hO hf2 h15'
  simp only [zf,zi,zh,zg,zu,zj,if_true,reduceIte]
  have hxn:nodes[i]?=some (zeG bs i x):=by have:=hnode i x hx;rwa [if_pos (Nat.lt_succ_self _)] at this
  have hvx:=hlvl.val i _ p hxn hp
  have h8q:=(hf2 8 (by decide)).trans h8'
  have h11q:=(hf2 11 (by decide)).trans h11'
  have h13q:=(hf2 13 (by decide)).trans h13'
  have hw:=zoS 1 (zeG bs i x) hgx'.level hgx'.sib hgx'.way hgx'.few
  have hfz:Frz Hc 1 (zbR (zeG bs i x) p) (zN 1 (zeG bs i x)):=Frz.aggL ⟨.int _ _,.int _ _,.int _ _,.int _ _,.int _ _,hvx.2.frz,trivial⟩
  have hvv:=hvx.1
  generalize hx':zeG bs i x=x' at *
  (repeat refine zc ?_)
  refine za ?_
  refine zb (by simp (disch:=omega) only [go_sem,h8q,h15',hL,hM,hvv,hlt] <;> rfl) ?_
  refine zH (caps:=?_) (vs:=?_) ?_ ?_ hw ?_ ?_;rotate_left 2;(first | rfl | (simp only [z7,zac,go_sem] <;> rfl));(simp only [go_sem] <;> rfl)
  ·exact ⟨hfz,trivial⟩
  refine zb (by simp (disch:=omega) only [go_sem] <;> rfl) ?_
  refine zd ?_
  (repeat refine zc ?_)
  (repeat refine zc ?_);refine za ?_;refine zb (by simp (disch:=omega) only [go_sem] <;> rfl) ?_
  refine zd ?_
  refine zrf bs (zbp x') i b hb hbmb (zei _) (by omega) _ Hc idO V (by omega) idA gA dAO hO hA (by simp [upd,h11q]) (by simp [upd,h13q]) (by simp [upd,h15']) (by simp [upd]) (by simp [upd]) (fun tm2 H2 V2 hV2 hst hO2 hfr h11x=>?_)
  simp only [zf,zi,zh,zg,zu,zj,if_true,reduceIte]
  have h15x:tm2 15=iv i:=(hfr 15 (by decide) (by decide) (by decide)).trans (by simp [upd,h15'])
  (repeat refine zc ?_);refine za ?_;refine zb (by simp (disch:=omega) only [go_sem,h15x] <;> rfl) ?_
  refine zC ?_;simp only [zf,zi,zh,zg,zu,zj,if_true,↓reduceIte]
  refine ⟨_,?m,i + 1,H2,M,vs,V2,nodes,rfl,hlt,hM,hst idL _ dLO.symm hL,hlvl.but hO (fun h=>absurd (show (83:Nat)=66 from h) (by decide)) hst,hnlen,hnode,hst idA _ dAO hA,hO2,?_,fun k k1=>?_,by simp [upd,h11x],by simp [upd,h15x],trivial,rfl⟩
  case m=>omega
  ·rw [hV2,hV,zm9 hb hli];simp
  ·simp (disch:=omega) only [zZ]
   rw [hfr k (by omega) (by omega) (by omega)]
   simp (disch:=omega) only [zZ]
   exact (hf2 k (by omega)).trans (hf k k1)
end Fv
end Go.Proofs.YtfomlmhnmheenaaGreat
