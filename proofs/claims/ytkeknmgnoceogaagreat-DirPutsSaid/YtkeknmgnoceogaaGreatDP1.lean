/- part 1 of the proof of dir_puts. -/
import Derived.KernelRfl
import Derived.CallsIn
import Derived.RangeFuncLeaves
import Derived.OrdersIn
import Derived.Maps.AppendAt
import Derived.Below
import Derived.Laws.CopyOwn
import Derived.RangeFuncRecord
import Derived.Lib.Hide
import Derived.Laws.StructEq
import Derived.ChangeKeysEq
import Derived.Laws.Tables
import Derived.Laws.BytesString
import Derived.Lib.ConvBytes
import Derived.Lib.AppendZerosOnto
import Derived.ScopeJumps
import Derived.LoopNIn
set_option linter.unusedSimpArgs false
set_option linter.unusedVariables false
set_option maxHeartbeats 4000000
set_option linter.defProp false
namespace Go.Proofs.YtkeknmgnoceogaaGreat
def Zg:=@List.getElem?_eq_getElem
def Zh:=@List.getElem?_eq_some_iff
def Zi:=@Nat.le_refl
def Zj:=@List.mem_of_getElem?
def Zk:=@Nat.eq_of_beq_eq_true
def Zl:=@List.length_append
def Zm:=@Bool.and_eq_true
def Zn:=@Nat.zero_le
def Zo:=@List.mem_cons_of_mem
def Zp:=@List.length_cons
def Zq:=@List.getD_eq_getElem?_getD
def Zr:=@List.mem_cons_self
def Zs:=@List.drop_eq_getElem_cons
def Zt:=@List.getElem?_map
def Zu:=@List.mem_map
def Zv:=@List.cons_append
def Zw:=@List.getElem?_set_self
def Zx:=@List.getElem?_set_ne
def Zy:=@Nat.le_of_ble_eq_true
def Zz:=@List.length_nil
def ZA:=@List.nil_append
def ZB:=@List.length_map
def ZC:=@List.length_take
def ZD:=@List.mem_cons
def ZE:=@List.take_add_one
def ZF:=@List.mem_flatMap
def ZG:=@List.map_append
def ZH:=@List.getElem?_append_right
def ZI:=@List.mem_singleton
def ZJ:=@List.getElem?_cons_succ
def ZK:=@List.append_assoc
def ZL:=@List.take_length
def ZM:=@List.getElem?_append_left
def ZN:=@List.all_eq_true
def ZO:=@List.take_of_length_le
def ZP:=@List.mem_iff_getElem
def ZQ:=@List.mem_of_mem_drop
def ZR:=@Nat.lt_of_lt_of_le
def ZS:=@List.drop_length
def ZT:=@Nat.zero_add
def ZU:=@List.mem_of_mem_take
def ZV:=@List.getElem_mem
def ZW:=@List.mem_append
def ZX:=@List.length_drop
def ZY:=@List.getElem?_take
def ZZ:=@List.flatMap_cons
def Z0:=@Nat.le_trans
def Z1:=@List.map_drop
def Z2:=@List.length_set
def Z3:=@List.map_cons
def Z4:=@Int.toNat_natCast
def Z5:=@Nat.lt_succ_self
def Z6:=@List.eq_nil_of_length_eq_zero
def Z7:=@Array.getElem?_toList
def Z8:=@List.mem_iff_getElem?
def Z9:=@Bool.true_and
def zAA9:=@List.getElem?_drop
def zAB9:=@List.getElem?_eq_none
def zAC9:=@Array.getElem?_eq_some_iff
def zAD9:=@Nat.mul_le_mul_right
def zAE9:=@Array.getElem?_eq_getElem
def zAF9:=@List.getLast?_eq_getElem?
def zAG9:=@List.append_nil
def zAH9:=@List.set_cons_zero
def zAI9:=@List.length_pos_iff
def zAJ9:=@List.set_cons_succ
def zAK9:=@List.map_take
def zAL9:=@List.mem_range
def zAM9:=@Bool.false_eq_true
def zAN9:=@Nat.succ_pos
def zAO9:=@Nat.lt_or_ge
def zAP9:=@List.length_replicate
def zAQ9:=@List.range_succ
def zAR9:=@Nat.add_mul
def zAS9:=@Int.eq_ofNat_of_zero_le
def zAT9:=@List.take_append_of_le_length
def zAU9:=@List.mem_filter
def zAV9:=@Nat.mod_eq_of_lt
def zAW9:=@List.map_nil
def zAX9:=@List.not_mem_nil
def zAY9:=@List.replicate_succ
def zAZ9:=@Bool.not_eq_true'
def zBA9:=@Nat.add_zero
def zBB9:=@Nat.pow_le_pow_right
def zBC9:=@List.flatMap_append
def zBD9:=@List.ext_getElem?
def zBE9:=@Nat.min_eq_left
def zBF9:=@Int.natCast_nonneg
def zBG9:=@Array.getD_eq_getD_getElem?
def zBH9:=@List.length_eq_zero_iff
def zBI9:=@Nat.blt_eq
def zBJ9:=@Nat.add_comm
def zBK9:=@Nat.succ_mul
def zBL9:=@List.drop_take
def zBM9:=@List.nodup_cons
def zBN9:=@List.getElem?_zip_eq_some
def zBO9:=@List.eq_of_mem_replicate
def zBP9:=@List.map_congr_left
def zBQ9:=@List.drop_of_length_le
def zBR9:=@List.map_set
def zBS9:=@List.map_map
def zBT9:=@List.mem_reverse
def zBU9:=@List.drop_drop
def zBV9:=@List.take_append_drop
def zBW9:=@List.pairwise_iff_getElem
def zBX9:=@List.mem_append_left
def zBY9:=@List.dropLast_concat
def zBZ9:=@List.size_toArray
def zCA9:=@List.drop_append_of_le_length
def zCB9:=@Nat.add_sub_cancel_left
def zCC9:=@Array.length_toList
def zCD9:=@List.take_take
def zCE9:=@Nat.xor_lt_two_pow
def zCF9:=@List.findIdx?_cons
def zCG9:=@Bool.false_ne_true
def zCH9:=@List.of_mem_zip
def zCI9:=@Nat.add_assoc
def zCJ9:=@Int.tdiv_eq_ediv_of_nonneg
def zCK9:=@Array.size_append
def zCL9:=@List.getLast?_concat
def zCM9:=@List.contains_eq_mem
def zCN9:=@List.drop_zero
def zCO9:=@Bool.cond_eq_ite
def zCP9:=@Array.toList_map
def zCQ9:=@List.getElem?_cons_zero
def zCR9:=@List.getLast?_cons_cons
def zCS9:=@Bool.false_or
def zCT9:=@List.countP_append
def zCU9:=@List.length_eq_one_iff
def zCV9:=@List.reverse_cons
def zCW9:=@List.mem_append_right
def zCX9:=@Nat.mul_comm
def zCY9:=@List.length_singleton
def zCZ9:=@List.dropLast_concat_getLast
def zDA9:=@List.getElem?_append
def zDB9:=@Nat.mod_lt
def zDC9:=@Array.toList_setIfInBounds
def zDD9:=@Array.getElem?_append_left
def zDE9:=@Int.tmod_eq_emod_of_nonneg
def zDF9:=@List.drop_succ_cons
def zDG9:=@List.takeWhile_cons
def zDH9:=@List.foldl_cons
def zDI9:=@Nat.div_le_self
def zDJ9:=@Bool.eq_iff_iff
def zDK9:=@List.set_set
def zDL9:=@List.drop_left
def zDM9:=@Nat.testBit_mul_two_pow
def zDN9:=@List.getElem?_set
def zDO9:=@List.drop_eq_nil_of_le
def zDP9:=@List.head?_eq_getElem?
def zDQ9:=@Bool.and_true
def zDR9:=@Option.getD_some
def zDS9:=@Bool.not_eq_true
def zDT9:=@Nat.le_add_right
def zDU9:=@Array.getElem?_modify
def zDV9:=@List.contains_iff_mem
def zDW9:=@List.set_append_right
def zDX9:=@Array.getElem?_setIfInBounds_ne
def zDY9:=@Nat.beq_eq
def zDZ9:=@Int.natCast_mul
def zEA9:=@Nat.sub_self
def zEB9:=@List.dropLast_subset
def zEC9:=@Bool.or_eq_true
def zED9:=@List.take_succ_cons
def zEE9:=@Bool.false_and
def zEG9:=@Nat.mul_add
def zEH9:=@Nat.and_lt_two_pow
def zEI9:=@Nat.pos_of_ne_zero
def zEJ9:=@List.mem_filterMap
def zEL9:=@List.contains_cons
def zEN9:=@Nat.lt_of_le_of_lt
def zEO9:=@Nat.add_sub_cancel
def zEP9:=@List.map_replicate
def zER9:=@List.any_cons
def zES9:=@Bool.not_true
def zET9:=@Bool.eq_false_iff
def zEU9:=@List.any_eq_false
def zEV9:=@List.take_sublist
def zEW9:=@List.drop_sublist
def zEX9:=@List.getElem_take
end Go.Proofs.YtkeknmgnoceogaaGreat
namespace Go.Proofs.YtkeknmgnoceogaaGreat
abbrev LN:=List Nat
abbrev LA:=Option Nat
abbrev LE:=List Value
abbrev LG:=List Int
abbrev LM:=Array Value
abbrev LS:=Option Bool
abbrev LX:=Array Oper
abbrev AN:=Array Bool
abbrev AT:=List Operand
abbrev AJ:=Option Value
abbrev AA:=List Oper
abbrev AG:=Array Operand
end Go.Proofs.YtkeknmgnoceogaaGreat
namespace Go.Proofs.YtkeknmgnoceogaaGreat
variable {P:Prop}
theorem zo(h:P:=by omega):P:=h
theorem zy(h:P:=by decide):P:=h
namespace Tw
noncomputable section
inductive Tr(α:Type) where
 | nil
 | node (l:Tr α) (v:Option α) (r:Tr α)
variable {α:Type}(x:Option α)(d:Nat)(l r:Tr α)(v:Option α)(n:Nat)
abbrev LD:=Tr Unit
def Tr.get{α:Type}(t:Tr α):Nat->Option α :=
 Tr.rec (motive:=fun _=>Nat->Option α) (fun _=>none) (fun _ v _ gl gr n=>bif Nat.beq n 0 then v else bif Nat.beq (n%2) 1 then gl (n/2)else gr (n/2-1)) t
def Tr.setN{α:Type}(x:Option α)(d:Nat):Tr α->Nat->Tr α :=
 Nat.rec (motive:=fun _=>Tr α->Nat->Tr α) (fun t _=>t) (fun _ f t n=>Tr.rec (motive:=fun _=>Tr α)
  (bif Nat.beq n 0 then .node .nil x .nil else bif Nat.beq (n%2) 1 then .node (f .nil (n/2)) none .nil else .node .nil none (f .nil (n/2-1)))
  (fun l v r _ _=>bif Nat.beq n 0 then .node l x r else bif Nat.beq (n%2) 1 then .node (f l (n/2)) v r else .node l v (f r (n/2-1))) t) d
theorem Tr.get_none:(Tr.nil:Tr α).get n=none:=rfl
theorem Tr.get_node:(Tr.node l v r).get n=bif Nat.beq n 0 then v else bif Nat.beq (n%2) 1 then l.get (n/2)else r.get (n/2-1):=rfl
theorem Tr.setN_none:Tr.setN x (d+1) .nil n=bif Nat.beq n 0 then .node .nil x .nil else bif Nat.beq (n%2) 1 then .node (Tr.setN x d .nil (n/2)) none .nil else .node .nil none (Tr.setN x d .nil (n/2-1)):=rfl
theorem Tr.setN_node:Tr.setN x (d+1) (.node l v r) n=bif Nat.beq n 0 then .node l x r else bif Nat.beq (n%2) 1 then .node (Tr.setN x d l (n/2)) v r else .node l v (Tr.setN x d r (n/2-1)):=rfl
def Tr.set{α:Type}(t:Tr α)(n:Nat)(x:Option α):Tr α:=Tr.setN x (n+1) t n
def Tr.putL{α:Type}:Tr α->Nat->List α->Tr α
 | t,_,[]=>t
 | t,n,x::l=>Tr.putL (t.set n (some x)) (n+1) l
def Tr.getL{α:Type}(t:Tr α):Nat->Nat->Option (List α)
 | _,0=>some []
 | i,n+1=>match t.get i with
  | none=>none
  | some x=>match Tr.getL t (i+1) n with
   | none=>none
   | some l=>some (x::l)
inductive TV where
 | bool (b:Bool)
 | int (k:IntKind) (n:Int)
 | str (s:LN)
 | nilptr
 | ptr (b g o e:Nat)
 | nilsl
 | sl (b g o n q z:Nat)
 | nilmap
 | map (b:Nat)
 | fn (f:Nat) (cap:List TV)
 | yield (l:Nat)
 | nilfn
 | iface (t:Nat) (v:TV)
 | niliface
 | agg (vs:List TV)
 | tuple (vs:List TV)
 deriving Inhabited
abbrev LK:=List TV
abbrev LL:=Tr TV
abbrev LC:=Option TV
def TV.cells:TV->LK
 | .agg l=>l
 | .tuple _=>[]
 | v=>[v]
inductive vQ where
 | tmp (t:Nat)
 | new (t:Nat)
 | const (v:TV)
 | fn (f:Nat)
inductive zA where
 | mov
 | pick
 | load (agg:Bool) (n:Nat)
 | nilchk
 | bin (op:BinOp)
 | eqnil (neg:Bool) (f:Nat)
 | eqB (neg:Bool)
 | cstr
 | eqagg (neg:Bool) (ks:LN)
 | un (op:UnOp)
 | conv (k:IntKind)
 | mkif (t:Nat)
 | mkfn (f:Nat)
 | slice (esz:Nat) (lo hi mx:Bool)
 | slstr (lo hi:Bool)
 | slarr (len esz:Nat) (lo hi:Bool)
 | faddr (off size:Nat)
 | fld (agg:Bool) (off size:Nat)
 | iaddr (esz:Nat)
 | iaddrA (len esz:Nat)
 | idxstr
 | idxagg (len:Nat) (agg:Bool) (esz:Nat)
 | look (kf:Nat) (zero:TV) (ok:Bool)
 | tassert (t:Nat) (zero:TV) (ok:Bool)
 | extr (i:Nat)
 | len (f:Nat)
 | maxI
 | minI
 | build (zero:LK) (places:List (Nat×Nat))
 | box (e n:Nat)
 | alloc (e:Nat) (zero:LK)
 | bslice (e esz len:Nat) (zero:LK) (places:List (Nat×Nat))
 | mkslice (e esz bytes:Nat) (zero:LK)
 | mkmap
 | store (n:Nat)
 | mupd (kf:Nat)
 | ment (kf:Nat) (zero:TV)
 | estore
 | append (e esz bytes:Nat)
 | appz (e esz bytes:Nat) (zero:LK)
 | tobytes (e:Nat)
 | tostr
 | copy (esz:Nat)
 | call
 | panic
 | defer
def zA.cls:zA->Nat
 | .box .. | .alloc .. | .bslice .. | .mkslice .. | .mkmap | .tobytes ..=>1
 | .store .. | .mupd .. | .ment .. | .estore | .append .. | .appz .. | .copy .. | .call | .panic | .defer=>2
 | _=>0
structure vB where
 dst:LA
 kind:zA
 args:List vQ
 guard:Option (vQ×Bool)
structure yc where
 chk:List vB
 exe:List vB
 act:Option vB
inductive vP where
 | skip
 | region (ops:List vB)
 | drawn (km:List yc) (ds:LN)
 | seq (a b:vP)
 | cond (c:vQ) (thn els:vP)
 | block (id:Nat) (body:vP)
 | loop (body:vP)
 | rangef (f:vQ) (params:LN) (assign body:vP)
 | exit (id:Nat)
 | scope (body:vP) (l:Nat) (rest:vP)
 | scope0 (body:vP)
 | goto (l:Nat)
 | ret
inductive TX where
 | norm|exit (id:Nat)|goto (l:Nat)|ret|panic (v:TV)
inductive TD where
 | caught (p clear:TV)
 | mark (b:Nat)
abbrev LZ:=List TD
structure uC where
 k:TV
 v:TV
 n:Nat
inductive TO where
 | row (e G M len:Nat) (cells:LL)
 | map (es:List uC) (clock:Nat)
 | dfr (shut:Bool)
 | loop (st:LoopState) (pending:TX) (tm:LL) (params:LN) (assign body:vP) (df:Nat)
 | ro (cells:LL)
structure TH where
 next:Nat
 objs:Tr TO
structure St where
 tm:LL
 df:LZ
 h:TH
def TH.push(h:TH)(o:TO):TH:=⟨h.next+1,h.objs.set h.next (some o)⟩
def TH.get(h:TH)(b:Nat):Option TO:=bif Nat.blt b h.next then h.objs.get b else none
def TH.set(h:TH)(b:Nat)(o:TO):TH:=⟨h.next,h.objs.set b (some o)⟩
def St.put(s:St)(d:LA)(v:TV):St:=match d with
 | none=>s
 | some d=>⟨s.tm.set d (some v),s.df,s.h⟩
def ml:Int->Int->Bool
 | .ofNat a,.ofNat b=>Nat.beq a b
 | .negSucc a,.negSucc b=>Nat.beq a b
 | _,_=>false
def mu(a b:Int):Bool:=match b-a with
 | .ofNat _=>true
 | .negSucc _=>false
def w8:IntKind->Nat
 | .i8=>0 | .i16=>1 | .i32=>2 | .i64=>3 | .u8=>4 | .u16=>5 | .u32=>6 | .u64=>7
def ki:LN->LN->Bool
 | [],[]=>true
 | a::l,b::m=>bif Nat.beq a b then ki l m else false
 | _,_=>false
def di(f:TV->TV->Bool):LK->LK->Bool
 | [],[]=>true
 | a::l,b::m=>bif f a b then di f l m else false
 | _,_=>false
def Gw(x:Bool):TV->Bool
 | .bool y=>bif x then y else bif y then false else true
 | _=>false
def Cw(k:IntKind)(x:Int):TV->Bool
 | .int k' y=>bif Nat.beq (w8 k) (w8 k')then ml x y else false
 | _=>false
def Gy(s:LN):TV->Bool
 | .str t=>ki s t
 | _=>false
def tf(b g o e:Nat):TV->Bool
 | .ptr b' g' o' e'=>bif Nat.beq b b' then bif Nat.beq g g' then bif Nat.beq o o' then Nat.beq e e' else false else false else false
 | _=>false
def tg(b g o n q z:Nat):TV->Bool
 | .sl b' g' o' n' q' z'=>bif Nat.beq b b' then bif Nat.beq g g' then bif Nat.beq o o' then bif Nat.beq n n' then bif Nat.beq q q' then Nat.beq z z' else false else false else false else false else false
 | _=>false
def Gx(b:Nat):TV->Bool
 | .map b'=>Nat.beq b b'
 | _=>false
def GA(l:Nat):TV->Bool
 | .yield m=>Nat.beq l m
 | _=>false
def Cu(f:TV->TV->Bool)(g:Nat)(l:LK):TV->Bool
 | .fn g' l'=>bif Nat.beq g g' then di f l l' else false
 | _=>false
def Cv(f:TV->TV->Bool)(t:Nat)(v:TV):TV->Bool
 | .iface t' v'=>bif Nat.beq t t' then f v v' else false
 | _=>false
def Gv(f:TV->TV->Bool)(l:LK):TV->Bool
 | .agg l'=>di f l l'
 | _=>false
def Gz(f:TV->TV->Bool)(l:LK):TV->Bool
 | .tuple l'=>di f l l'
 | _=>false
def nk:TV->Nat
 | .nilptr=>1 | .nilsl=>2 | .nilmap=>3 | .nilfn=>4 | .niliface=>5|_=>0
def TV.beq:Nat->TV->TV->Bool
 | 0,_,_=>false
 | n+1,a,b=>match a with
  | .bool x=>Gw x b
  | .int k x=>Cw k x b
  | .str s=>Gy s b
  | .ptr c g o e=>tf c g o e b
  | .sl c g o n q z=>tg c g o n q z b
  | .map c=>Gx c b
  | .fn f l=>Cu (TV.beq n) f l b
  | .iface t v=>Cv (TV.beq n) t v b
  | .agg l=>Gv (TV.beq n) l b
  | .tuple l=>Gz (TV.beq n) l b
  | .yield l=>GA l b
  | .nilptr=>Nat.beq (nk b) 1
  | .nilsl=>Nat.beq (nk b) 2
  | .nilmap=>Nat.beq (nk b) 3
  | .nilfn=>Nat.beq (nk b) 4
  | .niliface=>Nat.beq (nk b) 5
def mX(tm:LL):vQ->LC
 | .tmp t=>tm.get t
 | .new _=>none
 | .const v=>some v
 | .fn f=>some (.fn f [])
def kV(tm:LL):List vQ->Option (LK)
 | []=>some []
 | x::l=>match mX tm x with
  | none=>none
  | some v=>match kV tm l with
   | none=>none
   | some vs=>some (v::vs)
def nX(tm nm:LL):vQ->LC
 | .tmp t=>tm.get t
 | .new t=>nm.get t
 | .const v=>some v
 | .fn f=>some (.fn f [])
def py(tm nm:LL):List vQ->Option (LK)
 | []=>some []
 | x::l=>match nX tm nm x with
  | none=>none
  | some v=>match py tm nm l with
   | none=>none
   | some vs=>some (v::vs)
def ny(g o n:Nat):TO->Option (LK)
 | .row _ G M _ cells=>bif Nat.ble M g then bif Nat.ble g G then cells.getL o n else none else none
 | .ro cells=>bif Nat.beq g 0 then cells.getL o n else none
 | _=>none
def ue(h:TH)(b g o n:Nat):Option (LK) :=
 match h.get b with
 | some x=>ny g o n x
 | none=>none
def mz:IntKind->Nat
 | .i8=>7 | .i16=>15 | .i32=>31 | .i64=>63 | .u8=>8 | .u16=>16 | .u32=>32 | .u64=>64
def bM(f:Nat->Nat->Nat)(k:IntKind):Int->Int->LC
 | .ofNat a,.ofNat b=>bif Nat.blt a (2 ^ mz k)then bif Nat.blt b (2 ^ mz k)then some (.int k (.ofNat (f a b)))else none else none
 | _,_=>none
def Mj(k:IntKind)(a:Int):Int->LC
 | .ofNat n=>bif Nat.ble n 64 then some (.int k (k.wrap (a*2 ^ (min n k.bits))))else none
 | _=>none
def Mk(k:IntKind):Int->Int->LC
 | .ofNat a,.ofNat n=>bif Nat.ble n 64 then some (.int k (.ofNat (a/2 ^ (min n k.bits))))else none
 | _,_=>none
def kS(op:BinOp)(k k':IntKind)(x y:Int):LC :=
 match op with
 | .shl=>Mj k x y
 | .shr=>Mk k x y
 | .add=>bif Nat.beq (w8 k) (w8 k')then some (.int k (k.wrap (x+y)))else none
 | .sub=>bif Nat.beq (w8 k) (w8 k')then some (.int k (k.wrap (x-y)))else none
 | .mul=>bif Nat.beq (w8 k) (w8 k')then some (.int k (k.wrap (x*y)))else none
 | .quo=>bif Nat.beq (w8 k) (w8 k')then(bif ml y 0 then none else some (.int k (k.wrap (x.tdiv y))))else none
 | .rem=>bif Nat.beq (w8 k) (w8 k')then(bif ml y 0 then none else some (.int k (x.tmod y)))else none
 | .and=>bif Nat.beq (w8 k) (w8 k')then bM Nat.land k x y else none
 | .or=>bif Nat.beq (w8 k) (w8 k')then bM Nat.lor k x y else none
 | .xor=>bif Nat.beq (w8 k) (w8 k')then bM Nat.xor k x y else none
 | .eql=>bif Nat.beq (w8 k) (w8 k')then some (.bool (ml x y))else none
 | .neq=>bif Nat.beq (w8 k) (w8 k')then some (.bool (not (ml x y)))else none
 | .lss=>bif Nat.beq (w8 k) (w8 k')then some (.bool (not (mu y x)))else none
 | .leq=>bif Nat.beq (w8 k) (w8 k')then some (.bool (mu x y))else none
 | .gtr=>bif Nat.beq (w8 k) (w8 k')then some (.bool (not (mu x y)))else none
 | .geq=>bif Nat.beq (w8 k) (w8 k')then some (.bool (mu y x))else none
 | .andNot=>none
def bz:LN->LN->Bool
 | _,[]=>false
 | [],_::_=>true
 | a::l,b::m=>bif Nat.blt a b then true else bif Nat.beq a b then bz l m else false
def Cy(op:BinOp)(a b:LN):LC :=
 match op with
 | .eql=>some (.bool (ki a b))
 | .neq=>some (.bool (not (ki a b)))
 | .lss=>some (.bool (bz a b))
 | .gtr=>some (.bool (bz b a))
 | .leq=>some (.bool (not (bz b a)))
 | .geq=>some (.bool (not (bz a b)))
 | .add=>bif Nat.ble (a.length+b.length) 1000000 then some (.str (a++b))else none
 | _=>none
def kT(op:BinOp)(k:IntKind)(x:Int):TV->LC
 | .int k' y=>kS op k k' x y
 | _=>none
def GC(op:BinOp)(a:LN):TV->LC
 | .str b=>Cy op a b
 | _=>none
def uj(op:BinOp)(x y:TV):LC :=
 match x with
 | .int k a=>kT op k a y
 | .str a=>GC op a y
 | _=>none
def rD:TV->LS
 | .nilptr=>some true
 | .ptr ..=>some false
 | _=>none
def rE:TV->LS
 | .nilsl=>some true
 | .sl ..=>some false
 | _=>none
def rB:TV->LS
 | .nilmap=>some true
 | .map _=>some false
 | _=>none
def qf:TV->LS
 | .nilfn=>some true
 | .fn ..=>some false
 | _=>none
def rA:TV->LS
 | .niliface=>some true
 | .iface ..=>some false
 | _=>none
def o6(f:Nat)(x:TV):LS:=match f with
 | 1=>rD x
 | 2=>rE x
 | 3=>rB x
 | 4=>qf x
 | 5=>rA x
 | _=>none
def qq:LS->LS->LS
 | some a,some b=>bif a then some b else bif b then some false else none
 | _,_=>none
def cV(f:Nat)(x y:TV):LS:=qq (o6 f x) (o6 f y)
def fm(k:Nat)(x y:TV):LS :=
 match x with
 | .int j a=>bif Nat.beq k 1 then(match y with | .int j' b=>bif Nat.beq (w8 j) (w8 j')then some (ml a b)else none|_=>none)else none
 | .bool a=>bif Nat.beq k 2 then(match y with | .bool b=>some (bif a then b else not b)|_=>none)else none
 | .str a=>bif Nat.beq k 3 then(match y with | .str b=>some (ki a b)|_=>none)else none
 | _=>none
def yS:LN->LK->LK->LS
 | [],[],[]=>some true
 | k::ks,x::l,y::m=>match fm k x y with
  | some true=>yS ks l m
  | r=>r
 | _,_,_=>none
def aR(x y:TV):LS :=
 match x with
 | .int k a=>(match y with | .int k' b=>bif Nat.beq (w8 k) (w8 k')then some (ml a b)else none|_=>none)
 | .str a=>(match y with | .str b=>some (ki a b)|_=>none)
 | _=>none
def gz(k:TV):List uC->Nat->Option (Option (Nat×uC))
 | [],_=>some none
 | e::l,i=>match aR k e.k with
  | none=>none
  | some true=>some (some (i,e))
  | some false=>gz k l (i+1)
def oZ:TV->Bool
 | .int ..=>true
 | _=>false
def o0:TV->Bool
 | .str ..=>true
 | _=>false
def mv(kf:Nat)(x:TV):Bool:=match kf with
 | 1=>oZ x
 | 2=>o0 x
 | _=>false
def D3:Int->LA
 | .ofNat n=>some n
 | _=>none
def kh:TV->LA
 | .int _ n=>D3 n
 | _=>none
def xO(x:TV)(m:Nat):LA :=
 match kh x with
 | some n=>bif Nat.ble n m then some n else none
 | none=>none
def cZ(cells:LK):List (Nat×Nat)->LK->Option (LK)
 | [],[]=>some cells
 | (off,size)::ps,v::vs =>
  let cs:=v.cells
  bif Nat.beq cs.length size then bif Nat.ble (off+size) cells.length then cZ (cells.take off++cs++cells.drop (off+size)) ps vs else none else none
 | _,_=>none
def xc{α:Type}(l:List α):Nat->List α
 | 0=>[]
 | n+1=>l++xc l n
def uN(vs:LK)(f:TV->LC):LC:=match vs with
 | [x]=>f x
 | _=>none
def uX(vs:LK)(f:TV->TV->LC):LC:=match vs with
 | [x,y]=>f x y
 | _=>none
def Eh(vs:LK):LC:=match vs with
 | [.bool c,a,b]=>some (bif c then a else b)
 | _=>none
def fe(agg:Bool)(l:LK):LC:=bif agg then some (.agg l)else match l with
 | [x]=>some x
 | _=>none
def ag(agg:Bool)(n:Nat)(h:TH):TV->LC
 | .ptr b g o e=>bif Nat.ble n e then(match ue h b g o n with|some l=>fe agg l|none=>none)else none
 | _=>none
def Ef:TV->LC
 | .ptr b g o e=>some (.ptr b g o e)
 | .fn f c=>some (.fn f c)
 | _=>none
def rH(neg:Bool):LS->LC
 | some b=>some (.bool (bif neg then not b else b))
 | none=>none
def rM(neg:Bool)(ks:LN)(x y:TV):LC:=match x with
 | .agg l=>(match y with | .agg m=>bif Nat.beq l.length ks.length then bif Nat.beq m.length ks.length then rH neg (yS ks l m)else none else none|_=>none)
 | _=>none
def lL(neg:Bool)(x y:TV):LC:=match x with
 | .bool a=>(match y with | .bool b=>some (.bool (bif neg then(bif a then not b else b)else bif a then b else not b))|_=>none)
 | _=>none
def Bj:TV->LC
 | .str s=>some (.str s)
 | _=>none
def Eg:TV->LC
 | .bool b=>some (.bool (not b))
 | _=>none
def Ee:TV->LC
 | .int k n=>some (.int k (k.wrap (0-n)))
 | _=>none
def Ko:TV->LC
 | .int .u64 n=>kS .xor .u64 .u64 (.ofNat 18446744073709551615) n
 | _=>none
def nt(op:UnOp)(x:TV):LC:=match op with
 | .not=>Eg x
 | .neg=>Ee x
 | .xor=>Ko x
 | _=>none
def lK(k:IntKind):TV->LC
 | .int _ n=>some (.int k (k.wrap n))
 | _=>none
def bu(b g o z:Nat)(x:TV)(h q:Nat):LC:=match xO x h with
 | some l=>some (.sl b g (o+l*z) (h-l) (q-2*l) z)
 | none=>none
def BP(b g o q z:Nat)(x:TV):LC:=match xO x (q/2)with
 | some h=>some (.sl b g o h q z)
 | none=>none
def BQ(b g o q z:Nat)(x y:TV):LC:=match xO y (q/2)with
 | some h=>bu b g o z x h q
 | none=>none
def BR(b g o q z:Nat)(x y m:TV):LC:=match xO m (q/2)with
 | some m=>(match xO y m with|some h=>bu b g o z x h (2*m+1)|none=>none)
 | none=>none
def dy(lo hi mx:Bool)(b g o n q z:Nat)(bs:LK):LC :=
 match bs with
 | []=>bif lo then none else bif hi then none else bif mx then none else some (.sl b g o n q z)
 | [x]=>bif mx then none else bif lo then(bif hi then none else bu b g o z x n q)else bif hi then BP b g o q z x else none
 | [x,y]=>bif mx then none else bif lo then bif hi then BQ b g o q z x y else none else none
 | [x,y,m]=>bif lo then bif hi then bif mx then BR b g o q z x y m else none else none else none
 | _=>none
def Ei(lo hi mx:Bool)(bs:LK):LC:=bif mx then none else
 match bs with
 | []=>bif lo then none else bif hi then none else some .nilsl
 | [x]=>(match xO x 0 with|some _=>bif lo then(bif hi then none else some .nilsl)else bif hi then some .nilsl else none|none=>none)
 | _=>none
def ai(esz:Nat)(lo hi mx:Bool)(x:TV)(bs:LK):LC:=match x with
 | .nilsl=>Ei lo hi mx bs
 | .sl b g o n q z=>bif Nat.beq esz z then dy lo hi mx b g o n q z bs else none
 | _=>none
def ff(esz:Nat)(lo hi mx:Bool)(vs:LK):LC:=match vs with
 | x::bs=>ai esz lo hi mx x bs
 | []=>none
def Ku(lo hi:Bool)(s:LN)(bs:LK):LC:=match bs with
 | []=>bif lo then none else bif hi then none else some (.str s)
 | [x]=>bif lo then(bif hi then none else match xO x s.length with|some l=>some (.str (s.drop l))|none=>none)else bif hi then(match xO x s.length with|some l=>some (.str (s.take l))|none=>none)else none
 | [x,y]=>bif lo then bif hi then(match xO y s.length with|some h=>(match xO x h with|some l=>some (.str ((s.take h).drop l))|none=>none)|none=>none)else none else none
 | _=>none
def rO(lo hi:Bool)(vs:LK):LC:=match vs with
 | .str s::bs=>Ku lo hi s bs
 | _=>none
def Bi(len esz:Nat)(lo hi:Bool)(vs:LK):LC:=match vs with
 | [.ptr b g o e]=>bif lo then none else bif hi then none else bif Nat.ble (len*esz) e then some (.sl b g o len (2*len+1) esz)else none
 | _=>none
def lM(off size:Nat):TV->LC
 | .ptr b g o e=>bif Nat.ble (off+size) e then some (.ptr b g (o+off) size)else none
 | _=>none
def ce:LK->Nat->LC
 | [],_=>none
 | x::l,n=>match n with
  | 0=>some x
  | n+1=>ce l n
def lR(agg:Bool)(off size:Nat)(l:LK):LC :=
 bif agg then(bif Nat.ble (off+size) l.length then some (.agg ((l.drop off).take size))else none)else ce l off
def Ec(agg:Bool)(off size:Nat):TV->LC
 | .agg l=>lR agg off size l
 | _=>none
def lN(esz:Nat)(x y:TV):LC:=match x with
 | .sl b g o n _ z=>bif Nat.beq esz z then(match kh y with|some i=>bif Nat.blt i n then some (.ptr b g (o+i*z) z)else none|none=>none)else none
 | _=>none
def lO(len esz:Nat)(x y:TV):LC:=match x with
 | .ptr b g o e=>(match kh y with|some i=>bif Nat.blt i len then bif Nat.ble (len*esz) e then some (.ptr b g (o+i*esz) esz)else none else none|none=>none)
 | _=>none
def cf:LN->Nat->LA
 | [],_=>none
 | x::l,n=>match n with
  | 0=>some x
  | n+1=>cf l n
def rN(x y:TV):LC:=match x with
 | .str s=>(match kh y with|some i=>(match cf s i with|some c=>some (.int .u8 (.ofNat c))|none=>none)|none=>none)
 | _=>none
def Ed(len:Nat)(agg:Bool)(esz:Nat)(x y:TV):LC:=match x with
 | .agg l=>(match kh y with|some i=>bif Nat.blt i len then lR agg (i*esz) esz l else none|none=>none)
 | _=>none
def ae(ok:Bool)(v:TV)(b:Bool):TV:=bif ok then .tuple [v,.bool b]else v
def mA(zero:TV)(ok:Bool)(k:TV):TO->LC
 | .map es _=>(match gz k es 0 with
  | some (some (_,e))=>some (ae ok e.v true)
  | some none=>some (ae ok zero false)
  | none=>none)
 | _=>none
def ci(kf:Nat)(zero:TV)(ok:Bool)(h:TH)(x k:TV):LC:=bif mv kf k then(match x with
 | .nilmap=>some (ae ok zero false)
 | .map b=>(match h.get b with|some o=>mA zero ok k o|none=>none)
 | _=>none)else none
def Bk(t:Nat)(zero:TV)(ok:Bool):TV->LC
 | .iface t' v=>bif Nat.beq t t' then some (ae ok v true)else bif ok then some (.tuple [zero,.bool false])else none
 | .niliface=>bif ok then some (.tuple [zero,.bool false])else none
 | _=>none
def Bh(i:Nat):TV->LC
 | .tuple l=>ce l i
 | _=>none
def Jf:TO->LC
 | .map es _=>some (.int .i64 (.ofNat es.length))
 | _=>none
def Jg:TV->LC
 | .nilsl=>some (.int .i64 (.ofNat 0))
 | .sl _ _ _ n _ _=>some (.int .i64 (.ofNat n))
 | _=>none
def DB(h:TH):TV->LC
 | .nilmap=>some (.int .i64 (.ofNat 0))
 | .map b=>(match h.get b with|some o=>Jf o|none=>none)
 | _=>none
def An:TV->LC
 | .str s=>some (.int .i64 (.ofNat s.length))
 | _=>none
def lP(f:Nat)(h:TH)(x:TV):LC:=match f with
 | 1=>Jg x
 | 2=>DB h x
 | 3=>An x
 | _=>none
def bg(mx:Bool)(x y:TV):LC:=match x with
 | .int k a=>(match y with | .int k' b=>bif Nat.beq (w8 k) (w8 k')then some (.int k (bif mx then(bif mu b a then a else b)else(bif mu a b then a else b)))else none|_=>none)
 | _=>none
def Bg(zero:LK)(places:List (Nat×Nat))(vs:LK):LC:=match cZ zero places vs with
 | some l=>some (.agg l)
 | none=>none
def qs:LK->Option (LN)
 | []=>some []
 | .int .u8 (.ofNat n)::l=>bif Nat.blt n 256 then(match qs l with
  | some s=>some (n::s)
  | none=>none)else none
 | _=>none
def cj(h:TH):TV->LC
 | .nilsl=>some (.str [])
 | .sl b g o n _ 1=>(match ue h b g o n with
  | some l=>(match qs l with
   | some s=>some (.str s)
   | none=>none)
  | none=>none)
 | _=>none
def yb(k:zA)(vs:LK)(h:TH):LC :=
 match k with
 | .mov=>uN vs some
 | .pick=>Eh vs
 | .load agg n=>uN vs (ag agg n h)
 | .nilchk=>uN vs Ef
 | .bin op=>uX vs (uj op)
 | .eqnil neg f=>uX vs fun x y=>rH neg (cV f x y)
 | .eqagg neg ks=>uX vs (rM neg ks)
 | .eqB neg=>uX vs (lL neg)
 | .cstr=>uN vs Bj
 | .un op=>uN vs (nt op)
 | .conv k=>uN vs (lK k)
 | .mkif t=>uN vs fun x=>some (.iface t x)
 | .mkfn f=>some (.fn f vs)
 | .slice esz lo hi mx=>ff esz lo hi mx vs
 | .slstr lo hi=>rO lo hi vs
 | .slarr len esz lo hi=>Bi len esz lo hi vs
 | .faddr off size=>uN vs (lM off size)
 | .fld agg off size=>uN vs (Ec agg off size)
 | .iaddr esz=>uX vs (lN esz)
 | .iaddrA len esz=>uX vs (lO len esz)
 | .idxstr=>uX vs rN
 | .idxagg len agg esz=>uX vs (Ed len agg esz)
 | .look kf zero ok=>uX vs (ci kf zero ok h)
 | .tassert t zero ok=>uN vs (Bk t zero ok)
 | .extr i=>uN vs (Bh i)
 | .len f=>uN vs (lP f h)
 | .maxI=>uX vs (bg true)
 | .minI=>uX vs (bg false)
 | .build zero places=>Bg zero places vs
 | .tostr=>uN vs (cj h)
 | _=>none
def uL(e:Nat)(l:LK):TO:=.row e 0 0 l.length (Tr.putL .nil 0 l)
structure yH where
 o:TO
 v:TV
def iu(e n b:Nat)(vs:LK):Option yH:=match vs with
 | [v]=>bif Nat.beq v.cells.length n then some ⟨uL e v.cells,.ptr b 0 0 n⟩else none
 | _=>none
def o9(e:Nat)(zero:LK)(b:Nat)(vs:LK):Option yH:=match vs with
 | []=>some ⟨uL e zero,.ptr b 0 0 zero.length⟩
 | _=>none
def iy(e esz len:Nat)(zero:LK)(places:List (Nat×Nat))(b:Nat)(vs:LK):Option yH :=
 bif Nat.ble (len*esz) 16777216 then(match cZ (xc zero len) places vs with
  | some l=>some ⟨uL e l,.sl b 0 0 len (2*len) esz⟩
  | none=>none)else none
def iz(e esz bytes:Nat)(zero:LK)(b:Nat)(vs:LK):Option yH:=match vs with
 | [x,y]=>(match kh x,kh y with
  | some n,some c=>bif Nat.ble n c then bif Nat.ble c 1000000 then bif Nat.ble (c*bytes) 140737488355328 then some ⟨uL e (xc zero n),.sl b 0 0 n (2*n) esz⟩else none else none else none
  | _,_=>none)
 | _=>none
def ra(b:Nat)(vs:LK):Option yH:=match vs with
 | []=>some ⟨.map [] 0,.map b⟩
 | [.int _ _]=>some ⟨.map [] 0,.map b⟩
 | _=>none
def iA(e b:Nat)(vs:LK):Option yH:=match vs with
 | [.str s]=>bif Nat.ble s.length 1000000 then some ⟨uL e (s.map fun n=>.int .u8 (.ofNat n)),.sl b 0 0 s.length (2*s.length) 1⟩else none
 | _=>none
def lay(k:zA)(vs:LK)(b:Nat):Option yH :=
 match k with
 | .box e n=>iu e n b vs
 | .alloc e zero=>o9 e zero b vs
 | .bslice e esz len zero places=>iy e esz len zero places b vs
 | .mkslice e esz bytes zero=>iz e esz bytes zero b vs
 | .mkmap=>ra b vs
 | .tobytes e=>iA e b vs
 | _=>none
inductive TE where
 | ret (v:TV)
 | panic (v:TV)
structure ua where
 fn:Nat->LK->TH->Option (TE×TH)
 rd:Nat->LK->TH->Option (Bool×TH)
def sq(h:TH)(b g o:Nat)(l:LK):TO->Option TH
 | .row e G _ len cells=>bif Nat.beq g G then bif Nat.ble (o+l.length) len then some (h.set b (.row e G G len (cells.putL o l)))else none else none
 | _=>none
def az(h:TH)(b g o:Nat)(l:LK):Option TH :=
 match h.get b with
 | some x=>sq h b g o l x
 | none=>none
def cr(h:TH)(esz:Nat)(x:TV)(n:Nat):Option (LK):=match x with
 | .nilsl=>some []
 | .sl b g o _ _ z=>bif Nat.beq esz z then ue h b g o (n*z)else none
 | _=>none
def lenV:TV->Nat
 | .sl _ _ _ n _ _=>n
 | .str s=>s.length
 | _=>0
inductive TR where
 | ok (v:TV) (h:TH)
 | panic (v:TV) (h:TH)
 | dfr (d:TD)
abbrev LY:=Option TR
def ov(h:TH)(e esz bytes m:Nat)(news:LK):LY :=
 bif Nat.ble (m*(bytes+1)) 140737488355328 then some (.ok (.sl h.next 0 0 m (2*m) esz) (h.push (uL e news)))else none
def tb(h:TH)(e bytes b g n z m:Nat)(news:LK):TO->LY
 | .row e' G M len cells =>
  bif Nat.beq e e' then bif Nat.beq g G then bif Nat.beq (n*z) len then bif Nat.ble ((n+m)*(bytes+1)) 140737488355328 then
   some (.ok (.sl b (G+1) 0 (n+m) (2*(n+m)) z) (h.set b (.row e' (G+1) M (len+news.length) (cells.putL len news))))
  else none else none else none else none
 | _=>none
def mS(h:TH)(e esz bytes:Nat)(s:TV)(m:Nat)(news:LK):LY :=
 match s with
 | .nilsl=>bif Nat.beq m 0 then some (.ok .nilsl h)else ov h e esz bytes m news
 | .sl b g o n q z=>bif Nat.beq m 0 then some (.ok (.sl b g o n q z) h)else
  bif Nat.beq o 0 then bif Nat.beq (q%2) 0 then bif Nat.beq esz z then(match h.get b with
  | some r=>tb h e bytes b g n z m news r
  | none=>none)else none else none else none
 | _=>none
def tc(h:TH)(e esz bytes:Nat)(s x:TV):LY :=
 match cr h esz x (lenV x)with
 | none=>none
 | some news=>mS h e esz bytes s (lenV x) news
def setE(i:Nat)(k v:TV)(es:List uC):List uC:=match es with
 | []=>[]
 | e::l=>match i with
  | 0=>⟨k,v,e.n⟩::l
  | i+1=>e::setE i k v l
def BW(n:Nat)(v:TV):List uC->Option (List uC)
 | []=>none
 | e::l=>bif Nat.beq e.n n then some (⟨e.k,v,e.n⟩::l)else match BW n v l with
  | none=>none
  | some l'=>some (e::l')
def cN(n:Nat)(h:TH)(vs:LK):LY:=match vs with
 | [.ptr b g o e,v]=>bif Nat.beq v.cells.length n then bif Nat.ble n e then(match az h b g o v.cells with
  | some h=>some (.ok (.tuple []) h)
  | none=>none)else none else none
 | _=>none
def ry(h:TH)(b:Nat)(k v:TV):TO->LY
 | .map es clock=>(match gz k es 0 with
   | none=>none
   | some none=>some (.ok (.tuple []) (h.set b (.map (es++[⟨k,v,clock⟩]) (clock+1))))
   | some (some (i,_))=>some (.ok (.tuple []) (h.set b (.map (setE i k v es) clock))))
 | _=>none
def aH(kf:Nat)(h:TH)(vs:LK):LY:=match vs with
 | [.map b,k,v]=>bif mv kf k then(match h.get b with|some o=>ry h b k v o|none=>none)else none
 | _=>none
def DO(zero:TV)(h:TH)(b:Nat)(k:TV):TO->LY
 | .map es clock=>(match gz k es 0 with
   | none=>none
   | some none=>some (.ok (.tuple [zero,.int .i64 (.ofNat clock)]) (h.set b (.map (es++[⟨k,zero,clock⟩]) (clock+1))))
   | some (some (_,e))=>some (.ok (.tuple [e.v,.int .i64 (.ofNat e.n)]) h))
 | _=>none
def sW(kf:Nat)(zero:TV)(h:TH)(vs:LK):LY:=match vs with
 | [.map b,k]=>bif mv kf k then(match h.get b with|some o=>DO zero h b k o|none=>none)else none
 | _=>none
def CZ(h:TH)(b n:Nat)(v:TV):TO->LY
 | .map es clock=>(match BW n v es with
   | none=>none
   | some es=>some (.ok (.tuple []) (h.set b (.map es clock))))
 | _=>none
def sV(h:TH)(vs:LK):LY:=match vs with
 | [.map b,s,v]=>(match kh s with|some n=>(match h.get b with|some o=>CZ h b n v o|none=>none)|none=>none)
 | _=>none
def cM(e esz bytes:Nat)(h:TH)(vs:LK):LY:=match vs with
 | [s,x]=>tc h e esz bytes s x
 | _=>none
def dX(e esz bytes:Nat)(zero:LK)(h:TH)(vs:LK):LY:=match vs with
 | [s,.int _ (.ofNat m)]=>bif Nat.ble m 1000000 then bif Nat.ble (m*(bytes+1)) 140737488355328 then mS h e esz bytes s m (xc zero m)else none else none
 | _=>none
def nQ(esz:Nat)(h:TH)(vs:LK):LY:=match vs with
 | [d,x]=>let m:=min (lenV x) (lenV d);(match cr h esz x m with
  | none=>none
  | some news=>match d with
   | .nilsl=>some (.ok (.int .i64 (.ofNat 0)) h)
   | .sl b g o _ _ z=>bif Nat.beq m 0 then some (.ok (.int .i64 (.ofNat 0)) h)else bif Nat.beq esz z then(match az h b g o news with
    | some h=>some (.ok (.int .i64 (.ofNat m)) h)
    | none=>none)else none
   | _=>none)
 | _=>none
def ib:Option (TE×TH)->LY
 | some (.ret v,h)=>some (.ok v h)
 | some (.panic v,h)=>some (.panic v h)
 | none=>none
def Fx:Option (Bool×TH)->LY
 | some (b,h)=>some (.ok (.bool b) h)
 | none=>none
def fN(C:ua)(h:TH)(vs:LK):LY:=match vs with
 | .fn f cap::args=>ib (C.fn f (args++cap) h)
 | .yield l::args=>Fx (C.rd l args h)
 | _=>none
def F5(h:TH)(vs:LK):LY:=match vs with
 | [.iface t v]=>some (.panic (.iface t v) h)
 | _=>none
def Ce(caught:LD)(vs:LK):LY:=match vs with
 | [.fn f [],p,c]=>(match caught.get f with
  | some _=>some (.dfr (.caught p c))
  | none=>none)
 | _=>none
def act(C:ua)(caught:LD)(k:zA)(vs:LK)(h:TH):LY :=
 match k with
 | .store n=>cN n h vs
 | .mupd kf=>aH kf h vs
 | .ment kf zero=>sW kf zero h vs
 | .estore=>sV h vs
 | .append e esz bytes=>cM e esz bytes h vs
 | .appz e esz bytes zero=>dX e esz bytes zero h vs
 | .copy esz=>nQ esz h vs
 | .call=>fN C h vs
 | .panic=>F5 h vs
 | .defer=>Ce caught vs
 | _=>none
def bD(b:Bool):LC->LS
 | some (.bool c)=>some (bif b then c else not c)
 | some _=>some false
 | none=>none
def fA(tm:LL):Option (vQ×Bool)->LS
 | none=>some true
 | some (x,b)=>bD b (mX tm x)
def pV(tm nm:LL):Option (vQ×Bool)->LS
 | none=>some true
 | some (x,b)=>bD b (nX tm nm x)
inductive TS where
 | go (s:St)
 | panic (v:TV) (s:St)
abbrev AQ:=Option TS
def fO(d:LA)(s:St):LY->AQ
 | some (.ok v h)=>some (.go ((⟨s.tm,s.df,h⟩:St).put d v))
 | some (.panic v h)=>some (.panic v ⟨s.tm,s.df,h⟩)
 | some (.dfr x)=>some (.go ((⟨s.tm,x::s.df,s.h⟩:St).put d (.tuple [])))
 | none=>none
def I9(d:LA)(s:St):Option yH->AQ
 | some x=>some (.go ((⟨s.tm,s.df,s.h.push x.o⟩:St).put d x.v))
 | none=>none
def Bl(d:LA)(s:St):LC->AQ
 | some v=>some (.go (s.put d v))
 | none=>none
def nW(C:ua)(caught:LD)(o:vB)(s:St)(vs:LK):AQ :=
 match o.kind.cls with
 | 0=>Bl o.dst s (yb o.kind vs s.h)
 | 1=>I9 o.dst s (lay o.kind vs s.h.next)
 | _=>fO o.dst s (act C caught o.kind vs s.h)
def pT(C:ua)(caught:LD)(o:vB)(s:St):AQ :=
 match fA s.tm o.guard with
 | none=>none
 | some false=>some (.go (s.put o.dst (.tuple [])))
 | some true=>match kV s.tm o.args with
  | none=>none
  | some vs=>nW C caught o s vs
def kJ(C:ua)(caught:LD):List vB->St->AQ
 | [],s=>some (.go s)
 | o::l,s=>match pT C caught o s with
  | some (.go s')=>kJ C caught l s'
  | r=>r
def oc:Nat->Nat->LL->LL->Bool
 | _,0,_,_=>true
 | i,n+1,a,b=>match a.get i,b.get i with
  | some x,some y=>bif TV.beq 4 x y then oc (i+1) n a b else false
  | _,_=>false
def lD(a b:TO):Bool :=
 match a,b with
 | .row e G M n c,.row e' G' M' n' c'=>bif Nat.beq e e' then bif Nat.beq G G' then bif Nat.beq M M' then bif Nat.beq n n' then oc 0 n c c' else false else false else false else false
 | .map [] c,.map [] c'=>Nat.beq c c'
 | _,_=>false
def nT:TV->LA
 | .ptr b _ _ _ | .sl b _ _ _ _ _ | .map b=>some b
 | _=>none
def gt(nm:LL)(d:LA)(v:TV):Option (LL):=match d with
 | none=>some nm
 | some d=>match nm.get d with
  | none=>some (nm.set d (some v))
  | some _=>none
structure DS where
 nm:LL
 df:LZ
 h:TH
abbrev AI:=Option DS
def dput(df:LZ)(h:TH):Option (LL)->AI
 | some nm=>some ⟨nm,df,h⟩
 | none=>none
def BJ(h:TH)(k:zA)(vs:LK)(u:TV):Bool:=match yb k vs h with
 | some v=>TV.beq 4 v u
 | none=>false
def BI(h:TH)(k:zA)(vs:LK)(u:TV):Bool:=match nT u with
 | none=>false
 | some b=>match lay k vs b with
  | some x=>(match h.get b with
   | some y=>bif TV.beq 4 x.v u then lD x.o y else false
   | none=>false)
  | none=>false
def BK(h:TH)(k:zA)(vs:LK):LC->Bool
 | some u=>(match k.cls with
  | 0=>BJ h k vs u
  | 1=>BI h k vs u
  | _=>false)
 | none=>false
def BH(tm:LL)(s:DS)(o:vB):Bool:=match o.dst with
 | none=>false
 | some d=>match py tm s.nm o.args with
  | some vs=>BK s.h o.kind vs (s.nm.get d)
  | none=>false
def br(tm:LL)(s:DS)(o:vB):Bool:=match pV tm s.nm o.guard with
 | none=>false
 | some false=>true
 | some true=>BH tm s o
def dZ(tm:LL)(s:DS):List vB->Bool
 | []=>true
 | o::l=>bif br tm s o then dZ tm s l else false
def C5(s:DS)(d:LA):LC->AI
 | some v=>dput s.df s.h (gt s.nm d v)
 | none=>none
def C4(s:DS)(d:LA):Option yH->AI
 | some x=>dput s.df (s.h.push x.o) (gt s.nm d x.v)
 | none=>none
def oM(tm:LL)(o:vB)(s:DS):AI:=match py tm s.nm o.args with
 | none=>none
 | some vs=>match o.kind.cls with
  | 0=>C5 s o.dst (yb o.kind vs s.h)
  | 1=>C4 s o.dst (lay o.kind vs s.h.next)
  | _=>none
def cY(tm:LL)(o:vB)(s:DS):AI:=match pV tm s.nm o.guard with
 | none=>none
 | some false=>dput s.df s.h (gt s.nm o.dst (.tuple []))
 | some true=>oM tm o s
def aT(tm:LL):List vB->DS->AI
 | [],s=>some s
 | o::l,s=>match cY tm o s with
  | some s=>aT tm l s
  | none=>none
inductive DR where
 | go (s:DS)
 | panic (v:TV) (df:LZ) (h:TH)
abbrev AL:=Option DR
def aM:AI->AL
 | some s=>some (.go s)
 | none=>none
def cP(d:LA)(s:DS):LY->AL
 | some (.ok v h)=>aM (dput s.df h (gt s.nm d v))
 | some (.panic v h)=>some (.panic v s.df h)
 | some (.dfr x)=>aM (dput (x::s.df) s.h (gt s.nm d (.tuple [])))
 | none=>none
def cO(C:ua)(caught:LD)(tm:LL)(o:vB)(s:DS):AL:=match pV tm s.nm o.guard with
 | none=>none
 | some false=>aM (dput s.df s.h (gt s.nm o.dst (.tuple [])))
 | some true=>match py tm s.nm o.args with
  | none=>none
  | some vs=>cP o.dst s (act C caught o.kind vs s.h)
def km(C:ua)(caught:LD)(tm:LL):List yc->DS->AL
 | [],s=>some (.go s)
 | g::l,s=>bif dZ tm s g.chk then(match aT tm g.exe s with
  | some s=>match g.act with
   | none=>km C caught tm l s
   | some o=>match cO C caught tm o s with
    | some (.go s)=>km C caught tm l s
    | r=>r
  | none=>none)else none
def fw(nm:LL):LN->LL->LL
 | [],tm=>tm
 | d::l,tm=>fw nm l (tm.set d (nm.get d))
def ew:LN->LL->LL
 | [],tm=>tm
 | d::l,tm=>ew l (tm.set d none)
def dj(f:St->Option (TX×St)):Nat->St->Option (TX×St)
 | 0,_=>none
 | n+1,s=>match f s with
  | some (.norm,s')=>dj f n s'
  | r=>r
def sj(dsts:LL->LL):AQ->Option (TX×St)
 | some (.go s)=>some (.norm,s)
 | some (.panic v s)=>some (.panic v,{ s with tm:=dsts s.tm })
 | none=>none
def oH(ds:LN)(tm:LL):AL->Option (TX×St)
 | some (.go s)=>some (.norm,⟨fw s.nm ds tm,s.df,s.h⟩)
 | some (.panic v df h)=>some (.panic v,⟨ew ds tm,df,h⟩)
 | none=>none
def bT:List vB->LL->LL
 | [],tm=>tm
 | o::l,tm=>bT l (match o.dst with|some d=>tm.set d none|none=>tm)
structure FL where
 h:TH
 df:LZ
 d:Nat
 l:Nat
def Hr:TO->LA
 | .loop _ _ _ _ _ _ d=>some d
 | _=>none
def se(rnd:LA)(s:St):Option FL:=match rnd with
 | none=>some ⟨s.h.push (.dfr false),.mark s.h.next::s.df,s.h.next,s.h.next+1⟩
 | some l0=>match s.h.get l0 with
  | some o=>(match Hr o with
   | some d=>some ⟨s.h,s.df,d,s.h.next⟩
   | none=>none)
  | none=>none
def Kn(h:TH)(l:Nat)(tm:LL)(df:LZ):TO->Option (TX×St)
 | .loop st pe tm' ps aS bo d=>(match st with
  | .busy=>none
  | _=>some (pe,⟨tm,df,h.set l (.loop .exhausted pe tm' ps aS bo d)⟩))
 | _=>none
def Ci(l:Nat)(tm:LL)(df:LZ):Option (TE×TH)->Option (TX×St)
 | some (.ret _,h)=>(match h.get l with
  | some o=>Kn h l tm df o
  | none=>none)
 | _=>none
def Br(C:ua)(rnd:LA)(g:Nat)(cap:LK)(params:LN)(assign body:vP)(s:St):Option (TX×St) :=
 match se rnd s with
 | none=>none
 | some x=>Ci x.l s.tm x.df (C.fn g (.yield x.l::cap) (x.h.push (.loop .ready .norm s.tm params assign body x.d)))
def we(C:ua)(caught:LD)(N:Nat)(rnd:LA):vP->St->Option (TX×St)
 | .skip,s=>some (.norm,s)
 | .region ops,s=>sj (bT ops) (kJ C caught ops s)
 | .drawn gs ds,s=>oH ds s.tm (km C caught s.tm gs ⟨.nil,s.df,s.h⟩)
 | .seq a b,s=>match we C caught N rnd a s with
  | some (.norm,s')=>we C caught N rnd b s'
  | r=>r
 | .cond c a b,s=>match mX s.tm c with
  | some (.bool true)=>we C caught N rnd a s
  | some (.bool false)=>we C caught N rnd b s
  | _=>none
 | .block id b,s=>match we C caught N rnd b s with
  | some (.exit j,s')=>bif Nat.beq j id then some (.norm,s')else some (.exit j,s')
  | r=>r
 | .loop b,s=>dj (we C caught N rnd b) N s
 | .exit id,s=>some (.exit id,s)
 | .goto l,s=>some (.goto l,s)
 | .ret,s=>some (.ret,s)
 | .scope b l rest,s=>match we C caught N rnd b s with
  | some (.goto j,s')=>bif Nat.beq j l then(match we C caught N rnd rest s' with
   | some (.goto _,_)=>none
   | r=>r)else none
  | r=>r
 | .scope0 b,s=>match we C caught N rnd b s with
  | some (.goto _,_)=>none
  | r=>r
 | .rangef f params assign body,s =>
  match mX s.tm f with
  | some (.fn g cap)=>Br C rnd g cap params assign body s
  | _=>none
inductive dV where
 | tmp (t:Nat)
 | cell (t:Nat) (agg:Bool) (n:Nat)
structure zd where
 body:vP
 res:List dV
 N:Nat
abbrev AF:=Tr zd
structure vZ where
 funcs:AF
 spec:Nat->Option (LK->TH->Option (TE×TH))
 caught:LD
 errno:Nat
 N:Nat
def ap(tm:LL)(h:TH):List dV->Option (LK)
 | []=>some []
 | r::l=>match(match r with
   | .tmp t=>tm.get t
   | .cell t agg n=>match tm.get t with
    | some p=>yb (.load agg n) [p] h
    | none=>none)with
  | none=>none
  | some v=>match ap tm h l with
   | none=>none
   | some vs=>some (v::vs)
def sk:LK->TV
 | [v]=>v
 | l=>.tuple l
inductive TM where
 | returning
 | panicking (v:TV)
def yk(E:vZ)(C:ua):LZ->TM->TH->Option (TM×TH)
 | [],m,h=>some (m,h)
 | .mark b::l,m,h=>match h.get b with
  | some (.dfr false)=>yk E C l m (h.set b (.dfr true))
  | _=>none
 | .caught p c::l,m,h=>match m with
  | .returning=>yk E C l m h
  | .panicking (.iface t (.int .i64 n))=>bif Nat.beq t E.errno then(match c with
   | .fn g cap=>match C.fn g cap h with
    | some (.ret (.tuple []),h)=>match p with
     | .ptr b g 0 _=>match az h b g 0 [.int .i64 n]with
      | some h=>yk E C l .returning h
      | none=>none
     | _=>none
    | _=>none
   | _=>none)else none
  | _=>none
def gJ(E:vZ)(F:zd)(tm:LL):Option (TM×TH)->Option (TE×TH)
 | some (.returning,h)=>(match ap tm h F.res with
  | some vs=>some (.ret (sk vs),h)
  | none=>none)
 | some (.panicking v,h)=>some (.panic v,h)
 | none=>none
def CW(E:vZ)(C:ua)(F:zd):Option (TX×St)->Option (TE×TH)
 | some (x,s)=>(match x with
  | .norm=>gJ E F s.tm (yk E C s.df .returning s.h)
  | .ret=>gJ E F s.tm (yk E C s.df .returning s.h)
  | .panic v=>gJ E F s.tm (yk E C s.df (.panicking v) s.h)
  | _=>none)
 | none=>none
def zV(E:vZ)(C:ua)(f:Nat)(args:LK)(h:TH):Option (TE×TH) :=
 match E.funcs.get f with
 | some F=>bif Nat.ble args.length F.N then CW E C F (we C E.caught E.N none F.body ⟨Tr.putL .nil 0 args,[],h⟩)else none
 | none=>match E.spec f with
  | some g=>g args h
  | none=>none
def cp:LN->LK->LL->LL
 | p::ps,v::vs,t=>cp ps vs (t.set p (some v))
 | _,_,t=>t
def Dt(x:TX)(h:TH)(l:Nat):TO->Option (Bool×TH)
 | .loop _ _ tm ps aS bo d=>(match x with
  | .norm=>some (true,h.set l (.loop .ready .norm tm ps aS bo d))
  | .panic _=>none
  | x=>some (false,h.set l (.loop .done x tm ps aS bo d)))
 | _=>none
def BC(l:Nat):Option (TX×St)->Option (Bool×TH)
 | some (x,s)=>(match s.df with
  | []=>(match s.h.get l with
   | some o=>Dt x s.h l o
   | none=>none)
  | _=>none)
 | none=>none
def Cr(E:vZ)(C:ua)(l:Nat)(bo:vP)(s:St):TO->Option (Bool×TH)
 | .loop st pe tm ps aS bo' d=>(match st with
  | .ready=>BC l (we C .nil E.N (some l) bo ⟨s.tm,s.df,s.h.set l (.loop .busy pe tm ps aS bo' d)⟩)
  | _=>none)
 | _=>none
def DP(E:vZ)(C:ua)(l:Nat)(bo:vP):Option (TX×St)->Option (Bool×TH)
 | some (x,s)=>(match x with
  | .norm=>(match s.h.get l with
   | some o=>Cr E C l bo s o
   | none=>none)
  | _=>none)
 | none=>none
def EQ(E:vZ)(C:ua)(l:Nat)(args:LK)(h:TH):TO->Option (Bool×TH)
 | .loop _ _ tm ps aS bo _=>bif Nat.beq ps.length args.length then DP E C l bo (we C .nil E.N (some l) aS ⟨cp ps args tm,[],h⟩)else none
 | _=>none
def lZ(E:vZ)(C:ua)(l:Nat)(args:LK)(h:TH):Option (Bool×TH) :=
 match h.get l with
 | some o=>EQ E C l args h o
 | none=>none
def xy(E:vZ):Nat->ua
 | 0=>⟨fun _ _ _=>none,fun _ _ _=>none⟩
 | d+1=>⟨zV E (xy E d),lZ E (xy E d)⟩
end
end Tw
namespace Tw
def fo:Value->LC
 | .bool b=>some (.bool b)
 | .int k n=>some (.int k n)
 | .string s=>some (.str (s.data.toList.map (·.toNat)))
 | .pointer none=>some .nilptr
 | .slice none 0 0=>some .nilsl
 | .map none=>some .nilmap
 | .nilFunc=>some .nilfn
 | .nilIface=>some .niliface
 | _=>none
def yf{α β:Type}(f:α->Option β):List α->Option (List β)
 | []=>some []
 | a::l=>match f a with
  | none=>none
  | some b=>match yf f l with
   | none=>none
   | some bs=>some (b::bs)
def tz:Value->LC
 | .agg cs=>match yf fo cs.toList with
  | some l=>some (.agg l)
  | none=>none
 | .tuple cs=>match yf fo cs.toList with
  | some l=>some (.tuple l)
  | none=>none
 | .iface t v=>match fo v with
  | some v=>some (.iface t v)
  | none=>none
 | v=>fo v
def kZ:Operand->Option vQ
 | .tmp t=>some (.tmp t)
 | .const v=>(tz v).map .const
 | .func f=>some (.fn f)
 | .global _=>none
section
variable (P:Program)
def yE(t:TypeId):LS:=match P.underlying t with
 | some (.struct _)|some (.array ..)=>some true
 | some _=>some false
 | none=>none
def ug(t:TypeId):LA:=match P.info? t with
 | some i=>if i.size=0 then none else some i.size
 | none=>none
def ee(t:TypeId):LA:=(P.info? t).map (·.bytes)
def xX(t:TypeId):LC:=match P.info? t with
 | some i=>match i.zero with
  | some z=>tz z
  | none=>none
 | none=>none
def ie(t:TypeId)(f:Nat):Option (Nat×Bool×Nat):=match P.underlying t with
 | some (.struct fs)=>match fs[f]? with
  | some x=>match yE P x.type,ug P x.type with
   | some a,some n=>some (x.offset,a,n)
   | _,_=>none
  | none=>none
 | _=>none
def ia(t:TypeId):Option TypeId:=match P.underlying t with
 | some (.slice e)=>some e
 | _=>none
def oQ(f:TypeId->Option (LN)):List Field->Nat->Option (LN)
 | [],_=>some []
 | x :: l, n => if x.name = "_" then none else if x.offset ≠ n then none else match f x.type, ug P x.type with
  | some ks,some z=>if ks.length=z then(match oQ f l (n+z)with
   | some ms=>some (ks++ms)
   | none=>none)else none
  | _,_=>none
def dB(ks:LN):Nat->LN
 | 0=>[]
 | n+1=>ks++dB ks n
def mY:Nat->TypeId->Option (LN)
 | 0,_=>none
 | d+1,t=>match P.underlying t with
  | some (.int _)=>some [1]
  | some .bool=>some [2]
  | some .string=>some [3]
  | some (.struct fs)=>if P.stoodInHeld t then none else oQ P (mY d) fs.toList 0
  | some (.array n e)=>match mY d e,ug P e with
   | some ks,some z=>if ks.length=z then some (dB ks n)else none
   | _,_=>none
  | _=>none
def tN(t:TypeId):Option (LN):=match P.underlying t with
 | some (.struct _)|some (.array ..)=>if P.eqGuardType P.depth t then none else mY P 8 t
 | _=>none
def QY(fs:List Field):Option (List (Nat×Nat)):=fs.mapM fun f=>(P.info? f.type).map fun i=>(f.offset,i.size)
def Ej(pl:List (Nat×Nat))(p:Nat×Operand):Option (Nat×Nat):=match pl[p.1]? with
 | some q=>if q.2=0 then none else some q
 | none=>none
def Ek(t:TypeId)(parts:List (Nat×Operand)):Option (List (Nat×Nat)):=match P.underlying t with
 | some (.struct fs)=>match QY P fs.toList with
  | some pl=>yf (Ej pl) parts
  | none=>none
 | some (.array _ e)=>match ug P e with
  | some n=>some (parts.map fun p=>(p.1*n,n))
  | none=>none
 | _=>none
def mk(k:zA)(xs:AT):Option (zA×List vQ):=match yf kZ xs with
 | some l=>some (k,l)
 | none=>none
def eI:Operand->Bool
 | .const _=>true
 | _=>false
def Dp(t:TypeId):Bool:=match P.underlying t with
 | some (.int _)=>true
 | _=>false
def db(t:TypeId):Bool:=match P.underlying t with
 | some (.int .u8)=>match ug P t with
  | some 1=>true
  | _=>false
 | _=>false
def xb(o:Op):Option (zA×List vQ) :=
 match o with
 | .move x | .assign x=>mk .mov [x]
 | .pick c a b=>mk .pick [c,a,b]
 | .load t a=>match yE P t,ug P t with
  | some g,some n=>mk (.load g n) [a]
  | _,_=>none
 | .store t a v=>match ug P t with
  | some n=>mk (.store n) [a,v]
  | none=>none
 | .nilCheck x=>mk .nilchk [x]
 | .binOp op t x y _=>match op,P.underlying t with
  | .eql,some (.int _) | .eql,some .string=>mk (.bin .eql) [x,y]
  | .neq,some (.int _) | .neq,some .string=>mk (.bin .neq) [x,y]
  | .eql,some .bool=>mk (.eqB false) [x,y]
  | .neq,some .bool=>mk (.eqB true) [x,y]
  | .eql,some (.struct _) | .eql,some (.array ..)=>match tN P t with|some n=>mk (.eqagg false n) [x,y]|none=>none
  | .neq,some (.struct _) | .neq,some (.array ..)=>match tN P t with|some n=>mk (.eqagg true n) [x,y]|none=>none
  | .eql,some (.pointer _)=>mk (.eqnil false 1) [x,y]
  | .eql,some (.slice _)=>mk (.eqnil false 2) [x,y]
  | .eql,some (.map ..)=>mk (.eqnil false 3) [x,y]
  | .eql,some (.func ..)=>mk (.eqnil false 4) [x,y]
  | .eql,some (.interface _)=>if eI x||eI y then mk (.eqnil false 5) [x,y]else none
  | .neq,some (.pointer _)=>mk (.eqnil true 1) [x,y]
  | .neq,some (.slice _)=>mk (.eqnil true 2) [x,y]
  | .neq,some (.map ..)=>mk (.eqnil true 3) [x,y]
  | .neq,some (.func ..)=>mk (.eqnil true 4) [x,y]
  | .neq,some (.interface _)=>if eI x||eI y then mk (.eqnil true 5) [x,y]else none
  | .eql,_ | .neq,_=>none
  | op,_=>mk (.bin op) [x,y]
 | .unOp op _ x=>mk (.un op) [x]
 | .convert src dst x=>match P.underlying src,P.underlying dst with
  | some (.int _),some (.int k)=>mk (.conv k) [x]
  | some .string,some .string=>mk .cstr [x]
  | some .string,some (.slice e)=>if db P e then mk (.tobytes e) [x]else none
  | some (.slice e),some .string=>if db P e then mk .tostr [x]else none
  | _,_=>none
 | .makeInterface t x=>match P.underlying t with
  | some (.interface _)|none=>none
  | _=>mk (.mkif t) [x]
 | .makeFunc (.func f) first captured=>if first.size=0 then mk (.mkfn f) captured.toList else none
 | .makeMap t r=>match P.underlying t,r with
  | some (.map ..),none=>mk .mkmap []
  | some (.map ..),some x=>mk .mkmap [x]
  | _,_=>none
 | .makeSlice t l c=>match ia P t with
  | some e=>match ug P e,ee P e,xX P e with
   | some n,some b,some z=>if z.cells.length=n then mk (.mkslice e n b z.cells) [l,c]else none
   | _,_,_=>none
  | none=>none
 | .slice t x lo hi mx=>match P.underlying t with
  | some (.slice e)=>match ug P e with
   | some n=>mk (.slice n lo.isSome hi.isSome mx.isSome) ([x]++lo.toList++hi.toList++mx.toList)
   | none=>none
  | some .string=>if mx.isSome then none else mk (.slstr lo.isSome hi.isSome) ([x]++lo.toList++hi.toList)
  | some (.array len e)=>if mx.isSome then none else match ug P e with
   | some n=>if len<=1000000 then mk (.slarr len n lo.isSome hi.isSome) ([x]++lo.toList++hi.toList)else none
   | none=>none
  | _=>none
 | .fieldAddr t x f=>match ie P t f with
  | some (o,_,n)=>mk (.faddr o n) [x]
  | none=>none
 | .field t x f=>match ie P t f with
  | some (o,a,n)=>mk (.fld a o n) [x]
  | none=>none
 | .indexAddr t x i=>match P.underlying t with
  | some (.slice e)=>match ug P e with
   | some n=>mk (.iaddr n) [x,i]
   | none=>none
  | some (.array len e)=>match ug P e with
   | some n=>mk (.iaddrA len n) [x,i]
   | none=>none
  | _=>none
 | .index t x i=>match P.underlying t with
  | some .string=>mk .idxstr [x,i]
  | some (.array len e)=>match yE P e,ug P e with
   | some a,some n=>mk (.idxagg len a n) [x,i]
   | _,_=>none
  | _=>none
 | .lookup t m k ok=>match P.underlying t with
  | some (.map key e)=>match P.underlying key,xX P e with
   | some (.int _),some z=>mk (.look 1 z ok) [m,k]
   | some .string,some z=>mk (.look 2 z ok) [m,k]
   | _,_=>none
  | _=>none
 | .mapUpdate t m k v | .insert t m k v=>match P.underlying t with
  | some (.map key _)=>match P.underlying key with
   | some (.int _)=>mk (.mupd 1) [m,k,v]
   | some .string=>mk (.mupd 2) [m,k,v]
   | _=>none
  | _=>none
 | .mapEntry t m k=>match P.underlying t with
  | some (.map key e)=>match P.underlying key,xX P e with
   | some (.int _),some z=>mk (.ment 1 z) [m,k]
   | some .string,some z=>mk (.ment 2 z) [m,k]
   | _,_=>none
  | _=>none
 | .entryStore _ m s v=>mk .estore [m,s,v]
 | .typeAssert x _ t ok=>match P.underlying t,xX P t with
  | some (.interface _),_|none,_|_,none=>none
  | _,some z=>mk (.tassert t z ok) [x]
 | .extract t i=>mk (.extr i) [t]
 | .alloc e=>match xX P e,ug P e with
  | some z,some n=>if z.cells.length=n then mk (.alloc e z.cells) []else none
  | _,_=>none
 | .box e v=>match ug P e with
  | some n=>mk (.box e n) [v]
  | none=>none
 | .build t parts=>match xX P t,Ek P t parts.toList with
  | some (.agg z),some ps=>mk (.build z ps) (parts.toList.map (·.2))
  | _,_=>none
 | .buildSlice t len parts=>match ia P t with
  | some e=>match ug P e,xX P e with
   | some n,some z=>if z.cells.length=n then mk (.bslice e n len z.cells (parts.toList.map fun p=>(p.1*n,n))) (parts.toList.map (·.2))else none
   | _,_=>none
  | none=>none
 | .panic x=>mk .panic [x]
 | .defer { callee:=.value f,args,.. }=>mk .defer (f::args.toList)
 | .call { callee:=.value f,args,.. }=>mk .call (f::args.toList)
 | .call { callee:=.builtin b,args,argTypes }=>match b,argTypes.toList with
  | .append,[t,u]=>match ia P t with
   | some e=>match ug P e,ee P e,xX P e with
    | some n,some b,some z=>if z.cells.length=n then if u=t then mk (.append e n b) args.toList else if Dp P u then mk (.appz e n b z.cells) args.toList else none else none
    | _,_,_=>none
   | none=>none
  | .copy,[t,_]=>match ia P t with
   | some e=>match ug P e with
    | some n=>mk (.copy n) args.toList
    | none=>none
   | none=>none
  | .len,[t]=>match P.underlying t with
   | some (.slice _)=>mk (.len 1) args.toList
   | some (.map ..)=>mk (.len 2) args.toList
   | some .string=>mk (.len 3) args.toList
   | _=>none
  | .max,_=>if args.size=2 then mk .maxI args.toList else none
  | .min,_=>if args.size=2 then mk .minI args.toList else none
  | .panic,_=>if args.size=1 then mk .panic args.toList else none
  | _,_=>none
 | _=>none
def lJ(N:Nat)(ops:LX)(o:Oper):Option vB:=if(o.dst.all fun d=>decide (d<N))=false then none else match xb P o.op with
 | none=>none
 | some (k,args)=>match o.guard with
  | none=>some ⟨o.dst,k,args,none⟩
  | some (j,b)=>match(ops[j]?).bind (·.dst)with
   | some t=>some ⟨o.dst,k,args,some (.tmp t,b)⟩
   | none=>none
end
def xn:AA->LN->LN
 | [],acc=>acc.reverse
 | o::l,acc =>
  let m:=o.after.toList.foldl (fun s e=>if Region.binds .any e then Nat.lor (Nat.lor s (2 ^ e.on)) (acc.reverse.getD e.on 0)else s) 0
  xn l (m::acc)
structure Item where
 i:Nat
 o:vB
 m:Nat
abbrev LH:=List Item
def bY:List vB->LN->Nat->LH
 | o::l,m::ms,i=>⟨i,o,m⟩::bY l ms (i+1)
 | _,_,_=>[]
def dE:LH->Bool
 | a::b::l=>b.m.testBit a.i&&dE (b::l)
 | _=>true
def pL(acts:LH)(x:Item):Nat:=(acts.filter fun a=>x.m.testBit a.i).length
def eX:vQ->Bool
 | .new _=>false
 | _=>true
def BX:vQ->LA
 | .tmp t=>some t
 | _=>none
def ri(o:vB):LN:=(o.args++(match o.guard with|some (x,_)=>[x]|none=>[])).filterMap BX
def oa(all:LH):Bool :=
  all.all fun x =>
    (match x.o.dst with
     | none=>x.o.kind.cls==2
     | some d=>all.all fun y=>y.i==x.i || !(y.o.dst==some d)) &&
    (x.o.args.all eX&&(match x.o.guard with|some (p,_)=>eX p|none=>true)) &&
    (ri x.o).all fun t=>all.all fun y=>!(y.o.dst==some t)||x.m.testBit y.i||y.m.testBit x.i
def eT(all:LH)(x:Item):vQ->vQ
 | .tmp t=>if all.any fun y=>y.o.dst==some t&&x.m.testBit y.i then .new t else .tmp t
 | a=>a
def xd(all:LH)(x:Item):vB:=⟨x.o.dst,x.o.kind,x.o.args.map (eT all x),x.o.guard.map fun p=>(eT all x p.1,p.2)⟩
def CL(all acts:LH)(s:Nat):List vB:=(all.filter fun x=>x.o.kind.cls != 2&&decide (pL acts x<s)&&(acts.take s).all fun a=>!a.m.testBit x.i).map (xd all)
def oN(all acts:LH)(s:Nat):List vB:=(all.filter fun x=>x.o.kind.cls != 2&&pL acts x==s).map (xd all)
def bB(all acts:LH):Nat->LH->List yc
 | s,[]=>[⟨CL all acts s,oN all acts s,none⟩]
 | s,a::l=>⟨CL all acts s,oN all acts s,some (xd all a)⟩::bB all acts (s+1) l
def fR:AA->Nat->Bool
 | [],_=>true
 | o::l,i=>(o.after.all fun e=>!Region.binds .any e||decide (e.on<i))&&fR l (i+1)
def tE(ops:AA)(os:List vB):Option vP :=
 let all:=bY os (xn ops []) 0
 let acts:=all.filter fun x=>x.o.kind.cls==2
 if fR ops 0&&dE acts&&oa all then some (.drawn (bB all acts 0 acts) (all.filterMap fun x=>x.o.dst))else none
def Dx:Code->LA
 | .label l=>some l
 | .seq a b=>match Dx a with
  | some l=>some l
  | none=>Dx b
 | _=>none
section
variable (P:Program)
def uT(N:Nat):Nat->Code->Option vP
 | 0,_=>none
 | n+1,c=>match c with
  | .skip | .label _=>some .skip
  | .region _ ops draw=>match yf (lJ P N ops) ops.toList with
   | none=>none
   | some os=>if draw then tE ops.toList os else some (.region os)
  | .seq a b=>match uT N n a,uT N n b with
   | some a,some b=>some (.seq a b)
   | _,_=>none
  | .cond c a b=>match kZ c,uT N n a,uT N n b with
   | some c,some a,some b=>some (.cond c a b)
   | _,_,_=>none
  | .block id b=>match uT N n b with
   | some b=>some (.block id b)
   | none=>none
  | .loop b=>match uT N n b with
   | some b=>some (.loop b)
   | none=>none
  | .rangeFunc f ps a b=>if(ps.toList.all fun d=>decide (d<N))=false then none else match kZ f,uT N n a,uT N n b with
   | some f,some a,some b=>some (.rangef f ps.toList a b)
   | _,_,_=>none
  | .exit id=>some (.exit id)
  | .goto l=>some (.goto l)
  | .ret=>some .ret
  | .scope b=>match Dx b with
   | none=>match uT N n b with
    | some b=>some (.scope0 b)
    | none=>none
   | some l=>match findLabel b l with
    | none=>none
    | some r=>match uT N n b,uT N n r with
     | some b,some r=>some (.scope b l r)
     | _,_=>none
  | .refuse _=>none
def lW:ResultVar->Option dV
 | .tmp t=>some (.tmp t)
 | .cell t ty=>match yE P ty,ug P ty with
  | some a,some n=>some (.cell t a n)
  | _,_=>none
def eC(F:Func):Option zd:=match F.body with
 | none=>none
 | some c=>match uT P F.ntmps 1000 c,yf (lW P) F.results.toList with
  | some c,some r=>some ⟨c,r,F.ntmps⟩
  | _,_=>none
end
open Go.RowKit
section tries
variable {α:Type}
theorem Tr.get_setN(x:Option α):∀(d:Nat) (t:Tr α) (n m:Nat),n<d->(Tr.setN x d t n).get m=if m=n then x else t.get m
 | 0,_,_,_,h=>absurd h (Nat.not_lt_zero _)
 | d+1,.nil,n,m,h=>by
  have a:=Tr.get_setN x d .nil (n/2) (m/2);have b:=Tr.get_setN x d .nil (n/2-1) (m/2-1);simp only[Tr.setN_none,Tr.get_none,zCO9,zDY9]at a b⊢;have h2:(Tr.node .nil x .nil:Tr α).get m=if m=0 then x else none:=by simp only[Tr.get_node,Tr.get_none,zCO9,zDY9];grind
  have h3:∀t:Tr α,(Tr.node t none .nil).get m=if m=0 then none else if m%2=1 then t.get (m/2)else none:=fun t=>by simp only[Tr.get_node,Tr.get_none,zCO9,zDY9]
  have h4:∀t:Tr α,(Tr.node .nil none t).get m=if m=0 then none else if m%2=1 then none else t.get (m/2-1):=fun t=>by simp only[Tr.get_node,Tr.get_none,zCO9,zDY9]
  grind
 | d+1,.node l v r,n,m,h=>by
  have a:=Tr.get_setN x d l (n/2) (m/2);have b:=Tr.get_setN x d r (n/2-1) (m/2-1);simp only[Tr.setN_node,zCO9,zDY9]at a b⊢;have h2:∀(l r:Tr α) (v:Option α),(Tr.node l v r).get m=if m=0 then v else if m%2=1 then l.get (m/2)else r.get (m/2-1):=fun l r v=>by simp only[Tr.get_node,zCO9,zDY9]
  grind
theorem Tr.get_set(t:Tr α)(n:Nat)(x:Option α)(m:Nat):(t.set n x).get m=if m=n then x else t.get m:=Tr.get_setN x (n+1) t n m (Z5 _)
theorem Tr.get_nil(n:Nat):(Tr.nil:Tr α).get n=none:=rfl
theorem Tr.get_putL:∀(l:List α) (t:Tr α) (n m:Nat),(Tr.putL t n l).get m=if n<=m/\m<n+l.length then l[m-n]? else t.get m
 | [],t,n,m=>by simp only[Tr.putL,Zz];grind
 | x::l,t,n,m=>by
  rw[Tr.putL,Tr.get_putL l _ (n+1) m,Tr.get_set]
  grind
theorem Tr.getL_some:∀{n i:Nat} {t:Tr α} {l:List α},Tr.getL t i n=some l->l.length=n/\∀j,j<n->l[j]?=t.get (i+j)
 | 0,i,t,l,h=>by simp[Tr.getL]at h;grind
 | n+1,i,t,l,h=>by
  unfold Tr.getL at h
  split at h
  .cases h
  .rename_i x hx
   split at h
   .cases h
   .rename_i l' hl'
    cases h
    obtain⟨h1,h2⟩:=Tr.getL_some hl'
    grind
end tries
variable {a b:Nat}
theorem cQ(h:a<b):Nat.blt a b=true:=zBI9.mpr h
theorem GN(h:¬a<b):Nat.blt a b=false:=by
 cases c:Nat.blt a b
 .rfl
 .exact absurd (zBI9.mp c) h
theorem TH.gP(h:TH)(o:TO)(b:Nat):(h.push o).get b=if b=h.next then some o else h.get b:=by
 unfold TH.get TH.push;dsimp only;rw[Tr.get_set]
 by_cases e:b=h.next
 .subst e;rw[if_pos rfl,if_pos rfl,cQ (Z5 _)];rfl
 .rw[if_neg e,if_neg e]
  by_cases a:b<h.next
  .rw[cQ a,cQ (Nat.lt_succ_of_lt a)]
  .rw[GN a,GN zo]
theorem TH.get_set(h:TH)(b:Nat)(o:TO)(c:Nat)(hb:b<h.next):(h.set b o).get c=if c=b then some o else h.get c:=by
 unfold TH.get TH.set;dsimp only;rw[Tr.get_set]
 by_cases e:c=b
 .subst e;rw[if_pos rfl,if_pos rfl,cQ hb];rfl
 grind
theorem TH.get_lt{h:TH}{o:TO}(hg:h.get b=some o):b<h.next:=by
 unfold TH.get at hg
 cases a:Nat.blt b h.next
 all_goals simp_all
theorem TH.nP(h:TH)(o:TO):(h.push o).next=h.next+1:=rfl
theorem TH.next_set(h:TH)(b:Nat)(o:TO):(h.set b o).next=h.next:=rfl
structure yP where
 r:Nat
 L:Nat
 S:Nat
abbrev zh:=Nat->Nat->Option yP
def TV.one:TV->Bool
 | .agg _ | .tuple _=>false
 | _=>true
inductive VR(ρ:zh):TV->Value->Prop
 | bool (b:Bool):VR ρ (.bool b) (.bool b)
 | int (k:IntKind) (n:Int):VR ρ (.int k n) (.int k n)
 | str (s:ByteArray):VR ρ (.str (s.data.toList.map (·.toNat))) (.string s)
 | nilptr:VR ρ .nilptr (.pointer none)
 | ptr {b g o e:Nat} {loc:yP} (h:ρ b g=some loc) (hc:o+e<=loc.L):VR ρ (.ptr b g o e) (.pointer (some ⟨loc.r,o,none⟩))
 | nilsl:VR ρ .nilsl (.slice none 0 0)
 | sl {b g o n q z o' c:Nat} {loc:yP} (h:ρ b g=some loc) (hn:n<=q/2) (hq:q/2<=c) (hc:o+q/2*z<=loc.L) (ho:o'=o\/n=0/\c=0/\o≠0) (hs:q%2=0->o+c*z=loc.S) (hm:c<=maxLen) :
   VR ρ (.sl b g o n q z) (.slice (some ⟨loc.r,o',none⟩) n c)
 | nilmap:VR ρ .nilmap (.map none)
 | map {b:Nat} {loc:yP} (h:ρ b 0=some loc):VR ρ (.map b) (.map (some loc.r))
 | fn {f:Nat} {l:LK} {cs:LE} (hl:l.length=cs.length) (h:∀(i:Nat) (x:TV) (y:Value),l[i]?=some x->cs[i]?=some y->VR ρ x y):VR ρ (.fn f l) (.func (.func f) #[] cs.toArray)
 | yield {l:Nat} {loc:yP} (h:ρ l 0=some loc):VR ρ (.yield l) (.func (.yield loc.r) #[] #[])
 | nilfn:VR ρ .nilfn .nilFunc
 | iface {t:Nat} {v:TV} {v':Value} (h:VR ρ v v'):VR ρ (.iface t v) (.iface t v')
 | niliface:VR ρ .niliface .nilIface
 | agg {l:LK} {cs:LE} (hl:l.length=cs.length) (h1:∀x∈l,x.one=true) (h:∀(i:Nat) (x:TV) (y:Value),l[i]?=some x->cs[i]?=some y->VR ρ x y):VR ρ (.agg l) (.agg cs.toArray)
 | tuple {l:LK} {cs:LE} (hl:l.length=cs.length) (h:∀(i:Nat) (x:TV) (y:Value),l[i]?=some x->cs[i]?=some y->VR ρ x y):VR ρ (.tuple l) (.tuple cs.toArray)
def VL(ρ:zh)(l:LK)(cs:LE):Prop:=l.length=cs.length/\∀(i:Nat) (x:TV) (y:Value),l[i]?=some x->cs[i]?=some y->VR ρ x y
variable {cs:LE}{l:LK}{x:TV}{y:Value}{ρ:zh}
theorem VL.nil(ρ:zh):VL ρ [] []:=⟨rfl,fun i x y h=>by simp at h⟩
theorem VL.cons(h:VR ρ x y)(hl:VL ρ l cs):VL ρ (x::l) (y::cs) :=
 ⟨by simp[hl.1],fun i a b c d=>by
  cases i with
  | zero=>simp at c d;subst c;subst d;exact h
  | succ i=>simp at c d;exact hl.2 i a b c d⟩
theorem VL.oc(h:VL ρ (x::l) cs):∃y cs',cs=y::cs'/\VR ρ x y/\VL ρ l cs':=by
 cases cs with
 | nil=>have:=h.1;grind
 | cons y cs'=>exact⟨y,cs',rfl,h.2 0 x y rfl rfl,by have:=h.1;grind,fun i a b c d=>h.2 (i+1) a b (by grind) (by grind)⟩
theorem VL.oN(h:VL ρ [] cs):cs=[]:=by
 cases cs with
 | nil=>rfl
 | cons y a=>have:=h.1;grind
theorem VL.one(h:VR ρ x y):VL ρ [x] [y]:=.cons h (.nil ρ)
theorem VL.app{m:LK}{ds:LE}(h:VL ρ l cs)(k:VL ρ m ds):VL ρ (l++m) (cs++ds):=by
 refine⟨by simp[h.1,k.1],fun i x y a b=>?_⟩;rw[zDA9]at a b;rw[h.1]at a
 split at a
 .rename_i hi;rw[if_pos hi]at b;exact h.2 i x y a b
 .rename_i hi;rw[if_neg hi]at b;exact k.2 _ x y a b
theorem VL.drop(h:VL ρ l cs)(k:Nat):VL ρ (l.drop k) (cs.drop k) :=
 ⟨by simp[h.1],fun i x y a b=>h.2 (k+i) x y (by grind) (by grind)⟩
theorem VL.take(h:VL ρ l cs)(k:Nat):VL ρ (l.take k) (cs.take k):=by
 refine⟨by simp[h.1],fun i x y a b=>?_⟩;rw[ZY]at a b
 split at a
 .rename_i hi;rw[if_pos hi]at b;exact h.2 i x y a b
 .cases a
theorem VL.at(h:VL ρ l cs){i:Nat}(hx:l[i]?=some x):∃y,cs[i]?=some y/\VR ρ x y:=by
 have hi:i<cs.length:=by rw[<- h.1];exact(Zh.1 hx).1
 exact⟨cs[i],Zg hi,h.2 i x _ hx (Zg hi)⟩
theorem VR.aggL(h:VL ρ l cs)(h1:∀x∈l,x.one=true):VR ρ (.agg l) (.agg cs.toArray):=.agg h.1 h1 h.2
theorem VR.tL(h:VL ρ l cs):VR ρ (.tuple l) (.tuple cs.toArray):=.tuple h.1 h.2
theorem VR.fnL{f:Nat}(h:VL ρ l cs):VR ρ (.fn f l) (.func (.func f) #[] cs.toArray):=.fn h.1 h.2
theorem VR.undef(ρ:zh):VR ρ (.tuple []) Go.undef:=VR.tL (VL.nil ρ)
structure zh.le(n:Nat)(ρ ρ':zh):Prop where
 more:∀b g loc,ρ b g=some loc->ρ' b g=some loc
 none:∀b,b<n->(∀g,ρ b g=none)->∀g,ρ' b g=none
variable {v:TV}{v':Value}{ρ':zh}
theorem zh.le.refl(n:Nat)(ρ:zh):zh.le n ρ ρ:=⟨fun _ _ _ h=>h,fun _ _ h=>h⟩
theorem zh.le.trans{n m:Nat}{ρ'':zh}(h:zh.le n ρ ρ')(k:zh.le m ρ' ρ'')(hnm:n<=m):zh.le n ρ ρ'' :=
 ⟨fun b g loc a=>k.more b g loc (h.more b g loc a),fun b a c=>k.none b (ZR a hnm) (h.none b a c)⟩
theorem VR.mono(hρ:∀b g loc,ρ b g=some loc->ρ' b g=some loc)(h:VR ρ v v'):VR ρ' v v':=by
 induction h with
 | bool b=>exact .bool b
 | int k n=>exact .int k n
 | str s=>exact .str s
 | nilptr=>exact .nilptr
 | ptr h d=>exact .ptr (hρ _ _ _ h) d
 | nilsl=>exact .nilsl
 | sl h e f d i j l=>exact .sl (hρ _ _ _ h) e f d i j l
 | nilmap=>exact .nilmap
 | map h=>exact .map (hρ _ _ _ h)
 | fn c _ a=>exact .fn c a
 | yield h=>exact .yield (hρ _ _ _ h)
 | nilfn=>exact .nilfn
 | iface _ a=>exact .iface a
 | niliface=>exact .niliface
 | agg c h1 _ a=>exact .agg c h1 a
 | tuple c _ a=>exact .tuple c a
theorem VL.mono(hρ:∀b g loc,ρ b g=some loc->ρ' b g=some loc){l:LK}{cs:LE}(h:VL ρ l cs):VL ρ' l cs:=⟨h.1,fun i x y a c=>(h.2 i x y a c).mono hρ⟩
theorem VR.oneCell(h:VR ρ v v')(h1:v.one=true):v'.oneCell'=true:=by
 cases h<;>first|rfl|(simp[TV.one]at h1)
theorem VR.cells(h:VR ρ v v')(hn:v.cells ≠ []\/∃l,v=.agg l):VL ρ v.cells v'.cells.toList/\(∀x∈v.cells,x.one=true):=by
 cases h with
 | agg a h1 h=>exact⟨⟨by simpa[TV.cells,Value.cells]using a,by simpa[TV.cells,Value.cells]using h⟩,h1⟩
 | tuple a h=>rcases hn with hn|⟨l,hn⟩<;>simp[TV.cells]at hn
 | bool b=>exact⟨VL.one (.bool b),by simp[TV.cells,TV.one]⟩
 | int k n=>exact⟨VL.one (.int k n),by simp[TV.cells,TV.one]⟩
 | str s=>exact⟨VL.one (.str s),by simp[TV.cells,TV.one]⟩
 | nilptr=>exact⟨VL.one .nilptr,by simp[TV.cells,TV.one]⟩
 | ptr h c=>exact⟨VL.one (.ptr h c),by simp[TV.cells,TV.one]⟩
 | nilsl=>exact⟨VL.one .nilsl,by simp[TV.cells,TV.one]⟩
 | sl h d e c f g i=>exact⟨VL.one (.sl h d e c f g i),by simp[TV.cells,TV.one]⟩
 | nilmap=>exact⟨VL.one .nilmap,by simp[TV.cells,TV.one]⟩
 | map h=>exact⟨VL.one (.map h),by simp[TV.cells,TV.one]⟩
 | fn a h=>exact⟨VL.one (.fn a h),by simp[TV.cells,TV.one]⟩
 | yield h=>exact⟨VL.one (.yield h),by simp[TV.cells,TV.one]⟩
 | nilfn=>exact⟨VL.one .nilfn,by simp[TV.cells,TV.one]⟩
 | iface h=>exact⟨VL.one (.iface h),by simp[TV.cells,TV.one]⟩
 | niliface=>exact⟨VL.one .niliface,by simp[TV.cells,TV.one]⟩
def xZ(ρ:zh)(es:List uC)(es':List MapEntry):Prop:=es.length=es'.length/\∀(i:Nat) (e:uC) (e':MapEntry),es[i]?=some e->es'[i]?=some e'->VR ρ e.k e'.key/\VR ρ e.v e'.val/\e'.born=e.n
def sG:TX->Option Code->Prop
 | .norm,c=>c=none
 | .exit id,c=>c=some (.exit id)
 | .goto l,c=>c=some (.goto l)
 | .ret,c=>c=some .ret
 | .panic _,_=>False
def yX(ρ:zh)(tm:LL)(tmps:LM):Prop:=∀t v,tm.get t=some v->∃v',tmps[t]?=some v'/\VR ρ v v'
def fH(P:Program)(e:TypeId)(fz:Nat×Nat)(n:Nat):Prop:=fz=(0,0)\/db P e=true/\n<=fz.1
def nK(P:Program)(w:World)(r:Nat)(cur:LM)(e:TypeId):Prop:=∃fz,w.heap[r]?=some (.cells cur e fz)/\fH P e fz cur.size
variable {P:Program}{cur:LM}{e:TypeId}{r:Nat}{w:World}
theorem nK.of(h:w.heap[r]?=some (.cells cur e (0,0))):nK P w r cur e:=⟨_,h,.inl rfl⟩
theorem nK.move{w':World}(h:nK P w r cur e)(k:w'.heap[r]?=w.heap[r]?):nK P w' r cur e:=let ⟨fz,a,b⟩:=h;⟨fz,k.trans a,b⟩
theorem nK.plain(h:nK P w r cur e)(he:db P e=false):w.heap[r]?=some (.cells cur e (0,0)):=by
 obtain⟨c,a,rfl|⟨b,_⟩⟩:=h
 .exact a
 .rw[he]at b;cases b
def OR(P:Program)(ρ:zh)(b:Nat)(w:World):TO->Prop
 | .row e G M len cells=>M<=G/\(∀g loc,ρ b g=some loc->g<=G)/\∀g,M<=g->g<=G->∃loc cur,ρ b g=some loc/\nK P w loc.r cur e/\(g=G->cur.size=loc.S)/\loc.L<=len/\loc.L<=cur.size/\(g=G->loc.L=len) /\
   ∀i,i<loc.L->∃x v,cells.get i=some x/\cur[i]?=some v/\x.one=true/\VR ρ x v
 | .map es ck=>∃loc es',ρ b 0=some loc/\w.heap[loc.r]?=some (.map es' ck)/\xZ ρ es es'.toList
 | .dfr shut=>∃loc,ρ b 0=some loc/\w.heap[loc.r]?=some (.deferred (if shut=true then none else some []))
 | .loop st pe tm ps aS bo d=>∃loc rec locd N n m,ρ b 0=some loc/\ρ d 0=some locd/\w.heap[loc.r]?=some (.loop rec)/\rec.state=st/\sG pe rec.pending/\yX ρ tm rec.tmps/\N<=rec.tmps.size /\
   rec.params.toList=ps/\(∀p∈ps,p<N)/\uT P N n rec.assign=some aS/\uT P N m rec.body=some bo/\rec.defers=locd.r
 | .ro cells=>∀g loc,ρ b g=some loc->g=0/\∀i x,cells.get i=some x->∃v,w.cell? ⟨loc.r,i,none⟩=some v/\x.one=true/\VR ρ x v
def RO(h:TH)(b:Nat):Prop:=∃cs,h.get b=some (.ro cs)
structure WR(P:Program)(Z:Nat)(ρ:zh)(h:TH)(w:World):Prop where
 dom:∀b g loc,ρ b g=some loc->b<h.next/\(Z<=loc.r\/RO h b)/\loc.r<w.heap.size
 obj:∀b g loc,ρ b g=some loc->∃o,h.get b=some o/\OR P ρ b w o
 sep:∀b b' g g' loc loc',ρ b g=some loc->ρ b' g'=some loc'->loc.r=loc'.r->Z<=loc.r->b=b'
variable {Z c g:Nat}{h:TH}{loc:yP}{w':World}{x:TO}
theorem xZ.mono(hρ:∀b g loc,ρ b g=some loc->ρ' b g=some loc){es es'}(h:xZ ρ es es'):xZ ρ' es es' :=
 ⟨h.1,fun i e f j d=>let ⟨a,b,c⟩:=h.2 i e f j d;⟨a.mono hρ,b.mono hρ,c⟩⟩
theorem yX.mono(hρ:∀b g loc,ρ b g=some loc->ρ' b g=some loc){tm tmps}(h:yX ρ tm tmps):yX ρ' tm tmps :=
 fun t v a=>let ⟨v',h1,h2⟩:=h t v a;⟨v',h1,h2.mono hρ⟩
theorem OR.move(hρ:∀b g loc,ρ b g=some loc->ρ' b g=some loc){o:TO}(hsame:∀g,ρ' b g=ρ b g)(hb:∀g loc,ρ b g=some loc->w'.heap[loc.r]?=w.heap[loc.r]?)(h:OR P ρ b w o):OR P ρ' b w' o:=by
 cases o with
 | row e G M len cells =>
  refine⟨h.1,fun g loc L=>h.2.1 g loc (by grind),fun g h1 h2=>?_⟩;obtain⟨loc,cur,a,c,f,j,k,l,s⟩:=h.2.2 g h1 h2;refine⟨loc,cur,hρ _ _ _ a,c.move (hb _ _ a),f,j,k,l,fun i hi=>?_⟩;obtain⟨x,v,t,u,y,z⟩:=s i hi;exact⟨x,v,t,u,y,z.mono hρ⟩
 | map es ck =>
  obtain⟨loc,es',a,c,A⟩:=h;exact⟨loc,es',hρ _ _ _ a,(hb _ _ a).trans c,A.mono hρ⟩
 | dfr K =>
  obtain⟨loc,a,c⟩:=h;exact⟨loc,hρ _ _ _ a,(hb _ _ a).trans c⟩
 | loop O Q tm ps aS bo d =>
  obtain⟨loc,q,p,N,n,m,a,B,c,f,j,k,l⟩:=h;exact⟨loc,q,p,N,n,m,hρ _ _ _ a,hρ _ _ _ B,(hb _ _ a).trans c,f,j,k.mono hρ,l⟩
 | ro cells =>
  intro g loc a;rw[hsame]at a;obtain⟨h1,h2⟩:=h g loc a;refine⟨h1,fun i x C=>?_⟩;obtain⟨v,D,I,J⟩:=h2 i x C;exact⟨v,by rw[World.cell?,hb _ _ a];exact D,I,J.mono hρ⟩
theorem WR.own(k:WR P Z ρ h w)(hl:ρ b g=some loc)(hx:h.get b=some x)(hn:∀cs,x ≠ .ro cs):Z<=loc.r:=by
 rcases(k.dom b g loc hl).2.1 with h1|⟨cs,h1⟩
 all_goals grind
theorem WR.drew(k:WR P Z ρ h w):WR P Z ρ h w.drew :=
 ⟨k.dom,fun b g loc a=>let ⟨o,ho,hr⟩:=k.obj b g loc a;⟨o,ho,hr.move (fun _ _ _ h=>h) (fun _=>rfl) (fun _ _ _=>rfl)⟩,k.sep⟩
theorem WR.world(k:WR P Z ρ h w)(hs:w.heap.size<=w'.heap.size)(hb:∀r,r<w.heap.size->w'.heap[r]?=w.heap[r]?):WR P Z ρ h w' :=
  ⟨fun b g loc d=>let ⟨a,b,c⟩:=k.dom b g loc d;⟨a,b,ZR c hs⟩,
   fun b g loc d=>let ⟨o,ho,hr⟩:=k.obj b g loc d;⟨o,ho,hr.move (fun _ _ _ h=>h) (fun _=>rfl) (fun g loc e=>hb _ (k.dom b g loc e).2.2)⟩,k.sep⟩
theorem WR.push(k:WR P Z ρ h w)(o:TO):WR P Z ρ (h.push o) w :=
  ⟨fun b g loc d=>let ⟨a,b,c⟩:=k.dom b g loc d;⟨Nat.lt_succ_of_lt a,b.imp id fun⟨cs,h⟩=>⟨cs,by rw[TH.gP,if_neg zo];exact h⟩,c⟩,
   fun b g loc d=>by
    obtain⟨x,e,f⟩:=k.obj b g loc d;have i:=(k.dom b g loc d).1;exact⟨x,by rw[TH.gP,if_neg zo];exact e,f⟩,k.sep⟩
def zh.add(ρ:zh)(b:Nat)(g:Nat)(loc:yP):zh:=fun c k=>if c=b/\k=g then some loc else ρ c k
theorem zh.aS(ρ:zh)(b g:Nat)(loc:yP):ρ.add b g loc b g=some loc:=by simp[zh.add]
theorem zh.add_more(hn:ρ b g=none):∀c k l,ρ c k=some l->ρ.add b g loc c k=some l:=fun c k l h=>by
 unfold zh.add
 grind
theorem zh.add_ne(hc:c≠b)(k:Nat):ρ.add b g loc c k=ρ c k:=by
 unfold zh.add;grind
theorem zh.add_inv{k:Nat}{l:yP}(h:ρ.add b g loc c k=some l):(c=b/\k=g/\l=loc)\/ρ c k=some l:=by
 unfold zh.add at h
 grind
theorem WR.real(k:WR P Z ρ h w)(hn:∀g,ρ b g=none)(hb:b<h.next)(hZ:Z<=w.heap.size)(hx:h.get b=some x){o:Obj}{L S:Nat}(hr:OR P (ρ.add b 0 ⟨w.heap.size,L,S⟩) b (w.alloc o) x):WR P Z (ρ.add b 0 ⟨w.heap.size,L,S⟩) h (w.alloc o):=by
 have r:=zh.add_more (loc:=⟨w.heap.size,L,S⟩) (hn 0);refine⟨fun c g loc f=>?_,fun c g loc f=>?_,fun c l g m loc j f i e p=>?_⟩
 .rcases zh.add_inv f with⟨rfl,rfl,rfl⟩|f
  .simp_all
  .obtain⟨a,b,d⟩:=k.dom c g loc f;exact⟨a,b,by simp;omega⟩
 .by_cases n:c=b
  .grind
  .have i:ρ c g=some loc:=by rw[<- f,zh.add_ne n]
   obtain⟨y,s,q⟩:=k.obj c g loc i;refine⟨y,s,q.move r (fun g=>zh.add_ne n g) fun g loc t=>?_⟩;exact Below.heap_alloc w o _ (k.dom c g loc t).2.2
 .rcases zh.add_inv f with⟨h1,h2,h3⟩|ha
  .rcases zh.add_inv i with⟨h4,h5,h6⟩|ha'
   .omega
   .have:=(k.dom l m j ha').2.2;grind
  .rcases zh.add_inv i with⟨h4,h5,h6⟩|ha'
   .have:=(k.dom c g loc ha).2.2;grind
   .exact k.sep c l g m loc j ha ha' e p
variable {P:Program}{ρ:zh}{Z:Nat}{h:TH}{w:World}
variable {a:Act}{g:Bool}{n:Nat}{t:TypeId}{tm:LL}{v:Value}{z:TV}
theorem ta(hg:yE P t=some g)(w:World):(isAgg t).run P w=.ok g w:=by
 unfold yE at hg
 split at hg<;>first|(cases hg;done)|skip
 all_goals (injection hg with hg;subst hg)
 .rename_i hu;simp[isAgg,run_underlying hu]
 .rename_i hu;simp[isAgg,run_underlying hu]
 .rename_i d _ _ hu
  cases d<;>simp_all [isAgg,run_underlying hu]
theorem nA(hn:ug P t=some n):n≠0/\∃i,P.info? t=some i/\i.size=n:=by
 unfold ug at hn
 grind
theorem yV(hn:ug P t=some n)(w:World):(sizeOf t).run P w=.ok n w:=by
 obtain⟨_,i,hi,rfl⟩:=nA hn;simp[sizeOf,typeInfo,hi]
theorem CG(hn:ee P t=some n):∃i,P.info? t=some i/\i.bytes=n:=by
 unfold ee at hn
 simp_all
theorem BM{t:TV}(hv:fo v=some t):VR ρ t v/\t.one=true:=by
 unfold fo at hv
 split at hv<;>first|(cases hv;done)|(injection hv with hv;subst hv;exact⟨by constructor,rfl⟩)
theorem rp{α β:Type}{f:α->Option β}:∀{l:List α} {m:List β},yf f l=some m->m.length=l.length/\∀(i:Nat) a b,l[i]?=some a->m[i]?=some b->f a=some b
 | [],m,c=>by simp[yf]at c;subst c;exact⟨rfl,fun i a b d=>by simp at d⟩
 | x::l,m,c=>by
  unfold yf at c
  split at c
  .cases c
  .rename_i b hb
   split at c
   .cases c
   .rename_i bs hbs;injection c with c;subst c;obtain⟨h1,h2⟩:=rp hbs
    grind
theorem JF{l:LE}{m:LK}(hm:yf fo l=some m):VL ρ m l/\∀x∈m,x.one=true:=by
 obtain⟨h1,h2⟩:=rp hm;refine⟨⟨h1,fun i x y a c=>(BM (h2 i y x c a)).1⟩,fun x a=>?_⟩;obtain⟨i,hi,rfl⟩:=ZP.1 a;have b:i<l.length:=by rw[<- h1];exact hi
 exact(BM (ρ:=ρ) (h2 i l[i] m[i] (Zg b) (Zg hi))).2
theorem Hj{t:TV}(hv:tz v=some t):VR ρ t v:=by
 unfold tz at hv
 split at hv
 .split at hv<;>first|(cases hv;done)|skip
  rename_i cs _ l a;injection hv with hv;subst hv;have:=JF (ρ:=ρ) a;have:=VR.aggL this.1 this.2;omega
 .split at hv<;>first|(cases hv;done)|skip
  rename_i cs _ l a;injection hv with hv;subst hv;have:=JF (ρ:=ρ) a;have:=VR.tL this.1;omega
 .split at hv<;>first|(cases hv;done)|skip
  rename_i a;injection hv with hv;subst hv;exact .iface (BM a).1
 .exact(BM hv).1
theorem B5(hz:xX P t=some z):∃i zv,P.info? t=some i/\i.zero=some zv/\∀ρ,VR ρ z zv:=by
 unfold xX at hz
 split at hz
 .rename_i i hi
  split at hz
  .rename_i zv hzv;exact⟨i,zv,hi,hzv,fun ρ=>Hj hz⟩
  .cases hz
 .cases hz
theorem oi(hz:xX P t=some z)(w:World):∃zv,(zeroValue t).run P w=.ok zv w/\VR ρ z zv:=by
 obtain⟨i,zv,hi,a,b⟩:=B5 hz;exact⟨zv,by simp[zeroValue,typeInfo,hi,a],b ρ⟩
theorem oJ{e:TypeId}(he:ia P t=some e):P.underlying t=some (.slice e):=by
 unfold ia at he
 grind
theorem tK(ht:yX ρ tm a.tmps){x:Operand}{y:vQ}(hx:kZ x=some y){v:TV}(hv:mX tm y=some v):VR ρ v (a.eval x):=by
 cases x with
 | tmp t =>
  simp[kZ]at hx;subst hx;obtain⟨v',h1,h2⟩:=ht t v hv;simpa[Act.eval,h1]using h2
 | const c =>
  simp[kZ]at hx;obtain⟨u,b,rfl⟩:=hx;simp[mX]at hv;subst hv;exact Hj b
 | global g=>simp[kZ]at hx
 | func f =>
  simp[kZ]at hx;subst hx;simp[mX]at hv;subst hv;exact VR.fnL (VL.nil ρ)
theorem cX(ht:yX ρ tm a.tmps):∀{xs:AT} {ys:List vQ},yf kZ xs=some ys->∀{vs:LK},kV tm ys=some vs->VL ρ vs (xs.map a.eval)
 | [],ys,c,vs,d=>by simp[yf]at c;subst c;simp[kV]at d;subst d;exact VL.nil ρ
 | x::xs,ys,c,vs,d=>by
  unfold yf at c
  split at c
  .cases c
  .rename_i b hb
   split at c
   .cases c
   .rename_i bs hbs;injection c with c;subst c;unfold kV at d
    split at d
    .cases d
    .rename_i u hu
     split at d
     .cases d
     .rename_i us hus;injection d with d;subst d;exact .cons (tK ht hb hu) (cX ht hbs hus)
theorem ED(k:WR P Z ρ h w){b g o:Nat}{loc:yP}(hl:ue h b g o n=some l)(hρ:ρ b g=some loc)(hc:o+n<=loc.L):
  ∃cs,VL ρ l cs/\cs.length=n/\(∀(j:Nat) v,cs[j]?=some v->w.cell? ⟨loc.r,o+j,none⟩=some v)/\∀x∈l,x.one=true:=by
 unfold ue at hl
 split at hl
 .rename_i x a;obtain⟨y,c,u⟩:=k.obj b g loc hρ;rw[a]at c;injection c with c;subst c;unfold ny at hl
  split at hl
  .rename_i e G M len cells;have h1:Nat.ble M g=true:=by cases d:Nat.ble M g<;>simp[d]at hl⊢
   have h2:Nat.ble g G=true:=by cases d:Nat.ble g G<;>simp[h1,d]at hl⊢
   simp only[h1,h2,cond_true]at hl;obtain⟨f,s⟩:=Tr.getL_some hl;obtain⟨N,cur,m,q,Q,R,S,T,z⟩:=u.2.2 g (Zy h1) (Zy h2);rw[hρ]at m;injection m with m;subst m;refine⟨(cur.toList.drop o).take n,⟨by simp[f];omega,fun i x y a c=>?_⟩,by simp;omega,fun j v t=>?_,fun x a=>?_⟩
   .have hi:i<n:=by rw[<- f];exact(Zh.1 a).1
    rw[s i hi]at a;obtain⟨x',v',C,D,I,J⟩:=z (o+i) zo
    grind
   .have p:j<n:=by grind
    rw[ZY,if_pos p,zAA9,Z7]at t;obtain⟨U,q,_⟩:=q;simp[World.cell?,q,t]
   .obtain⟨i,hi,rfl⟩:=ZP.1 a;have A:=Zg hi;rw[s i zo]at A;obtain⟨x',v',C,D,I,J⟩:=z (o+i) zo
    grind
  .rename_i cells;have h1:Nat.beq g 0=true:=by cases d:Nat.beq g 0<;>simp[d]at hl⊢
   rw[h1]at hl;simp only[cond_true]at hl;obtain⟨f,s⟩:=Tr.getL_some hl;have O:=(u g loc hρ).2;have B:∀j,j<n->∃v,w.cell? ⟨loc.r,o+j,none⟩=some v/\∃x,l[j]?=some x/\x.one=true/\VR ρ x v:=fun j p=>by grind
   have V:∀j,j<n->∃v,w.cell? ⟨loc.r,o+j,none⟩=some v:=fun j p=>by obtain⟨v,K,_⟩:=B j p;exact⟨v,K⟩
   refine⟨(List.range n).map fun j=>(w.cell? ⟨loc.r,o+j,none⟩).getD undef,⟨by simp[f],fun i x y a c=>?_⟩,by simp,fun j v t=>?_,fun x a=>?_⟩
   .grind
   .grind
   .obtain⟨i,hi,rfl⟩:=ZP.1 a
    grind
  .cases hl
 .cases hl
theorem Bf{agg:Bool}{v:TV}(hv:fe agg l=some v):(agg=true/\v=.agg l)\/(agg=false/\l=[v]):=by
 unfold fe at hv
 grind
theorem gi(r o j:Nat):(⟨r,o,none⟩:Addr).add j=⟨r,o+j,none⟩:=by unfold Addr.add;split<;>simp_all
theorem Kr(k:WR P Z ρ h w)(hg:yE P t=some g)(hn:ug P t=some n){p:TV}{p':Value}(hp:VR ρ p p'){v:TV}(hv:ag g n h p=some v):
  ∃v',(Instr.loadAt t p').run P w=.ok v' w/\VR ρ v v':=by
 unfold ag at hv
 split at hv
 .rename_i b g' o e
  cases c:Nat.ble n e<;>simp only[c,cond_true,cond_false]at hv
  .cases hv
  .have f:=Zy c
   split at hv
   .rename_i l hl
    cases hp with
    | ptr d i =>
     rename_i loc;obtain⟨cs,h1,h2,h3,h4⟩:=ED k hl d zo;have a:=run_loadCells_list (P:=P) w ⟨loc.r,o,none⟩ cs (fun j v hv=>by rw[gi];exact h3 j v hv);rw[h2]at a;rcases Bf hv with⟨rfl,rfl⟩|⟨rfl,rfl⟩
     .refine⟨.agg cs.toArray,?_,VR.aggL h1 h4⟩;simp[Instr.loadAt,Instr.sureAddr,loadVar,ta hg,yV hn,a]
     .obtain⟨y,cs',rfl,hy,hr⟩:=h1.oc;obtain rfl:=hr.oN;have:=h3 0 y rfl;rw[zBA9]at this;exact⟨y,by simp[Instr.loadAt,Instr.sureAddr,loadVar,ta hg,load,Sem.run,this],hy⟩
   .cases hv
 .cases hv
theorem it{k k':IntKind}(h:Nat.beq (w8 k) (w8 k')=true):k=k':=by
 have:=Zk h
 cases k<;>cases k'<;>first|rfl|(simp[w8]at this)
theorem kB(a b:Int):ml a b=(a==b):=by
 cases a<;>cases b<;>simp only[ml]
 .rename_i x y;show Nat.beq x y=_
  by_cases h:x=y
  .simp_all
  .have:Nat.beq x y=false:=by cases c:Nat.beq x y;rfl;exact absurd (Zk c) h
   grind
 .simp
 .simp
 .rename_i x y
  by_cases h:x=y
  .simp_all
  .have:Nat.beq x y=false:=by cases c:Nat.beq x y;rfl;exact absurd (Zk c) h
   grind
theorem nc(a b:Int):mu a b=decide (a<=b):=by
 unfold mu
 split
 all_goals grind
theorem lB:∀(a b:LN),ki a b=(a==b)
 | [],[]=>rfl
 | [],_::_=>rfl
 | _::_,[]=>rfl
 | a::l,b::m=>by
  unfold ki;rw[lB l m]
  cases c:Nat.beq a b
  .have:a≠b:=fun e=>by subst e;simp at c
   simp[this]
  simp_all
def uR(s:ByteArray):LN:=s.data.toList.map (·.toNat)
variable {b:Bool}{k k':IntKind}{op:BinOp}{v x:TV}{α:Type}
theorem GO{s t:ByteArray}(h:uR s=uR t):s.toList=t.toList:=by
 rw[ByteArray.toList_eq,ByteArray.toList_eq];exact List.map_inj_right (f:=fun x:UInt8=>x.toNat) (fun x y=>UInt8.toNat_inj.1) |>.1 h
theorem CE(s t:ByteArray):(uR s==uR t)=(s.toList==t.toList):=by
 by_cases e:s.toList=t.toList
 .have:uR s=uR t:=by unfold uR;rw[<- ByteArray.toList_eq,<- ByteArray.toList_eq,e]
  grind
 .have:uR s≠uR t:=fun h=>e (GO h)
  grind
theorem E6:∀(a b:List UInt8),bz (a.map (·.toNat)) (b.map (·.toNat))=Op.bytesLess a b
 | [],[]=>rfl
 | [],_::_=>rfl
 | _::_,[]=>by simp[bz,Op.bytesLess]
 | a::l,b::m=>by
  simp only[Z3,bz,Op.bytesLess,E6 l m];have h1:Nat.blt a.toNat b.toNat=decide (a<b):=by
   by_cases h:a<b
   .rw[zBI9.mpr (UInt8.lt_iff_toNat_lt.1 h)];simp[h]
   .cases c:Nat.blt a.toNat b.toNat
    .simp[h]
    .exact absurd (UInt8.lt_iff_toNat_lt.2 (zBI9.mp c)) h
  have h2:Nat.beq a.toNat b.toNat=(a==b):=by
   cases c:Nat.beq a.toNat b.toNat
   .have:a≠b:=fun e=>by subst e;simp at c
    simp[this]
   .have:=UInt8.toNat_inj.1 (Zk c);simp[this]
  grind
theorem Sy{x:Option α}{y:α}(h:(bif Nat.beq (w8 k) (w8 k')then x else none)=some y):k=k'/\x=some y:=by
 cases a:Nat.beq (w8 k) (w8 k')<;>rw[a]at h
 .cases h
 .exact⟨it a,h⟩
theorem vt{x:Option α}{y:α}(h:(bif b then x else none)=some y):b=true/\x=some y:=by grind
theorem DD{n:Nat}(h:n<2 ^ mz k):k.wrap (n:Int)=n:=by
 cases k<;>simp only[mz]at h<;>simp[IntKind.wrap,IntKind.bits,IntKind.signed]<;>omega
theorem iD(k:IntKind):2 ^ mz k<=2 ^ k.bits:=zBB9 zo (by cases k<;>simp[mz,IntKind.bits])
theorem QC(op:BinOp)(t:TypeId)(x y:Operand)(k k':IntKind)(a b:Int)(w:World):(eqGuard op t x y (.int k a) (.int k' b)).run P w=.ok () w:=by
 cases op<;>simp[eqGuard]
theorem QD(op:BinOp)(t:TypeId)(x y:Operand)(a b:ByteArray)(w:World):(eqGuard op t x y (.string a) (.string b)).run P w=.ok () w:=by
 cases op<;>simp[eqGuard]
theorem CA{f:Nat->Nat->Nat}{x y:Int}(hv:bM f k x y=some v):∃a b:Nat,x=a/\y=b/\a<2 ^ mz k/\b<2 ^ mz k/\v=.int k (f a b:Nat):=by
 unfold bM at hv
 split at hv
 .rename_i a b;obtain⟨h1,hv⟩:=vt hv;obtain⟨h2,hv⟩:=vt hv;injection hv with hv;exact⟨a,b,rfl,rfl,zBI9.mp h1,zBI9.mp h2,hv.symm⟩
 .cases hv
theorem QV(a n:Nat):(a:Int).fdiv (2 ^ n)=((a/2 ^ n:Nat):Int):=by grind
theorem GB{a b:Int}(hv:kS op k k' a b=some v)(w:World):∃v',(binOp op t (.int k a) (.int k' b)).run P w=.ok v' w/\VR ρ v v':=by
 cases op<;>simp only[kS]at hv<;>try(obtain⟨j,i⟩:=Sy hv;clear hv;subst j;have hv:=i;clear i)
 case add=>injection hv with hv;subst hv;exact⟨_,by simp[binOp,Op.intArith],.int _ _⟩
 case sub=>injection hv with hv;subst hv;exact⟨_,by simp[binOp,Op.intArith],.int _ _⟩
 case mul=>injection hv with hv;subst hv;exact⟨_,by simp[binOp,Op.intArith],.int _ _⟩
 case quo =>
  cases d:ml b 0<;>rw[d]at hv
  .injection hv with hv;subst hv;rw[kB]at d;exact⟨_,by simp[binOp,Op.intDiv,(by simpa using d:b≠0)],.int _ _⟩
  .cases hv
 case rem =>
  cases d:ml b 0<;>rw[d]at hv
  .injection hv with hv;subst hv;rw[kB]at d;exact⟨_,by simp[binOp,Op.intDiv,(by simpa using d:b≠0)],.int _ _⟩
  .cases hv
 case and =>
  obtain⟨x,y,rfl,rfl,e,c,rfl⟩:=CA hv;refine⟨.int k ((Nat.land x y:Nat):Int),?_,.int _ _⟩;have:Nat.land x y<2 ^ mz k:=zEH9 _ c;have f:x%2 ^ k.bits=x:=zAV9 (ZR e (iD k));have g:y%2 ^ k.bits=y:=zAV9 (ZR c (iD k));simp[binOp,Op.intBits,BitVec.toNat_and,f,g];exact DD this
 case or =>
  obtain⟨x,y,rfl,rfl,e,c,rfl⟩:=CA hv;refine⟨.int k ((Nat.lor x y:Nat):Int),?_,.int _ _⟩;have:Nat.lor x y<2 ^ mz k:=Nat.or_lt_two_pow e c;have f:x%2 ^ k.bits=x:=zAV9 (ZR e (iD k));have g:y%2 ^ k.bits=y:=zAV9 (ZR c (iD k));simp[binOp,Op.intBits,BitVec.toNat_or,f,g];exact DD this
 case xor =>
  obtain⟨x,y,rfl,rfl,e,c,rfl⟩:=CA hv;refine⟨.int k ((Nat.xor x y:Nat):Int),?_,.int _ _⟩;have:Nat.xor x y<2 ^ mz k:=zCE9 e c;have f:x%2 ^ k.bits=x:=zAV9 (ZR e (iD k));have g:y%2 ^ k.bits=y:=zAV9 (ZR c (iD k));simp[binOp,Op.intBits,BitVec.toNat_xor,f,g];exact DD this
 case shl =>
  unfold Mj at hv
  split at hv
  .rename_i n;obtain⟨_,hv⟩:=vt hv;injection hv with hv;subst hv;exact⟨_,by simp[binOp,Op.shift,Int.not_lt.2 (zBF9 n)],.int _ _⟩
  .cases hv
 case shr =>
  unfold Mk at hv
  split at hv
  .rename_i a n;obtain⟨_,hv⟩:=vt hv;injection hv with hv;subst hv;refine⟨_,?_,.int _ _⟩;simp[binOp,Op.shift,Int.not_lt.2 (zBF9 n)];exact QV a _
  .cases hv
 case andNot=>cases hv
 case eql=>injection hv with hv;subst hv;exact⟨_,by simp[binOp,Op.intCmp];rfl,by rw[kB];exact .bool _⟩
 case neq=>injection hv with hv;subst hv;exact⟨_,by simp[binOp,Op.intCmp];rfl,by rw[kB];exact .bool _⟩
 case lss =>
  injection hv with hv;subst hv;refine⟨.bool (decide (a<b)),by simp[binOp,Op.intCmp],?_⟩;have:(decide (a<b))=!(mu b a):=by rw[nc];by_cases h:b<=a<;>simp[h]<;>omega
  rw[this];exact .bool _
 case leq=>injection hv with hv;subst hv;exact⟨.bool (decide (a<=b)),by simp[binOp,Op.intCmp],by rw[<- nc];exact .bool _⟩
 case gtr =>
  injection hv with hv;subst hv;refine⟨.bool (decide (a>b)),by simp[binOp,Op.intCmp],?_⟩;have:(decide (a>b))=!(mu a b):=by rw[nc];by_cases h:a<=b<;>simp[h]<;>omega
  rw[this];exact .bool _
 case geq=>injection hv with hv;subst hv;exact⟨.bool (decide (a ≥ b)),by simp[binOp,Op.intCmp],by rw[show decide (a ≥ b)=mu b a by rw[nc]];exact .bool _⟩
theorem Jh(a b:List UInt8):(Op.bytesLess a b||(a==b))=!(Op.bytesLess b a):=by
 induction a generalizing b with
 | nil=>cases b<;>simp[Op.bytesLess]
 | cons x l c =>
  cases b with
  | nil=>simp[Op.bytesLess]
  | cons y m =>
   simp only[Op.bytesLess];have:=c m
   by_cases h1:x<y
   .have h2:¬y<x:=fun h=>by have:=UInt8.lt_trans h1 h;simp at this
    have h3:(y==x)=false:=by simp;rintro rfl;simp at h1
    simp[h1,h2,h3]
   .by_cases h2:x=y
    .subst h2;simp[this]
    .have h3:y<x:=by grind
     simp[h1,h2,h3]
theorem Pe{a b:ByteArray}(hv:Cy op (uR a) (uR b)=some v)(w:World):∃v',(binOp op t (.string a) (.string b)).run P w=.ok v' w/\VR ρ v v':=by
 have h1:ki (uR a) (uR b)=(a.toList==b.toList):=by rw[lB,CE]
 have h2:bz (uR a) (uR b)=Op.bytesLess a.toList b.toList:=by unfold uR;rw[E6,ByteArray.toList_eq,ByteArray.toList_eq]
 have h3:bz (uR b) (uR a)=Op.bytesLess b.toList a.toList:=by unfold uR;rw[E6,ByteArray.toList_eq,ByteArray.toList_eq]
 cases op<;>simp only[Cy]at hv<;>first|(cases hv;done)|skip
 case eql=>injection hv with hv;subst hv;rw[h1];exact⟨_,by simp[binOp,Op.stringOp],.bool _⟩
 case neq=>injection hv with hv;subst hv;rw[h1];exact⟨_,by simp[binOp,Op.stringOp],.bool _⟩
 case lss=>injection hv with hv;subst hv;rw[h2];exact⟨_,by simp[binOp,Op.stringOp],.bool _⟩
 case leq=>injection hv with hv;subst hv;rw[h3];exact⟨.bool (!(Op.bytesLess b.toList a.toList)),by simp[binOp,Op.stringOp,Jh],.bool _⟩
 case gtr=>injection hv with hv;subst hv;rw[h3];exact⟨.bool (Op.bytesLess b.toList a.toList),by simp[binOp,Op.stringOp,Jh],.bool _⟩
 case geq=>injection hv with hv;subst hv;rw[h2];exact⟨_,by simp[binOp,Op.stringOp],.bool _⟩
 case add =>
  obtain⟨h0,hv⟩:=vt hv;injection hv with hv;subst hv;have c:=Zy h0;have d:(uR a).length=a.size:=by simp[uR]
  have e:(uR b).length=b.size:=by simp[uR]
  refine⟨.string (a++b),?_,?_⟩
  .have:¬(((a.size+b.size:Nat):Int)>IntKind.i64.max):=by simp[IntKind.max,IntKind.signed,IntKind.bits];omega
   simp only[binOp,Op.stringOp];rw[if_neg this];simp
  .have:uR a++uR b=uR (a++b):=by simp[uR]
   rw[this];exact .str _
theorem Pf{X Y:Operand}{y:TV}{x' y':Value}(hx:VR ρ x x')(hy:VR ρ y y')(hv:uj op x y=some v)(w:World):
  ∃v',(do eqGuard op t X Y x' y';binOp op t x' y':Sem Value).run P w=.ok v' w/\VR ρ v v':=by
 unfold uj at hv
 split at hv
 .unfold kT at hv
  split at hv
  .cases hx;cases hy
   obtain⟨v',h1,h2⟩:=GB (P:=P) (ρ:=ρ) (t:=t) hv w;exact⟨v',by simp[QC,h1],h2⟩
  .cases hv
 .unfold GC at hv
  split at hv
  .cases hx with
   | str a=>cases hy with
    | str b =>
     obtain⟨v',h1,h2⟩:=Pe (P:=P) (ρ:=ρ) (t:=t) hv w;exact⟨v',by simp[QD,h1],h2⟩
  .cases hv
 .cases hv
theorem J6{neg:Bool}{x:LS}(hv:rH neg x=some v):∃b,x=some b/\v=.bool (neg ^^ b):=by
 unfold rH at hv
 split at hv
 .rename_i b;injection hv with hv;exact⟨b,rfl,by rw[<- hv];cases neg<;>cases b<;>rfl⟩
 .cases hv
theorem oB{x y:LS}(hb:qq x y=some b):(x=some true/\y=some true/\b=true)\/(x=some true/\y=some false/\b=false)\/(x=some false/\y=some true/\b=false):=by
 cases x with
 | none=>cases hb
 | some x=>cases y with
  | none=>cases hb
  | some y=>cases x<;>cases y<;>simp[qq]at hb<;>simp[<- hb]
theorem A9(h:rD x=some true):x=.nilptr:=by cases x<;>simp[rD]at h;rfl
theorem JV(h:rD x=some false):∃b g o e,x=.ptr b g o e:=by cases x<;>simp[rD]at h;exact⟨_,_,_,_,rfl⟩
theorem Bb(h:rE x=some true):x=.nilsl:=by cases x<;>simp[rE]at h;rfl
theorem JW(h:rE x=some false):∃b g o n q z,x=.sl b g o n q z:=by cases x<;>simp[rE]at h;exact⟨_,_,_,_,_,_,rfl⟩
theorem A8(h:rB x=some true):x=.nilmap:=by cases x<;>simp[rB]at h;rfl
theorem JU(h:rB x=some false):∃b,x=.map b:=by cases x<;>simp[rB]at h;exact⟨_,rfl⟩
theorem A6(h:qf x=some true):x=.nilfn:=by cases x<;>simp[qf]at h;rfl
theorem JS(h:qf x=some false):∃f l,x=.fn f l:=by cases x<;>simp[qf]at h;exact⟨_,_,rfl⟩
theorem A7(h:rA x=some true):x=.niliface:=by cases x<;>simp[rA]at h;rfl
theorem JT(h:rA x=some false):∃t v,x=.iface t v:=by cases x<;>simp[rA]at h;exact⟨_,_,rfl⟩
theorem tJ(t:TypeId)(x y:Value):Op.equal t x y=Op.equalIn (9999+1) t x y:=rfl
def cI(P:Program)(t:TypeId)(X Y:Operand)(x y:Value)(b:Bool)(w:World):Prop :=
 (∀op,(eqGuard op t X Y x y).run P w=.ok () w)/\(binOp .eql t x y).run P w=.ok (.bool b) w/\(binOp .neq t x y).run P w=.ok (.bool (!b)) w
variable {X Y:Operand}{hi:AJ}{i l:Nat}{lo:AJ}{m off:Nat}{vs:LK}{x':Value}{y:TV}{y':Value}{z:Nat}
theorem pN{x y:Value}(hg:∀op,(eqGuard op t X Y x y).run P w=.ok () w)(he:∀d,(Op.equalIn (d+1) t x y).run P w=.ok b w)(h1:binOp .eql t x y=(do pure (.bool (<- Op.equal t x y))))(h2:binOp .neq t x y=(do pure (.bool (!(<- Op.equal t x y))))):cI P t X Y x y b w :=
 ⟨hg,by rw[h1,tJ];simp[he 9999],by rw[h2,tJ];simp[he 9999]⟩
theorem QE(hu:P.underlying t=some (.pointer e))(hx:VR ρ x x')(hy:VR ρ y y')(hb:cV 1 x y=some b):cI P t X Y x' y' b w:=by
 rcases oB hb with⟨h1,h2,rfl⟩|⟨h1,h2,rfl⟩|⟨h1,h2,rfl⟩
 .obtain rfl:=A9 h1;obtain rfl:=A9 h2
  cases hx;cases hy
  exact pN (fun op=>by cases op<;>simp[eqGuard]) (fun d=>by simp[Op.equalIn,run_underlying hu]) rfl rfl
 .obtain rfl:=A9 h1;obtain⟨_,_,_,_,rfl⟩:=JV h2
  cases hx;cases hy
  exact pN (fun op=>by cases op<;>simp[eqGuard]) (fun d=>by simp[Op.equalIn,run_underlying hu]) rfl rfl
 .obtain⟨_,_,_,_,rfl⟩:=JV h1;obtain rfl:=A9 h2
  cases hx;cases hy
  exact pN (fun op=>by cases op<;>simp[eqGuard]) (fun d=>by simp[Op.equalIn,run_underlying hu]) rfl rfl
theorem QF(hu:P.underlying t=some (.slice e))(hx:VR ρ x x')(hy:VR ρ y y')(hb:cV 2 x y=some b):cI P t X Y x' y' b w:=by
 rcases oB hb with⟨h1,h2,rfl⟩|⟨h1,h2,rfl⟩|⟨h1,h2,rfl⟩
 .obtain rfl:=Bb h1;obtain rfl:=Bb h2
  cases hx;cases hy
  exact pN (fun op=>by cases op<;>simp[eqGuard]) (fun d=>by simp[Op.equalIn,run_underlying hu]) rfl rfl
 .obtain rfl:=Bb h1;obtain⟨_,_,_,_,_,_,rfl⟩:=JW h2
  cases hx;cases hy
  exact pN (fun op=>by cases op<;>simp[eqGuard]) (fun d=>by simp[Op.equalIn,run_underlying hu]) rfl rfl
 .obtain⟨_,_,_,_,_,_,rfl⟩:=JW h1;obtain rfl:=Bb h2
  cases hx;cases hy
  exact pN (fun op=>by cases op<;>simp[eqGuard]) (fun d=>by simp[Op.equalIn,run_underlying hu]) rfl rfl
theorem QG{e':TypeId}(hu:P.underlying t=some (.map e e'))(hx:VR ρ x x')(hy:VR ρ y y')(hb:cV 3 x y=some b):cI P t X Y x' y' b w:=by
 rcases oB hb with⟨h1,h2,rfl⟩|⟨h1,h2,rfl⟩|⟨h1,h2,rfl⟩
 .obtain rfl:=A8 h1;obtain rfl:=A8 h2
  cases hx;cases hy
  exact pN (fun op=>by cases op<;>simp[eqGuard]) (fun d=>by simp[Op.equalIn,run_underlying hu]) rfl rfl
 .obtain rfl:=A8 h1;obtain⟨_,rfl⟩:=JU h2
  cases hx;cases hy
  exact pN (fun op=>by cases op<;>simp[eqGuard]) (fun d=>by simp[Op.equalIn,run_underlying hu]) rfl rfl
 .obtain⟨_,rfl⟩:=JU h1;obtain rfl:=A8 h2
  cases hx;cases hy
  exact pN (fun op=>by cases op<;>simp[eqGuard]) (fun d=>by simp[Op.equalIn,run_underlying hu]) rfl rfl
theorem QH{ps rs:Array TypeId}{vr:Bool}(hu:P.underlying t=some (.func ps rs vr))(hx:VR ρ x x')(hy:VR ρ y y')(hb:cV 4 x y=some b):cI P t X Y x' y' b w:=by
 rcases oB hb with⟨h1,h2,rfl⟩|⟨h1,h2,rfl⟩|⟨h1,h2,rfl⟩
 .obtain rfl:=A6 h1;obtain rfl:=A6 h2
  cases hx;cases hy
  exact pN (fun op=>by cases op<;>simp[eqGuard]) (fun d=>by simp[Op.equalIn,run_underlying hu]) rfl rfl
 .obtain rfl:=A6 h1;obtain⟨_,_,rfl⟩:=JS h2
  cases hx;cases hy
  exact pN (fun op=>by cases op<;>simp[eqGuard]) (fun d=>by simp[Op.equalIn,run_underlying hu]) rfl rfl
 .obtain⟨_,_,rfl⟩:=JS h1;obtain rfl:=A6 h2
  cases hx;cases hy
  exact pN (fun op=>by cases op<;>simp[eqGuard]) (fun d=>by simp[Op.equalIn,run_underlying hu]) rfl rfl
theorem QI{ms:Array (String×TypeId)}(hu:P.underlying t=some (.interface ms))(hXY:(eI X||eI Y)=true)(hx:VR ρ x x')(hy:VR ρ y y')(hb:cV 5 x y=some b):cI P t X Y x' y' b w:=by
 rcases oB hb with⟨h1,h2,rfl⟩|⟨h1,h2,rfl⟩|⟨h1,h2,rfl⟩
 .obtain rfl:=A7 h1;obtain rfl:=A7 h2
  cases hx;cases hy
  refine pN (fun op=>?_) (fun d=>by simp[Op.equalIn,run_underlying hu]) rfl rfl
  cases X<;>cases Y<;>simp[eI]at hXY<;>cases op<;>simp[eqGuard]
 .obtain rfl:=A7 h1;obtain⟨_,_,rfl⟩:=JT h2
  cases hx;cases hy
  exact pN (fun op=>by cases op<;>simp[eqGuard]) (fun d=>by simp[Op.equalIn,run_underlying hu]) rfl rfl
 .obtain⟨_,_,rfl⟩:=JT h1;obtain rfl:=A7 h2
  cases hx;cases hy
  exact pN (fun op=>by cases op<;>simp[eqGuard]) (fun d=>by simp[Op.equalIn,run_underlying hu]) rfl rfl
theorem dn(hx:kh x=some n)(hr:VR ρ x x'):∃k,x=.int k (n:Nat)/\x'=.int k (n:Nat):=by
 cases x<;>simp[kh]at hx
 rename_i k i
 cases i<;>simp[D3]at hx
 subst hx
 cases hr
 grind
theorem mT(hx:xO x m=some l)(hr:VR ρ x x'):∃k,x'=.int k (l:Nat)/\l<=m:=by
 unfold xO at hx
 split at hx
 .rename_i n hn;obtain⟨h1,hx⟩:=vt hx
  cases hx
  obtain⟨k,_,rfl⟩:=dn hn hr
  simp_all
 grind
theorem sa{k:IntKind}{y:Nat}(hl:l<=y)(code:BoundsCode)(w:World):(Instr.sliceBound (.int k (l:Nat)) y code).run P w=.ok l w:=by
 simp[Instr.sliceBound,asIntOf,hl]
theorem XZ{b g o q o' c:Nat}{loc:yP}(hρ:ρ b g=some loc)(hn:n<=q/2)(hq:q/2<=c)(hc:o+q/2*z<=loc.L)(ho:o'=o\/n=0/\c=0/\o≠0)(hs:q%2=0->o+c*z=loc.S)(hm:c<=maxLen){j q':Nat}(hlj:l<=j)(hjm:j<=m)(hmc:m<=c)(hq1:j-l<=q'/2)(hq2:q'/2<=m-l)(hq3:l+q'/2<=q/2)(hq4:q'%2=0->m=c/\q%2=0):
  VR ρ (.sl b g (o+l*z) (j-l) q' z) (.slice (if m=l then some ⟨loc.r,o',none⟩else some ((⟨loc.r,o',none⟩:Addr).add (l*z))) (j-l) (m-l)):=by
 have a:o+l*z+q'/2*z<=loc.L:=by
  have:(l+q'/2)*z<=q/2*z:=zAD9 z hq3
  grind
 by_cases e:m=l
 .rw[if_pos e];have d:j-l=0:=zo;have f:m-l=0:=zo;rw[d]at hq1⊢;rw[f]at hq2⊢;refine .sl hρ hq1 hq2 a ?_ (fun h0=>?_) (Zn _)
  all_goals grind
 .rw[if_neg e,gi];refine .sl hρ hq1 hq2 a ?_ (fun h0=>?_) zo
  .omega
  .obtain⟨h1,h2⟩:=hq4 h0;have:=hs h2;rw[<- this,h1,zCI9,<- zAR9]
   grind
theorem Ds{α:Type}{x:Option α}{y:α}(h:(bif b then none else x)=some y):b=false/\x=some y:=by grind
theorem X4(hu:P.underlying t=some (.slice e))(x:Value)(lo hi mx:AJ)(w:World):(Instr.sliceAt t x lo hi mx).run P w=(Instr.slice t x lo hi mx).run P w:=by
 simp[Instr.sliceAt,run_underlying hu]
theorem VL.cons'(h:VL ρ vs (x'::cs)):∃y l,vs=y::l/\VR ρ y x'/\VL ρ l cs:=by
 cases vs with
 | nil=>have:=h.1;grind
 | cons y l=>obtain⟨_,_,e,h1,h2⟩:=h.oc;grind
theorem VL.nil'(h:VL ρ vs []):vs=[]:=Z6 h.1
theorem VN(hu:P.underlying t=some (.slice e))(hz:ug P e=some z){mx:AJ}(hv:VL ρ vs (x'::(lo.toList++hi.toList++mx.toList)))(hp:ff z lo.isSome hi.isSome mx.isSome vs=some v)(w:World):
  ∃v',(Instr.sliceAt t x' lo hi mx).run P w=.ok v' w/\VR ρ v v':=by
 rw[X4 hu];obtain⟨x,O,rfl,A,a⟩:=hv.cons';simp only[ff,ai]at hp
 cases x<;>simp only at hp<;>first|(cases hp;done)|skip
 case nilsl =>
  cases A
  unfold Ei at hp;obtain⟨h0,hp⟩:=Ds hp
  cases mx<;>first|(simp at h0;done)|skip
  cases lo<;>cases hi<;>simp only[Option.toList,ZA,zAG9,Zv]at a
  .obtain rfl:=a.nil';simp at hp;subst hp;exact⟨_,by simp[Instr.slice,run_underlying hu,Instr.sliceBounds,yV hz],.nilsl⟩
  iterate 2
   obtain⟨y,_,rfl,p,a⟩:=a.cons';obtain rfl:=a.nil';simp only at hp
   split at hp
   .rename_i l f;obtain⟨k,rfl,d⟩:=mT f p;simp at hp;subst hp;obtain rfl:l=0:=zo;exact⟨_,by simp[Instr.slice,run_underlying hu,Instr.sliceBounds,yV hz,Instr.sliceBound,asIntOf],.nilsl⟩
   .cases hp
  grind
 case sl b g o n q z' =>
  obtain⟨B,hp⟩:=vt hp;obtain rfl:=Zk B
  cases A with
  | sl D G I J K L M =>
   rename_i Q c loc;unfold dy at hp;have fin:=fun l j m q'=>XZ D G I J K L M (l:=l) (j:=j) (m:=m) (q':=q');have i:∀{k:IntKind} {l y:Nat} (r:BoundsCode),l<=y->(Instr.sliceBound (.int k (l:Nat)) y r).run P w=.ok l w:=fun r f=>sa f r w
   cases mx<;>cases lo<;>cases hi<;>simp only[Option.toList,ZA,zAG9,Zv]at a
   all_goals
    (try obtain⟨y,_,rfl,p,a⟩:=a.cons');(try obtain⟨R,_,rfl,u,a⟩:=a.cons');(try obtain⟨S,_,rfl,C,a⟩:=a.cons');obtain rfl:=a.nil';simp[BQ,BP,BR,bu]at hp
    try(repeat' split at hp)
    all_goals first|(cases hp;done)|skip
    all_goals ((try injection hp with hp);subst hp)
   .have:=fin 0 n c q (Zn _) zo (Zi _) zo zo zo (fun h=>⟨rfl,h⟩);simp only[Nat.zero_mul,zBA9,Nat.sub_zero]at this;exact⟨_,by simp[Instr.slice,run_underlying hu,Instr.sliceBounds,yV hz],this⟩
   .rename_i j hj;obtain⟨k,rfl,s⟩:=mT hj p;have:=fin 0 j c q (Zn _) zo (Zi _) zo zo zo (fun h=>⟨rfl,h⟩);simp only[Nat.zero_mul,zBA9,Nat.sub_zero]at this;exact⟨_,by simp[Instr.slice,run_underlying hu,Instr.sliceBounds,yV hz,i _ (show j<=c by omega)],this⟩
   .rename_i l f;obtain⟨k,rfl,d⟩:=mT f p;exact⟨_,by simp[Instr.slice,run_underlying hu,Instr.sliceBounds,yV hz,i _ d],fin l n c (q-2*l) d zo (Zi _) zo zo zo (fun h=>⟨rfl,by omega⟩)⟩
   .rename_i j hj _ l f;obtain⟨k,rfl,d⟩:=mT f p;obtain⟨N,rfl,s⟩:=mT hj u;exact⟨_,by simp[Instr.slice,run_underlying hu,Instr.sliceBounds,yV hz,i _ (show j<=c by omega),i _ d],fin l j c (q-2*l) d zo (Zi _) zo zo zo (fun h=>⟨rfl,by omega⟩)⟩
   .rename_i m hm' _ j hj _ l f;obtain⟨k,rfl,d⟩:=mT f p;obtain⟨N,rfl,s⟩:=mT hj u;obtain⟨T,rfl,xB⟩:=mT hm' C;exact⟨_,by simp[Instr.slice,run_underlying hu,Instr.sliceBounds,yV hz,i _ (show m<=c by omega),i _ s,i _ d],fin l j m (2*m+1-2*l) d zo zo zo zo zo (fun h=>by omega)⟩
theorem cw{f:TV->LC}(hv:uN vs f=some v):∃x,vs=[x]/\f x=some v:=by
 unfold uN at hv
 grind
theorem B1{f:TV->TV->LC}(hv:uX vs f=some v):∃x y,vs=[x,y]/\f x y=some v:=by
 unfold uX at hv
 grind
theorem eZ:∀(l:LK) (n:Nat),ce l n=l[n]?
 | [],_=>by simp[ce]
 | _::_,0=>rfl
 | _::l,n+1=>by simp only[ce,ZJ];exact eZ l n
theorem rI:∀(l:LN) (n:Nat),cf l n=l[n]?
 | [],_=>by simp[cf]
 | _::_,0=>rfl
 | _::l,n+1=>by simp only[cf,ZJ];exact rI l n
theorem Kw(hg:yE P t=some g)(hn:ug P t=some n){l:LK}(hl:VL ρ l cs)(h1:∀x∈l,x.one=true)(hv:lR g off n l=some v)(w:World):
  ∃v',(part t cs.toArray off).run P w=.ok v' w/\VR ρ v v':=by
 unfold lR at hv
 cases g
 .simp only[cond_false,eZ]at hv;obtain⟨y,a,b⟩:=hl.at hv;refine⟨y,?_,b⟩;simp[part,ta hg,a]
 .simp only[cond_true]at hv;obtain⟨h0,hv⟩:=vt hv;injection hv with hv;subst hv;have d:=Zy h0;refine⟨.agg ((cs.drop off).take n).toArray,?_,VR.aggL ((hl.drop off).take n) fun x c=>h1 x (ZQ (ZU c))⟩;simp[part,ta hg,yV hn]
theorem HK(hf:ie P t i=some (off,g,n)):∃fs f,P.underlying t=some (.struct fs)/\fs[i]?=some f/\f.offset=off/\yE P f.type=some g/\ug P f.type=some n:=by
 unfold ie at hf
 grind
theorem VD(hf:ie P t i=some (off,g,n))(hx:VR ρ x x')(hv:lM off n x=some v)(w:World):∃v',(Instr.fieldAt t x' i).run P w=.ok v' w/\VR ρ v v':=by
 obtain⟨h,f,c,b,rfl,_,a⟩:=HK hf;unfold lM at hv
 split at hv
 .obtain⟨h0,hv⟩:=vt hv;injection hv with hv;subst hv;have e:=Zy h0
  cases hx with
  | ptr d j =>
   have:=(nA a).1;exact⟨_,by simp[Instr.fieldAt,run_underlying c,b,Instr.sureAddr,fieldPlace,yV a,this,gi],.ptr d zo⟩
 .cases hv
theorem VE(hf:ie P t i=some (off,g,n))(hx:VR ρ x x')(hv:Ec g off n x=some v)(w:World):∃v',(Instr.field t x' i).run P w=.ok v' w/\VR ρ v v':=by
 obtain⟨j,f,b,a,rfl,c,d⟩:=HK hf;unfold Ec at hv
 split at hv
 .cases hx with
  | agg e h1 h =>
   obtain⟨v',h2,h3⟩:=Kw c d ⟨e,h⟩ h1 hv w;exact⟨v',by simp[Instr.field,run_underlying b,a,asAgg,h2],h3⟩
 .cases hv
theorem VG(hu:P.underlying t=some (.slice e))(hz:ug P e=some z)(hx:VR ρ x x')(hy:VR ρ y y')(hv:lN z x y=some v)(w:World):∃v',(Instr.indexAt t x' y').run P w=.ok v' w/\VR ρ v v':=by
 unfold lN at hv
 split at hv
 .rename_i b g o n q zz;obtain⟨d,hv⟩:=vt hv;obtain rfl:=Zk d
  split at hv
  .rename_i i hi;obtain⟨h0,hv⟩:=vt hv;injection hv with hv;subst hv;have f:=zBI9.mp h0;obtain⟨k,_,rfl⟩:=dn hi hy
   cases hx with
   | sl l p s u m A B =>
    rename_i a c loc;have j:a=o:=by rcases m with h|⟨h,_⟩;exact h;omega
    subst j;refine⟨.pointer (some ⟨loc.r,a+i*z,none⟩),?_,.ptr l ?_⟩
    .simp[Instr.indexAt,asIntOf,run_underlying hu,yV hz,f,gi]
    .have:(i+1)*z<=q/2*z:=zAD9 z zo;rw[zAR9]at this;omega
  .cases hv
 .cases hv
theorem VF{len:Nat}(hu:P.underlying t=some (.array len e))(hz:ug P e=some z)(hx:VR ρ x x')(hy:VR ρ y y')(hv:lO len z x y=some v)(w:World):∃v',(Instr.indexAt t x' y').run P w=.ok v' w/\VR ρ v v':=by
 unfold lO at hv
 split at hv
 .rename_i b g o e
  split at hv
  .rename_i i hi;obtain⟨h0,hv⟩:=vt hv;obtain⟨h1,hv⟩:=vt hv;injection hv with hv;subst hv;have a:=zBI9.mp h0;have d:=Zy h1;obtain⟨k,_,rfl⟩:=dn hi hy
   cases hx with
   | ptr c f =>
    rename_i loc;refine⟨.pointer (some ⟨loc.r,o+i*z,none⟩),?_,.ptr c ?_⟩
    .simp[Instr.indexAt,asIntOf,run_underlying hu,yV hz,a,gi,Instr.sureAddr]
    .have:(i+1)*z<=len*z:=zAD9 z zo;rw[zAR9]at this;omega
  .cases hv
 .cases hv
theorem VH{len:Nat}(hu:P.underlying t=some (.array len e))(hg:yE P e=some g)(hz:ug P e=some z)(hx:VR ρ x x')(hy:VR ρ y y')(hv:Ed len g z x y=some v)(w:World):
  ∃v',(Instr.index t x' y').run P w=.ok v' w/\VR ρ v v':=by
 unfold Ed at hv
 split at hv
 .split at hv
  .rename_i i hi;obtain⟨h0,hv⟩:=vt hv;have a:=zBI9.mp h0;obtain⟨k,_,rfl⟩:=dn hi hy
   cases hx with
   | agg b h1 c =>
    obtain⟨v',h2,h3⟩:=Kw hg hz ⟨b,c⟩ h1 hv w;exact⟨v',by simp[Instr.index,asIntOf,run_underlying hu,yV hz,a,h2],h3⟩
  .cases hv
 .cases hv
theorem VI(hu:P.underlying t=some .string)(hx:VR ρ x x')(hy:VR ρ y y')(hv:rN x y=some v)(w:World):∃v',(Instr.index t x' y').run P w=.ok v' w/\VR ρ v v':=by
 unfold rN at hv
 split at hv
 .split at hv
  .rename_i i hi
   split at hv
   .rename_i c hc;injection hv with hv;subst hv;obtain⟨k,_,rfl⟩:=dn hi hy
    cases hx with
    | str s =>
     rw[rI]at hc;simp at hc;obtain⟨u,a,rfl⟩:=hc;have:s[i]?=some u:=by
      have b:=(zAC9.1 a).1;have h2:=(zAC9.1 a).2;have d:i<s.size:=b;rw[getElem?_pos s i d];exact congrArg some h2
     exact⟨.int .u8 ((u.toNat:Nat):Int),by simp[Instr.index,asIntOf,run_underlying hu,this],.int _ _⟩
   .cases hv
  .cases hv
 .cases hv
theorem VO(hu:P.underlying t=some .string)(hv:VL ρ vs (x'::(lo.toList++hi.toList)))(hp:rO lo.isSome hi.isSome vs=some v)(w:World):
  ∃v',(Instr.sliceAt t x' lo hi none).run P w=.ok v' w/\VR ρ v v':=by
 have h:(Instr.sliceAt t x' lo hi none).run P w=(Instr.slice t x' lo hi none).run P w:=by simp[Instr.sliceAt,run_underlying hu]
 rw[h];obtain⟨x,m,rfl,n,b⟩:=hv.cons';unfold rO at hp
 split at hp
 .rename_i s m e
  cases e
  cases n with
  | str s =>
   have c:(s.data.toList.map (·.toNat)).length=s.size:=by simp
   unfold Ku at hp;have d:∀l j,l<=j->j<=s.size->VR ρ (.str (((s.data.toList.map (·.toNat)).take j).drop l)) (.string (s.extract l j)):=fun l j h1 h2=>by
    have:((s.data.toList.map (·.toNat)).take j).drop l=(s.extract l j).data.toList.map (·.toNat):=by
     simp[ByteArray.data_extract,Array.toList_extract,List.extract_eq_take_drop,zAK9,Z1,zBL9]
    rw[this];exact .str _
   cases lo<;>cases hi<;>simp only[Option.toList,ZA,zAG9,Zv]at b
   all_goals
    (try obtain⟨y,_,rfl,f,b⟩:=b.cons');(try obtain⟨o,_,rfl,i,b⟩:=b.cons');obtain rfl:=b.nil';simp at hp
    try(repeat' split at hp)
    all_goals first|(cases hp;done)|skip
    all_goals ((try injection hp with hp);subst hp)
   .have:=d 0 s.size (Zn _) (Zi _);rw[<- c,ZL,zCN9,c]at this;exact⟨.string s,by simp[Instr.slice,run_underlying hu,Instr.sliceBounds],by simpa using this⟩
   .rename_i j hj;obtain⟨k,rfl,a⟩:=mT hj f;have:=d 0 j (Zn _) a;rw[zCN9]at this;exact⟨_,by simp[Instr.slice,run_underlying hu,Instr.sliceBounds,sa a];rfl,by simpa using this⟩
   .rename_i j hj;obtain⟨k,rfl,a⟩:=mT hj f;have:=d j s.size a (Zi _);rw[<- c,ZL,c]at this;exact⟨_,by simp[Instr.slice,run_underlying hu,Instr.sliceBounds,sa a];rfl,by simpa using this⟩
   .rename_i j hj _ l hl;obtain⟨k,rfl,a⟩:=mT hj i;obtain⟨p,rfl,g⟩:=mT hl f;have:=d l j g a;exact⟨_,by simp[Instr.slice,run_underlying hu,Instr.sliceBounds,sa a,sa g];rfl,by simpa using this⟩
 .cases hp
theorem VM{len:Nat}(hu:P.underlying t=some (.array len e))(hz:ug P e=some z)(hlen:len<=1000000)(hv:VL ρ vs (x'::(lo.toList++hi.toList)))(hp:Bi len z lo.isSome hi.isSome vs=some v)(w:World):
  ∃v',(Instr.sliceAt t x' lo hi none).run P w=.ok v' w/\VR ρ v v':=by
 unfold Bi at hp
 split at hp
 .obtain⟨h0,hp⟩:=Ds hp;obtain⟨h1,hp⟩:=Ds hp;obtain⟨h2,hp⟩:=vt hp;injection hp with hp;subst hp;have g:=Zy h2
  cases lo with
  | some _=>simp at h0
  | none=>cases hi with
   | some _=>simp at h1
   | none =>
    obtain⟨_,i,e,a,j⟩:=hv.oc;injection e with b d;subst b;subst d
    cases a with
    | ptr f k =>
     refine⟨_,?_,.sl f (c:=len) zo zo ?_ (.inl rfl) (fun h=>by omega) (by simp only[maxLen];omega)⟩
     .simp[Instr.sliceAt,run_underlying hu,Instr.sliceBounds,Instr.sureAddr,yV hz,gi]
     .have:(2*len+1)/2=len:=zo;rw[this];omega
 .cases hp
def Ad(P:Program)(t:TypeId):Prop:=(∃k,P.underlying t=some (.int k))\/P.underlying t=some .string
variable {key:TypeId}
theorem CK(hk:Ad P key)(b:Bool)(n:Nat)(v:Value)(w:World):(Instr.checkKey b (n+1) key v).run P w=.ok () w:=by
 rcases hk with⟨k,a⟩|a<;>simp[Instr.checkKey,run_underlying a]
theorem xZ.oc{e:uC}{es:List uC}{es':List MapEntry}(h:xZ ρ (e::es) es'):∃e' r,es'=e'::r/\VR ρ e.k e'.key/\VR ρ e.v e'.val/\e'.born=e.n/\xZ ρ es r:=by
 cases es' with
 | nil=>have:=h.1;simp at this
 | cons e' r =>
  obtain⟨a,b,c⟩:=h.2 0 e e' rfl rfl;exact⟨e',r,rfl,a,b,c,by have:=h.1;simpa using this,fun i x y d f=>h.2 (i+1) x y (by simpa using d) (by simpa using f)⟩
theorem Ma{d:TypeDesc}(hu:P.underlying key=some d)(hk:Ad P key){x y:TV}{x' y':Value}(hx:VR ρ x x')(hy:VR ρ y y'){b:Bool}(he:aR x y=some b)(hx1:(∃k,d=.int k)->∃j n,x=.int j n)(hx2:d=.string->∃s,x=.str s):Instr.sameNow d x' y'=some b:=by
 unfold aR at he
 split at he
 .split at he
  .rename_i k a _ k' b';obtain⟨g,e⟩:=vt he;obtain rfl:=it g;injection e with e;subst e
   cases hx;cases hy
   have:∃k,d=.int k:=by
    rcases hk with⟨j,f⟩|f
    all_goals grind
   obtain⟨j,rfl⟩:=this;simp[Instr.sameNow,kB]
  .cases he
 .split at he
  .injection he with he;subst he
   cases hx with
   | str a=>cases hy with
    | str c =>
     have:d=.string:=by
      rcases hk with⟨j,f⟩|f
      all_goals grind
     subst this;have h1:ki (uR a) (uR c)=(a==c):=by rw[lB,CE,beq_toListBytes]
     simp only[Instr.sameNow];exact congrArg some h1.symm
  .cases he
 .cases he
def IZ(d:TypeDesc)(x:TV):Prop:=((∃k,d=.int k)->∃j n,x=.int j n)/\(d=.string->∃s,x=.str s)
theorem ep{key:TypeId}{d:TypeDesc}(hu:P.underlying key=some d)(hk:Ad P key){x:TV}{x':Value}(hx:VR ρ x x')(hkv:IZ d x):∀{es:List uC} {es':List MapEntry} {i:Nat} {r:Option (Nat×uC)},xZ ρ es es'->gz x es i=some r ->
  ∃r',Instr.findNow d x' es' i=some r'/\((r=none/\r'=none)\/∃j e e',r=some (i+j,e)/\r'=some (i+j,e'.val)/\es[j]?=some e/\es'[j]?=some e'/\aR x e.k=some true)
 | [],es',i,r,f,c=>by
  have:es'=[]:=by have:=f.1;cases es' with|nil=>rfl|cons _ _=>simp at this
  subst this;simp[gz]at c;subst c;exact⟨none,rfl,.inl ⟨rfl,rfl⟩⟩
 | e::es,es',i,r,f,c=>by
  obtain⟨e',q,rfl,h1,h2,h3,h4⟩:=f.oc;unfold gz at c
  split at c
  .cases c
  .rename_i hq;injection c with c;subst c;have:=Ma hu hk hx h1 hq hkv.1 hkv.2;refine⟨some (i,e'.val),by simp[Instr.findNow,this],.inr ⟨0,e,e',rfl,rfl,rfl,rfl,hq⟩⟩
  .rename_i hq;have:=Ma hu hk hx h1 hq hkv.1 hkv.2;obtain⟨r',h,g⟩:=ep hu hk hx hkv h4 c;refine⟨r',by simp[Instr.findNow,this,h],?_⟩;rcases g with g|⟨j,a,b,l,m,n,o,p⟩
   .grind
   .exact .inr ⟨j+1,a,b,by rw[l];congr 2;omega,by rw[m];congr 2;omega,by simpa using n,by simpa using o,p⟩
def o7(kf:Nat)(d:TypeDesc):Prop:=(kf=1/\∃k,d=.int k)\/(kf=2/\d=.string)
variable {ck:Nat}{d:TypeDesc}{kf:Nat}{z:TV}
theorem Dq(hk:o7 kf d)(h:mv kf x=true):IZ d x:=by
 rcases hk with⟨rfl,k,rfl⟩|⟨rfl,rfl⟩
 .cases x<;>simp[mv,oZ]at h
  exact⟨fun _=>⟨_,_,rfl⟩,fun h=>by cases h⟩
 .cases x<;>simp[mv,o0]at h
  exact⟨fun h=>(by obtain⟨_,h⟩:=h;cases h),fun _=>⟨_,rfl⟩⟩
theorem Dv(hu:P.underlying key=some d)(hk:o7 kf d):Ad P key:=by
 rcases hk with⟨_,k,rfl⟩|⟨_,rfl⟩
 .exact .inl ⟨k,hu⟩
 .exact .inr hu
theorem rq(k:WR P Z ρ h w){b:Nat}{loc:yP}(hρ:ρ b 0=some loc){es:List uC}(hb:h.get b=some (.map es ck)):∃es',w.heap[loc.r]?=some (.map es' ck)/\xZ ρ es es'.toList:=by
 obtain⟨o,a,c⟩:=k.obj b 0 loc hρ;rw[hb]at a;injection a with a;subst a;obtain⟨d,es',h1,h2,h3⟩:=c
 grind
theorem dG{r:Nat}{es:Array MapEntry}(hh:w.heap[r]?=some (.map es ck)):(getObj r).run P w=.ok (.map es ck) w:=by
 simp[getObj,Sem.run,hh]
theorem Be{ok:Bool}{v':Value}(h:VR ρ v v')(b:Bool):VR ρ (ae ok v b) (if ok=true then .tuple #[v',.bool b]else v'):=by
 cases ok
 .exact h
 .exact VR.tL (.cons h (VL.one (.bool b)))
theorem Ks(k:WR P Z ρ h w){e:TypeId}(hu:P.underlying t=some (.map key e))(hd:P.underlying key=some d)(hkf:o7 kf d)(hz:xX P e=some z){ok:Bool}(hx:VR ρ x x')(hy:VR ρ y y')(hv:ci kf z ok h x y=some v):
  ∃v',(Instr.lookup t x' y' ok).run P w=.ok v' w/\VR ρ v v':=by
 have g:=Dv hd hkf;obtain⟨zv,n,p⟩:=oi (ρ:=ρ) hz w;unfold ci at hv;obtain⟨h0,hv⟩:=vt hv;have q:=Dq hkf h0;have i:∀b,(Instr.checkKey b 10000 key y').run P w=.ok () w:=fun b=>CK g b 9999 y' w
 split at hv
 .injection hv with hv;subst hv
  cases hx
  refine⟨_,?_,Be p false⟩;simp[Instr.lookup,run_underlying hu,i,Instr.findKey,run_underlying hd,Instr.findNow,n]
 .split at hv
  .rename_i o ho;unfold mA at hv
   split at hv
   .rename_i es ck
    cases hx with
    | map A =>
     obtain⟨es',r,l⟩:=rq k A ho
     split at hv
     .rename_i j e hf;injection hv with hv;subst hv;obtain⟨B,m,f⟩:=ep hd g hy q l hf;rcases f with⟨f,_⟩|⟨s,a,b,c,C,D,G,I⟩
      .cases f
      .injection c with c;injection c with _ c;subst c;subst C;obtain⟨_,u,_⟩:=l.2 s e b D G;refine⟨_,?_,Be u true⟩;simp[Instr.lookup,run_underlying hu,dG r,i,Instr.findKey,run_underlying hd,m]
     .rename_i hf;injection hv with hv;subst hv;obtain⟨B,m,f⟩:=ep hd g hy q l hf;rcases f with⟨_,rfl⟩|⟨s,a,b,c,_⟩
      .refine⟨_,?_,Be p false⟩;simp[Instr.lookup,run_underlying hu,dG r,i,Instr.findKey,run_underlying hd,m,n]
      .cases c
     .cases hv
   .cases hv
  .cases hv
 .cases hv
theorem VP{X:TypeId}(hu:P.underlying t=some d)(hd:∀ms,d ≠ .interface ms)(hz:xX P t=some z){ok:Bool}(hx:VR ρ x x')(hv:Bk t z ok x=some v)(w:World):
  ∃v',(Instr.typeAssert x' X t ok).run P w=.ok v' w/\VR ρ v v':=by
 obtain⟨zv,b,c⟩:=oi (ρ:=ρ) hz w;unfold Bk at hv
 split at hv
 .cases hx with
  | iface h =>
   rename_i f u i
   cases a:Nat.beq t f<;>rw[a]at hv
   .have g:f≠t:=fun e=>by subst e;simp at a
    simp only[cond_false]at hv;obtain⟨rfl,hv⟩:=vt hv;injection hv with hv;subst hv;refine⟨_,?_,VR.tL (.cons c (VL.one (.bool false)))⟩
    cases d<;>first|(exact absurd rfl (hd _))|simp[Instr.typeAssert,run_underlying hu,g,b]
   .obtain rfl:=Zk a;simp only[cond_true]at hv;injection hv with hv;subst hv;refine⟨_,?_,Be h true⟩
    cases d<;>first|(exact absurd rfl (hd _))|simp[Instr.typeAssert,run_underlying hu]
 .obtain⟨rfl,hv⟩:=vt hv;injection hv with hv;subst hv
  cases hx
  refine⟨_,?_,VR.tL (.cons c (VL.one (.bool false)))⟩
  cases d<;>first|(exact absurd rfl (hd _))|simp[Instr.typeAssert,run_underlying hu,b]
 .cases hv
theorem Ij(off:Nat):∀(cs:LE) (k:Nat) (cells:LM),off+k+cs.length<=cells.size ->
  ((cs.zipIdx k).foldl (fun a (x:Value×Nat)=>a.setIfInBounds (off+x.2) x.1) cells).toList=cells.toList.take (off+k)++cs++cells.toList.drop (off+k+cs.length)
 | [],k,cells,_=>by simp
 | c::cs,k,cells,h=>by
  simp only[Zp]at h;have b:off+k<cells.toList.length:=by simp;omega
  rw[List.zipIdx_cons,zDH9,Ij off cs (k+1) _ (by grind)];have h1:(cells.setIfInBounds (off+k) c).toList.take (off+(k+1))=cells.toList.take (off+k)++[c]:=by
   rw[zDC9,show off+(k+1)=(off+k)+1 by omega,ZE];rw[List.take_set_of_le (Zi _)]
   grind
  have h2:(cells.setIfInBounds (off+k) c).toList.drop (off+(k+1)+cs.length)=cells.toList.drop (off+k+(cs.length+1)):=by
   rw[zDC9,List.drop_set_of_lt zo]
   grind
  simp_all
theorem QZ(cells v:LM)(off:Nat)(h:off+v.size<=cells.size) :
  v.zipIdx.foldl (fun cs (x:Value×Nat)=>cs.setIfInBounds (off+x.2) x.1) cells=(cells.toList.take off++v.toList++cells.toList.drop (off+v.size)).toArray:=by
 apply Array.ext'
 have:=Ij off v.toList 0 cells (by omega);simp only[zBA9,zCC9]at this;rw[<- this,<- Array.foldl_toList];simp
theorem tM{place:Nat->Option (Nat×Nat)}:∀{parts:List (Nat×Value)} {places:List (Nat×Nat)} {vs:LK} {cells:LK} {cs:LM} {l:LK},
  places.length=parts.length->(∀(i:Nat) p q,parts[i]?=some p->places[i]?=some q->place p.1=some q)->VL ρ vs (parts.map (·.2))->VL ρ cells cs.toList->(∀x∈cells,x.one=true)->(∀q∈places,q.2≠0)->cZ cells places vs=some l ->
  ∃ds,Instr.fill place cs parts=some ds/\VL ρ l ds.toList/\(∀x∈l,x.one=true)/\l.length=cells.length
 | [],places,vs,cells,cs,l,f,_,c,b,h1,_,a=>by
  have:places=[]:=by cases places;rfl;simp at f
  subst this;have:vs=[]:=by have:=c.1;cases vs;rfl;simp at this
  subst this;simp[cZ]at a;subst a;exact⟨cs,rfl,b,h1,rfl⟩
 | (i,v)::parts,places,vs,cells,cs,l,f,g,c,b,h1,h,a=>by
  cases places with
  | nil=>grind
  | cons q places =>
   cases vs with
   | nil=>have:=c.1;grind
   | cons u vs =>
    obtain⟨_,_,e,w,n⟩:=c.oc;simp at e;obtain⟨rfl,rfl⟩:=e;obtain⟨off,size⟩:=q;simp only[cZ]at a;obtain⟨y,a⟩:=vt a;obtain⟨z,a⟩:=vt a;have o:=Zk y;have C:=Zy z;have D:size≠0:=h (off,size) (by simp);obtain⟨d,G⟩:=w.cells (.inl (by grind));have m:v.cells.size=size:=by have:=d.1;rw[o]at this;simpa using this.symm
    have B:cs.size=cells.length:=by have:=b.1;simpa using this.symm
    have r:=g 0 (i,v) (off,size) rfl rfl;dsimp only at r;have A:=QZ cs v.cells off zo;obtain⟨ds,J,s,t,I⟩:=tM (place:=place) (parts:=parts) (places:=places) (vs:=vs) (cs:=(cs.toList.take off++v.cells.toList++cs.toList.drop (off+v.cells.size)).toArray) (by grind) (fun j p q K k=>g (j+1) p q (by grind) (by grind)) n
     (by rw[m];exact((b.take off).app d).app (b.drop (off+size))) (fun x L=>by
      grind) (fun q k=>h q (Zo _ k)) a
    refine⟨ds,?_,s,t,by grind⟩;unfold Instr.fill
    grind
theorem VA{z:LK}(hz:xX P t=some (.agg z)){ops:Array (Nat×Operand)}{ps:List (Nat×Nat)}(hps:Ek P t ops.toList=some ps){a:Act}{vs:LK}(hv:VL ρ vs ((ops.toList.map (·.2)).map a.eval))(hp:Bg z ps vs=some v)(w:World):
  ∃v',(Instr.build t (ops.map fun(i,x)=>(i,a.eval x))).run P w=.ok v' w/\VR ρ v v':=by
 obtain⟨i,zv,hi,r,f⟩:=B5 hz;have f:=f ρ;unfold Bg at hp
 split at hp
 .rename_i l hl
  cases hp
  unfold Ek at hps
  split at hps
  .rename_i fs hu
   split at hps
   .rename_i pl hpl;obtain⟨s,u⟩:=rp hps
    cases f with
    | agg A h1 k =>
     rename_i cs;obtain⟨m,d,g,h,_⟩:=tM (place:=fun i=>pl[i]?) (parts:=(ops.map fun(i,x)=>(i,a.eval x)).toList) (places:=ps) (vs:=vs) (cells:=z) (cs:=cs.toArray) (by simp[s]) (fun j p q b c=>by
       simp only[zCP9,Zt]at b
       cases y:ops.toList[j]? with
       | none=>grind
       | some o =>
        rw[y]at b;simp at b;have:=u j o q y c;unfold Ej at this
        grind) (by simpa[Function.comp_def]using hv) ⟨by omega,by simpa using k⟩ h1 (fun q c=>by
       obtain⟨j,b,rfl⟩:=ZP.1 c;have B:j<ops.toList.length:=by rw[<- s];exact b
       have:=u j ops.toList[j] ps[j] (Zg B) (Zg b);unfold Ej at this
       grind) hl
     refine⟨.agg m,?_,by have:=VR.aggL g h;simpa using this⟩;simp only[zCP9]at d;simp[Instr.build,run_underlying hu,typeInfo,zeroValue,hi,r,Array.mapM_eq_mapM_toList,run_places w _ _ hpl,Value.cells,d]
   grind
  .rename_i len e hu
   split at hps
   .rename_i n hn
    cases hps
    cases f with
    | agg A h1 k =>
     rename_i cs;obtain⟨m,d,g,h,_⟩:=tM (place:=fun i=>some (i*n,n)) (parts:=(ops.map fun(i,x)=>(i,a.eval x)).toList) (places:=ops.toList.map fun p=>(p.1*n,n)) (vs:=vs) (cells:=z) (cs:=cs.toArray) (by simp) (fun j p q b c=>by
       grind) (by simpa[Function.comp_def]using hv) ⟨by omega,by simpa using k⟩ h1 (fun q c=>by obtain⟨p,_,rfl⟩:=Zu.1 c;exact(nA hn).1) hl
     refine⟨.agg m,?_,by have:=VR.aggL g h;simpa using this⟩;simp only[zCP9]at d;simp[Instr.build,run_underlying hu,typeInfo,zeroValue,hi,r,yV hn,Value.cells,d]
   grind
  grind
 grind
theorem Mb{k:Nat}(hk:(k=1/\∃j,P.underlying t=some (.int j))\/(k=2/\P.underlying t=some .bool)\/(k=3/\P.underlying t=some .string))(hx:VR ρ x x')(hy:VR ρ y y'){b:Bool}(he:fm k x y=some b)(d:Nat)(w:World):
  (Op.equalIn (d+1) t x' y').run P w=.ok b w/\(isAgg t).run P w=.ok false w:=by
 unfold fm at he
 split at he
 .obtain⟨hk1,he1⟩:=vt he;have f:=Zk hk1;clear he hk1;subst f;have he:=he1;clear he1;rcases hk with⟨_,j,e⟩|⟨h,_⟩|⟨h,_⟩<;>first|omega|skip
  split at he
  .obtain⟨hkk,he2⟩:=vt he;obtain rfl:=it hkk
   cases he2
   cases hx;cases hy
   exact⟨by rw[run_equalIn_int w d t _ j _ _ e,kB],by simp[isAgg,run_underlying e]⟩
  grind
 .obtain⟨hk1,he1⟩:=vt he;have f:=Zk hk1;clear he hk1;subst f;have he:=he1;clear he1;rcases hk with⟨h,_⟩|⟨_,e⟩|⟨h,_⟩<;>first|omega|skip
  split at he
  .cases he
   cases hx;cases hy
   have g:∀a c:Bool,(a==c)=(bif a then c else not c):=by decide
   exact⟨by rw[run_equalIn_bool' w d t _ _ e,g],by simp[isAgg,run_underlying e]⟩
  grind
 .obtain⟨hk1,he1⟩:=vt he;have f:=Zk hk1;clear he hk1;subst f;have he:=he1;clear he1;rcases hk with⟨h,_⟩|⟨h,_⟩|⟨_,e⟩<;>first|omega|skip
  split at he
  .cases he
   cases hx with
   | str a=>cases hy with
    | str c =>
     refine⟨?_,by simp[isAgg,run_underlying e]⟩;rw[run_equalIn_string w d t _ _ e];have:ki (uR a) (uR c)=(a.toList==c.toList):=by rw[lB,CE]
     exact congrArg (fun b=>Result.ok b w) this.symm
  grind
 grind
theorem CX:∀{ks ms:LN} {l m:LK} {b:Bool},yS (ks++ms) l m=some b->∃b1,yS ks (l.take ks.length) (m.take ks.length)=some b1/\(b1=true->yS ms (l.drop ks.length) (m.drop ks.length)=some b)/\(b1=false->b=false)
 | [],ms,l,m,b,h=>⟨true,by simp[yS],fun _=>by grind,fun h=>by cases h⟩
 | k::ks,ms,l,m,b,h=>by
  rw[Zv]at h;unfold yS at h
  split at h
  .grind
  .rename_i k0 ks0 x l0 y m0 hkk
   cases hkk
   split at h
   .rename_i hsc;obtain⟨b1,h1,h2,h3⟩:=CX h;exact⟨b1,by simp[yS,hsc,h1],by simpa using h2,h3⟩
   .rename_i r hsc;have a:b=false:=by grind
    subst a;exact⟨false,by simp[yS,h],fun h=>(by cases h),fun _=>rfl⟩
  grind
def aw(P:Program)(t:TypeId)(cs:LE):Value:=if yE P t=some true then .agg cs.toArray else cs.headD default
theorem Ot{g:Bool}(h:yE P t=some g)(w:World):(isAgg t).run P w=.ok g w:=by
 unfold yE at h
 split at h
 .rename_i hu;cases h;simp[isAgg,run_underlying hu]
 .rename_i hu;cases h;simp[isAgg,run_underlying hu]
 .rename_i u hn1 hn2 hu
  cases h
  cases u<;>first|exact absurd rfl (hn1 _)|exact absurd rfl (hn2 _ _)|exact absurd hu (hn1 _)|exact absurd hu (hn2 _ _)|simp[isAgg,run_underlying hu]
 grind
def B7(P:Program)(ρ:zh)(D:Nat)(t:TypeId)(ks:LN):Prop:=∀{l m:LK} {cs ds:LE},VL ρ l cs->VL ρ m ds->cs.length=ks.length->ds.length=ks.length->∀{b:Bool},yS ks l m=some b->∀w,(Op.equalIn D t (aw P t cs) (aw P t ds)).run P w=.ok b w
variable {D:Nat}{a:Value}{args:List vQ}{b d:Nat}{dst:TypeId}{kd:zA}{ks:LN}{l:LK}{neg:Bool}{s:Sem Value}{src:TypeId}
theorem BD{z:Nat}(hg:yE P t=some g)(hz:ug P t=some z)(h1:g=false->z=1){cs:LE}{o:Nat}(h:o+z<=cs.length)(w:World):(part t cs.toArray o).run P w=.ok (aw P t ((cs.drop o).take z)) w:=by
 unfold part;simp only[Sem.run_bind,Ot hg w,Result.andThen_ok]
 cases g
 .have b:=h1 rfl;subst b;have a:o<cs.length:=zo;simp only[zAM9,if_false,aw,hg,Option.some.injEq];have e:cs.toArray[o]?=some cs[o]:=by simp[a]
  rw[e];have c:(cs.drop o).take 1=[cs[o]]:=by rw[Zs a];rfl
  simp_all
 .simp only[if_true,Sem.run_bind,yV hz,Result.andThen_ok,aw,hg]
  simp_all
theorem HZ(h:mY P d t=some ks):∃g,yE P t=some g/\(g=false->ks.length=1):=by
 cases d with
 | zero=>simp[mY]at h
 | succ d =>
  unfold mY at h;unfold yE
  split at h
  .rename_i hu;rw[hu];grind
  .rename_i hu;rw[hu];grind
  .rename_i hu;rw[hu];injection h with h;subst h;exact⟨false,rfl,fun _=>rfl⟩
  .rename_i hu;rw[hu];exact⟨true,rfl,fun h=>(by cases h)⟩
  .rename_i hu;rw[hu];exact⟨true,rfl,fun h=>(by cases h)⟩
  .cases h
theorem HX(IH:∀t ks,mY P d t=some ks->B7 P ρ D t ks):∀{fs:List Field} {n:Nat} {ks:LN},oQ P (mY P d) fs n=some ks->∀{l m:LK} {cs ds:LE},VL ρ l (cs.drop n)->VL ρ m (ds.drop n)->cs.length=n+ks.length->ds.length=n+ks.length->∀{b:Bool},yS ks l m=some b->∀w,(Op.eqFields D cs.toArray ds.toArray fs).run P w=.ok b w
 | [],n,ks,a,l,m,cs,ds,h,i,s,u,b,c,w=>by
  simp[oQ]at a;subst a;unfold yS at c
  split at c
  .cases c;simp[Op.eqFields]
  all_goals grind
 | f::fs,n,ks,a,l,m,cs,ds,h,i,s,u,b,c,w=>by
  unfold oQ at a
  split at a
  .cases a
  rename_i j
  split at a
  .cases a
  rename_i e;have e:f.offset=n:=Classical.not_not.1 e
  split at a
  .rename_i k1 z hk1 hz
   split at a
   .rename_i hkz
    split at a
    .rename_i ms hms
     cases a
     subst hkz;simp only[Zl]at s u;obtain⟨A,B,C,G⟩:=CX c;obtain⟨g,v,k⟩:=HZ hk1;have x:=BD v hz k (cs:=cs) (o:=n) zo w;have y:=BD v hz k (cs:=ds) (o:=n) zo w;have q:=IH _ _ hk1 (h.take k1.length) (i.take k1.length) (by simp;omega) (by simp;omega) B w;have p:=h.drop k1.length;have r:=i.drop k1.length;rw[zBU9]at p r
     cases A with
     | true =>
      have I:=HX IH hms p r zo zo (C rfl) w;simp[Op.eqFields,j,e,x,y,q,I]
     | false =>
      obtain rfl:=G rfl;simp[Op.eqFields,j,e,x,y,q]
    grind
   grind
  grind
theorem HY{z:Nat}(hg:yE P e=some g)(hg1:g=false->ks.length=1)(hz:ug P e=some z)(hkz:ks.length=z)(IH:B7 P ρ D e ks):∀{n i:Nat} {l m:LK} {cs ds:LE},VL ρ l (cs.drop (i*z))->VL ρ m (ds.drop (i*z))->cs.length=(i+n)*z->ds.length=(i+n)*z->∀{b:Bool},yS (dB ks n) l m=some b->∀w,(Op.eqItems D e z cs.toArray ds.toArray (List.range' i n)).run P w=.ok b w
 | 0,i,l,m,cs,ds,f,h,s,t,b,a,w=>by
  unfold dB yS at a
  split at a
  .cases a;simp[Op.eqItems]
  all_goals grind
 | n+1,i,l,m,cs,ds,f,h,s,t,b,a,w=>by
  unfold dB at a;obtain⟨u,j,k,v⟩:=CX a;rw[hkz]at j k hg1;have A:(i+(n+1))*z=i*z+z+n*z:=by rw[show i+(n+1)=i+1+n by omega,zAR9,zAR9,Nat.one_mul]
  have p:=BD hg hz hg1 (cs:=cs) (o:=i*z) zo w;have r:=BD hg hz hg1 (cs:=ds) (o:=i*z) zo w;have q:=IH (f.take z) (h.take z) (by simp;omega) (by grind) j w;have c:=f.drop z;have d:=h.drop z;rw[zBU9]at c d;have x:i*z+z=(i+1)*z:=by rw[zAR9,Nat.one_mul]
  rw[x]at c d;rw[List.range'_succ]
  cases u with
  | true =>
   have y:=HY hg (by rw[hkz];exact hg1) hz hkz IH c d (by grind) (by grind) (k rfl) w;simp[Op.eqItems,p,r,q,y]
  | false =>
   obtain rfl:=v rfl;simp[Op.eqItems,p,r,q]
theorem Db:∀(d D:Nat) (t:TypeId) (ks:LN),mY P d t=some ks->B7 P ρ (D+d) t ks
 | 0,_,_,_,h=>by simp[mY]at h
 | d+1,D,t,ks,h=>by
  rename_i l m cs o;intro p q A M b a w;have f:∀k,ks=[k]->yE P t=some false->((k=1/\∃j,P.underlying t=some (.int j))\/(k=2/\P.underlying t=some .bool)\/(k=3/\P.underlying t=some .string))->(Op.equalIn (D+(d+1)) t (aw P t cs) (aw P t o)).run P w=.ok b w:=by
   intro k r c u;subst r;unfold yS at a
   split at a
   .grind
   .rename_i k0 ks0 x l0 y m0 hk0
    cases hk0
    obtain⟨x',O,rfl,B,Q⟩:=p.oc;obtain⟨y',R,rfl,C,S⟩:=q.oc;simp only[aw,c,Option.some.injEq,zAM9,if_false,List.headD_cons]
    split at a
    .rename_i hsc;unfold yS at a
     split at a
     .cases a
      exact(Mb u B C hsc (D+d) w).1
     all_goals grind
    .exact(Mb u B C a (D+d) w).1
   .cases a
  unfold mY at h
  split at h
  .rename_i k hu;injection h with h;exact f 1 h.symm (by simp[yE,hu]) (.inl ⟨rfl,_,hu⟩)
  .rename_i hu;injection h with h;exact f 2 h.symm (by simp[yE,hu]) (.inr (.inl ⟨rfl,hu⟩))
  .rename_i hu;injection h with h;exact f 3 h.symm (by simp[yE,hu]) (.inr (.inr ⟨rfl,hu⟩))
  .rename_i fs hu
   split at h
   .cases h
   rename_i s;have s:P.stoodInHeld t=false:=by simpa using s
   have v:P.fieldsOf t=fs:=by simp[Program.fieldsOf,hu]
   have c:yE P t=some true:=by simp[yE,hu]
   simp only[aw,c,if_true];rw[show D+(d+1)=(D+d)+1 from rfl,run_equalIn_struct w (D+d) t cs.toArray o.toArray (by rw[v];exact hu) s,v];exact HX (fun t ks r=>Db d D t ks r) h (by simpa using p) (by simpa using q) zo zo a w
  .rename_i n e hu
   split at h
   .rename_i k1 z hk1 hz
    split at h
    .rename_i hkz
     cases h
     obtain⟨T,i,hi,G⟩:=nA hz;have c:yE P t=some true:=by simp[yE,hu]
     obtain⟨g,I,J⟩:=HZ hk1;simp only[aw,c,if_true];have K:P.cellsOf e=z:=by simp[Program.cellsOf,hi,G]
     rw[show D+(d+1)=(D+d)+1 from rfl,run_equalIn_array w (D+d) cs.toArray o.toArray hu hi,K,List.range_eq_range'];have L:∀n,(dB k1 n).length=n*z:=fun n=>by induction n with|zero=>simp[dB]|succ n N=>simp[dB,N,hkz,zAR9,zBJ9]
     rw[L]at A M;exact HY I J hz hkz (Db d D e k1 hk1) (by simpa using p) (by simpa using q) (by simpa using A) (by grind) a w
    grind
   grind
  grind
theorem VC(hf:tN P t=some ks)(hx:VR ρ x x')(hy:VR ρ y y')(hv:rM neg ks x y=some v)(X Y:Operand)(w:World):
  ∃v',(do eqGuard (if neg=true then .neq else .eql) t X Y x' y';binOp (if neg=true then .neq else .eql) t x' y':Sem Value).run P w=.ok v' w/\VR ρ v v':=by
 obtain⟨e,d,f⟩:P.eqGuardType P.depth t=false/\mY P 8 t=some ks/\yE P t=some true:=by
  unfold tN at hf;unfold yE
  grind
 unfold rM at hv
 split at hv
 .split at hv
  .obtain⟨a,hv⟩:=vt hv;obtain⟨c,hv⟩:=vt hv;have a:=Zk a;have c:=Zk c;obtain⟨b,g,rfl⟩:=J6 hv
   cases hx with
   | agg h h1 i =>
    cases hy with
    | agg j h2 k =>
     rename_i cs ds;have l:∀w,(Op.equalIn 10000 t (.agg cs.toArray) (.agg ds.toArray)).run P w=.ok b w:=fun w=>by
      have:=Db 8 9992 t ks d (ρ:=ρ) (cs:=cs) (ds:=ds) ⟨h,i⟩ ⟨j,k⟩ zo zo g w;simpa[aw,f]using this
     have m:∀op,(eqGuard op t X Y (.agg cs.toArray) (.agg ds.toArray)).run P w=.ok () w:=fun op=>run_eqGuard_agg w op t X Y _ _ e
     cases neg
     .refine⟨.bool b,?_,by simpa using VR.bool (ρ:=ρ) b⟩;have h4:=run_eql_struct (P:=P) w t cs.toArray ds.toArray
      simp_all
     .refine⟨.bool (!b),?_,by simpa using VR.bool (ρ:=ρ) (!b)⟩;have h4:=run_neq_struct (P:=P) w t cs.toArray ds.toArray
      simp_all
  grind
 grind
theorem eQ{k:zA}{xs:AT}(hm:mk k xs=some (kd,args)):kd=k/\yf kZ xs=some args:=by
 unfold mk at hm
 grind
theorem ax{v:Value}{w':World}(hs:s.run P w=.ok v w'):(do pure (Next.value (<- s)):Sem Next).run P w=.ok (.value v) w':=by simp[hs]
theorem VL.two{b:Value}(h:VL ρ l [a,b])(e:l=[x,y]):VR ρ x a/\VR ρ y b:=by
 subst e;exact⟨h.2 0 x a rfl rfl,h.2 1 y b rfl rfl⟩
theorem VL.uno(h:VL ρ l [a])(e:l=[x]):VR ρ x a:=by
 subst e;exact h.2 0 x a rfl rfl
theorem YD{k:WR P Z ρ h w}{op:BinOp}{x y:Operand}{b:Bool}(hc:cI P t x y x' y' b w)(hop:op=if neg=true then .neq else .eql):
  (do eqGuard op t x y x' y';binOp op t x' y':Sem Value).run P w=.ok (.bool (neg ^^ b)) w:=by
 subst hop;obtain⟨h1,h2,h3⟩:=hc
 cases neg
 all_goals simp_all
theorem VB(hu:P.underlying t=some .bool)(hx:VR ρ x x')(hy:VR ρ y y')(hv:lL neg x y=some v)(X Y:Operand)(w:World):
  ∃v',(do eqGuard (if neg=true then .neq else .eql) t X Y x' y';binOp (if neg=true then .neq else .eql) t x' y':Sem Value).run P w=.ok v' w/\VR ρ v v':=by
 unfold lL at hv
 split at hv
 .rename_i a
  split at hv
  .rename_i c;injection hv with hv;subst hv
   cases hx with
   | bool _=>cases hy with
    | bool _ =>
     have b:=run_equalIn_bool' (P:=P) w 9999 t a c hu;have d:∀a c:Bool,(a==c)=(bif a then c else not c):=by decide
     have e:∀a c:Bool,(!(a==c))=(bif a then not c else c):=by decide
     cases neg
     .refine⟨.bool (a==c),?_,by rw[d];exact .bool _⟩;have:binOp .eql t (.bool a) (.bool c)=(do pure (.bool (<- Op.equal t (.bool a) (.bool c)))):=rfl;simp[this,tJ,b,eqGuard]
     .refine⟨.bool (!(a==c)),?_,by rw[e];exact .bool _⟩;have:binOp .neq t (.bool a) (.bool c)=(do pure (.bool (!(<- Op.equal t (.bool a) (.bool c))))):=rfl;simp[this,tJ,b,eqGuard]
  .cases hv
 .cases hv
theorem VS{op:UnOp}(hx:VR ρ x x')(hv:nt op x=some v)(w:World):∃v',(Op.unary op x').run P w=.ok v' w/\VR ρ v v':=by
 unfold nt at hv
 split at hv
 .unfold Eg at hv
  split at hv
  .injection hv with hv;subst hv;cases hx
   exact⟨_,by simp[Op.unary],.bool _⟩
  .cases hv
 .unfold Ee at hv
  split at hv
  .injection hv with hv;subst hv;cases hx
   exact⟨_,by simp[Op.unary,Op.intArith],.int _ _⟩
  .cases hv
 .unfold Ko at hv
  split at hv
  .rename_i n
   cases hx
   obtain⟨v',h1,h2⟩:=GB (ρ:=ρ) (t:=0) hv w;refine⟨v',?_,h2⟩;have e:(Op.unary .xor (.int .u64 n):Sem Value)=binOp .xor 0 (.int .u64 (.ofNat 18446744073709551615)) (.int .u64 n):=by
    simp[Op.unary,binOp,IntKind.signed,IntKind.max,IntKind.bits]
   rw[e];exact h1
  .cases hv
 .cases hv
theorem VJ(k:WR P Z ρ h w){d:TypeDesc}(hu:P.underlying t=some d){f:Nat}(hd:(f=1/\∃e,d=.slice e)\/(f=2/\∃a b,d=.map a b)\/(f=3/\d=.string))(hx:VR ρ x x')(hv:lP f h x=some v)(ty:TypeId):
  ∃v',(Builtin.len_ #[t] ty #[x']).run P w=.ok v' w/\VR ρ v v':=by
 rcases hd with⟨rfl,e,rfl⟩|⟨rfl,a,b,rfl⟩|⟨rfl,rfl⟩
 .simp only[lP]at hv
  cases x<;>simp[Jg]at hv
  .subst hv;cases hx
   exact⟨_,by simp[Builtin.len_,run_underlying hu,goInt],.int _ _⟩
  .subst hv;cases hx
   exact⟨_,by simp[Builtin.len_,run_underlying hu,goInt],.int _ _⟩
 .simp only[lP]at hv;unfold DB at hv
  split at hv
  .injection hv with hv;subst hv;cases hx
   exact⟨_,by simp[Builtin.len_,run_underlying hu,goInt],.int _ _⟩
  .split at hv
   .rename_i o ho;unfold Jf at hv
    split at hv
    .rename_i es ck;injection hv with hv;subst hv
     cases hx with
     | map g =>
      obtain⟨es',i,c⟩:=rq k g ho;have:es.length=es'.size:=by have:=c.1;simpa using this
      refine⟨.int .i64 (es'.size:Nat),by simp[Builtin.len_,run_underlying hu,dG i,goInt],?_⟩;rw[this];exact .int _ _
    .cases hv
   .cases hv
  .cases hv
 .simp only[lP]at hv;unfold An at hv
  split at hv
  .injection hv with hv;subst hv
   cases hx with
   | str s=>exact⟨_,by simp[Builtin.len_,run_underlying hu,goInt];rfl,by simpa using VR.int (ρ:=ρ) .i64 (s.size:Nat)⟩
  .cases hv
theorem Kt{mx:Bool}(hx:VR ρ x x')(hy:VR ρ y y')(hv:bg mx x y=some v)(ts:Array TypeId)(ty:TypeId)(w:World):
  ∃v',(if mx=true then Builtin.max_ ts ty #[x',y']else Builtin.min_ ts ty #[x',y']).run P w=.ok v' w/\VR ρ v v':=by
 unfold bg at hv
 split at hv
 .split at hv
  .rename_i k a _ k' b;obtain⟨e,c⟩:=vt hv;have d:=it e;subst d;injection c with c;subst c
   cases hx;cases hy
   cases mx
   .refine⟨.int k (if b<a then b else a),by simp[Builtin.min_,Builtin.min2],?_⟩;have:(if b<a then b else a)=(bif mu a b then a else b):=by
     rw[nc];by_cases h:a<=b
     all_goals grind
    rw[this];exact .int _ _
   .refine⟨.int k (if b>a then b else a),by simp[Builtin.max_,Builtin.max2],?_⟩;have:(if b>a then b else a)=(bif mu b a then a else b):=by
     rw[nc];by_cases h:b<=a
     all_goals grind
    rw[this];exact .int _ _
  .cases hv
 .cases hv
theorem VK{c b:Value}(h:VL ρ vs [c,a,b])(hv:Eh vs=some v)(w:World):∃v',(do pure (if <- asBool c then a else b):Sem Value).run P w=.ok v' w/\VR ρ v v':=by
 unfold Eh at hv
 split at hv
 .injection hv with hv;subst hv;rename_i d e f;have h0:=h.2 0 _ _ rfl rfl;have h1:=h.2 1 _ _ rfl rfl;have h2:=h.2 2 _ _ rfl rfl
  cases h0
  cases d
  .exact⟨b,by simp[asBool],h2⟩
  .exact⟨a,by simp[asBool],h1⟩
 .cases hv
theorem fj(f:Operand->Value)(b:Builtin)(args:AG)(ts:Array TypeId)(ty:TypeId)(w:World):(do let d <- resolve f { callee:=.builtin b,args:=args,argTypes:=ts } ty;invoke d.target d.args:Sem Next).run P w=(builtin b ts ty (args.map fun | .const _=>true|_=>false) (args.map f)).run P w:=by
 simp only[resolve,invoke,Sem.run_bind,Sem.run_pure,Result.andThen_ok];rfl
def ot(P:Program)(ρ:zh)(w:World)(s:Sem Next)(v:TV):Prop:=∃v',s.run P w=.ok (.value v') w/\VR ρ v v'
theorem ot.of(hs:∃v',s.run P w=.ok v' w/\VR ρ v v'):ot P ρ w (do pure (.value (<- s))) v :=
 let ⟨v',h1,h2⟩:=hs;⟨v',ax h1,h2⟩
theorem KI:∀(ns:LG) (acc:ByteArray),(ns.foldl (fun(r:ByteArray) n=>r.push (UInt8.ofNat n.toNat)) acc).data.toList.map (·.toNat)=acc.data.toList.map (·.toNat)++ns.map fun n=>n.toNat%256
 | [],acc=>by simp
 | n::ns,acc=>by
  rw[zDH9,KI ns]
  simp_all
theorem MJ:∀{l:LK} {s:LN} {cs:LE},qs l=some s->VL ρ l cs->∃ns:LG,cs=ns.map (Value.int .u8)/\s=ns.map fun n=>n.toNat%256
 | [],s,cs,h,a=>by
  simp[qs]at h;subst h;exact⟨[],a.oN,rfl⟩
 | x::l,s,cs,h,a=>by
  unfold qs at h
  split at h
  .grind
  .rename_i n l0 hh
   cases hh
   obtain⟨b,h⟩:=vt h;have b:n<256:=zBI9.mp b
   split at h
   .rename_i s0 hs
    cases h
    obtain⟨y,e,rfl,d,c⟩:=a.oc;obtain⟨ns,rfl,rfl⟩:=MJ hs c
    cases d
    exact⟨Int.ofNat n::ns,rfl,by grind⟩
   grind
  grind
theorem VQ(k:WR P Z ρ h w)(hs:P.underlying src=some (.slice e))(hd:P.underlying dst=some .string)(he:db P e=true)(hx:VR ρ x x')(hv:cj h x=some v):
  ∃v',(convert src dst x').run P w=.ok v' w/\VR ρ v v':=by
 have f:P.underlying e=some (.int .u8):=by
  unfold db at he
  split at he
  .omega
  .cases he
 unfold cj at hv
 split at hv
 .cases hv
  cases hx
  exact⟨_,by simp[convert,run_underlying hs,run_underlying hd,run_underlying f,Conv.bytesToString],VR.str ByteArray.empty⟩
 .rename_i b g o n q
  split at hv
  .rename_i l hl
   split at hv
   .rename_i s hs'
    cases hv
    cases hx with
    | sl m h1 h2 h3 h4 A B =>
     rename_i i c loc;obtain⟨cs,p,t,C,D⟩:=ED k hl m zo;obtain⟨a,rfl,rfl⟩:=MJ hs' p;have d:=run_loadCells_list (P:=P) w ⟨loc.r,i,none⟩ (a.map (Value.int .u8)) (fun j v u=>by
      have z:=(Zh.1 u).1;rw[gi]
      grind)
     rw[t]at d;have y:=run_bytesToString (P:=P) w ⟨loc.r,i,none⟩ n c a d;refine⟨_,by simp only[convert,Sem.run_bind,run_underlying hs,run_underlying hd,run_underlying f,Result.andThen_ok];exact y,?_⟩;have:=VR.str (ρ:=ρ) (a.foldl (fun(r:ByteArray) n=>r.push (UInt8.ofNat n.toNat)) ByteArray.empty);rw[KI]at this;simpa using this
   grind
  grind
 grind
theorem Bm(k:WR P Z ρ h w){o:Oper}(ho:xb P o.op=some (kd,args))(hc:kd.cls=0){a:Act}{tm:LL}(ht:yX ρ tm a.tmps)(hv:kV tm args=some vs)(hp:yb kd vs h=some v):
  ot P ρ w (execOp a.eval o) v:=by
 have key:∀{k0:zA} {D:AT},mk k0 D=some (kd,args)->kd=k0/\VL ρ vs (D.map a.eval):=fun hm=>by
  obtain⟨h1,h2⟩:=eQ hm;exact⟨h1,cX ht h2 hv⟩
 obtain⟨dst,op,ty,T,after,guard⟩:=o
 cases op with
 | pick c x y =>
  obtain⟨rfl,g⟩:=key ho;obtain⟨v',h1,h2⟩:=VK (P:=P) g hp w;exact⟨v',by simpa[execOp]using ax h1,h2⟩
 | nilCheck x =>
  obtain⟨rfl,g⟩:=key ho;obtain⟨y,rfl,hp⟩:=cw hp;have p:=g.uno rfl;change Ef y=some v at hp;unfold Ef at hp
  split at hp
  .cases hp
   generalize B:a.eval x=x' at p
   cases p with
   | ptr hρ A=>exact⟨_,by simp[execOp,B],.ptr hρ A⟩
  .cases hp
   generalize B:a.eval x=x' at p
   cases p with
   | fn g h=>exact⟨_,by simp[execOp,B],.fn g h⟩
  .cases hp
 | binOp op t x y yt =>
  have two:∀{f:TV->TV->LC} {Q:Prop},uX vs f=some v->VL ρ vs [a.eval x,a.eval y]->(∀{u O},f u O=some v->VR ρ u (a.eval x)->VR ρ O (a.eval y)->Q)->Q:=fun hp g hQ=>by
   obtain⟨u,O,rfl,hp⟩:=B1 hp;obtain⟨n,G⟩:=g.two rfl;exact hQ hp n G
  have K:∀{neg:Bool} {f:Nat},kd=.eqnil neg f->VL ρ vs [a.eval x,a.eval y]->op=(if neg=true then .neq else .eql)->(∀{x' y':Value} {u v:TV},VR ρ u x'->VR ρ v y'->∀{b:Bool},cV f u v=some b->cI P t x y x' y' b w) ->
    ot P ρ w (execOp a.eval ⟨dst,.binOp op t x y yt,ty,T,after,guard⟩) v:=fun N g V U=>by
   subst N;exact two hp g fun hp n G=>by
    obtain⟨b,A,rfl⟩:=J6 hp;exact .of ⟨_,YD (k:=k) (U n G A) V,.bool _⟩
  simp only[xb]at ho;(repeat' (split at ho))<;>first|(cases ho;done)|skip
  all_goals
   obtain⟨h1,h2⟩:=key ho
   first|exact K h1 h2 rfl (fun p C _ A=>QE ‹_› p C A)|exact K h1 h2 rfl (fun p C _ A=>QF ‹_› p C A)|exact K h1 h2 rfl (fun p C _ A=>QG ‹_› p C A)|exact K h1 h2 rfl (fun p C _ A=>QH ‹_› p C A)|exact K h1 h2 rfl (fun p C _ A=>QI ‹_› ‹_› p C A)|(subst h1;exact two hp h2 fun hp n G=>by first|exact .of (VC ‹_› n G hp x y w)|exact .of (VB ‹_› n G hp x y w)|exact .of (Pf n G hp w))
 | convert src S x =>
  simp only[xb]at ho
  split at ho
  .rename_i hs q;obtain⟨rfl,g⟩:=key ho;obtain⟨y,rfl,hp⟩:=cw hp;have p:=g.uno rfl;change lK _ y=some v at hp;unfold lK at hp
   split at hp
   .cases hp
    generalize B:a.eval x=x' at p
    cases p
    refine .of (s:=convert src S (a.eval x)) ⟨_,?_,.int _ _⟩;rw[B];simp[convert,run_underlying hs,run_underlying q,Conv.intToInt]
   .cases hp
  .rename_i hs q;obtain⟨rfl,g⟩:=key ho;obtain⟨y,rfl,hp⟩:=cw hp;have p:=g.uno rfl;change Bj y=some v at hp;unfold Bj at hp
   split at hp
   .cases hp
    generalize B:a.eval x=x' at p
    cases p with
    | str s =>
     refine .of (s:=convert src S (a.eval x)) ⟨_,?_,.str s⟩;rw[B];simp[convert,run_underlying hs,run_underlying q]
   .cases hp
  .rename_i e hs q
   split at ho
   .obtain⟨rfl,_⟩:=key ho;cases hc
   .cases ho
  .rename_i e hs q
   split at ho
   .rename_i he;obtain⟨rfl,g⟩:=key ho;obtain⟨y,rfl,hp⟩:=cw hp;exact .of (VQ k hs q he (g.uno rfl) hp)
   .cases ho
  .cases ho
 | makeInterface t x =>
  simp only[xb]at ho
  split at ho
  .cases ho
  .cases ho
  .rename_i d n hni;obtain⟨rfl,g⟩:=key ho;obtain⟨y,rfl,hp⟩:=cw hp
   cases hp
   refine .of (s:=Instr.makeInterface t (a.eval x)) ⟨_,?_,.iface (g.uno rfl)⟩
   cases q:P.underlying t with
   | none=>exact absurd q hni
   | some d=>cases d<;>first|(exact absurd q (n _))|simp[Instr.makeInterface,run_underlying q]
 | makeFunc fn first R =>
  cases fn<;>simp only[xb]at ho<;>first|(cases ho;done)|skip
  split at ho
  .rename_i f hf;obtain⟨rfl,g⟩:=key ho;simp[yb]at hp;subst hp;have h0:first=#[]:=Array.eq_empty_of_size_eq_zero hf;subst h0;refine .of (s:=Instr.makeFunc (.func f) ((#[]:AG).map a.eval) (R.map a.eval)) ⟨_,?_,VR.fnL g⟩;simp[Instr.makeFunc];obtain⟨c⟩:=R;simp
  .cases ho
 | slice t x lo hi mx =>
  simp only[xb]at ho
  split at ho
  .rename_i n
   split at ho
   .rename_i hz;obtain⟨rfl,g⟩:=key ho;have h1:=VN n hz (lo:=lo.map a.eval) (hi:=hi.map a.eval) (mx:=mx.map a.eval) (x':=a.eval x) (vs:=vs) (by cases lo<;>cases hi<;>cases mx<;>simpa using g) (v:=v) (by have M:ff _ _ _ _ vs=some v:=hp;simpa using M) w;exact .of h1
   .cases ho
  .rename_i n
   split at ho
   .cases ho
   .rename_i hmx;have:mx=none:=by cases mx<;>simp at hmx;rfl
    subst this;obtain⟨rfl,g⟩:=key ho;have h1:=VO n (lo:=lo.map a.eval) (hi:=hi.map a.eval) (x':=a.eval x) (vs:=vs) (by cases lo<;>cases hi<;>simpa using g) (v:=v) (by have M:rO _ _ vs=some v:=hp;simpa using M) w;exact .of h1
  .rename_i len e n
   split at ho
   .cases ho
   .rename_i hmx;have:mx=none:=by cases mx<;>simp at hmx;rfl
    subst this
    split at ho
    .rename_i hz
     split at ho
     .rename_i L;obtain⟨rfl,g⟩:=key ho;have h1:=VM n hz L (lo:=lo.map a.eval) (hi:=hi.map a.eval) (x':=a.eval x) (vs:=vs) (by cases lo<;>cases hi<;>simpa using g) (v:=v) (by have M:Bi _ _ _ _ vs=some v:=hp;simpa using M) w;exact .of h1
     .cases ho
    .cases ho
  .cases ho
 | typeAssert x xt t ok =>
  simp only[xb]at ho
  split at ho
  .cases ho
  .cases ho
  .cases ho
  .rename_i z hz hni hnn;obtain⟨rfl,g⟩:=key ho;obtain⟨y,rfl,hp⟩:=cw hp
   cases q:P.underlying t with
   | none=>exact absurd q hnn
   | some d=>exact .of (VP q (fun ms e=>by subst e;exact hni _ q) hz (g.uno rfl) hp w)
 | extract x i =>
  obtain⟨rfl,g⟩:=key ho;obtain⟨y,rfl,hp⟩:=cw hp;have p:=g.uno rfl;change Bh i y=some v at hp;unfold Bh at hp
  split at hp
  .generalize B:a.eval x=x' at p
   cases p with
   | tuple X hr =>
    rename_i cs;rw[eZ]at hp;obtain⟨u,n,Y⟩:=VL.at (ρ:=ρ) (l:=_) (cs:=cs) ⟨X,hr⟩ hp;refine .of (s:=Instr.extract (a.eval x) i) ⟨u,?_,Y⟩;rw[B];simp[Instr.extract,n]
  .cases hp
 | call c =>
  obtain⟨callee,I,J⟩:=c
  cases callee with
  | value f=>obtain⟨rfl,_⟩:=key ho;cases hc
  | invoke r m=>cases ho
  | builtin b =>
   simp only[xb]at ho
   split at ho
   ·(repeat' (split at ho))<;>first|(cases ho;done)|(obtain⟨rfl,_⟩:=key ho;cases hc)
   .split at ho<;>first|(cases ho;done)|skip
    split at ho<;>first|(cases ho;done)|skip
    obtain⟨rfl,_⟩:=key ho;cases hc
   .rename_i t hts;have L:∀(f:Nat) {d:TypeDesc},P.underlying t=some d->((f=1/\∃e,d=.slice e)\/(f=2/\∃a b,d=.map a b)\/(f=3/\d=.string))->kd=.len f->VL ρ vs (I.toList.map a.eval)->ot P ρ w (execOp a.eval ⟨dst,.call { callee:=.builtin .len,args:=I,argTypes:=J },ty,T,after,guard⟩) v:=fun f d n q N g=>by
     subst N;obtain⟨y,rfl,hp⟩:=cw hp;obtain⟨D⟩:=I;obtain⟨J⟩:=J;simp at hts;subst hts
     cases D with
     | nil=>have:=g.1;simp at this
     | cons x r=>cases r with
      | cons _ _=>have:=g.1;simp at this
      | nil =>
       obtain⟨v',h1,h2⟩:=VJ k n q (g.uno rfl) hp ty;refine⟨v',?_,h2⟩;simp only[execOp,fj];simpa[builtin]using ax h1
    split at ho
    .rename_i n;obtain⟨h1,h2⟩:=key ho;exact L 1 n (.inl ⟨rfl,_,rfl⟩) h1 h2
    .rename_i n;obtain⟨h1,h2⟩:=key ho;exact L 2 n (.inr (.inl ⟨rfl,_,_,rfl⟩)) h1 h2
    .rename_i n;obtain⟨h1,h2⟩:=key ho;exact L 3 n (.inr (.inr ⟨rfl,rfl⟩)) h1 h2
    .cases ho
   .split at ho
    .rename_i hsz;obtain⟨rfl,g⟩:=key ho;obtain⟨y,j,rfl,hp⟩:=B1 hp;obtain⟨D⟩:=I
     match D,hsz with
     | [x0,x1],_ =>
      obtain⟨h1,h2⟩:=g.two rfl;obtain⟨v',h3,h4⟩:=Kt (P:=P) (mx:=true) h1 h2 hp J ty w;refine⟨v',?_,h4⟩;simp only[execOp,fj];simpa[builtin]using ax h3
    .cases ho
   .split at ho
    .rename_i hsz;obtain⟨rfl,g⟩:=key ho;obtain⟨y,j,rfl,hp⟩:=B1 hp;obtain⟨D⟩:=I
     match D,hsz with
     | [x0,x1],_ =>
      obtain⟨h1,h2⟩:=g.two rfl;obtain⟨v',h3,h4⟩:=Kt (P:=P) (mx:=false) h1 h2 hp J ty w;refine⟨v',?_,h4⟩;simp only[execOp,fj];simpa[builtin]using ax h3
    .cases ho
   .split at ho
    .obtain⟨rfl,_⟩:=key ho;cases hc
    .cases ho
   .cases ho
 | defer c =>
  obtain⟨callee,I,J⟩:=c
  cases callee<;>first|(cases ho;done)|(obtain⟨rfl,_⟩:=key ho;cases hc)
 | _=>first|(cases ho;done)|(simp only[xb]at ho;(repeat' (split at ho))<;>first|(cases ho;done)|(obtain⟨rfl,g⟩:=key ho;first|(cases hc;done)|exact .of (VA ‹_› ‹_› g hp w)|(obtain⟨y,rfl,hp⟩:=cw hp;have u:=g.uno rfl;first|(cases hp;exact⟨_,by simp[execOp],u⟩)|exact .of (VS u hp w)|exact .of (Kr k ‹_› ‹_› u hp)|exact .of (VD ‹_› u hp w)|exact .of (VE ‹_› u hp w))|(obtain⟨y,j,rfl,hp⟩:=B1 hp;obtain⟨h1,h2⟩:=g.two rfl;first|exact .of (VG ‹_› ‹_› h1 h2 hp w)|exact .of (VF ‹_› ‹_› h1 h2 hp w)|exact .of (VI ‹_› h1 h2 hp w)|exact .of (VH ‹_› ‹_› ‹_› h1 h2 hp w)|exact .of (Ks k ‹_› ‹_› (.inl ⟨rfl,_,rfl⟩) ‹_› h1 h2 hp)|exact .of (Ks k ‹_› ‹_› (.inr ⟨rfl,rfl⟩) ‹_› h1 h2 hp))))
theorem lY(k:WR P Z ρ h w)(hn:∀g,ρ b g=none)(hb:b<h.next)(hZ:Z<=w.heap.size){e:Nat}(hx:h.get b=some (uL e l)){cs:LM}(hl:l.length<=cs.size)(hr:∀(i:Nat) x y,l[i]?=some x->cs[i]?=some y->VR ρ x y)(h1:∀x∈l,x.one=true):WR P Z (ρ.add b 0 ⟨w.heap.size,l.length,cs.size⟩) h (w.alloc (.cells cs e)):=by
 have d:=zh.add_more (loc:=⟨w.heap.size,l.length,cs.size⟩) (hn 0);refine k.real hn hb hZ hx ⟨Zi _,fun g loc c=>?_,fun g f j=>?_⟩
 .rcases zh.add_inv c with⟨_,rfl,_⟩|c
  all_goals grind
 .obtain rfl:g=0:=zo;refine⟨_,cs,zh.aS _ _ _ _,.of (World.alloc_heap_new w _),fun _=>rfl,Zi _,hl,fun _=>rfl,fun i hi=>?_⟩;dsimp only at hi;have a:i<cs.size:=zo;refine⟨l[i],cs[i],?_,zAE9 a,h1 _ (ZV hi),(hr i _ _ (Zg hi) (zAE9 a)).mono d⟩;rw[Tr.get_putL,if_pos zo,Nat.sub_zero,Zg hi]
theorem lV(l:List α):∀n,(xc l n).length=n*l.length
 | 0=>by simp[xc]
 | n+1=>by rw[xc,Zl,lV l n,zBK9,zBJ9]
theorem Lc(l:List α):∀(n i:Nat),i<n*l.length->(xc l n)[i]?=l[i%l.length]?
 | 0,i,h=>by simp at h
 | n+1,i,h=>by
  rw[xc,zDA9]
  split
  .rename_i hi;rw[zAV9 hi]
  .rename_i hi;rw[zBK9]at h;rw[Lc l n (i-l.length) zo]
   congr 1
   rw[Nat.mod_eq_sub_mod (show i ≥ l.length by omega)]
theorem By{l:List α}:∀{n:Nat} {x:α},x∈xc l n->x∈l
 | 0,x,h=>by simp[xc]at h
 | n+1,x,h=>by
  rw[xc,ZW]at h;exact h.elim id By
theorem Fy{zv:Value}(hz:VR ρ z zv)(hc:z.cells ≠ [])(n m:Nat)(hnm:n<=m):∀(i:Nat) x y,(xc z.cells n)[i]?=some x->(((Array.range (m*zv.cells.size)).map (fun j=>zv.cells[j%zv.cells.size]!)))[i]?=some y->VR ρ x y:=fun i x y a b=>by
 obtain⟨⟨c,d⟩,_⟩:=hz.cells (.inl hc);have hi:i<n*z.cells.length:=by rw[<- lV];exact(Zh.1 a).1
 rw[Lc _ _ _ hi]at a
 grind
def bJ(P:Program)(Z:Nat)(ρ:zh)(h:TH)(w:World)(b:Nat)(s:Sem Next)(v:TV):Prop :=
 ∃v' w1 L S,s.run P w=.ok (.value v') w1/\WR P Z (ρ.add b 0 ⟨w.heap.size,L,S⟩) h w1/\VR (ρ.add b 0 ⟨w.heap.size,L,S⟩) v v'/\Below Z w w1
theorem bJ.of{v':Value}{o:Obj}(hZ:Z<=w.heap.size)(L S:Nat)(hs:s.run P w=.ok v' (w.alloc o))(hw:WR P Z (ρ.add b 0 ⟨w.heap.size,L,S⟩) h (w.alloc o))(hv:VR (ρ.add b 0 ⟨w.heap.size,L,S⟩) v v'):bJ P Z ρ h w b (do pure (.value (<- s))) v :=
 ⟨v',w.alloc o,L,S,ax hs,hw,hv,(Below.refl Z w).alloc hZ o⟩
theorem l4(e:TypeId)(cs:LM):(newRow e cs).run P w=.ok ⟨w.heap.size,0,none⟩ (w.alloc (.cells cs e)):=by
 simp[newRow,run_newObj_alloc]
theorem Te(k:WR P Z ρ h w)(hn:∀g,ρ b g=none)(hb:b<h.next)(hZ:Z<=w.heap.size)(hs:ug P e=some n)(hv:VL ρ vs [x']){x:yH}(hl:iu e n b vs=some x)(hx:h.get b=some x.o):
  bJ P Z ρ h w b (do pure (.value (<- Instr.box e x'))) x.v:=by
 unfold iu at hl
 split at hl
 .rename_i v;obtain⟨h0,hl⟩:=vt hl;injection hl with hl;subst hl;have a:=Zk h0;have d:=hv.uno rfl;have j:=(nA hs).1;obtain⟨c,h1⟩:=d.cells (.inl (by intro e;rw[e]at a;simp at a;omega));have l:x'.cells.size=n:=by have:=c.1;rw[a]at this;simpa using this.symm
  refine .of hZ v.cells.length x'.cells.size (v':=.pointer (some ⟨w.heap.size,0,none⟩)) (o:=.cells x'.cells e) (by simp[Instr.box,newVar,l4]) (lY k hn hb hZ hx zo (fun i x y hx f=>c.2 i x y hx (by simpa using f)) h1) ?_;exact .ptr (loc:=⟨w.heap.size,v.cells.length,x'.cells.size⟩) (zh.aS _ _ _ _) (by simp[a])
 .cases hl
theorem Td(k:WR P Z ρ h w)(hn:∀g,ρ b g=none)(hb:b<h.next)(hZ:Z<=w.heap.size)(hs:ug P e=some n)(hz:xX P e=some z)(hzl:z.cells.length=n){x:yH}(hl:o9 e z.cells b vs=some x)(hx:h.get b=some x.o):
  bJ P Z ρ h w b (do pure (.value (<- Instr.alloc e true (.tuple #[])))) x.v:=by
 unfold o9 at hl
 split at hl
 .injection hl with hl;subst hl;obtain⟨zv,c,d⟩:=oi (ρ:=ρ) hz w;have j:=(nA hs).1;obtain⟨a,h1⟩:=d.cells (.inl (by intro e;rw[e]at hzl;simp at hzl;omega));have l:zv.cells.size=n:=by have:=a.1;rw[hzl]at this;simpa using this.symm
  refine .of hZ z.cells.length zv.cells.size (v':=.pointer (some ⟨w.heap.size,0,none⟩)) (o:=.cells zv.cells e) (by simp[Instr.alloc,newVar,l4,c]) (lY k hn hb hZ hx zo (fun i x y hx f=>a.2 i x y hx (by simpa using f)) h1) ?_;exact .ptr (loc:=⟨w.heap.size,z.cells.length,zv.cells.size⟩) (zh.aS _ _ _ _) (by simp)
 .cases hl
theorem Tf(k:WR P Z ρ h w)(hn:∀g,ρ b g=none)(hb:b<h.next)(hZ:Z<=w.heap.size){len:Nat}(hu:P.underlying t=some (.slice e))(hs:ug P e=some n)(hz:xX P e=some z)(hzl:z.cells.length=n){ops:Array (Nat×Operand)}{a:Act}(hv:VL ρ vs ((ops.toList.map (·.2)).map a.eval)){x:yH}(hl:iy e n len z.cells (ops.toList.map fun p=>(p.1*n,n)) b vs=some x)(hx:h.get b=some x.o):
  bJ P Z ρ h w b (do pure (.value (<- Instr.buildSlice t len (ops.map fun(i,x)=>(i,a.eval x))))) x.v:=by
 unfold iy at hl;obtain⟨h0,hl⟩:=vt hl;have R:=Zy h0
 split at hl
 .rename_i l hf;injection hl with hl;subst hl;obtain⟨zv,I,u⟩:=oi (ρ:=ρ) hz w;have J:=(nA hs).1;have A:z.cells ≠ []:=by intro e;rw[e]at hzl;simp at hzl;omega
  obtain⟨O,h1⟩:=u.cells (.inl A);have B:zv.cells.size=n:=by have:=O.1;rw[hzl]at this;simpa using this.symm
  obtain⟨r,f,C,K,L⟩:=tM (place:=fun i=>some (i*n,n)) (parts:=(ops.map fun(i,x)=>(i,a.eval x)).toList) (places:=ops.toList.map fun p=>(p.1*n,n)) (vs:=vs) (cells:=xc z.cells len) (cs:=(Array.range (len*n)).map (fun j=>zv.cells[j%zv.cells.size]!)) (by simp) (fun j p q c d=>by
    simp only[zCP9,Zt]at c d
    cases D:ops.toList[j]? with
    | none=>rw[D]at c;cases c
    | some o=>rw[D]at c d;simp at c d;subst c;subst d;rfl) (by simpa[Function.comp_def]using hv) ⟨by rw[lV];simp[hzl],fun i x y hx m=>by
     have:=Fy u A len len (Zi _) i x y hx;rw[B]at this;rw[B]at m;rw[Z7]at m;exact this m⟩ (fun x hx=>h1 x (By hx)) (fun q d=>by obtain⟨p,_,rfl⟩:=Zu.1 d;exact J) hf
  have G:l.length=len*n:=by rw[L,lV,hzl]
  have Q:r.size=len*n:=by have:=C.1;rw[G]at this;simpa using this.symm
  refine .of hZ l.length r.size (v':=.slice (some ⟨w.heap.size,0,none⟩) len len) (o:=.cells r e) ?_ (lY k hn hb hZ hx zo (fun i x y hx m=>C.2 i x y hx (by simpa using m)) K) ?_
  .simp only[zCP9]at f;have M:¬(16777216<len*n):=zo
   by_cases s:len*n=0
   .have N:(Array.range (len*n)).map (fun j=>zv.cells[j%zv.cells.size]!)=(Array.range (len*n)).map (fun j=>(#[]:LM)[j%(#[]:LM).size]!):=by rw[s];simp
    rw[N]at f;simp[Instr.buildSlice,run_underlying hu,yV hs,s]at f⊢;simp[f,l4]
   .simp[Instr.buildSlice,run_underlying hu,yV hs,M,s,I,f,l4]
  .refine .sl (loc:=⟨w.heap.size,l.length,r.size⟩) (zh.aS _ _ _ _) zo zo ?_ (.inl rfl) (fun _=>?_) ?_
   .grind
   .grind
   .have:len*1<=len*n:=Nat.mul_le_mul_left len zo;simp only[maxLen];omega
 .cases hl
theorem Tg(k:WR P Z ρ h w)(hn:∀g,ρ b g=none)(hb:b<h.next)(hZ:Z<=w.heap.size){by_:Nat}(hu:P.underlying t=some (.slice e))(hs:ug P e=some n)(hby:ee P e=some by_)(hz:xX P e=some z)(hzl:z.cells.length=n)(hv:VL ρ vs [x',y']){x:yH}(hl:iz e n by_ z.cells b vs=some x)(hx:h.get b=some x.o):bJ P Z ρ h w b (do pure (.value (<- Instr.makeSlice t x' y'))) x.v:=by
 unfold iz at hl
 split at hl
 .rename_i u v
  split at hl
  .rename_i m c hm hc0;obtain⟨h0,hl⟩:=vt hl;obtain⟨h1,hl⟩:=vt hl;obtain⟨h2,hl⟩:=vt hl;injection hl with hl;subst hl;have f:=Zy h0;have N:=Zy h1;have O:=Zy h2;obtain⟨K,L⟩:=hv.two rfl;obtain⟨T,_,rfl⟩:=dn hm K;obtain⟨U,_,rfl⟩:=dn hc0 L;obtain⟨zv,D,l⟩:=oi (ρ:=ρ) hz w;obtain⟨i,hi,p⟩:=CG hby;have Q:=(nA hs).1;have q:z.cells ≠ []:=by intro e;rw[e]at hzl;simp at hzl;omega
   obtain⟨M,G⟩:=l.cells (.inl q);have I:zv.cells.size=n:=by have:=M.1;rw[hzl]at this;simpa using this.symm
   have C:(xc z.cells m).length=m*n:=by rw[lV,hzl]
   have R:m*n<=c*n:=zAD9 n f;refine .of hZ (xc z.cells m).length (c*n) (v':=.slice (some ⟨w.heap.size,0,none⟩) m c) (o:=.cells ((Array.range (c*n)).map (fun j=>zv.cells[j%zv.cells.size]!)) e) ?_ ?_ ?_
   .have s:IntKind.i64.wrap (m:Int)=m:=by simp[IntKind.wrap,IntKind.bits,IntKind.signed];omega
    have A:IntKind.i64.wrap (c:Int)=c:=by simp[IntKind.wrap,IntKind.bits,IntKind.signed];omega
    have S:¬((by_:Int)*(c:Int)>2 ^ 48):=by grind
    have r:¬((c:Int)<(m:Int)):=zo;have d:∀(x:Nat) (w:World),(askRoom x).run P w=.ok () w:=fun x w=>by unfold askRoom;split<;>simp[mark,Sem.run]
    by_cases a:c*n=0
    .have J:(Array.range (c*n)).map (fun j=>zv.cells[j%zv.cells.size]!)=(Array.range (c*n)).map (fun j=>(#[]:LM)[j%(#[]:LM).size]!):=by rw[a];simp
     rw[J];simp[Instr.makeSlice,run_underlying hu,asInt,asIntOf,typeInfo,hi,p,s,A,r,yV hs,a,d,l4];omega
    .simp[Instr.makeSlice,run_underlying hu,asInt,asIntOf,typeInfo,hi,p,s,A,r,yV hs,a,D,d,l4];omega
   .have:=lY k hn hb hZ hx (cs:=(Array.range (c*n)).map (fun j=>zv.cells[j%zv.cells.size]!)) (by simp[C];omega) (fun i x y hx B=>by
     have:=Fy l q m c f i x y hx;rw[I]at this B;exact this B) (fun x hx=>G x (By hx))
    grind
   .refine .sl (loc:=⟨w.heap.size,(xc z.cells m).length,c*n⟩) (zh.aS _ _ _ _) zo zo ?_ (.inl rfl) (fun _=>?_) ?_
    .grind
    .simp
    .simp only[maxLen];omega
  .cases hl
 .cases hl
theorem I2(k:WR P Z ρ h w)(hn:∀g,ρ b g=none)(hb:b<h.next)(hZ:Z<=w.heap.size){a1 a2:TypeId}(hu:P.underlying t=some (.map a1 a2)){r:AJ}(hv:VL ρ vs r.toList){x:yH}(hl:ra b vs=some x)(hx:h.get b=some x.o):
  bJ P Z ρ h w b (do pure (.value (<- Instr.makeMap t r))) x.v:=by
 have f:=zh.add_more (loc:=⟨w.heap.size,0,0⟩) (hn 0);have c:∀{x:yH},x=⟨.map [] 0,.map b⟩->h.get b=some x.o->WR P Z (ρ.add b 0 ⟨w.heap.size,0,0⟩) h (w.alloc (.map #[] 0)):=fun e hx=>by
  subst e;exact k.real hn hb hZ hx ⟨_,#[],zh.aS _ _ _ _,World.alloc_heap_new w _,rfl,fun i e j d=>by simp at d⟩
 have a:VR (ρ.add b 0 ⟨w.heap.size,0,0⟩) (.map b) (.map (some w.heap.size)):=.map (loc:=⟨w.heap.size,0,0⟩) (zh.aS _ _ _ _);unfold ra at hl
 split at hl
 .injection hl with hl;subst hl
  cases r with
  | some _=>have:=hv.1;simp at this
  | none=>exact .of hZ 0 0 (o:=.map #[] 0) (by simp[Instr.makeMap,run_newObj_alloc]) (c rfl hx) a
 .injection hl with hl;subst hl
  cases r with
  | none=>have:=hv.1;simp at this
  | some y =>
   have:=hv.uno rfl
   cases this
   exact .of hZ 0 0 (o:=.map #[] 0) (by simp[Instr.makeMap,run_underlying hu,asInt,asIntOf,run_newObj_alloc]) (c rfl hx) a
 .cases hl
theorem WR.realW(k:WR P Z ρ h w){w1:World}(hsz:w1.heap.size=w.heap.size+1)(hold:∀j,j<w.heap.size->w1.heap[j]?=w.heap[j]?)(hn:∀g,ρ b g=none)(hb:b<h.next)(hZ:Z<=w.heap.size){x:TO}(hx:h.get b=some x){L S:Nat}(hr:OR P (ρ.add b 0 ⟨w.heap.size,L,S⟩) b w1 x):WR P Z (ρ.add b 0 ⟨w.heap.size,L,S⟩) h w1:=by
 have o:=zh.add_more (loc:=⟨w.heap.size,L,S⟩) (hn 0);refine⟨fun c g loc f=>?_,fun c g loc f=>?_,fun c u g v loc t f i e m=>?_⟩
 .rcases zh.add_inv f with⟨rfl,rfl,rfl⟩|f
  .exact⟨hb,.inl hZ,by dsimp only;omega⟩
  .obtain⟨a,b,d⟩:=k.dom c g loc f;exact⟨a,b,by omega⟩
 .by_cases l:c=b
  .grind
  .have i:ρ c g=some loc:=by rw[<- f,zh.add_ne l]
   obtain⟨y,p,n⟩:=k.obj c g loc i;exact⟨y,p,n.move o (fun g=>zh.add_ne l g) fun g loc q=>hold _ (k.dom c g loc q).2.2⟩
 .rcases zh.add_inv f with⟨r1,r2,r3⟩|f<;>rcases zh.add_inv i with⟨r,z,s⟩|i
  .rw[r1,r]
  .subst r3;have:=(k.dom _ _ _ i).2.2;dsimp only at e;omega
  .subst s;have:=(k.dom _ _ _ f).2.2;dsimp only at e;omega
  .exact k.sep _ _ _ _ _ _ f i e m
theorem Th(k:WR P Z ρ h w)(hn:∀g,ρ b g=none)(hb:b<h.next)(hZ:Z<=w.heap.size)(hs:P.underlying src=some .string)(hd:P.underlying dst=some (.slice e))(he:db P e=true)(hv:VL ρ vs [x']){x:yH}(hl:iA e b vs=some x)(hx:h.get b=some x.o):
  bJ P Z ρ h w b (do pure (.value (<- convert src dst x'))) x.v:=by
 have z:P.underlying e=some (.int .u8):=by
  unfold db at he
  split at he
  .assumption
  .cases he
 unfold iA at hl
 split at hl
 .rename_i s0;obtain⟨h0,hl⟩:=vt hl;have r:=Zy h0;injection hl with hl;subst hl;have t:=hv.uno rfl
  cases t with
  | str s =>
   have u:s.data.size=s.size:=rfl;have c:(s.data.toList.map (·.toNat)).length=s.size:=by rw[ZB,zCC9];rfl
   rw[c]at r;have p:=Lib.run_convert_string_bytes (P:=P) w src dst e s hs hd z;have A:=grownCap_ge w s.size 0 e;have m:=grownCap_le_maxLen w s.size 0 e (by simp only[maxLen];omega);have B:(Lib.bytesCells w e s).size=grownCap w s.size 0 e:=by
    unfold Lib.bytesCells;rw[zCK9,Array.size_map,Array.size_replicate,u];omega
   have q:=Lib.bytesWorld_at_new w e s;have f:=fun j l=>Lib.bytesWorld_at_old w e s j l;have n:∀i,i<s.size->(Lib.bytesCells w e s)[i]?=some (.int .u8 (s.data.toList[i]?.getD 0).toNat):=fun i hi=>by
    have a:i<s.data.size:=hi;unfold Lib.bytesCells;rw[zDD9 (by rw[Array.size_map];exact a),Array.getElem?_map,zAE9 a,Z7,zAE9 a];rfl
   have y:WR P Z (ρ.add b 0 ⟨w.heap.size,s.size,(Lib.bytesCells w e s).size⟩) h (Lib.bytesWorld w e s):=by
    refine k.realW (Lib.bytesWorld_size w e s) f hn hb hZ hx ⟨Zi _,fun g loc d=>?_,fun g C D=>?_⟩
    .rcases zh.add_inv d with⟨_,rfl,_⟩|d
     .exact Zi _
     .rw[hn]at d;cases d
    .obtain rfl:g=0:=zo;refine⟨_,_,zh.aS _ _ _ _,⟨_,q,.inr ⟨he,Zi _⟩⟩,fun _=>rfl,by rw[ZB,c];exact Zi _,by dsimp only;omega,fun _=>by rw[ZB,c],fun i hi=>?_⟩;dsimp only at hi;have a:i<s.data.toList.length:=by rw[zCC9];exact hi
     refine⟨.int .u8 (.ofNat (s.data.toList[i]).toNat),_,?_,n i hi,rfl,?_⟩
     .rw[Tr.get_putL,if_pos (by rw[ZB,c];omega),Nat.sub_zero,Zt,Zt,Zg a];rfl
     .rw[Zg a];exact .int _ _
   refine⟨_,_,_,_,ax p,y,?_,⟨rfl,rfl,rfl,by rw[Lib.bytesWorld_size];omega,fun j l=>f j zo⟩⟩;rw[c];refine .sl (loc:=⟨w.heap.size,s.size,(Lib.bytesCells w e s).size⟩) (zh.aS _ _ _ _) zo zo ?_ (.inl rfl) (fun _=>?_) m
   .dsimp only;omega
   .dsimp only;omega
 .cases hl
variable {P:Program}{ρ ρ':zh}{Z:Nat}{h:TH}{w:World}
variable {g:Nat}
theorem WR.change(k:WR P Z ρ h w){x':TO}(hm:∀c g loc,ρ c g=some loc->ρ' c g=some loc)(hsame:∀c,c≠b->∀g,ρ' c g=ρ c g){g0:Nat}{loc0:yP}(hex:ρ b g0=some loc0){w':World}(hs:w.heap.size<=w'.heap.size)(hb:∀c g loc,c≠b->ρ c g=some loc->w'.heap[loc.r]?=w.heap[loc.r]?)(hr:OR P ρ' b w' x')(hdom:∀g loc,ρ' b g=some loc->Z<=loc.r/\loc.r<w'.heap.size)(hsep:∀g loc,ρ' b g=some loc->∀c g' loc',c≠b->ρ c g'=some loc'->loc.r≠loc'.r):WR P Z ρ' (h.set b x') w':=by
 have f:=(k.dom b g0 loc0 hex).1;refine⟨fun c g loc d=>?_,fun c g loc d=>?_,fun c i g g' loc loc' d j e l=>?_⟩
 .by_cases a:c=b
  .subst a;exact⟨f,.inl (hdom g loc d).1,(hdom g loc d).2⟩
  .rw[hsame c a]at d;obtain⟨p,q,u⟩:=k.dom c g loc d;exact⟨p,q.imp id fun⟨cs,h1⟩=>⟨cs,by rw[TH.get_set _ _ _ _ f,if_neg a];exact h1⟩,by omega⟩
 .by_cases a:c=b
  .subst a;exact⟨x',by rw[TH.get_set _ _ _ _ f,if_pos rfl],hr⟩
  .rw[hsame c a]at d;obtain⟨o,s,m⟩:=k.obj c g loc d;exact⟨o,by rw[TH.get_set _ _ _ _ f,if_neg a];exact s,m.move hm (hsame c a) fun g loc t=>hb c g loc a t⟩
 .by_cases a:c=b<;>by_cases n:i=b
  .omega
  .grind
  .grind
  .rw[hsame c a]at d;rw[hsame i n]at j;exact k.sep c i g g' loc loc' d j e l
theorem Gt(hg:Z<=g)(cs:LM):Below Z w (w.setRow g cs):=⟨rfl,rfl,rfl,by simp,fun k a=>setRow_other w g k cs zo⟩
theorem DQ{α:Type}(l m:List α)(o i:Nat)(h:o+m.length<=l.length):(l.take o++m++l.drop (o+m.length))[i]?=if o<=i/\i<o+m.length then m[i-o]? else l[i]?:=by
 rw[ZK,zDA9]
 grind
theorem BE(g o:Nat)(t:TypeId)(fz:Nat×Nat):∀(vs:LE) (i:Nat) (cur:LM) (w:World),w.heap[g]?=some (.cells cur t fz)->fH P t fz cur.size->o+i+vs.length<=cur.size->(∀v∈vs,v.oneCell'=true) ->
  (storeCells ⟨g,o,none⟩ vs i).run P w=.ok () (w.setRow g (cur.toList.take (o+i)++vs++cur.toList.drop (o+i+vs.length)).toArray)
 | [],i,cur,w,a,_,_,_=>by
  simp only[storeCells,zAG9,Zz,zBA9,zBV9,Array.toArray_toList];rw[setRow_self w g cur t fz a];rfl
 | v::l,i,cur,w,a,b,f,h1=>by
  rw[Zp]at f;have c:w.frozen? ⟨g,o+i,none⟩=false:=by
   rcases b with rfl|⟨_,b⟩
   .simp[World.frozen?,a]
   .obtain⟨lo,hi⟩:=fz;simp only[World.frozen?,a,Bool.and_eq_false_iff,decide_eq_false_iff_not]
    left
    dsimp only at b;omega
  have hi:o+i<cur.size:=zo;have d:(store ((⟨g,o,none⟩:Addr).add i) v).run P w=.ok () (w.setRow g (cur.setIfInBounds (o+i) v)):=by
   rw[gi,run_store P w _ v _ (h1 v (by simp)),show w.cell? ⟨g,o+i,none⟩=some cur[o+i] by simp[World.cell?,a,hi]];simp[c,setCell_eq_setRow w g (o+i) cur t fz v a]
  have h:=BE g o t fz l (i+1) (cur.setIfInBounds (o+i) v) (w.setRow g (cur.setIfInBounds (o+i) v)) (setRow_heap w g cur _ t _ a) (by simpa using b) (by simp;omega) (fun x j=>h1 x (by simp[j]));simp only[storeCells,Sem.run_bind,d,Result.andThen_ok,h,setRow_setRow]
  congr 3
  have e:=list_seg_step cur.toList (o+i) v l (by simp;omega);simpa[zDC9,zCI9]using e
theorem fH.same{t:TypeId}{fz:Nat×Nat}{n m:Nat}(h:fH P t fz n)(e:m=n):fH P t fz m:=by rw[e];exact h
theorem Ft(k:WR P Z ρ h w){o:Nat}{loc:yP}(hρ:ρ b g=some loc){l:LK}{cs:LE}(hl:VL ρ l cs)(h1:∀x∈l,x.one=true){h':TH}(hw:az h b g o l=some h'):
  ∃w',(storeCells ⟨loc.r,o,none⟩ cs).run P w=.ok () w'/\WR P Z ρ h' w'/\Below Z w w'/\h'.next=h.next:=by
 unfold az at hw
 split at hw
 .rename_i x hx;unfold sq at hw
  split at hw
  .rename_i e G M len cells;obtain⟨T,hw⟩:=vt hw;obtain⟨U,hw⟩:=vt hw;injection hw with hw;obtain rfl:=Zk T;have ab:=Zy U;obtain⟨y,n,s⟩:=k.obj b g loc hρ;rw[hx]at n;injection n with n;subst n;obtain⟨V,O,s⟩:=s
   .obtain⟨a,cur,m,j,r1,r2,r3,r4,r5⟩:=s g V (Zi _);rw[hρ]at m;injection m with m;subst m;have X:=r4 rfl;have Q:cs.length=l.length:=hl.1.symm;have z:o+cs.length<=cur.size:=zo;obtain⟨t,j,A⟩:=j;have B:=BE (P:=P) loc.r o e t cs 0 cur w j A (by simpa using z) (fun v Y=>by
     obtain⟨i,hi,rfl⟩:=ZP.1 Y;have C:i<l.length:=by rw[hl.1];exact hi
     exact(hl.2 i l[i] cs[i] (Zg C) (Zg hi)).oneCell (h1 _ (ZV C)))
    simp only[zBA9]at B;have J:=setRow_heap w loc.r cur (cur.toList.take o++cs++cur.toList.drop (o+cs.length)).toArray e t j;have L:nK P _ loc.r _ e:=⟨t,J,A.same (by simp;omega)⟩
    have p:∀d a,ρ b d=some a->Z<=a.r:=fun d a f=>k.own f hx (fun cs h=>by cases h);have R:=p g loc hρ;refine⟨_,B,?_,Gt R _,by rw[<- hw];rfl⟩;rw[<- hw];refine k.change (fun _ _ _ h=>h) (fun _ _ _=>rfl) hρ (by simp) (fun c d a u f=>setRow_other w loc.r a.r _ (fun e=>u (k.sep c b d g a loc f hρ e zo))) ⟨Zi _,O,fun d ad ah=>?_⟩ (fun d a f=>⟨p d a f,by have:=(k.dom b d a f).2.2;simpa using this⟩) (fun d a f c S K u N e=>u ((k.sep b c d S a K f N e (p d a f)).symm));obtain rfl:d=g:=zo;refine⟨loc,_,hρ,L,fun _=>?_,r2,?_,fun _=>X,fun i hi=>?_⟩
    .grind
    .grind
    .have av:i<cur.size:=zo;have e1:((cur.toList.take o++cs++cur.toList.drop (o+cs.length)).toArray)[i]?=if o<=i/\i<o+cs.length then cs[i-o]? else cur[i]?:=by
      rw[List.getElem?_toArray,DQ _ _ _ _ (by simpa using z),Z7 (xs:=cur)]
     rw[e1,Tr.get_putL,Q]
     by_cases D:o<=i/\i<o+l.length
     .rw[if_pos D,if_pos D];have q:i-o<l.length:=zo;have I:i-o<cs.length:=zo;exact⟨_,_,Zg q,Zg I,h1 _ (ZV q),hl.2 (i-o) _ _ (Zg q) (Zg I)⟩
     grind
  .cases hw
 .cases hw
variable {P:Program}{ρ ρ':zh}{Z:Nat}{h h':TH}{w:World}
variable {b:Value}{d:TypeDesc}{es:List uC}{es':Array MapEntry}{m':Value}
def bI(P:Program)(Z:Nat)(ρ:zh)(h h':TH)(w:World)(s:Sem Next)(v:TV):Prop :=
 ∃n v' w' ρ',s.run P w=.ok n w'/\(n=.value v'\/(n=.skip/\v'=undef))/\zh.le h.next ρ ρ'/\WR P Z ρ' h' w'/\Below Z w w'/\VR ρ' v v'/\h.next<=h'.next
theorem bI.val{s:Sem Value}(hs:s.run P w=.ok v' w')(hle:zh.le h.next ρ ρ')(hw:WR P Z ρ' h' w')(hb:Below Z w w')(hv:VR ρ' v v')(hn:h.next<=h'.next):bI P Z ρ h h' w (do pure (.value (<- s))) v :=
 ⟨_,v',w',ρ',ax hs,.inl rfl,hle,hw,hb,hv,hn⟩
theorem bI.skip{s:Sem Unit}(hs:s.run P w=.ok () w')(hle:zh.le h.next ρ ρ')(hw:WR P Z ρ' h' w')(hb:Below Z w w')(hn:h.next<=h'.next):bI P Z ρ h h' w (do s;pure .skip) (.tuple []) :=
 ⟨_,undef,w',ρ',by simp[hs],.inr ⟨rfl,rfl⟩,hle,hw,hb,VR.undef _,hn⟩
theorem Oh(k:WR P Z ρ h w)(hs:ug P t=some n){p':Value}(hv:VL ρ vs [p',v'])(ha:cN n h vs=some (.ok v h')):v=.tuple []/\bI P Z ρ h h' w (do Instr.storeAt t p' v';pure .skip) v:=by
 unfold cN at ha
 split at ha
 .rename_i b g o e u;obtain⟨h0,ha⟩:=vt ha;obtain⟨h1,ha⟩:=vt ha;have a:=Zk h0;have z:=Zy h1
  split at ha
  .rename_i h2 hw;injection ha with ha;injection ha with f i;subst f;subst i;obtain⟨q,r⟩:=hv.two rfl;have A:=(nA hs).1;obtain⟨c,d⟩:=r.cells (.inl (by intro e;rw[e]at a;simp at a;omega))
   cases q with
   | ptr s y =>
    rename_i loc;obtain⟨w',j,l,x,m⟩:=Ft k s c d hw;have p:v'.cells.size=n:=by have:=c.1;rw[a]at this;simpa using this.symm
    exact⟨rfl,.skip (by simp[Instr.storeAt,Instr.sureAddr,storeVar,yV hs,p,j]) (zh.le.refl _ _) l x (by rw[m];exact Zi _)⟩
  .cases ha
 .cases ha
theorem HB(h:aR x y=some true):x=y:=by
 unfold aR at h
 split at h
 .split at h
  .rename_i k a _ k' b;obtain⟨c,h1⟩:=vt h;have:=it c;subst this;injection h1 with h1;rw[kB]at h1
   grind
  .cases h
 .split at h
  .rename_i a _ b;injection h with h;rw[lB]at h
   grind
  .cases h
 .cases h
theorem VR.str_inv{l:LN}{v:Value}(h:VR ρ (.str l) v):∃s,v=.string s/\uR s=l:=by
 cases h with
 | str s=>exact⟨s,rfl,rfl⟩
theorem IY(ha:VR ρ x a)(hb:VR ρ x b){d:TypeDesc}(hk:mv kf x=true)(w:World):(Instr.keyThatStays a b).run P w=.ok b w:=by
 have:Instr.sameBits 10000 a b=true:=by
  match kf,hk with
  | 1,hk =>
   cases x<;>simp[mv,oZ]at hk
   cases ha;cases hb
   simp[Instr.sameBits]
  | 2,hk =>
   cases x<;>simp[mv,o0]at hk
   obtain⟨c,rfl,f⟩:=ha.str_inv;obtain⟨e,rfl,g⟩:=hb.str_inv;have h1:=GO (s:=c) (t:=e) (f.trans g.symm);have h2:(c==e)=true:=by rw[beq_toListBytes,h1];simp
   simp only[Instr.sameBits];exact h2
 simp[Instr.keyThatStays,this]
theorem xZ.push{es':List MapEntry}(h:xZ ρ es es'){e:uC}{e':MapEntry}(hk:VR ρ e.k e'.key)(hv:VR ρ e.v e'.val)(hb:e'.born=e.n):xZ ρ (es++[e]) (es'++[e']):=by
 refine⟨by simp[h.1],fun i x y a b=>?_⟩;rw[zDA9]at a b;rw[h.1]at a
 split at a
 .rename_i hi;rw[if_pos hi]at b;exact h.2 i x y a b
 grind
theorem Mc:∀(es:List uC) (i:Nat) (k v:TV) (j:Nat),(setE i k v es)[j]?=if j=i then(es[j]?).map (fun e=>⟨k,v,e.n⟩)else es[j]?
 | [],i,k,v,j=>by simp[setE]
 | e::es,0,k,v,j=>by cases j<;>simp[setE]
 | e::es,i+1,k,v,j=>by
  cases j with
  | zero=>simp[setE]
  | succ j=>simp only[setE,ZJ];rw[Mc es i k v j];simp
theorem Md:∀(es:List uC) (i:Nat) (k v:TV),(setE i k v es).length=es.length
 | [],i,k,v=>by simp[setE]
 | e::es,0,k,v=>by simp[setE]
 | e::es,i+1,k,v=>by simp[setE,Md es i k v]
theorem xZ.setE(h:xZ ρ es es'.toList){i:Nat}{k:TV}{f:MapEntry->MapEntry}(hf:∀e e',es[i]?=some e->es'[i]?=some e'->VR ρ k (f e').key/\VR ρ v (f e').val/\(f e').born=e'.born):xZ ρ (setE i k v es) (es'.modify i f).toList:=by
 refine⟨by rw[Md];simpa using h.1,fun j x y d g=>?_⟩;rw[Mc]at d;rw[Z7,zDU9]at g
 by_cases n:j=i
 .subst n;rw[if_pos rfl]at d g
  cases m:es[j]? with
  | none=>rw[m]at d;cases d
  | some e =>
   cases l:es'[j]? with
   | none=>rw[l]at g;cases g
   | some e' =>
    rw[m]at d;rw[l]at g;simp at d g;subst d;subst g;obtain⟨a,b,c⟩:=hf e e' m l;exact⟨a,b,c.trans (h.2 j e e' m (by simpa using l)).2.2⟩
 .rw[if_neg n]at d;rw[if_neg (fun e=>n e.symm)]at g;exact h.2 j x y d (by simpa using g)
theorem rV{r:Nat}{es:Array MapEntry}(hh:w.heap[r]?=some (.map es ck))(o:Obj):(setObj r o).run P w=.ok () (w.putObj r o):=by
 simp[setObj,Sem.run,hh,World.putObj]
theorem WR.setMap(k:WR P Z ρ h w){b:Nat}{loc:yP}(hρ:ρ b 0=some loc)(hh:∃es0 ck0,w.heap[loc.r]?=some (.map es0 ck0))(he:xZ ρ es es'.toList){x0:TO}(hx0:h.get b=some x0)(hn0:∀cs,x0 ≠ .ro cs):WR P Z ρ (h.set b (.map es ck)) (w.putObj loc.r (.map es' ck))/\Below Z w (w.putObj loc.r (.map es' ck)):=by
 have g:∀d a,ρ b d=some a->Z<=a.r:=fun d a f=>k.own f hx0 hn0;obtain⟨es0,ck0,hh⟩:=hh;have n:loc.r<w.heap.size:=(zAC9.1 hh).1;have p:=g 0 loc hρ;refine⟨k.change (fun _ _ _ h=>h) (fun _ _ _=>rfl) hρ (by simp[World.putObj]) (fun c d a i f=>World.putObj_heap_other (fun e=>i (k.sep c b d 0 a loc f hρ e zo))) ⟨loc,es',hρ,World.putObj_heap_same n,he⟩
  (fun d a f=>⟨g d a f,by have:=(k.dom b d a f).2.2;simpa[World.putObj]using this⟩) (fun d a f c o l i m e=>i ((k.sep b c d o a l f m e (g d a f)).symm)),?_⟩
 exact⟨rfl,rfl,rfl,by simp[World.putObj],fun j q=>World.putObj_heap_other zo⟩
theorem VL.three{c:Value}(h:VL ρ l [a,b,c])(e:l=[x,y,z]):VR ρ x a/\VR ρ y b/\VR ρ z c:=by
 subst e;exact⟨h.2 0 x a rfl rfl,h.2 1 y b rfl rfl,h.2 2 z c rfl rfl⟩
theorem F4(k:WR P Z ρ h w)(hu:P.underlying t=some (.map key e))(hd:P.underlying key=some d)(hkf:o7 kf d)(hv:VL ρ vs [m',x',y'])(ha:aH kf h vs=some (.ok v h')):
  v=.tuple []/\bI P Z ρ h h' w (do Instr.mapUpdate t m' x' y';pure .skip) v:=by
 have m:=Dv hd hkf;unfold aH at ha
 split at ha
 .rename_i b x y;obtain⟨h0,ha⟩:=vt ha;have z:=Dq hkf h0;obtain⟨M,i,C⟩:=hv.three rfl;have A:∀b,(Instr.checkKey b 10000 key x').run P w=.ok () w:=fun b=>CK m b 9999 x' w
  split at ha
  .rename_i o ho;unfold ry at ha
   split at ha
   .rename_i es ck
    cases M with
    | map r =>
     rename_i loc;obtain⟨es',f,g⟩:=rq k r ho
     split at ha
     .cases ha
     .rename_i hf;injection ha with ha;injection ha with n p;subst n;subst p;obtain⟨N,q,l⟩:=ep hd m i z g hf;rcases l with⟨_,rfl⟩|⟨O,a,b,c,_⟩
      .obtain⟨s,u⟩:=k.setMap r ⟨_,_,f⟩ (es:=es++[⟨x,y,ck⟩]) (ck:=ck+1) (es':=es'.push { key:=x',val:=y',born:=ck }) (by simpa using g.push i C rfl) ho (fun cs h=>by cases h);exact⟨rfl,.skip (by simp[Instr.mapUpdate,run_underlying hu,dG f,A,Instr.findKey,run_underlying hd,q,rV f]) (zh.le.refl _ _) s u (Zi _)⟩
      .cases c
     .rename_i j e0 hf;injection ha with ha;injection ha with n p;subst n;subst p;obtain⟨N,q,l⟩:=ep hd m i z g hf;rcases l with⟨l,_⟩|⟨O,a,b,c,D,Q,G,R⟩
      .cases l
      .injection c with c;injection c with c I;subst I;simp at c;subst c;simp at D;subst D;have J:=HB R;obtain⟨B,_,_⟩:=g.2 j e0 b Q G;rw[<- J]at B;have K:es'[j]?=some b:=by simpa using G
       have L:=IY (P:=P) B i (d:=d) h0 w;obtain⟨s,u⟩:=k.setMap r ⟨_,_,f⟩ (es:=setE j x y es) (ck:=ck) (es':=es'.modify j fun e=>{ e with key:=x',val:=y' }) (g.setE fun e S _ _=>⟨i,C,rfl⟩) ho (fun cs h=>by cases h);exact⟨rfl,.skip (by simp[Instr.mapUpdate,run_underlying hu,dG f,A,Instr.findKey,run_underlying hd,q,rV f,K,L]) (zh.le.refl _ _) s u (Zi _)⟩
   .cases ha
  .cases ha
 .cases ha
theorem F3(k:WR P Z ρ h w)(hu:P.underlying t=some (.map key e))(hd:P.underlying key=some d)(hkf:o7 kf d)(hz:xX P e=some z)(hv:VL ρ vs [m',x'])(ha:sW kf z h vs=some (.ok v h')):
  bI P Z ρ h h' w (do pure (.value (<- Instr.mapEntry t m' x'))) v:=by
 have B:=Dv hd hkf;obtain⟨zv,U,M⟩:=oi (ρ:=ρ) hz w;unfold sW at ha
 split at ha
 .rename_i b x;obtain⟨h0,ha⟩:=vt ha;have N:=Dq hkf h0;obtain⟨hm,A⟩:=hv.two rfl;have O:∀b,(Instr.checkKey b 10000 key x').run P w=.ok () w:=fun b=>CK B b 9999 x' w
  split at ha
  .rename_i o ho;unfold DO at ha
   split at ha
   .rename_i es ck
    cases hm with
    | map I =>
     rename_i loc;obtain⟨es',s,m⟩:=rq k I ho
     split at ha
     .cases ha
     .rename_i hf;injection ha with ha;injection ha with C D;subst C;subst D;obtain⟨r',G,u⟩:=ep hd B A N m hf;rcases u with⟨_,rfl⟩|⟨j',a,b,f,_⟩
      .obtain⟨y,J⟩:=k.setMap I ⟨_,_,s⟩ (es:=es++[⟨x,z,ck⟩]) (ck:=ck+1) (es':=es'.push { key:=x',val:=zv,born:=ck }) (by simpa using m.push A M rfl) ho (fun cs h=>by cases h);exact .val (v':=.tuple #[zv,.int .i64 (ck:Nat)]) (by simp[Instr.mapEntry,run_underlying hu,dG s,O,Instr.findKey,run_underlying hd,G,rV s,U,goInt]) (zh.le.refl _ _) y J (VR.tL (.cons M (VL.one (.int _ _)))) (Zi _)
      .cases f
     .rename_i j e0 hf;injection ha with ha;injection ha with C D;subst C;subst D;obtain⟨r',G,u⟩:=ep hd B A N m hf;rcases u with⟨u,_⟩|⟨j',a,b,f,R,c3,S,c5⟩
      .cases u
      .injection f with f;injection f with f V;subst V;simp at f;subst f;simp at R;subst R;have X:=HB c5;obtain⟨Q,Y,ab⟩:=m.2 j e0 b c3 S;rw[<- X]at Q;have ad:es'[j]?=some b:=by simpa using S
       have ah:=IY (P:=P) Q A (d:=d) h0 w;have T:xZ ρ es (es'.modify j fun e=>{ e with key:=x' }).toList:=by
        refine⟨by simpa using m.1,fun i p q hp K=>?_⟩;rw[Z7,zDU9]at K
        split at K
        .grind
        .exact m.2 i p q hp (by simpa using K)
       obtain⟨y,J⟩:=k.setMap I ⟨_,_,s⟩ (es:=es) (ck:=ck) (es':=es'.modify j fun e=>{ e with key:=x' }) T ho (fun cs h=>by cases h);have hh:WR P Z ρ h (w.putObj loc.r (.map (es'.modify j fun e=>{ e with key:=x' }) ck)):=by
        refine⟨fun c g l L=>?_,fun c g l L=>?_,y.sep⟩
        .obtain⟨a1,a2,a3⟩:=y.dom c g l L;refine⟨a1,a2.imp id fun⟨cs,h1⟩=>?_,a3⟩;rw[TH.get_set _ _ _ _ (TH.get_lt ho)]at h1
         split at h1
         .cases h1
         .exact⟨cs,h1⟩
        obtain⟨o',av,a0⟩:=y.obj c g l L;rw[TH.get_set _ _ _ _ (TH.get_lt ho)]at av
        grind
       refine .val (v':=.tuple #[b.val,.int .i64 (e0.n:Nat)]) ?_ (zh.le.refl _ _) hh J (VR.tL (.cons Y (VL.one (.int _ _)))) (Zi _);simp[Instr.mapEntry,run_underlying hu,dG s,O,Instr.findKey,run_underlying hd,G,rV s,ad,ah,goInt,ab]
   .cases ha
  .cases ha
 .cases ha
theorem MA(hv:VR ρ v v'):∀{es:List uC} {es':List MapEntry} {r:List uC},xZ ρ es es'->BW n v es=some r->∃i,es'.findIdx? (fun e=>(e.born:Int)==(n:Int))=some i/\xZ ρ r (es'.modify i fun e=>{ e with val:=v' })
 | [],_,_,_,a=>by cases a
 | e::es,es',r,k,a=>by
  obtain⟨m,s,rfl,h1,h2,h3,h4⟩:=k.oc;simp only[BW]at a
  cases f:Nat.beq e.n n<;>rw[f]at a
  .simp only[cond_false]at a
   split at a
   .cases a
   .rename_i l hl;injection a with a;subst a;obtain⟨i,hi,d⟩:=MA hv h4 hl;have g:¬((m.born:Int)==(n:Int))=true:=by
     rw[h3];intro o;have:=beq_iff_eq.1 o;have:e.n=n:=zo
     simp_all
    refine⟨i+1,by rw[zCF9];simp only[g,if_false,zAM9];rw[hi];rfl,?_⟩;refine⟨by have:=d.1;simpa using this,fun j p q b c=>?_⟩
    cases j with
    | zero=>simp at b c;subst b;subst c;exact⟨h1,h2,h3⟩
    | succ j=>simp at b c;exact d.2 j p q b (by simpa using c)
  .simp only[cond_true]at a;injection a with a;subst a;have h:=Zk f;refine⟨0,by rw[zCF9];simp[h3,h],?_⟩;refine⟨by have:=h4.1;simpa using this,fun j p q b c=>?_⟩
   cases j with
   | zero=>simp at b c;subst b;subst c;exact⟨h1,hv,h3⟩
   | succ j=>simp at b c;exact h4.2 j p q b c
theorem Og(k:WR P Z ρ h w){s':Value}(hv:VL ρ vs [m',s',y'])(ha:sV h vs=some (.ok v h')):v=.tuple []/\bI P Z ρ h h' w (do Instr.entryStore t m' s' y';pure .skip) v:=by
 unfold sV at ha
 split at ha
 .rename_i b s y;obtain⟨m,p,q⟩:=hv.three rfl
  split at ha
  .rename_i n hn;obtain⟨z,_,rfl⟩:=dn hn p
   split at ha
   .rename_i o ho;unfold CZ at ha
    split at ha
    .rename_i es ck
     split at ha
     .cases ha
     .rename_i es2 hst;injection ha with ha;injection ha with d f;subst d;subst f
      cases m with
      | map c =>
       rename_i loc;obtain⟨es',a,g⟩:=rq k c ho;obtain⟨i,hi,r⟩:=MA q g hst;obtain⟨u,x⟩:=k.setMap c ⟨_,_,a⟩ (es:=es2) (ck:=ck) (es':=es'.modify i fun e=>{ e with val:=y' }) (by rw[Array.toList_modify];exact r) ho (fun cs h=>by cases h);have j:es'.findIdx? (fun e=>(e.born:Int)==(n:Int))=some i:=by obtain⟨l⟩:=es';rw[List.findIdx?_toArray];exact hi
       exact⟨rfl,.skip (by simp[Instr.entryStore,dG a,asInt,asIntOf,j,rV a]) (zh.le.refl _ _) u x (Zi _)⟩
    .cases ha
   .cases ha
  .cases ha
 .cases ha
theorem Fb(k:WR P Z ρ h w){esz:Nat}(hx:VR ρ x x')(hl:cr h esz x n=some l)(hn:n<=lenV x):
  ∃A m c cs,x'=.slice A m c/\m=lenV x/\VL ρ l cs/\cs.length=n*esz/\(∀y∈l,y.one=true)/\(n≠0->∃a,A=some a/\∀(j:Nat) v,cs[j]?=some v->w.cell? (a.add j)=some v):=by
 unfold cr at hl
 split at hl
 .cases hl
  cases hx
  have:n=0:=by simp[lenV]at hn;exact hn
  subst this;exact⟨none,0,0,[],rfl,rfl,VL.nil ρ,by simp,fun y d=>(by cases d),fun h=>absurd rfl h⟩
 .rename_i b g o n0 q z;obtain⟨e,hl⟩:=vt hl;obtain rfl:=Zk e
  cases hx with
  | sl f h1 h2 h3 h4 C D =>
   rename_i i c loc;have u:n<=n0:=hn;have:n*esz<=q/2*esz:=zAD9 esz zo;obtain⟨cs,p,r,G,s⟩:=ED k hl f zo;refine⟨_,n0,c,cs,rfl,rfl,p,r,s,fun B=>⟨_,rfl,fun j v I=>?_⟩⟩;have t:i=o:=by rcases h4 with h|⟨h,_⟩;exact h;omega
   rw[gi,t]
   grind
 grind
theorem Xs{ty:TypeId}(ht:P.underlying t=some (.slice e)){z:Nat}(hz:ug P e=some z){base A:Option Addr}{c m c2:Nat}(hn:n<=c)(hm:m=0):(Builtin.append_ #[t,t] ty #[.slice base n c,.slice A m c2]).run P w=.ok (.slice base n c) w:=by
 subst hm;obtain⟨_,i,hi,rfl⟩:=nA hz
 cases A<;>cases base<;>simp[Builtin.append_,run_underlying ht,sizeOf,typeInfo,hi,Builtin.lenOf,Builtin.firstCells,hn,loadCells,loadCellsFrom,storeCells]
structure dM(P:Program)(w:World)(t u e:TypeId)(i:TypeInfo)(zv:Value)(x':Value)(m:Nat)(cs:LE):Prop where
 zero:∀(ty:TypeId) (base:Option Addr) (n c:Nat),n<=c->m=0->(Builtin.append_ #[t,u] ty #[.slice base n c,x']).run P w=.ok (.slice base n c) w
 nil:∀(ty:TypeId),0<m->(m:Int)<=9223372036854775807->m*i.bytes<=281474976710656->(Builtin.append_ #[t,u] ty #[.slice none 0 0,x']).run P w=.ok (.slice (some ⟨w.heap.size,0,none⟩) m (grownCap w m 0 e)) (w.drew.alloc (.cells (cs.toArray++Builtin.zeroCells zv.cells (grownCap w m 0 e-m)) e))
 room:∀(ty:TypeId) (g n cc:Nat) (cur:LM) (fz:Nat×Nat),w.heap[g]?=some (.cells cur e fz)->fH P e fz cur.size->0<m->n+m<=cc->n*i.size+cs.length<=cur.size->(Builtin.append_ #[t,u] ty #[.slice (some ⟨g,0,none⟩) n cc,x']).run P w=.ok (.slice (some ⟨g,0,none⟩) (n+m) cc) (w.setRow g (cur.toList.take (n*i.size)++cs++cur.toList.drop (n*i.size+cs.length)).toArray)
 grow:∀(ty:TypeId) (b:Addr) (n cc:Nat) (olds:LE),olds.length=n*i.size->(∀j u,olds[j]?=some u->w.cell? (b.add j)=some u)->0<m->cc<n+m->((n+m:Nat):Int)<=9223372036854775807->Builtin.nextslicecap (n+m) cc*i.bytes<=281474976710656->(Builtin.append_ #[t,u] ty #[.slice (some b) n cc,x']).run P w=.ok (.slice (some ⟨w.heap.size,0,none⟩) (n+m) (grownCap w (n+m) cc e)) (w.drew.alloc (.cells (olds.toArray++cs.toArray++Builtin.zeroCells zv.cells (grownCap w (n+m) cc e-(n+m))) e))
variable {a:Act}{by_ esz:Nat}{i:TypeInfo}{o:Oper}{s':Value}{ty u:TypeId}{zv:Value}
theorem dM.slice(ht:P.underlying t=some (.slice e))(hi:P.info? e=some i)(hz:i.zero=some zv)(h0:0<i.size){A:Option Addr}{c:Nat}(hcl:cs.length=m*i.size)(hone:∀u∈cs,u.oneCell'=true)(hmem:m≠0->∃a,A=some a/\∀(j:Nat) v,cs[j]?=some v->w.cell? (a.add j)=some v):dM P w t t e i zv (.slice A m c) m cs:=by
 refine⟨fun ty C n f q d=>?_,fun ty d h1 h2=>?_,fun ty g n f cur r s l d x D=>?_,fun ty b n f k y o d B h1 h2=>?_⟩
 .exact Xs ht (z:=i.size) (by simp[ug,hi];omega) q d
 .obtain⟨a,rfl,ha⟩:=hmem zo;exact run_append_nil (P:=P) w t ty e i zv ht hi hz a m c cs hcl ha d h1 h2
 .obtain⟨a,rfl,ha⟩:=hmem zo;have p:=run_firstCells_some (P:=P) w i.size m a m c cs hcl ha;have h:=BE (P:=P) g (n*i.size) e r cs 0 cur w s l (by omega) hone;simp only[zBA9]at h;simp[Builtin.append_,run_underlying ht,sizeOf,typeInfo,hi,Builtin.lenOf,x,p,gi,h]
 .obtain⟨a,rfl,ha⟩:=hmem zo;exact run_append_grow (P:=P) w t ty e i zv ht hi hz b n f k y o a m c cs hcl ha B h1 h2
theorem dM.zeros{kn kq:IntKind}(ht:P.underlying t=some (.slice e))(hu:P.underlying u=some (.int kn))(hi:P.info? e=some i)(hz:i.zero=some zv)(h0:0<i.size)(hzs:zv.cells.size=i.size)(hone:∀u∈zv.cells.toList,u.oneCell'=true)(ye:m<=1000000)(yz:m*i.bytes<=281474976710656):dM P w t u e i zv (.int kq (.ofNat m)) m (Builtin.zeroCells zv.cells m).toList:=by
 have y:IntKind.i64.wrap (m:Int)=m:=by simp[IntKind.wrap,IntKind.bits,IntKind.signed];omega
 have h:¬((m:Int)<0):=zo;have k:¬(281474976710656<(m:Int)*(i.bytes:Int)):=by rw[<- zDZ9];omega
 refine⟨fun ty l n c z a=>?_,fun ty a h1 h2=>?_,fun ty g n c cur A B o a C K=>?_,fun ty b n c d D p a G h1 h2=>?_⟩
 .subst a;have q:IntKind.i64.wrap 0=0:=by decide
  cases l<;>simp[Builtin.append_,run_underlying ht,run_underlying hu,sizeOf,typeInfo,hi,asInt,asIntOf,q,z,storeCells]
 .have:=Lib.run_append_nil_zeros (P:=P) w t u ty e i zv kq kn ht hu hi hz m a h0 h1 h2;omega
 .have f:=BE (P:=P) g (n*i.size) e A (Builtin.zeroCells zv.cells m).toList 0 cur w B o (by omega) (fun v I=>by
   obtain⟨j,J,rfl⟩:=ZP.1 I;simp only[Builtin.zeroCells,zCP9,List.getElem_map];refine hone _ ?_;have r:(Array.range (m*zv.cells.size)).toList[j]'(by simpa[Builtin.zeroCells]using J)=j:=by simp
   rw[r];have:j%zv.cells.size<zv.cells.size:=zDB9 _ zo
   grind)
  simp only[zBA9]at f;have s:¬(m*i.size=0):=Nat.mul_ne_zero zo zo;simp[Builtin.append_,run_underlying ht,run_underlying hu,sizeOf,typeInfo,zeroValue,hi,hz,asInt,asIntOf,y,h,k,s,C,gi,f]
 .have x:=run_firstCells_some (P:=P) w.drew i.size n b n c d D (by simpa using p);have:=Lib.run_append_grow_zeros (P:=P) w t u ty e i zv kq kn ht hu hi hz (some b) n c d x m a h0 G h1 yz h2;omega
theorem Gg(k:WR P Z ρ h w)(hZ:Z<=w.heap.size)(hi:P.info? e=some i)(hisz:i.size=esz)(hn0:0<esz)(hib:i.bytes=by_)(hzvs:zv.cells.size=esz){s:TV}(hsr:VR ρ s s'){news:LK}(hAS:dM P w t u e i zv x' m cs)(hcs:VL ρ news cs)(hcl:cs.length=m*esz)(hone:∀y∈news,y.one=true)(ha:mS h e esz by_ s m news=some (.ok v h')):∃v' w' ρ',(Builtin.append_ #[t,u] ty #[s',x']).run P w=.ok v' w'/\zh.le h.next ρ ρ'/\WR P Z ρ' h' w'/\Below Z w w'/\VR ρ' v v'/\h.next<=h'.next:=by
 have av:cs.length=m*i.size:=by rw[hcl,hisz]
 have ab:news.length=m*esz:=by rw[hcs.1,hcl]
 unfold mS at ha
 cases s<;>simp only at ha<;>first|(cases ha;done)|skip
 case nilsl =>
  cases hsr
  cases xB:Nat.beq m 0<;>rw[xB]at ha
  ·-- a new block
   have c4:m≠0:=fun e=>by subst e;simp at xB
   simp only[cond_false]at ha;unfold ov at ha;obtain⟨Y,ha⟩:=vt ha
   cases ha
   have Y:=Zy Y;rw[zEG9]at Y;have hr:=hAS.nil ty zo zo (by rw[hib];omega);have cb:=grownCap_ge w m 0 e;have bs:=grownCap_le_maxLen w m 0 e (by simp only[maxLen];omega);have ah:∀g,ρ h.next g=none:=fun g=>by
    cases hg:ρ h.next g with
    | none=>rfl
    | some loc=>have:=(k.dom _ _ _ hg).1;omega
   have a6:(cs.toArray++Builtin.zeroCells zv.cells (grownCap w m 0 e-m)).size=grownCap w m 0 e*esz:=by
    simp only[zCK9,zBZ9,size_zeroCells,hzvs,av,hisz,<- zAR9]
    grind
   have dd:=lY (k.drew.push (uL e news)) (b:=h.next) ah (by rw[TH.nP];omega) (by exact hZ) (by rw[TH.gP,if_pos rfl]) (cs:=cs.toArray++Builtin.zeroCells zv.cells (grownCap w m 0 e-m)) (by rw[a6,ab];exact zAD9 _ cb) (fun j x y hx hy=>by
    have p:j<cs.length:=by rw[<- hcs.1];exact(Zh.1 hx).1
    rw[zDD9 (by simpa using p)]at hy;exact hcs.2 j x y hx (by simpa using hy)) hone
   refine⟨_,_,_,hr,⟨zh.add_more (ah 0),fun c hc hn g=>by rw[zh.add_ne zo];exact hn g⟩,dd,?_,?_,by rw[TH.nP];omega⟩
   .exact⟨rfl,rfl,rfl,by simp,fun j p=>Below.heap_alloc w.drew _ j (by show j<w.heap.size;omega)⟩
   .refine .sl (zh.aS _ _ _ _) zo zo ?_ (.inl rfl) (fun _=>?_) bs
    .show 0+2*m/2*esz<=news.length;have:2*m/2=m:=zo;rw[this,ab];omega
    .exact(ZT _).trans a6.symm
  .have bx:=Zk xB;simp only[cond_true]at ha
   cases ha
   exact⟨_,_,ρ,hAS.zero ty _ _ _ (Zi _) bx,zh.le.refl _ _,k,Below.refl _ _,.nilsl,Zi _⟩
 case sl b g o n q z =>
  cases xB:Nat.beq m 0<;>rw[xB]at ha
  .have c4:m≠0:=fun e=>by simp_all
   simp only[cond_false]at ha;obtain⟨ck,a1⟩:=vt ha;clear ha;obtain⟨bm,a2⟩:=vt a1;clear a1;obtain⟨cl,ha⟩:=vt a2;clear a2;have c5:=Zk ck;have ch:=Zk bm;have c6:=Zk cl;clear ck bm cl;have bm:=ch;clear ch;subst c5;subst c6
   split at ha
   .rename_i r hr0;unfold tb at ha
    split at ha
    .rename_i e' G M len cells;obtain⟨he,a1⟩:=vt ha;clear ha;obtain⟨hg,a2⟩:=vt a1;clear a1;obtain⟨U,cx⟩:=vt a2;clear a2;obtain⟨Y,ha⟩:=vt cx;clear cx
     cases ha
     have df:=Zk he;have dm:=Zk hg;have b6:=Zk U;have bw:=Zy Y;rw[zEG9]at bw;clear he hg U Y;have U:=b6;have Y:=bw;clear b6 bw;subst df;subst dm
     cases hsr with
     | sl C s1 s2 s3 s4 s5 s6 =>
      rename_i o' X loc;have dp:o'=0:=by rcases s4 with h|⟨_,_,h⟩;exact h;exact absurd rfl h
      subst dp;obtain⟨y,hy,hr⟩:=k.obj b g loc C;rw[hr0]at hy;cases hy
      obtain⟨ds,dx,b0⟩:=hr;obtain⟨V,cur,bo,⟨fz,a5,c0⟩,r1,r2,r3,r4,r5⟩:=b0 g ds (Zi _);rw[C]at bo;injection bo with bo;subst bo;have hS:=s5 bm;have c7:cur.size=X*esz:=by rw[r1 rfl,<- hS];omega
      have hL:loc.L=len:=r4 rfl;have ah:ρ b (g+1)=none:=by
       cases hq:ρ b (g+1)with
       | none=>rfl
       | some l=>grind
      have a3:∀f V,ρ b f=some V->Z<=V.r:=fun f V a4=>k.own a4 hr0 (fun cs h=>by cases h);have c1:=a3 g loc C;have c8:=(k.dom b g loc C).2.2
      by_cases b7:n+m<=X
      ·-- in place
       have ca:n*i.size+cs.length<=cur.size:=by rw[av,c7,hisz,<- zAR9];exact zAD9 _ b7
       have a7:=hAS.room ty loc.r n X cur fz a5 c0 zo b7 ca;have c2:=setRow_heap w loc.r cur (cur.toList.take (n*i.size)++cs++cur.toList.drop (n*i.size+cs.length)).toArray e fz a5;have a8:((cur.toList.take (n*i.size)++cs++cur.toList.drop (n*i.size+cs.length)).toArray).size=cur.size:=by simp;omega
       have a9:nK P _ loc.r _ e:=⟨fz,c2,c0.same a8⟩
       have bb:∀j,((cur.toList.take (n*i.size)++cs++cur.toList.drop (n*i.size+cs.length)).toArray)[j]?=if n*i.size<=j/\j<n*i.size+cs.length then cs[j-n*i.size]? else cur[j]?:=fun j=>by
        rw[List.getElem?_toArray,DQ _ _ _ _ (by omega),Z7 (xs:=cur)]
       have A:=zh.add_more (loc:=⟨loc.r,len+news.length,loc.S⟩) ah;refine⟨_,_,ρ.add b (g+1) ⟨loc.r,len+news.length,loc.S⟩,a7,⟨A,fun D B bp f=>?_⟩,?_,Gt c1 _,?_,Zi _⟩
       .have:D≠b:=fun e=>by grind
        rw[zh.add_ne this];exact bp f
       .refine k.change A (fun D B f=>zh.add_ne B f) C (by simp) (fun D f V B a4=>setRow_other w loc.r V.r _ (fun e=>B (k.sep D b f g V loc a4 C e zo))) ⟨by omega,fun f l d=>?_,fun f b2 dT=>?_⟩ (fun f l d=>?_) (fun f l d D ea c3 B a0 e=>?_)
        .rcases zh.add_inv d with⟨_,rfl,_⟩|d
         .omega
         grind
        .by_cases I:f=g+1
         .subst I;refine⟨_,_,zh.aS _ _ _ _,a9,fun _=>by rw[a8];exact r1 rfl,Zi _,by dsimp only;rw[a8,ab];rw[av,hisz]at ca;omega,fun _=>rfl,fun j p=>?_⟩;dsimp only at p;rw[bb,Tr.get_putL];have e1:len=n*i.size:=by rw[hisz,U]
          by_cases J:len<=j/\j<len+news.length
          .rw[if_pos J,if_pos (by rw[<- e1,<- hcs.1];exact J)];have K:j-len<news.length:=zo;have ad:j-n*i.size<cs.length:=by rw[<- e1,<- hcs.1];exact K
           rw[<- e1]at ad⊢;exact⟨_,_,Zg K,Zg ad,hone _ (ZV K),(hcs.2 (j-len) _ _ (Zg K) (Zg ad)).mono A⟩
          .rw[if_neg J,if_neg (by rw[<- e1,<- hcs.1];exact J)];obtain⟨x,u,N,O,Q,R⟩:=r5 j zo;exact⟨x,u,N,O,Q,R.mono A⟩
         .obtain⟨l,cu,p1,T,p3,p4,p5,p6,p7⟩:=b0 f b2 zo
          by_cases b3:l.r=loc.r
          .obtain⟨fz',T,_⟩:=T;rw[b3,a5]at T;injection T with T;cases T
           refine⟨l,_,A _ _ _ p1,by rw[b3];exact a9,fun h=>absurd h I,by omega,by rw[a8];exact p5,fun h=>absurd h I,fun j p=>?_⟩;obtain⟨x,u,N,O,Q,R⟩:=p7 j p;have e1:len=n*i.size:=by rw[hisz,U]
           exact⟨x,u,by rw[Tr.get_putL,if_neg zo];exact N,by rw[bb,if_neg zo];exact O,Q,R.mono A⟩
          .refine⟨l,cu,A _ _ _ p1,T.move (setRow_other w loc.r l.r _ b3),fun h=>absurd h I,by omega,p5,fun h=>absurd h I,fun j p=>?_⟩;obtain⟨x,u,N,O,Q,R⟩:=p7 j p;exact⟨x,u,by rw[Tr.get_putL,if_neg zo];exact N,O,Q,R.mono A⟩
        .rcases zh.add_inv d with⟨_,_,rfl⟩|d
         .exact⟨c1,by simpa using c8⟩
         .exact⟨a3 _ _ d,by have:=(k.dom _ _ _ d).2.2;simpa using this⟩
        .rcases zh.add_inv d with⟨_,_,rfl⟩|d
         .exact B (k.sep _ _ _ _ _ _ a0 C e.symm (by dsimp only at e;omega))
         .exact B (k.sep _ _ _ _ _ _ a0 d e.symm (by have:=a3 _ _ d;omega))
       .refine .sl (loc:=⟨loc.r,len+news.length,loc.S⟩) (zh.aS _ _ _ _) zo zo ?_ (.inl rfl) (fun _=>?_) s6
        .show 0+2*(n+m)/2*esz<=len+news.length;have:2*(n+m)/2=n+m:=zo;rw[this,ZT,zAR9,ab,U];exact Zi _
        .exact hS
      ·-- moved
       have b4:(cur.toList.take (n*esz)).length=n*i.size:=by grind
       have a7:=hAS.grow ty ⟨loc.r,0,none⟩ n X (cur.toList.take (n*esz)) b4 (fun j u p=>by
        rw[gi,ZT];have J:j<n*esz:=by have:=(Zh.1 p).1;simp at this;omega
        rw[ZY,if_pos J,Z7]at p;simp[World.cell?,a5,p]) zo zo zo (growslice_fits zo (by rw[hib];omega))
       have cb:=grownCap_ge w (n+m) X e;have bs:=grownCap_le_maxLen w (n+m) X e (by simp only[maxLen];omega);obtain⟨bl,b5⟩:∃bl,bl=(cur.toList.take (n*esz)).toArray++cs.toArray++Builtin.zeroCells zv.cells (grownCap w (n+m) X e-(n+m)):=⟨_,rfl⟩
       rw[<- b5]at a7;have a6:bl.size=grownCap w (n+m) X e*esz:=by
        rw[b5];simp only[zCK9,zBZ9,size_zeroCells,hzvs,av,b4,hisz,<- zAR9]
        grind
       have bb:∀j,j<len+news.length->bl[j]?=if j<len then cur[j]? else cs[j-len]?:=fun j p=>by
        rw[b5,zDD9 (by simp only[zCK9,zBZ9,b4,av,hisz];rw[U,<- ab];exact p)]
        grind
       have A:=zh.add_more (loc:=⟨w.heap.size,len+news.length,bl.size⟩) ah;have a9:nK P (w.drew.alloc (.cells bl e)) w.heap.size bl e:=.of (World.alloc_heap_new w.drew _);have b1:∀r,r<w.heap.size->(w.drew.alloc (.cells bl e)).heap[r]?=w.heap[r]?:=fun r hr=>Below.heap_alloc w.drew _ r hr;refine⟨_,_,ρ.add b (g+1) ⟨w.heap.size,len+news.length,bl.size⟩,a7,⟨A,fun D B bp f=>?_⟩,?_,?_,?_,Zi _⟩
       .have:D≠b:=fun e=>by subst e;rw[bp]at C;cases C
        rw[zh.add_ne this];exact bp f
       .refine k.change A (fun D B f=>zh.add_ne B f) C (by simp) (fun D f V B a4=>b1 _ (k.dom _ _ _ a4).2.2) ⟨by omega,fun f l d=>?_,fun f b2 dT=>?_⟩ (fun f l d=>?_) (fun f l d D ea c3 B a0 e=>?_)
        .rcases zh.add_inv d with⟨_,rfl,_⟩|d
         .exact Zi _
         .have:=dx _ _ d;omega
        .by_cases I:f=g+1
         .subst I;have eb:len+news.length<=bl.size:=by grind
          refine⟨_,_,zh.aS _ _ _ _,a9,fun _=>rfl,Zi _,eb,fun _=>rfl,fun j p=>?_⟩;dsimp only at p;rw[bb j p,Tr.get_putL]
          by_cases J:len<=j/\j<len+news.length
          .rw[if_pos J,if_neg zo];have K:j-len<news.length:=zo;have ad:j-len<cs.length:=by rw[<- hcs.1];exact K
           exact⟨_,_,Zg K,Zg ad,hone _ (ZV K),(hcs.2 (j-len) _ _ (Zg K) (Zg ad)).mono A⟩
          .rw[if_neg J,if_pos zo];obtain⟨x,u,N,O,Q,R⟩:=r5 j zo;exact⟨x,u,N,O,Q,R.mono A⟩
         .obtain⟨l,cu,p1,T,p3,p4,p5,p6,p7⟩:=b0 f b2 zo;refine⟨l,cu,A _ _ _ p1,T.move (b1 _ (k.dom _ _ _ p1).2.2),fun h=>absurd h I,by omega,p5,fun h=>absurd h I,fun j p=>?_⟩;obtain⟨x,u,N,O,Q,R⟩:=p7 j p;exact⟨x,u,by rw[Tr.get_putL,if_neg zo];exact N,O,Q,R.mono A⟩
        .rcases zh.add_inv d with⟨_,_,rfl⟩|d
         .exact⟨hZ,by simp⟩
         .exact⟨a3 _ _ d,by have:=(k.dom _ _ _ d).2.2;simp;omega⟩
        .rcases zh.add_inv d with⟨_,_,rfl⟩|d
         .have:=(k.dom _ _ _ a0).2.2;dsimp only at e;omega
         .exact B (k.sep _ _ _ _ _ _ a0 d e.symm (by have:=a3 _ _ d;omega))
       .exact⟨rfl,rfl,rfl,by simp,fun j p=>b1 j zo⟩
       .refine .sl (zh.aS _ _ _ _) zo zo ?_ (.inl rfl) (fun _=>?_) bs
        .show 0+2*(n+m)/2*esz<=len+news.length;have:2*(n+m)/2=n+m:=zo;rw[this,ZT,zAR9,ab,U];exact Zi _
        .exact(ZT _).trans a6.symm
    grind
   grind
  .have bx:=Zk xB;simp only[cond_true]at ha
   cases ha
   cases hsr with
   | sl C s1 s2 s3 s4 s5 s6=>exact⟨_,_,ρ,hAS.zero ty _ _ _ zo bx,zh.le.refl _ _,k,Below.refl _ _,.sl C s1 s2 s3 s4 s5 s6,Zi _⟩
theorem Ow(k:WR P Z ρ h w)(hZ:Z<=w.heap.size)(ht:P.underlying t=some (.slice e))(hs:ug P e=some esz)(hby:ee P e=some by_){zt:TV}(hzt:xX P e=some zt)(hzl:zt.cells.length=esz)(hv:VL ρ vs [s',x'])(ha:cM e esz by_ h vs=some (.ok v h')):∃v' w' ρ',(Builtin.append_ #[t,t] ty #[s',x']).run P w=.ok v' w'/\zh.le h.next ρ ρ'/\WR P Z ρ' h' w'/\Below Z w w'/\VR ρ' v v'/\h.next<=h'.next:=by
 obtain⟨z,i,hi,r⟩:=nA hs;obtain⟨L,g,B⟩:=CG hby;rw[hi]at g;cases g
 obtain⟨M,zv,l,C,a⟩:=B5 hzt;rw[hi]at l;cases l
 have a:=a ρ;have y:zv.cells.size=esz:=by
  obtain⟨I,_⟩:=a.cells (.inl (by grind));have:=I.1;rw[hzl]at this;simpa using this.symm
 unfold cM at ha
 split at ha
 .rename_i s x;obtain⟨D,G⟩:=hv.two rfl;unfold tc at ha
  split at ha
  .cases ha
  .rename_i news hnews;obtain⟨A,m,c,cs,rfl,J,b,n,d,f⟩:=Fb k G hnews (Zi _);rw[<- J]at ha n f;have q:∀u∈cs,u.oneCell'=true:=fun u K=>by
    obtain⟨j,p,rfl⟩:=ZP.1 K;have o:j<news.length:=by rw[b.1];exact p
    exact(b.2 j news[j] cs[j] (Zg o) (Zg p)).oneCell (d _ (ZV o))
   exact Gg k hZ hi r (zEI9 z) B y D (dM.slice ht hi C zo (by grind) q f) b n d ha
 grind
theorem Ox(k:WR P Z ρ h w)(hZ:Z<=w.heap.size)(ht:P.underlying t=some (.slice e))(hu:Dp P u=true)(hs:ug P e=some esz)(hby:ee P e=some by_){zt:TV}(hzt:xX P e=some zt)(hzl:zt.cells.length=esz)(hv:VL ρ vs [s',x'])(ha:dX e esz by_ zt.cells h vs=some (.ok v h')):∃v' w' ρ',(Builtin.append_ #[t,u] ty #[s',x']).run P w=.ok v' w'/\zh.le h.next ρ ρ'/\WR P Z ρ' h' w'/\Below Z w w'/\VR ρ' v v'/\h.next<=h'.next:=by
 obtain⟨r,hu⟩:∃r,P.underlying u=some (.int r):=by
  unfold Dp at hu
  grind
 obtain⟨A,i,hi,z⟩:=nA hs;obtain⟨I,n,B⟩:=CG hby;rw[hi]at n;cases n
 obtain⟨J,zv,o,C,a⟩:=B5 hzt;rw[hi]at o;cases o
 have a:=a ρ;have p:zt.cells ≠ []:=by intro e;rw[e]at hzl;simp at hzl;omega
 obtain⟨d,h1⟩:=a.cells (.inl p);have c:zv.cells.size=esz:=by have:=d.1;rw[hzl]at this;simpa using this.symm
 unfold dX at ha
 split at ha
 .rename_i s kq m;obtain⟨D,G⟩:=hv.two rfl;obtain⟨f,ha⟩:=vt ha;obtain⟨g,ha⟩:=vt ha;have f:=Zy f;have g:=Zy g;rw[zEG9]at g
  cases G
  refine Gg k hZ hi z (zEI9 A) B c D (dM.zeros ht hu hi C zo zo (fun y b=>?_) f (by grind)) ⟨?_,fun j x y l b=>?_⟩ ?_ (fun x l=>h1 x (By l)) ha
  .obtain⟨j,hj,rfl⟩:=ZP.1 b;have q:j<zt.cells.length:=by rw[d.1];exact hj
   exact(d.2 j zt.cells[j] _ (Zg q) (Zg hj)).oneCell (h1 _ (ZV q))
  .rw[lV];simp[Builtin.zeroCells,hzl,c]
  .rw[Z7]at b;exact Fy a p m m (Zi _) j x y l b
  .simp[Builtin.zeroCells,c]
 grind
theorem Of(k:WR P Z ρ h w){dT sT:TypeId}(ht:P.underlying dT=some (.slice e))(hs:ug P e=some esz){d':Value}(hv:VL ρ vs [d',x'])(ha:nQ esz h vs=some (.ok v h')):∃v' w',(Builtin.copy_ #[dT,sT] ty #[d',x']).run P w=.ok v' w'/\WR P Z ρ h' w'/\Below Z w w'/\VR ρ v v'/\h.next<=h'.next:=by
 unfold nQ at ha
 split at ha
 .rename_i d x;obtain⟨i,B⟩:=hv.two rfl;dsimp only at ha
  split at ha
  .cases ha
  .rename_i news hnews;obtain⟨A,m,c,cs,C,N,D,G,u,y⟩:=Fb k B hnews (Nat.min_le_left _ _);subst C
   split at ha
   .cases ha
    cases i
    refine⟨goInt 0,w,?_,k,Below.refl _ _,.int _ _,Zi _⟩
    cases A<;>simp[Builtin.copy_,run_underlying ht,Builtin.lenOf,Builtin.firstCells,yV hs,loadCells,loadCellsFrom]
   .rename_i b g o n q z
    cases i with
    | sl O U V X Y s5 s6 =>
     rename_i l cc loc;have f:Nat.min m n=min (lenV x) (lenV (.sl b g o n q z)):=by rw[N];rfl
     cases xB:Nat.beq (min (lenV x) (lenV (.sl b g o n q z))) 0<;>rw[xB]at ha
     .simp only[cond_false]at ha;have I:min (lenV x) (lenV (.sl b g o n q z))≠0:=fun e=>by simp_all
      obtain⟨p,j⟩:=vt ha;have J:=Zk p;clear ha p;subst J
      split at j
      .rename_i h2 hw
       cases j
       obtain⟨a,Q,t⟩:=y I;subst Q;have R:l=o:=by grind
       subst R;obtain⟨w',K,L,S,T⟩:=Ft k O D u hw;have r:=run_loadCells_list (P:=P) w a cs t;refine⟨.int .i64 (Int.ofNat (min (lenV x) (lenV (.sl b g l n q esz)))),w',?_,L,S,.int _ _,by omega⟩;rw[G,<- f]at r;rw[<- f];simp[Builtin.copy_,run_underlying ht,Builtin.lenOf,Builtin.firstCells,yV hs,r,K,goInt]
      grind
     .simp only[cond_true]at ha
      cases ha
      have s:=Zk xB;rw[<- f]at s;refine⟨goInt 0,w,?_,k,Below.refl _ _,.int _ _,Zi _⟩;have M:∀a:Addr,(storeCells a [] 0).run P w=.ok () w:=fun a=>by simp[storeCells]
      cases A<;>simp[Builtin.copy_,run_underlying ht,Builtin.lenOf,Builtin.firstCells,yV hs,s,loadCells,loadCellsFrom,M]
   grind
 grind
theorem sY(k:WR P Z ρ h w)(hZ:Z<=w.heap.size)(ho:xb P o.op=some (kd,args))(hc:kd.cls=2)(hn:kd ≠ .call/\kd ≠ .panic/\kd ≠ .defer)(ht:yX ρ tm a.tmps)(hv:kV tm args=some vs){C:ua}{ca:LD}(hp:act C ca kd vs h=some (.ok v h')):
  bI P Z ρ h h' w (execOp a.eval o) v:=by
 have key:∀{k0:zA} {g:AT},mk k0 g=some (kd,args)->kd=k0/\VL ρ vs (g.map a.eval):=fun J=>by
  obtain⟨h1,h2⟩:=eQ J;exact⟨h1,cX ht h2 hv⟩
 obtain⟨dst,op,ty,M,after,guard⟩:=o
 cases op with
 | makeFunc K first L=>cases K<;>simp only[xb]at ho<;>(repeat' (split at ho))<;>first|(cases ho;done)|(obtain⟨rfl,_⟩:=key ho;cases hc)
 | call c =>
  obtain⟨y,q,i⟩:=c
  cases y with
  | value f=>obtain⟨rfl,_⟩:=key ho;exact absurd rfl hn.1
  | invoke r m=>cases ho
  | builtin b =>
   simp only[xb]at ho
   split at ho
   .rename_i t u hts
    split at ho<;>first|(cases ho;done)|skip
    rename_i e s
    split at ho<;>first|(cases ho;done)|skip
    rename_i n by_ z x A D
    split at ho<;>first|(cases ho;done)|skip
    rename_i B
    split at ho
    .rename_i hut;subst hut;obtain⟨rfl,d⟩:=key ho;obtain⟨g⟩:=q;obtain⟨i⟩:=i;simp at hts;subst hts;have j:g.length=2:=by
      have h1:=d.1;change cM _ _ _ h vs=_ at hp;unfold cM at hp
      grind
     match g,j with
     | [G,I],_ =>
      obtain⟨v',w',ρ',h1,h2,h3,h4,l,p⟩:=Ow (ty:=ty) k hZ (oJ s) x A D B d hp;refine⟨_,v',w',ρ',?_,.inl rfl,h2,h3,h4,l,p⟩;simp only[execOp,fj];simpa[builtin]using ax h1
    .split at ho
     .rename_i hu;obtain⟨rfl,d⟩:=key ho;obtain⟨g⟩:=q;obtain⟨i⟩:=i;simp at hts;subst hts;have j:g.length=2:=by
       have h1:=d.1;change dX _ _ _ _ h vs=_ at hp;unfold dX at hp
       grind
      match g,j with
      | [G,I],_ =>
       obtain⟨v',w',ρ',h1,h2,h3,h4,l,p⟩:=Ox (ty:=ty) k hZ (oJ s) hu x A D B d hp;refine⟨_,v',w',ρ',?_,.inl rfl,h2,h3,h4,l,p⟩;simp only[execOp,fj];simpa[builtin]using ax h1
     .cases ho
   .rename_i t u hts
    split at ho<;>first|(cases ho;done)|skip
    rename_i e s
    split at ho<;>first|(cases ho;done)|skip
    rename_i n x;obtain⟨rfl,d⟩:=key ho;obtain⟨g⟩:=q;obtain⟨i⟩:=i;simp at hts;subst hts;have j:g.length=2:=by
     have h1:=d.1;change nQ _ h vs=_ at hp;unfold nQ at hp
     grind
    match g,j with
    | [G,I],_ =>
     obtain⟨v',w',h1,h3,h4,l,p⟩:=Of (ty:=ty) (sT:=u) k (oJ s) x d hp;refine⟨_,v',w',ρ,?_,.inl rfl,zh.le.refl _ _,h3,h4,l,p⟩;simp only[execOp,fj];simpa[builtin]using ax h1
   all_goals (repeat' (split at ho))<;>first|(cases ho;done)|(obtain⟨rfl,_⟩:=key ho;first|(cases hc;done)|exact absurd rfl hn.2.1)
 | defer c =>
  obtain⟨y,q,i⟩:=c
  cases y<;>first|(cases ho;done)|(obtain⟨rfl,_⟩:=key ho;exact absurd rfl hn.2.2)
 | _=>first|(cases ho;done)|(simp only[xb]at ho;(repeat' (split at ho))<;>first|(cases ho;done)|(obtain⟨rfl,d⟩:=key ho;first|(cases hc;done)|exact absurd rfl hn.2.1|(obtain⟨rfl,h1⟩:=F4 k ‹_› ‹_› (.inl ⟨rfl,_,rfl⟩) d hp;exact h1)|(obtain⟨rfl,h1⟩:=F4 k ‹_› ‹_› (.inr ⟨rfl,rfl⟩) d hp;exact h1)|(obtain⟨rfl,h1⟩:=Oh k ‹_› d hp;exact h1)|exact F3 k ‹_› ‹_› (.inl ⟨rfl,_,rfl⟩) ‹_› d hp|exact F3 k ‹_› ‹_› (.inr ⟨rfl,rfl⟩) ‹_› d hp|(obtain⟨rfl,h1⟩:=Og k d hp;exact h1)))
theorem Ag(k:WR P Z ρ h w){b:Nat}(hnone:∀g,ρ b g=none)(hb:b<h.next)(hZ:Z<=w.heap.size)(ho:xb P o.op=some (kd,args))(hc:kd.cls=1)(ht:yX ρ tm a.tmps)(hv:kV tm args=some vs){x:yH}(hp:lay kd vs b=some x)(hx:h.get b=some x.o):
  bJ P Z ρ h w b (execOp a.eval o) x.v:=by
 have key:∀{k0:zA} {xs:AT},mk k0 xs=some (kd,args)->kd=k0/\VL ρ vs (xs.map a.eval):=fun i=>by
  obtain⟨h1,h2⟩:=eQ i;exact⟨h1,cX ht h2 hv⟩
 obtain⟨dst,op,ty,n,after,guard⟩:=o
 cases op with
 | makeFunc j first m=>cases j<;>simp only[xb]at ho<;>(repeat' (split at ho))<;>first|(cases ho;done)|(obtain⟨rfl,_⟩:=key ho;cases hc)
 | defer c =>
  obtain⟨e,f,l⟩:=c
  cases e<;>first|(cases ho;done)|(obtain⟨rfl,_⟩:=key ho;cases hc)
 | call c =>
  obtain⟨e,f,l⟩:=c
  cases e<;>first|(cases ho;done)|(obtain⟨rfl,_⟩:=key ho;cases hc;done)|(simp only[xb]at ho;(repeat' (split at ho))<;>first|(cases ho;done)|(obtain⟨rfl,_⟩:=key ho;cases hc))
 | _=>first|(cases ho;done)|(simp only[xb]at ho;(repeat' (split at ho))<;>first|(cases ho;done)|(obtain⟨rfl,d⟩:=key ho;first|(cases hc;done)|exact Td k hnone hb hZ ‹_› ‹_› ‹_› hp hx|exact Te k hnone hb hZ ‹_› d hp hx|exact Tf k hnone hb hZ (oJ ‹_›) ‹_› ‹_› ‹_› d hp hx|exact Tg k hnone hb hZ (oJ ‹_›) ‹_› ‹_› ‹_› ‹_› d hp hx|exact I2 k hnone hb hZ ‹_› (r:=none) d hp hx|exact I2 k hnone hb hZ ‹_› (r:=some _) d hp hx|exact Th k hnone hb hZ ‹_› ‹_› ‹_› d hp hx))
def Fr(r:LA):Fence:={ Fence.wide with round:=r }
variable {R:Ending->World->Prop}{r:LA}
theorem Pw{f:FuncId}{args:LM}:CallsIn (Fr r) n P f args w R↔CallsIn (Fr none) n P f args w R:=Iff.rfl
theorem Xp{l f:Nat}{tmps:LM}{assign body:Code}:RoundIn (Fr r) n P l f tmps assign body w R↔RoundIn (Fr none) n P l f tmps assign body w R:=Iff.rfl
def kR(P:Program)(Z:Nat)(ρ:zh)(h h':TH)(w:World)(r:TE)(e:Ending)(w':World):Prop :=
 ∃ρ',zh.le h.next ρ ρ'/\WR P Z ρ' h' w'/\Below Z w w'/\h.next<=h'.next/\match r with
  | .ret v=>∃v',e=.returned v'/\VR ρ' v v'
  | .panic v=>∃v',e=.panicked [{ v:=v',recovered:=false }]/\VR ρ' v v'
def gf(P:Program)(C:ua):Prop:=∀f args h r h',C.fn f args h=some (r,h')->∀(Z:Nat) ρ w (args':LE),WR P Z ρ h w->Z<=w.heap.size->VL ρ args args' ->
 (∀w,(callFunc f args'.toArray).run P w=.ok (.enter f args'.toArray) w)/\CallsIn (Fr none) 0 P f args'.toArray w (kR P Z ρ h h' w r)
def nJ(P:Program)(C:ua):Prop:=∀l args h b h',C.rd l args h=some (b,h')->∀(Z:Nat) ρ w (args':LE) loc,WR P Z ρ h w->Z<=w.heap.size->ρ l 0=some loc->VL ρ args args' ->
 ∃fn tmps assign body,(Instr.yield loc.r args'.toArray).run P w=.ok (.round loc.r fn tmps assign body) w/\RoundIn (Fr none) 0 P loc.r fn tmps assign body w (kR P Z ρ h h' w (.ret (.bool b)))
inductive pI(ρ:zh)(ca:LD):LZ->List Deferred->Prop
 | nil:pI ρ ca [] []
 | mark {b:Nat} {loc:yP} {l:LZ} {ds:List Deferred} (h:ρ b 0=some loc) (hl:pI ρ ca l ds):pI ρ ca (.mark b::l) ({ target:=.collected loc.r,args:=#[] }::ds)
 | caught {f:Nat} {p c:TV} {p' c':Value} {l:LZ} {ds:List Deferred} (h:ca.get f=some ()) (hp:VR ρ p p') (hc:VR ρ c c') (hl:pI ρ ca l ds):pI ρ ca (.caught p c::l) ({ target:=.fn (.func f) #[],args:=#[p',c'] }::ds)
theorem pI.mono{ca:LD}(hρ:∀b g loc,ρ b g=some loc->ρ' b g=some loc){l:LZ}{ds:List Deferred}(k:pI ρ ca l ds):pI ρ' ca l ds:=by
 induction k with
 | nil=>exact .nil
 | mark h _ a=>exact .mark (hρ _ _ _ h) a
 | caught h c d _ a=>exact .caught h (c.mono hρ) (d.mono hρ) a
structure yx(P:Program)(Z:Nat)(ρ:zh)(N:Nat)(ca:LD)(s:St)(a:Act)(w:World):Prop where
 wr:WR P Z ρ s.h w
 tm:yX ρ s.tm a.tmps
 sz:N<=a.tmps.size
 df:pI ρ ca s.df a.defers
 hZ:Z<=w.heap.size
variable (s:St)(d:LA)
theorem yX.put{tm:LL}(k:yX ρ tm a.tmps){d:LA}(hv:VR ρ v v')(hd:∀t,d=some t->t<a.tmps.size):yX ρ (match d with|none=>tm|some d=>tm.set d (some v)) (a.put d v').tmps:=by
 cases d with
 | none=>exact k
 | some d =>
  intro t u b;have f:=hd d rfl;simp only[Tr.get_set]at b;simp only[Act.put]
  by_cases c:t=d
  .subst c;rw[if_pos rfl]at b;injection b with b;subst b;exact⟨v',by simp[f],hv⟩
  .rw[if_neg c]at b;obtain⟨g,h1,h2⟩:=k t u b;exact⟨g,by rw[zDX9 (fun e=>c e.symm)];exact h1,h2⟩
theorem Ex(a:Act)(d:LA)(v:Value):(a.put d v).tmps.size=a.tmps.size:=by cases d<;>simp[Act.put]
theorem Eu(a:Act)(d:LA)(v:Value):(a.put d v).defers=a.defers:=by cases d<;>rfl
theorem St.put_df(v:TV):(s.put d v).df=s.df:=by cases d<;>rfl
theorem St.put_h(v:TV):(s.put d v).h=s.h:=by cases d<;>rfl
theorem yx.put{N:Nat}{ca:LD}{s:St}(k:yx P Z ρ N ca s a w){d:LA}(hv:VR ρ v v')(hd:∀t,d=some t->t<N):yx P Z ρ N ca (s.put d v) (a.put d v') w :=
 ⟨by rw[St.put_h];exact k.wr,by have:=k.tm.put (d:=d) hv (fun t b=>ZR (hd t b) k.sz);cases d<;>exact this,by rw[Ex];exact k.sz,by rw[St.put_df,Eu];exact k.df,k.hZ⟩
structure aD(P:Program)(N:Nat)(ops:LX)(o:Oper)(t:vB):Prop where
 op:xb P o.op=some (t.kind,t.args)
 dst:t.dst=o.dst
 lt:∀d,t.dst=some d->d<N
 guard:(o.guard=none/\t.guard=none)\/∃j b d,o.guard=some (j,b)/\(ops[j]?).bind (·.dst)=some d/\t.guard=some (.tmp d,b)
variable {b:Bool}{ops:LX}{t:vB}
theorem Km{N:Nat}(ht:lJ P N ops o=some t):aD P N ops o t:=by
 unfold lJ at ht
 split at ht
 .cases ht
 .rename_i hb;have a:∀d,o.dst=some d->d<N:=fun d c=>by grind
  split at ht
  .cases ht
  .rename_i kd args hk
   split at ht
   .rename_i hg;injection ht with ht;subst ht;exact⟨hk,rfl,a,.inl ⟨hg,rfl⟩⟩
   .rename_i j b hg
    split at ht
    .rename_i d c;injection ht with ht;subst ht;exact⟨hk,rfl,a,.inr ⟨j,b,d,hg,c,rfl⟩⟩
    .cases ht
def CD:AJ->LS
 | some (.bool b)=>some b
 | _=>none
theorem Zc(ops:LX)(tmps:LM)(j:Nat):yielded ops tmps j=CD (((ops[j]?).bind (·.dst)).bind (tmps[·]?)):=by
 unfold yielded CD
 grind
theorem YV{x:LC}{c:Bool}(hw:bD c x=some b){y:AJ}(hxy:∀v,x=some v->∃v',y=some v'/\VR ρ v v'):(CD y==some c)=b:=by
 unfold bD at hw
 split at hw
 .rename_i u;injection hw with hw;subst hw;obtain⟨v',a,d⟩:=hxy _ rfl
  cases d
  rw[a]
  cases c<;>cases u<;>rfl
 .rename_i v hv;injection hw with hw;subst hw;obtain⟨v',a,d⟩:=hxy _ rfl;rw[a]
  cases d<;>first|rfl|(exact absurd rfl (hv _))
 .cases hw
theorem bE{N:Nat}(k:aD P N ops o t){tm:LL}{tmps:LM}(ht:yX ρ tm tmps)(hw:fA tm t.guard=some b):Region.wanted o (yielded ops tmps)=b:=by
 rcases k.guard with⟨h1,h2⟩|⟨j,c,d,h1,h2,h3⟩
 .rw[h2]at hw;injection hw with hw;subst hw;simp[Region.wanted,h1]
 .rw[h3]at hw;simp only[fA,mX]at hw;simp only[Region.wanted,h1];have:=YV (ρ:=ρ) hw (y:=tmps[d]?) (fun v a=>ht d v a);rw[Zc,h2];exact this
def cJ(P:Program)(Z:Nat)(ρ:zh)(N:Nat)(ca:LD)(h0:TH)(w0:World)(r:TS)(e:Exit)(a':Act)(w':World):Prop :=
 ∃ρ',zh.le h0.next ρ ρ'/\Below Z w0 w'/\match r with
  | .go s=>h0.next<=s.h.next/\e=.normal/\yx P Z ρ' N ca s a' w'
  | .panic v s=>h0.next<=s.h.next/\∃v',e=.panic [{ v:=v',recovered:=false }]/\VR ρ' v v'/\yx P Z ρ' N ca s a' w'
variable {C:ua}{K:Act->World->Prop}{N:Nat}{Q:Exit->Act->World->Prop}{ca:LD}{r:TS}{s:St}
theorem fC{r:LA}(hd:∀c,o.op=.defer c->r=none)(h1:o.uponIn (Fr r) 0 P a K Q ((execOp a.eval o).run P w)):o.wpIn (Fr r) 0 P a w K Q:=by
 refine⟨fun _ _=>trivial,?_⟩;have:o.semAt (Fr r).round a.eval=execOp a.eval o:=by
  unfold Oper.semAt
  split
  .rename_i l c hr ho;have:=hd c ho;simp[Fr,this]at hr
  .rfl
 grind
inductive oj(args:List vQ):zA->Op->Prop
 | call {f:Operand} {xs:AG} {ts:Array TypeId} (hm:yf kZ (f::xs.toList)=some args):oj args .call (.call { callee:=.value f,args:=xs,argTypes:=ts })
 | panic {x:Operand} (hm:yf kZ [x]=some args):oj args .panic (.panic x)
 | panicB {x:Operand} {ts:Array TypeId} (hm:yf kZ [x]=some args):oj args .panic (.call { callee:=.builtin .panic,args:=#[x],argTypes:=ts })
 | defer {f:Operand} {xs:AG} {ts:Array TypeId} (hm:yf kZ (f::xs.toList)=some args):oj args .defer (.defer { callee:=.value f,args:=xs,argTypes:=ts })
theorem Eb{op:Op}{args:List vQ}(ho:xb P op=some (kd,args))(hk:kd=.call\/kd=.panic\/kd=.defer):oj args kd op:=by
 have key:∀{k0:zA} {d:AT},mk k0 d=some (kd,args)->kd=k0/\yf kZ d=some args:=fun a=>eQ a;have e:∀{α:Prop} {k0:zA} {d:AT},mk k0 d=some (kd,args)->k0 ≠ .call/\k0 ≠ .panic/\k0 ≠ .defer->α:=fun a h1=>by grind
 cases op with
 | makeFunc j first l=>cases j<;>simp only[xb]at ho<;>(repeat' (split at ho))<;>first|(cases ho;done)|exact e ho (by simp)
 | call c =>
  obtain⟨g,h,k⟩:=c
  cases g with
  | value f=>obtain⟨rfl,a⟩:=key ho;exact .call a
  | invoke r m=>cases ho
  | builtin b =>
   simp only[xb]at ho;(repeat' (split at ho))<;>first|(cases ho;done)|(refine e ho ?_;simp;done)|skip
   rename_i i;obtain⟨rfl,a⟩:=key ho;obtain⟨d⟩:=h
   match d,i with
   | [x],_=>exact .panicB a
 | defer c =>
  obtain⟨g,h,k⟩:=c
  cases g<;>first|(cases ho;done)|(obtain⟨rfl,a⟩:=key ho;exact .defer a)
 | panic x=>obtain⟨rfl,a⟩:=key ho;exact .panic a
 | _=>first|(cases ho;done)|exact e ho (by simp)|(simp only[xb]at ho;(repeat' (split at ho))<;>first|(cases ho;done)|exact e ho (by simp))
theorem F9(hn:kd ≠ .call/\kd ≠ .panic/\kd ≠ .defer){r:TR}(ha:act C ca kd vs h=some r):∃v h',r=.ok v h':=by
 have c:∀{b:Bool} {x y:LY},(bif b then x else y)=some r->x=some r\/y=some r:=fun{b} _ _ e=>by grind
 have fin:∀{v h'} {r:TR},some (TR.ok v h')=some r->∃v h',r=.ok v h':=fun e=>by grind
 have d:∀{e esz by_ m:Nat} {s:TV} {news:LK},mS h e esz by_ s m news=some r->∃v h',r=.ok v h':=fun ha=>by
  unfold mS at ha
  split at ha
  .rcases c ha with ha|ha
   .grind
   .simp only[ov]at ha
    grind
  .rcases c ha with ha|ha
   .grind
   .obtain⟨_,ha1⟩:=vt ha;obtain⟨_,a⟩:=vt ha1;obtain⟨_,f⟩:=vt a
    split at f
    .unfold tb at f
     grind
    grind
  grind
 cases kd<;>simp only[act]at ha<;>first|(cases ha;done)|(exact absurd rfl hn.1)|(exact absurd rfl hn.2.1)|(exact absurd rfl hn.2.2)|skip
 case store n =>
  unfold cN at ha
  split at ha
  .obtain⟨_,ha1⟩:=vt ha;obtain⟨_,a⟩:=vt ha1
   split at a
   .exact fin a
   .cases a
  .cases ha
 case mupd kf =>
  unfold aH at ha
  split at ha
  .obtain⟨_,ha1⟩:=vt ha
   split at ha1
   .unfold ry at ha1
    split at ha1
    .split at ha1
     .cases ha1
     .exact fin ha1
     .exact fin ha1
    .cases ha1
   .cases ha1
  .cases ha
 case ment kf z =>
  unfold sW at ha
  split at ha
  .obtain⟨_,ha1⟩:=vt ha
   split at ha1
   .unfold DO at ha1
    split at ha1
    .split at ha1
     .cases ha1
     .exact fin ha1
     .exact fin ha1
    .cases ha1
   .cases ha1
  .cases ha
 case estore =>
  unfold sV at ha
  split at ha
  .split at ha
   .split at ha
    .unfold CZ at ha
     split at ha
     .split at ha
      .cases ha
      .exact fin ha
     .cases ha
    .cases ha
   .cases ha
  .cases ha
 case append e n b =>
  unfold cM at ha
  split at ha
  .unfold tc at ha
   split at ha
   .cases ha
   .exact d ha
  .cases ha
 case appz e n b z =>
  unfold dX at ha
  split at ha
  .obtain⟨_,ha1⟩:=vt ha;obtain⟨_,a⟩:=vt ha1;exact d a
  .cases ha
 case copy n =>
  unfold nQ at ha
  split at ha
  .dsimp only at ha
   split at ha
   .cases ha
   .split at ha
    .exact fin ha
    .rcases c ha with ha|ha
     .exact fin ha
     .obtain⟨_,ha1⟩:=vt ha
      split at ha1
      .exact fin ha1
      .cases ha1
    .cases ha
  .cases ha
theorem Hf{k:zA}(h0:k.cls≠0)(h1:k.cls≠1):k.cls=2:=by cases k<;>simp[zA.cls]at h0 h1⊢
theorem YS{r:LA}{f:FuncId}{args:LM}(h:CallsIn (Fr none) 0 P f args w fun
  | .returned v,w''=>K (a.put o.dst v) w''
  | .panicked chain,w''=>Q (.panic chain) a w''
  | .outgrown,_=>LetsOut Q):o.uponIn (Fr r) 0 P a K Q (.ok (.enter f args) w):=⟨fun h=>by simp[Fr,Fence.wide]at h,h⟩
theorem yx.world(k:yx P Z ρ N ca s a w){n:Nat}(hle:zh.le n ρ ρ')(hw:WR P Z ρ' h' w')(hb:Below Z w w'):yx P Z ρ' N ca ⟨s.tm,s.df,h'⟩ a w' :=
 ⟨hw,k.tm.mono hle.more,k.sz,k.df.mono hle.more,Z0 k.hZ hb.size⟩
theorem KB{rnd:LA}(k:WR P Z ρ h w)(ktm:yX ρ tm a.tmps)(ko:aD P N ops o t)(hv:kV tm t.args=some vs)(h0:t.kind.cls=0){v:TV}(hp:yb t.kind vs h=some v)(hK:∀v',VR ρ v v'->K (a.put o.dst v') w):o.wpIn (Fr rnd) 0 P a w K Q:=by
 obtain⟨v',h1,h2⟩:=Bm k ko.op h0 ktm hv hp;refine fC (fun c f=>?_) ?_
 .exfalso
  have b:=ko.op;rw[f]at b;obtain⟨d,g,i⟩:=c
  cases d<;>first|(cases b;done)|(obtain⟨e,_⟩:=eQ b;rw[e]at h0;cases h0)
 .rw[h1,Oper.uponIn_value]
  grind
theorem Jb{rnd:LA}(k:WR P Z ρ h w)(hZ:Z<=w.heap.size)(ktm:yX ρ tm a.tmps)(ko:aD P N ops o t)(hv:kV tm t.args=some vs)(h1:t.kind.cls=1){b:Nat}(hnone:∀g,ρ b g=none)(hb:b<h.next){x:yH}(hp:lay t.kind vs b=some x)(hx:h.get b=some x.o)(hK:∀v' w1 L S,WR P Z (ρ.add b 0 ⟨w.heap.size,L,S⟩) h w1->VR (ρ.add b 0 ⟨w.heap.size,L,S⟩) x.v v'->Below Z w w1->K (a.put o.dst v') w1):o.wpIn (Fr rnd) 0 P a w K Q:=by
 obtain⟨v',w1,L,S,i,l,m,n⟩:=Ag k hnone hb hZ ko.op h1 ktm hv hp hx;refine fC (fun c j=>?_) ?_
 .exfalso
  have d:=ko.op;rw[j]at d;obtain⟨f,p,q⟩:=c
  cases f<;>first|(cases d;done)|(obtain⟨e,_⟩:=eQ d;rw[e]at h1;cases h1)
 .rw[i,Oper.uponIn_value]
  grind
theorem Ga(hC:gf P C)(hR:nJ P C){rnd:LA}(hrnd:rnd=none\/∀f,ca.get f=none){df:LZ}(k:WR P Z ρ h w)(hZ:Z<=w.heap.size)(ktm:yX ρ tm a.tmps)(kdf:pI ρ ca df a.defers)(ko:aD P N ops o t)(hv:kV tm t.args=some vs)(h2:t.kind.cls=2){r:TR}(hd:act C ca t.kind vs h=some r)(hOk:∀v h',r=.ok v h'->∀v' w' ρ',zh.le h.next ρ ρ'->WR P Z ρ' h' w'->Below Z w w'->VR ρ' v v'->h.next<=h'.next->K (a.put o.dst v') w')(hPan:∀v h',r=.panic v h'->∀v' w' ρ',zh.le h.next ρ ρ'->WR P Z ρ' h' w'->Below Z w w'->VR ρ' v v'->h.next<=h'.next->Q (.panic [{ v:=v',recovered:=false }]) a w')(hDfr:∀d,r=.dfr d->∀d',pI ρ ca (d::df) (d'::a.defers)->K ({ a with defers:=d'::a.defers }.put o.dst undef) w):o.wpIn (Fr rnd) 0 P a w K Q:=by
 by_cases L:t.kind=.call
 ·-- a call
  have j:=Eb ko.op (.inl L);rw[L]at j hd;generalize G:o.op=op at j
  cases j with
  | call i =>
   rename_i f m ts;have q:=cX ktm i hv;simp only[Z3]at q;simp only[act]at hd;unfold fN at hd
   split at hd
   .rename_i g cap args;obtain⟨f',av,I,z,s⟩:=q.oc
    cases I
    generalize R:a.eval f=fv at z
    cases z with
    | fn ab a0 =>
     rename_i A
     cases B:C.fn g (args++cap) h with
     | none=>rw[B]at hd;cases hd
     | some ad =>
      obtain⟨te,h'⟩:=ad;rw[B]at hd;obtain⟨a5,a2⟩:=hC g _ _ te h' B Z ρ w (m.toList.map a.eval++A) k hZ (s.app ⟨ab,a0⟩);have D:(execOp a.eval o).run P w=.ok (.enter g (m.toList.map a.eval++A).toArray) w:=by
       have J:m.map a.eval++A.toArray=(m.toList.map a.eval++A).toArray:=by grind
       simp only[execOp,G,resolve,R,Deferred.ofValue,Sem.run_bind,Sem.run_pure,Result.andThen_ok,invoke,Array.empty_append,J];exact a5 w
      refine fC (fun c y=>by grind) ?_;rw[D];refine YS (a2.mono ?_);rintro e w' ⟨ρ',T,U,V,X,he⟩
      cases te with
      | ret v =>
       obtain⟨v',rfl,S⟩:=he;simp only[ib]at hd
       cases hd
       exact hOk v h' rfl v' w' ρ' T U V S X
      | panic v =>
       obtain⟨v',rfl,S⟩:=he;simp only[ib]at hd
       cases hd
       exact hPan v h' rfl v' w' ρ' T U V S X
   .rename_i l args;obtain⟨f',av,I,z,s⟩:=q.oc
    cases I
    generalize R:a.eval f=fv at z
    cases z with
    | yield a6 =>
     rename_i loc
     cases B:C.rd l args h with
     | none=>rw[B]at hd;cases hd
     | some ad =>
      obtain⟨b,h'⟩:=ad;rw[B]at hd;simp only[Fx]at hd
      cases hd
      obtain⟨fn,tmps,assign,body,hy,a7⟩:=hR l _ _ b h' B Z ρ w (m.toList.map a.eval) loc k hZ a6 s;have D:(execOp a.eval o).run P w=.ok (.round loc.r fn tmps assign body) w:=by
       have J:m.map a.eval=(m.toList.map a.eval).toArray:=by grind
       simp only[execOp,G,resolve,R,Deferred.ofValue,Sem.run_bind,Sem.run_pure,Result.andThen_ok,invoke,Array.empty_append,J];exact hy
      refine fC (fun c y=>by grind) ?_;rw[D,Oper.uponIn_round];refine⟨fun h=>by simp[Fr,Fence.wide]at h,Xp.2 (a7.mono ?_)⟩;rintro e w' ⟨ρ',T,U,V,X,v',rfl,S⟩;exact hOk _ h' rfl v' w' ρ' T U V S X
   .cases hd
 .by_cases M:t.kind=.panic
  .have j:=Eb ko.op (.inr (.inl M));rw[M]at j hd;simp only[act]at hd;unfold F5 at hd
   split at hd
   .rename_i ty u
    cases hd
    have fin:∀x:Operand,yf kZ [x]=some t.args->(execOp a.eval o).run P w=.halt (.panic (a.eval x)) w->(∀c,o.op ≠ .defer c)->o.wpIn (Fr rnd) 0 P a w K Q:=fun x i D a8=>by
     have q:=cX ktm i hv;have Y:=q.uno rfl;refine fC (fun c y=>absurd y (a8 c)) ?_;rw[D,Oper.uponIn_panic];exact hPan _ _ rfl _ w ρ (zh.le.refl _ _) k (Below.refl _ _) Y (Zi _)
    have a1:∀x:Operand,yf kZ [x]=some t.args->(Instr.panic (a.eval x)).run P w=.halt (.panic (a.eval x)) w:=fun x i=>by
     have q:=cX ktm i hv;have Y:=q.uno rfl;generalize a.eval x=xv at Y
     cases Y
     simp[Instr.panic,goPanic]
    generalize G:o.op=op at j
    cases j with
    | panic i =>
     refine fin _ i ?_ (fun c y=>by grind);simp only[execOp,G,Sem.run_bind,a1 _ i];rfl
    | panicB i =>
     refine fin _ i ?_ (fun c y=>by grind);simp only[execOp,G,fj];simp[builtin,a1 _ i]
   .cases hd
  .by_cases O:t.kind=.defer
   .have j:=Eb ko.op (.inr (.inr O));rw[O]at j hd;simp only[act]at hd;unfold Ce at hd
    split at hd
    .rename_i g p c
     split at hd
     .rename_i u hca
      cases hd
      generalize G:o.op=op at j
      cases j with
      | defer i =>
       rename_i f m ts;have q:=cX ktm i hv;simp only[Z3]at q;obtain⟨f',av,I,z,s⟩:=q.oc;injection I with I e2;subst I;obtain⟨p',bb,e3,hp,s⟩:=s.oc;obtain⟨c',bm,e4,y,s⟩:=s.oc;obtain rfl:=s.oN;subst e4;subst e3;have a9:rnd=none:=by grind
       generalize R:a.eval f=fv at z
       cases z with
       | fn ab a0 =>
        rename_i A;have a4:A=[]:=by cases A;rfl;simp at ab
        subst a4;have D:(execOp a.eval o).run P w=.ok (.defer { target:=.fn (.func g) #[],args:=#[p',c'] }) w:=by
         have J:m.map a.eval=#[p',c']:=by grind
         simp only[execOp,G,resolve,R,Deferred.ofValue,Sem.run_bind,Sem.run_pure,Result.andThen_ok,J];rfl
        refine fC (fun _ _=>a9) ?_;rw[D,Oper.uponIn_defer];exact hDfr _ rfl _ (.caught hca hp y kdf)
     .cases hd
    .cases hd
   ·-- what calls nothing
    cases r with
    | ok v h' =>
     obtain⟨n,v',w',ρ',g1,g2,g3,g4,g5,g6,g7⟩:=sY k hZ ko.op h2 ⟨L,M,O⟩ ktm hv hd;refine fC (fun c y=>?_) ?_
     .exfalso
      have hk:=ko.op;rw[y]at hk;obtain⟨a3,m,ts⟩:=c
      cases a3<;>first|(cases hk;done)|(obtain⟨e,_⟩:=eQ hk;grind)
     .have ah:K (a.put o.dst v') w':=hOk _ _ rfl v' w' ρ' g3 g4 g5 g6 g7;rcases g2 with rfl|⟨rfl,rfl⟩
      .rw[g1,Oper.uponIn_value];exact ah
      .rw[g1,Oper.uponIn_skip];exact ah
    | panic v h'=>obtain⟨_,_,e⟩:=F9 ⟨L,M,O⟩ hd;cases e
    | dfr d=>obtain⟨_,_,e⟩:=F9 ⟨L,M,O⟩ hd;cases e
theorem Qm(hC:gf P C)(hR:nJ P C){rnd:LA}(hrnd:rnd=none\/∀f,ca.get f=none)(k:yx P Z ρ N ca s a w)(ko:aD P N ops o t)(hv:kV s.tm t.args=some vs)(hd:nW C ca t s vs=some r)(hK:∀a' w',cJ P Z ρ N ca s.h w r .normal a' w'->K a' w')(hQ:∀ch a' w',cJ P Z ρ N ca s.h w r (.panic ch) a' w'->Q (.panic ch) a' w'):o.wpIn (Fr rnd) 0 P a w K Q:=by
 have j:∀{ρ':zh} {s':St} {a:Act} {w':World} {v:TV} {v':Value},yx P Z ρ' N ca s' a w'->VR ρ' v v'->yx P Z ρ' N ca (s'.put t.dst v) (a.put o.dst v') w':=fun k' y=>by
  rw[<- ko.dst];exact k'.put y ko.lt
 unfold nW at hd
 by_cases h0:t.kind.cls=0
 .rw[h0]at hd;simp only[Bl]at hd
  split at hd
  .rename_i v hp
   cases hd
   exact KB k.wr k.tm ko hv h0 hp fun v' h2=>hK _ _ ⟨ρ,zh.le.refl _ _,Below.refl _ _,by rw[St.put_h];omega,rfl,j k h2⟩
  .cases hd
 .by_cases h1:t.kind.cls=1
  .rw[h1]at hd;simp only[I9]at hd
   split at hd
   .rename_i x hp
    cases hd
    have q:∀g,ρ s.h.next g=none:=fun g=>by
     cases A:ρ s.h.next g with
     | none=>rfl
     | some loc=>have:=(k.wr.dom _ _ _ A).1;omega
    refine Jb (k.wr.push x.o) k.hZ k.tm ko hv h1 q (by rw[TH.nP];omega) hp (by rw[TH.gP,if_pos rfl]) fun v' M L S B D u=>?_;have G:=zh.add_more (loc:=⟨w.heap.size,L,S⟩) (q 0);have b:zh.le s.h.next ρ (ρ.add s.h.next 0 ⟨w.heap.size,L,S⟩):=⟨G,fun c O l g=>by rw[zh.add_ne zo];grind⟩
    exact hK _ _ ⟨_,b,u,by rw[St.put_h,TH.nP];omega,rfl,j (k.world b B u) D⟩
   .cases hd
  .have h2:=Hf h0 h1;rw[h2]at hd;change fO t.dst s (act C ca t.kind vs s.h)=some r at hd
   cases m:act C ca t.kind vs s.h with
   | none=>rw[m]at hd;cases hd
   | some R =>
    rw[m]at hd;refine Ga hC hR hrnd k.wr k.hZ k.tm k.df ko hv h2 m (fun v h' e v' w' ρ' b n i p l=>?_) (fun v h' e v' w' ρ' b n i p l=>?_) (fun d e I z=>?_)
    .subst e;simp only[fO]at hd
     cases hd
     exact hK _ _ ⟨ρ',b,i,by rw[St.put_h];exact l,rfl,j (k.world b n i) p⟩
    .subst e;simp only[fO]at hd
     cases hd
     exact hQ _ _ _ ⟨ρ',b,i,l,v',rfl,p,k.world b n i⟩
    .subst e;simp only[fO]at hd
     cases hd
     have J:yx P Z ρ N ca ⟨s.tm,d::s.df,s.h⟩ { a with defers:=I::a.defers } w:=⟨k.wr,k.tm,k.sz,z,k.hZ⟩
     exact hK _ _ ⟨ρ,zh.le.refl _ _,Below.refl _ _,by rw[St.put_h];grind,rfl,j J (VR.undef ρ)⟩
theorem cJ.trans{h0 h1:TH}{w0 w1:World}(hle:zh.le h0.next ρ ρ')(hb:Below Z w0 w1)(hn:h0.next<=h1.next){e:Exit}{a':Act}(k:cJ P Z ρ' N ca h1 w1 r e a' w'):cJ P Z ρ N ca h0 w0 r e a' w':=by
 obtain⟨a,h1,h2,h3⟩:=k;refine⟨a,hle.trans h1 hn,hb.trans h2,?_⟩
 grind
theorem MB(hC:gf P C)(hR:nJ P C){rnd:LA}(hrnd:rnd=none\/∀f,ca.get f=none)(k:yx P Z ρ N ca s a w)(ko:aD P N ops o t)(hs:pT C ca t s=some r)(hK:∀a' w',cJ P Z ρ N ca s.h w r .normal a' w'->K a' w')(hQ:∀ch a' w',cJ P Z ρ N ca s.h w r (.panic ch) a' w'->Q (.panic ch) a' w'):
  (if Region.wanted o (yielded ops a.tmps)then o.wpIn (Fr rnd) 0 P a w K Q else(∀f,o.about P w a.eval=some f->(Fr rnd).fn f)/\K (a.put o.dst undef) w):=by
 unfold pT at hs
 split at hs
 .cases hs
 .rename_i hw;injection hs with hs;subst hs;rw[bE ko k.tm hw];simp only[zAM9,if_false];refine⟨fun _ _=>trivial,hK _ _ ⟨ρ,zh.le.refl _ _,Below.refl _ _,by rw[St.put_h];exact Zi _,rfl,?_⟩⟩;rw[<- ko.dst];exact k.put (VR.undef ρ) ko.lt
 .rename_i hw;rw[bE ko k.tm hw];simp only[if_true]
  split at hs
  .cases hs
  .rename_i vs hv;exact Qm hC hR hrnd k ko hv hs hK hQ
theorem MF(hC:gf P C)(hR:nJ P C){rnd:LA}(hrnd:rnd=none\/∀f,ca.get f=none):∀(ts:List vB) (is:LN) (s:St) (a:Act) (w:World) (ρ:zh) (r:TS),
  is.length=ts.length->(∀(j:Nat) t,ts[j]?=some t->∃i o,is[j]?=some i/\ops[i]?=some o/\aD P N ops o t)->yx P Z ρ N ca s a w->kJ C ca ts s=some r->(∀e a' w',cJ P Z ρ N ca s.h w r e a' w'->Q e a' w')->wpOpsIn (Fr rnd) 0 P ops Q is a w
 | [],is,s,a,w,ρ,r,d,_,k,b,g=>by
  have:is=[]:=by cases is;rfl;simp at d
  subst this;simp only[kJ]at b;injection b with b;subst b;exact g _ _ _ ⟨ρ,zh.le.refl _ _,Below.refl _ _,Zi _,rfl,k⟩
 | t::ts,is,s,a,w,ρ,r,d,l,k,b,g=>by
  cases is with
  | nil=>simp at d
  | cons i is =>
   obtain⟨B,o,hi,q,m⟩:=l 0 t rfl;simp at hi;subst hi;rw[wpOpsIn_cons];unfold wpOpIn;rw[q];simp only[kJ]at b;have n:∀(j:Nat) t,ts[j]?=some t->∃i o,is[j]?=some i/\ops[i]?=some o/\aD P N ops o t:=fun j u x=>l (j+1) u (by simpa using x)
   split at b
   .rename_i s' hs1;refine MB hC hR hrnd k m hs1 (fun a' w' c=>?_) (fun y a' w' c=>?_)
    .obtain⟨ρ',hle,hb,hn,_,k'⟩:=c;exact MF hC hR hrnd ts is s' a' w' ρ' r (by simpa using d) n k' b fun e z A p=>g e z A (p.trans hle hb hn)
    .obtain⟨_,_,_,_,e,_⟩:=c
     cases e
   .rename_i hs1;refine MB (r:=r) hC hR hrnd k m b (fun a' w' c=>?_) (fun y a' w' c=>g _ _ _ c)
    cases r with
    | go s'=>exact absurd b (hs1 s')
    | panic v s'=>obtain⟨_,_,_,_,_,e,_⟩:=c;cases e
def XR(ρ:zh)(x:TX)(e:Exit):Prop:=match x with
 | .norm=>e=.normal
 | .exit id=>e=.exit id
 | .goto l=>e=.goto l
 | .ret=>e=.ret
 | .panic v=>∃v',e=.panic [{ v:=v',recovered:=false }]/\VR ρ v v'
def CR(P:Program)(Z:Nat)(ρ:zh)(N:Nat)(ca:LD)(h0:TH)(w0:World)(x:TX)(s:St)(e:Exit)(a':Act)(w':World):Prop :=
 ∃ρ',zh.le h0.next ρ ρ'/\Below Z w0 w'/\h0.next<=s.h.next/\XR ρ' x e/\yx P Z ρ' N ca s a' w'
variable {x:TX}
theorem CR.trans{h0 h1:TH}{w0 w1:World}(hle:zh.le h0.next ρ ρ')(hb:Below Z w0 w1)(hn:h0.next<=h1.next){e:Exit}{a':Act}{w':World}(k:CR P Z ρ' N ca h1 w1 x s e a' w'):CR P Z ρ N ca h0 w0 x s e a' w':=by
 obtain⟨a,h1,h2,h3,h4,b⟩:=k;exact⟨a,hle.trans h1 hn,hb.trans h2,Z0 hn h3,h4,b⟩
theorem Im:∀(ts:List vB) (tm:LL) (t:Nat) v,(bT ts tm).get t=some v->tm.get t=some v
 | [],tm,t,v,h=>h
 | o::ts,tm,t,v,h=>by
  simp only[bT]at h;have:=Im ts _ t v h
  split at this
  .rw[Tr.get_set]at this
   grind
  .exact this
theorem yx.forget(k:yx P Z ρ N ca s a w){tm:LL}(ht:∀t v,tm.get t=some v->s.tm.get t=some v):yx P Z ρ N ca ⟨tm,s.df,s.h⟩ a w :=
 ⟨k.wr,fun t v b=>k.tm t v (ht t v b),k.sz,k.df,k.hZ⟩
theorem W7{C:ua}(hC:gf P C)(hR:nJ P C){rnd:LA}(hrnd:rnd=none\/∀f,ca.get f=none){id:Nat}{ops:LX}{ts:List vB}(hts:yf (lJ P N ops) ops.toList=some ts)(k:yx P Z ρ N ca s a w){s':St}(hs:sj (bT ts) (kJ C ca ts s)=some (x,s')):
  (Code.region id ops false).wpIn (Fr rnd) 0 P (CR P Z ρ N ca s.h w x s') a w:=by
 obtain⟨h1,h2⟩:=rp hts;refine wpIn_region ?_
 cases c:kJ C ca ts s with
 | none=>rw[c]at hs;cases hs
 | some r =>
  rw[c]at hs;refine MF hC hR hrnd ts _ s a w ρ r (by simp[h1]) (fun j t m=>?_) k c fun e q w' b=>?_
  .have i:j<ops.size:=by have:=(Zh.1 m).1;rw[h1]at this;simpa using this
   refine⟨j,ops[j],by simp[i],zAE9 i,Km (h2 j ops[j] t (by simp[i]) m)⟩
  .obtain⟨ρ',hle,hb,b⟩:=b
   cases r with
   | go n =>
    obtain⟨l,rfl,k'⟩:=b;simp only[sj]at hs;injection hs with hs;injection hs with d g;subst d;subst g;exact⟨ρ',hle,hb,l,rfl,k'⟩
   | panic v n =>
    obtain⟨l,v',rfl,o,k'⟩:=b;simp only[sj]at hs;injection hs with hs;injection hs with d g;subst d;subst g;exact⟨ρ',hle,hb,l,⟨v',rfl,o⟩,k'.forget fun t u p=>Im ts _ t u p⟩
theorem Ak{f:TV->TV->Bool}(hf:∀a b,f a b=true->a=b):∀{l m:LK},di f l m=true->l=m
 | [],[],_=>rfl
 | a::l,b::m,h=>by
  simp only[di]at h
  cases c:f a b
  .grind
  .rw[c]at h;rw[hf a b c,Ak hf h]
 | [],_::_,h=>by cases h
 | _::_,[],h=>by cases h
theorem rC{b:TV}{n:Nat}(h:Nat.beq (nk b) n=true):nk b=n:=Zk h
theorem zD{a b:Bool}(h:(bif a then b else false)=true):a=true/\b=true:=by cases a<;>simp_all
theorem TV.beq_sound:∀(n:Nat) (a b:TV),TV.beq n a b=true->a=b
 | 0,_,_,h=>by cases h
 | n+1,a,b,h=>by
  have d:=TV.beq_sound n
  cases a with
  | bool x =>
   cases b<;>simp only[TV.beq,Gw]at h<;>try cases h
   rename_i y
   cases x<;>cases y<;>simp_all
  | int k x =>
   cases b<;>simp only[TV.beq,Cw]at h<;>try cases h
   obtain⟨h1,h2⟩:=zD h;rw[kB]at h2;rw[it h1,eq_of_beq h2]
  | str s =>
   cases b<;>simp only[TV.beq,Gy]at h<;>try cases h
   rw[lB]at h;rw[eq_of_beq h]
  | ptr c g o e =>
   cases b<;>simp only[TV.beq,tf]at h<;>try cases h
   obtain⟨h1,h⟩:=zD h;obtain⟨h2,h⟩:=zD h;obtain⟨h3,h⟩:=zD h;rw[Zk h1,Zk h2,Zk h3,Zk h]
  | sl c g o m q z =>
   cases b<;>simp only[TV.beq,tg]at h<;>try cases h
   obtain⟨h1,h⟩:=zD h;obtain⟨h2,h⟩:=zD h;obtain⟨h3,h⟩:=zD h;obtain⟨h4,h⟩:=zD h;obtain⟨i,h⟩:=zD h;rw[Zk h1,Zk h2,Zk h3,Zk h4,Zk i,Zk h]
  | map c =>
   cases b<;>simp only[TV.beq,Gx]at h<;>try cases h
   rw[Zk h]
  | yield c =>
   cases b<;>simp only[TV.beq,GA]at h<;>try cases h
   rw[Zk h]
  | fn f l =>
   cases b<;>simp only[TV.beq,Cu]at h<;>try cases h
   obtain⟨h1,h⟩:=zD h;rw[Zk h1,Ak d h]
  | iface t v =>
   cases b<;>simp only[TV.beq,Cv]at h<;>try cases h
   obtain⟨h1,h⟩:=zD h;rw[Zk h1,d _ _ h]
  | agg l =>
   cases b<;>simp only[TV.beq,Gv]at h<;>try cases h
   rw[Ak d h]
  | tuple l =>
   cases b<;>simp only[TV.beq,Gz]at h<;>try cases h
   rw[Ak d h]
  | nilptr=>have:=rC (by simpa only[TV.beq]using h);cases b<;>simp[nk]at this;rfl
  | nilsl=>have:=rC (by simpa only[TV.beq]using h);cases b<;>simp[nk]at this;rfl
  | nilmap=>have:=rC (by simpa only[TV.beq]using h);cases b<;>simp[nk]at this;rfl
  | nilfn=>have:=rC (by simpa only[TV.beq]using h);cases b<;>simp[nk]at this;rfl
  | niliface=>have:=rC (by simpa only[TV.beq]using h);cases b<;>simp[nk]at this;rfl
theorem MY:∀{n i:Nat} {a b:LL},oc i n a b=true->∀j,i<=j->j<i+n->∃x,a.get j=some x/\b.get j=some x
 | 0,i,a,b,_,j,h1,h2=>by omega
 | n+1,i,a,b,h,j,h1,h2=>by
  unfold oc at h
  split at h
  .rename_i x y hx hy;obtain⟨c,d⟩:=zD h;have e:=TV.beq_sound _ _ _ c
   by_cases f:j=i
   .grind
   .exact MY d j zo zo
  .cases h
def oq(a b:TO):Prop:=(∀cs,a ≠ .ro cs)/\∀(P:Program) (ρ:zh) (c:Nat) (w:World),OR P ρ c w a->OR P ρ c w b
variable {b:Nat}{nm nm':LL}
theorem oq.refl(a:TO)(hn:∀cs,a ≠ .ro cs):oq a a:=⟨hn,fun _ _ _ _ h=>h⟩
theorem Vj{a b:TO}(h:lD a b=true):oq a b:=by
 unfold lD at h
 split at h
 .rename_i e G M n c e' G' M' n' c';obtain⟨h1,d⟩:=zD h;obtain⟨h2,f⟩:=zD d;obtain⟨h3,j⟩:=zD f;obtain⟨h4,l⟩:=zD j;have m:=Zk h1;have o:=Zk h2;have p:=Zk h3;have q:=Zk h4;subst m;subst o;subst p;subst q;refine⟨fun cs h=>(by cases h),?_⟩;intro P ρ b w k;refine⟨k.1,k.2.1,fun g r s=>?_⟩;obtain⟨loc,cur,t,u,z,A,B,C,D⟩:=k.2.2 g r s;refine⟨loc,cur,t,u,z,A,B,C,fun i hi=>?_⟩;obtain⟨x,v,I,J,K,L⟩:=D i hi;obtain⟨y,N,O⟩:=MY l i (Zn _) zo
  grind
 .rename_i c c';have e:=Zk h;subst e;exact .refl _ (fun cs h=>by cases h)
 .cases h
theorem Ts{k:zA}{x:yH}(hx:lay k vs b=some x):∀cs,x.o ≠ .ro cs:=by
 have h1:∀(e:Nat) (l:LK) cs,uL e l ≠ .ro cs:=fun e l cs h=>by cases h
 intro cs h
 cases k<;>simp only[lay]at hx<;>try cases hx
 case box e n =>
  unfold iu at hx
  split at hx
  .obtain⟨_,hx⟩:=vt hx;injection hx with hx;subst hx;cases h
  .cases hx
 case alloc e z =>
  unfold o9 at hx
  split at hx
  .injection hx with hx;subst hx;cases h
  .cases hx
 case bslice e esz len z p =>
  unfold iy at hx;obtain⟨_,hx⟩:=vt hx
  split at hx
  .injection hx with hx;subst hx;cases h
  .cases hx
 case mkslice e esz by_ z =>
  unfold iz at hx
  split at hx
  .split at hx
   .obtain⟨_,hx⟩:=vt hx;obtain⟨_,hx⟩:=vt hx;obtain⟨_,hx⟩:=vt hx;injection hx with hx;subst hx;cases h
   .cases hx
  .cases hx
 case mkmap =>
  unfold ra at hx
  split at hx
  .injection hx with hx;subst hx;cases h
  .injection hx with hx;subst hx;cases h
  .cases hx
 case tobytes e =>
  unfold iA at hx
  split at hx
  .obtain⟨_,hx⟩:=vt hx;injection hx with hx;subst hx;cases h
  .cases hx
theorem Tq{k:zA}{x:yH}(hx:lay k vs b=some x):nT x.v=some b:=by
 cases k<;>simp only[lay]at hx<;>try cases hx
 case box e n =>
  unfold iu at hx
  split at hx
  .obtain⟨_,hx⟩:=vt hx;injection hx with hx;subst hx;rfl
  .cases hx
 case alloc e z =>
  unfold o9 at hx
  split at hx
  .injection hx with hx;subst hx;rfl
  .cases hx
 case bslice e n l z p =>
  unfold iy at hx;obtain⟨_,hx⟩:=vt hx
  split at hx
  .injection hx with hx;subst hx;rfl
  .cases hx
 case mkslice e n b z =>
  unfold iz at hx
  split at hx
  .split at hx
   .obtain⟨_,hx⟩:=vt hx;obtain⟨_,hx⟩:=vt hx;obtain⟨_,hx⟩:=vt hx;injection hx with hx;subst hx;rfl
   .cases hx
  .cases hx
 case mkmap =>
  unfold ra at hx
  split at hx
  .injection hx with hx;subst hx;rfl
  .injection hx with hx;subst hx;rfl
  .cases hx
 case tobytes e =>
  unfold iA at hx
  split at hx
  .obtain⟨_,hx⟩:=vt hx;injection hx with hx;subst hx;rfl
  .cases hx
def TH.sub(h h':TH):Prop:=∀b o,h.get b=some o->h'.get b=some o
theorem TH.sub.refl(h:TH):h.sub h:=fun _ _ k=>k
theorem TH.sub.trans{h1 h2 h3:TH}(k:h1.sub h2)(l:h2.sub h3):h1.sub h3:=fun b o a=>l b o (k b o a)
theorem TH.sub_push(h:TH)(o:TO):h.sub (h.push o):=fun b x a=>by rw[TH.gP,if_neg (by have:=TH.get_lt a;omega)];exact a
theorem KV(k:h.sub h'){g o n:Nat}{l:LK}(hl:ue h b g o n=some l):ue h' b g o n=some l:=by
 unfold ue at hl⊢
 split at hl
 .rename_i x hx;rw[k _ _ hx];exact hl
 .cases hl
theorem Fm{f g:TV->LC}(hfg:∀x v,f x=some v->g x=some v)(hv:uN vs f=some v):uN vs g=some v:=by
 unfold uN at *
 grind
theorem Y3{f g:TV->TV->LC}(hfg:∀x y v,f x y=some v->g x y=some v)(hv:uX vs f=some v):uX vs g=some v:=by
 unfold uX at *
 grind
theorem VX(k:h.sub h'){kd:zA}(hv:yb kd vs h=some v):yb kd vs h'=some v:=by
 cases kd<;>first|exact hv|skip
 case load agg n =>
  refine Fm (fun x v hv=>?_) hv;unfold ag at hv⊢
  split at hv
  .obtain⟨h1,hv⟩:=vt hv
   split at hv
   .rename_i l hl;rw[h1,KV k hl];exact hv
   .cases hv
  .cases hv
 case tostr =>
  refine Fm (fun x v hv=>?_) hv;unfold cj at hv⊢
  split at hv
  .exact hv
  .split at hv
   .rename_i l hl;rw[KV k hl];exact hv
   .cases hv
  .cases hv
 case look kf z ok =>
  refine Y3 (fun x y v hv=>?_) hv;unfold ci at hv⊢;obtain⟨h1,hv⟩:=vt hv;rw[h1];simp only[cond_true]
  split at hv
  .exact hv
  .split at hv
   .rename_i o ho;rw[k _ _ ho];exact hv
   .cases hv
  .cases hv
 case len f =>
  refine Fm (fun x v hv=>?_) hv;unfold lP at hv⊢
  split at hv
  .exact hv
  .unfold DB at hv⊢
   split at hv
   .exact hv
   .split at hv
    .rename_i o ho;rw[k _ _ ho];exact hv
    .cases hv
   .cases hv
  .exact hv
  .cases hv
def Tr.sub(a b:LL):Prop:=∀t v,a.get t=some v->b.get t=some v
theorem Tr.sub.refl(a:LL):a.sub a:=fun _ _ k=>k
theorem Tr.sub.trans{a b c:LL}(k:a.sub b)(l:b.sub c):a.sub c:=fun t v h=>l t v (k t v h)
theorem fZ{d:LA}(hd:gt nm d v=some nm'):nm.sub nm'/\(∀t,d=some t->nm.get t=none/\nm'.get t=some v)/\∀t,d≠some t->nm'.get t=nm.get t:=by
 unfold gt at hd
 split at hd
 .injection hd with hd;subst hd;exact⟨.refl _,fun t h=>(by cases h),fun t _=>rfl⟩
 .rename_i d
  split at hd
  .rename_i hn;injection hd with hd;subst hd;refine⟨fun t u a=>?_,fun t h=>?_,fun t h=>?_⟩
   .rw[Tr.get_set]
    grind
   .injection h with h;subst h;exact⟨hn,by rw[Tr.get_set,if_pos rfl]⟩
   .rw[Tr.get_set,if_neg (fun e=>h (by rw[e]))]
  .cases hd
theorem fY{df:LZ}{x:Option (LL)}{s:DS}(hd:dput df h x=some s):∃nm,x=some nm/\s=⟨nm,df,h⟩:=by
 cases x with
 | none=>cases hd
 | some nm=>simp only[dput]at hd;injection hd with hd;exact⟨nm,rfl,hd.symm⟩
theorem HD(k:nm.sub nm'){x:vQ}(hv:nX tm nm x=some v):nX tm nm' x=some v:=by
 cases x<;>first|exact hv|exact k _ _ hv
theorem en(k:nm.sub nm'):∀{xs:List vQ} {vs:LK},py tm nm xs=some vs->py tm nm' xs=some vs
 | [],vs,a=>a
 | x::xs,vs,a=>by
  unfold py at a⊢
  split at a
  .cases a
  .rename_i v h1
   split at a
   .cases a
   .rename_i us h2;rw[HD k h1,en k h2];exact a
theorem oe(k:nm.sub nm'){g:Option (vQ×Bool)}{b:Bool}(hv:pV tm nm g=some b):pV tm nm' g=some b:=by
 unfold pV at hv⊢
 split at hv
 .exact hv
 .rename_i x c
  cases a:nX tm nm x with
  | none=>rw[a]at hv;cases hv
  | some v=>rw[a]at hv;rw[HD k a];exact hv
theorem Mn(f:Nat->LC):∀(l:LN),∃tx:LL,(∀t∈l,tx.get t=f t)/\∀t v,tx.get t=some v->t∈l/\f t=some v
 | []=>⟨.nil,fun t h=>by simp at h,fun t v h=>by simp[Tr.get_nil]at h⟩
 | t::l=>by
  obtain⟨tx,h1,h2⟩:=Mn f l;refine⟨tx.set t (f t),fun u a=>?_,fun u v a=>?_⟩
  .rw[Tr.get_set]
   grind
  .rw[Tr.get_set]at a
   grind
noncomputable def sb (all:LH)(x:Item)(tm nm:LL)(t:Nat):LC:=nX tm nm (eT all x (.tmp t))
variable {tx:LL}{x:Item}
theorem HE{all:LH}{y:vQ}(hy:eX y=true)(ht:∀t,BX y=some t->tx.get t=sb all x tm nm t):mX tx y=nX tm nm (eT all x y):=by
 cases y with
 | tmp t=>exact ht t rfl
 | new t=>cases hy
 | const v=>rfl
 | fn f=>rfl
theorem HC{all:LH}:∀{ys:List vQ},ys.all eX=true->(∀y∈ys,∀t,BX y=some t->tx.get t=sb all x tm nm t)->kV tx ys=py tm nm (ys.map (eT all x))
 | [],_,_=>rfl
 | y::ys,a,b=>by
  simp only[List.all_cons,Zm]at a;simp only[kV,py,Z3];rw[HE a.1 (b y Zr),HC a.2 fun z c=>b z (Zo _ c)]
theorem YW{all:LH}{g:Option (vQ×Bool)}(hy:∀p b,g=some (p,b)->eX p=true)(ht:∀p b t,g=some (p,b)->BX p=some t->tx.get t=sb all x tm nm t):fA tx g=pV tm nm (g.map fun p=>(eT all x p.1,p.2)):=by
 cases g with
 | none=>rfl
 | some p =>
  obtain⟨p,b⟩:=p;simp only[fA,pV,Option.map_some];rw[HE (hy p b rfl) fun t h=>ht p b t rfl h]
theorem WR.set_none(k:WR P Z ρ h w)(hn:∀g,ρ b g=none)(x:TO):WR P Z ρ (h.set b x) w :=
 ⟨fun c g loc a=>by
  obtain⟨f,i,j⟩:=k.dom c g loc a;have d:c≠b:=fun e=>by rw[e,hn g]at a;cases a
  refine⟨f,i.imp id fun⟨cs,h1⟩=>⟨cs,?_⟩,j⟩;unfold TH.get TH.set at *
  dsimp only at *
  rw[Tr.get_set,if_neg d];exact h1,fun c g loc a=>by
  obtain⟨o,l,m⟩:=k.obj c g loc a;have d:c≠b:=fun e=>by rw[e,hn g]at a;cases a
  refine⟨o,?_,m⟩;unfold TH.get TH.set at *
  dsimp only at *
  rw[Tr.get_set,if_neg d];exact l,k.sep⟩
theorem WR.unset{x y:TO}(k:WR P Z ρ (h.set b x) w)(hy:h.get b=some y)(he:oq x y):WR P Z ρ h w :=
 ⟨fun c g loc d=>by
  obtain⟨i,j,l⟩:=k.dom c g loc d;refine⟨i,j.imp id fun⟨cs,h1⟩=>?_,l⟩;rw[TH.get_set _ _ _ _ (TH.get_lt hy)]at h1
  split at h1
  .rename_i e;subst e;injection h1 with h1;exact absurd h1 (he.1 cs)
  .exact⟨cs,h1⟩,fun c g loc d=>by
  obtain⟨o,a,f⟩:=k.obj c g loc d;rw[TH.get_set _ _ _ _ (TH.get_lt hy)]at a
  split at a
  .rename_i e;subst e;injection a with a;subst a;exact⟨y,hy,he.2 _ _ _ _ f⟩
  .exact⟨o,a,f⟩,k.sep⟩
theorem Ih(f:Nat->Nat):∀(l:List Edge) (s j:Nat),(l.foldl (fun s e=>if Region.binds .any e then Nat.lor (Nat.lor s (2 ^ e.on)) (f e.on)else s) s).testBit j=true↔s.testBit j=true\/∃e∈l,Region.binds .any e=true/\(j=e.on\/(f e.on).testBit j=true)
 | [],s,j=>by simp
 | e::l,s,j=>by
  rw[zDH9,Ih f l]
  by_cases a:Region.binds .any e=true
  .rw[if_pos a];have:(Nat.lor (Nat.lor s (2 ^ e.on)) (f e.on)).testBit j=(s.testBit j||decide (e.on=j)||(f e.on).testBit j):=by
    change ((s ||| 2 ^ e.on) ||| f e.on).testBit j=_
    grind
   grind
  grind
theorem oz:∀{l:AA} {i:Nat},fR l i=true->∀k o,l[k]?=some o->∀e∈o.after,Region.binds .any e=true->e.on<i+k
 | [],i,_,k,o,h,_,_,_=>by simp at h
 | o::l,i,a,k,d,h,e,c,b=>by
  simp only[fR,Zm]at a
  cases k with
  | zero =>
   simp at h;subst h;have:=Array.all_eq_true_iff_forall_mem.1 a.1 e c;simp[b]at this;simpa using this
  | succ k =>
   have:=oz a.2 k d (by simpa using h) e c b;omega
theorem KX:∀(l:AA) (acc:LN),fR l acc.length=true->(xn l acc).length=acc.length+l.length/\(∀i,i<acc.length->(xn l acc).getD i 0=acc.reverse.getD i 0) /\
  ∀k o,l[k]?=some o->∀j,((xn l acc).getD (acc.length+k) 0).testBit j=true↔∃e∈o.after.toList,Region.binds .any e=true/\(j=e.on\/((xn l acc).getD e.on 0).testBit j=true)
 | [],acc,_=>⟨by simp[xn],fun i _=>rfl,fun k o h=>by simp at h⟩
 | o::l,acc,b=>by
  have f:=b;simp only[fR,Zm]at b;have d:xn (o::l) acc=xn l (o.after.toList.foldl (fun s e=>if Region.binds .any e then Nat.lor (Nat.lor s (2 ^ e.on)) (acc.reverse.getD e.on 0)else s) 0::acc):=rfl;generalize n:o.after.toList.foldl (fun s e=>if Region.binds .any e then Nat.lor (Nat.lor s (2 ^ e.on)) (acc.reverse.getD e.on 0)else s) 0=m at d;obtain⟨h1,h2,h3⟩:=KX l (m::acc) (by simpa using b.2);rw[d];simp only[Zp]at h1 h2 h3;have a:∀i,i<acc.length->(xn l (m::acc)).getD i 0=acc.reverse.getD i 0:=fun i hi=>by grind
  refine⟨by simp only[Zp];omega,a,fun k p c j=>?_⟩
  cases k with
  | zero =>
   simp at c;subst c;have g:(xn l (m::acc)).getD (acc.length+0) 0=m:=by simp_all
   rw[g];have key:=Ih (fun i=>acc.reverse.getD i 0) o.after.toList 0 j;rw[n]at key;refine key.trans ?_;simp only[Nat.zero_testBit,zAM9,false_or]
   constructor
   .rintro ⟨e,a1,a2,a3⟩;have:=oz f 0 o rfl e (by simpa using a1) a2;exact⟨e,a1,a2,by rw[a _ zo];exact a3⟩
   .rintro ⟨e,a1,a2,a3⟩;have:=oz f 0 o rfl e (by simpa using a1) a2;exact⟨e,a1,a2,by rw[a _ zo]at a3;exact a3⟩
  | succ k =>
   have:=h3 k p (by simpa using c) j;rw[show acc.length+(k+1)=acc.length+1+k by omega];exact this
theorem IU:∀(os:List vB) (ms:LN) (i:Nat),os.length=ms.length->∀k x,(bY os ms i)[k]?=some x↔(x.i=i+k/\os[k]?=some x.o/\ms[k]?=some x.m)
 | [],[],i,_,k,x=>by simp[bY]
 | o::os,m::ms,i,d,k,x=>by
  simp only[bY]
  cases k with
  | zero =>
   simp only[zCQ9,Option.some.injEq]
   constructor
   .rintro rfl;exact⟨rfl,rfl,rfl⟩
   .rintro ⟨a,b,c⟩;cases x;simp_all
  | succ k =>
   simp only[ZJ];rw[IU os ms (i+1) (by simpa using d) k x]
   constructor
   .rintro ⟨a,b⟩;exact⟨by omega,b⟩
   .rintro ⟨a,b⟩;exact⟨by omega,b⟩
 | [],_::_,i,d,_,_=>by simp at d
 | _::_,[],i,d,_,_=>by simp at d
structure gX(P:Program)(N:Nat)(ops:LX)(all acts:LH):Prop where
 item:∀i o,ops[i]?=some o->∃x∈all,x.i=i
 op:∀x∈all,∃o,ops[x.i]?=some o/\aD P N ops o x.o
 uniq:∀x∈all,∀y∈all,x.i=y.i->x=y
 back:∀x∈all,∀o,ops[x.i]?=some o->∀e∈o.after,Region.binds .any e=true->e.on<x.i
 bits:∀x∈all,∀o,ops[x.i]?=some o->∀j,x.m.testBit j=true↔∃e∈o.after,Region.binds .any e=true/\(j=e.on\/∃y∈all,y.i=e.on/\y.m.testBit j=true)
 ac:acts=all.filter fun x=>x.o.kind.cls==2
 row:dE acts=true
 tmps:oa all=true
theorem gX.lt{N:Nat}{all acts:LH}(R:gX P N ops all acts){x:Item}(hx:x∈all):x.i<ops.size:=by
 obtain⟨o,a,_⟩:=R.op x hx
 grind
theorem Qq{N:Nat}{os:List vB}(hos:yf (lJ P N ops) ops.toList=some os){c:vP}(hc:tE ops.toList os=some c):
  ∃all acts,gX P N ops all acts/\c=.drawn (bB all acts 0 acts) (all.filterMap fun x=>x.o.dst):=by
 unfold tE at hc;dsimp only at hc
 split at hc
 .rename_i hcond;injection hc with hc;simp only[Zm]at hcond;obtain⟨⟨h1,h2⟩,h3⟩:=hcond;obtain⟨k,t⟩:=rp hos;obtain⟨q,_,r⟩:=KX ops.toList [] h1;simp only[Zz,ZT]at q r;have n:os.length=(xn ops.toList []).length:=by rw[q,k]
  have get:=IU os (xn ops.toList []) 0 n;have h:∀x,x∈bY os (xn ops.toList []) 0↔os[x.i]?=some x.o/\(xn ops.toList [])[x.i]?=some x.m:=fun x=>by
   rw[Z8]
   simp_all
  have u:∀i,i<ops.size->∃x∈bY os (xn ops.toList []) 0,x.i=i/\x.m=(xn ops.toList []).getD i 0:=fun i hi=>by
   have h1:i<os.length:=by rw[k];simpa using hi
   have h2:i<(xn ops.toList []).length:=by rw[<- n];exact h1
   exact⟨⟨i,os[i],(xn ops.toList [])[i]⟩,(h _).2 ⟨Zg h1,Zg h2⟩,rfl,by simp[Zq,Zg h2]⟩
  have v:∀x∈bY os (xn ops.toList []) 0,x.m=(xn ops.toList []).getD x.i 0:=fun x f=>by grind
  refine⟨bY os (xn ops.toList []) 0,_,⟨fun i o g=>?_,fun x f=>?_,fun x f y s e=>?_,fun x f o g e w z=>?_,fun x f o g j=>?_,rfl,h2,h3⟩,hc.symm⟩
  .grind
  .obtain⟨a,b⟩:=(h x).1 f;have hi:x.i<ops.size:=by have:=(Zh.1 a).1;rw[k]at this;simpa using this
   exact⟨ops[x.i],zAE9 hi,Km (t x.i ops[x.i] x.o (by simp[hi]) a)⟩
  .obtain⟨a,b⟩:=(h x).1 f;obtain⟨c,d⟩:=(h y).1 s;rw[e,c]at a;rw[e,d]at b;injection a with a;injection b with b;obtain⟨C,D,G⟩:=x;obtain⟨I,J,K⟩:=y
   simp_all
  .have:=oz h1 x.i o (by simpa using g) e w z;omega
  .rw[v x f,r x.i o (by simpa using g) j]
   constructor
   .rintro ⟨e,a1,a2,l⟩;have p:e∈o.after:=by simpa using a1
    refine⟨e,p,a2,?_⟩;rcases l with l|l
    .omega
    .have A:=oz h1 x.i o (by simpa using g) e p a2;have B:=(zAC9.1 g).1;obtain⟨y,s,L,M⟩:=u e.on zo
     grind
   grind
 .cases hc
def cE(all:LH)(D:AN):Prop:=∀x∈all,D.getD x.i true=true->∀j,x.m.testBit j=true->D.getD j true=true
variable {D:AN}{i:Nat}{y:Item}
theorem Rw(h:D.getD i false=true):D.getD i true=true:=by grind
theorem WZ{N:Nat}{all acts:LH}(R:gX P N ops all acts)(hc:cE all D)(hx:x∈all)(hr:x.i∈Region.ready .any ops D):D.getD x.i true=false/\∀j,x.m.testBit j=true->D.getD j true=true:=by
 obtain⟨h0,o,d,a⟩:=mem_ready.1 hr;refine⟨h0,fun j f=>?_⟩;obtain⟨e,g,h,b⟩:=(R.bits x hx o d j).1 f;rcases b with rfl|⟨y,k,l,c⟩
 .grind
 .exact hc y k (by rw[l];exact Rw (a e g h)) j c
theorem K4{N:Nat}{all acts:LH}(R:gX P N ops all acts)(hs:D.size=ops.size)(hr:Region.ready .any ops D=[]):∀i,i<ops.size->D.getD i true=true:=by
 intro i
 induction i using Nat.strongRecOn with
 | _ i d =>
  intro hi
  cases f:D.getD i true with
  | true=>rfl
  | false =>
   exfalso
   obtain⟨x,g,e⟩:=R.item i ops[i] (zAE9 hi);have:i∈Region.ready .any ops D:=mem_ready.2 ⟨f,ops[i],zAE9 hi,fun b c h=>by
    have a:=R.back x g ops[i] (by rw[e];exact zAE9 hi) b c h;rw[e]at a;have h1:=d b.on a zo;simp only[zBG9]at *
    rw[zAE9 zo]at *
    exact h1⟩
   rw[hr]at this
   cases this
theorem gF(D:AN)(i j:Nat)(hi:i<D.size):(D.setIfInBounds i true).getD j true=if j=i then true else D.getD j true:=by
 simp only[zBG9]
 grind
theorem cE.set{all:LH}(hc:cE all D){N:Nat}{acts:LH}(R:gX P N ops all acts)(hx:x∈all)(hi:x.i<D.size)(hm:∀j,x.m.testBit j=true->D.getD j true=true):cE all (D.setIfInBounds x.i true):=by
 intro y c a j b;rw[gF _ _ _ hi]at a⊢
 split
 .rfl
 .split at a
  .rename_i e;rw[R.uniq y c x hx e]at b;exact hm j b
  .exact hc y c a j b
theorem tB(h:D.getD i true=false):0<D.toList.count false/\i<D.size:=by
 simp only[zBG9]at h
 cases a:D[i]? with
 | none=>rw[a]at h;cases h
 | some b =>
  rw[a]at h;simp only[zDR9]at h;subst h;have:=zAC9.1 a;obtain⟨h1,h2⟩:=this;exact⟨List.count_pos_iff.2 (by rw[<- h2];exact Array.getElem_mem_toList h1),h1⟩
theorem Qh(h:D.getD i true=false):(D.setIfInBounds i true).toList.count false+1=D.toList.count false:=by
 obtain⟨a,hi⟩:=tB h;have b:D[i]=false:=by simpa[zBG9,zAE9 hi]using h
 grind
theorem ES:∀{l:LH} {a x:Item},dE (a::l)=true->x∈l->∃p∈a::l,x.m.testBit p.i=true
 | [],a,x,_,c=>by simp at c
 | b::l,a,x,d,c=>by
  simp only[dE,Zm]at d;rcases ZD.1 c with rfl|c
  .grind
  .obtain⟨p,hp,e⟩:=ES d.2 c
   grind
theorem EU:∀(pre:LH) {l:LH},dE (pre++l)=true->dE l=true
 | [],l,h=>h
 | a::pre,l,h=>by
  refine EU pre ?_
  cases c:pre++l with
  | nil=>rfl
  | cons b m =>
   rw[Zv,c]at h;simp only[dE,Zm]at h;exact h.2
theorem Jw{pre l:LH}(h:∀a∈l,x.m.testBit a.i=false):pL (pre++l) x<=pre.length:=by
 unfold pL;rw[List.filter_append,Zl];have:l.filter (fun a=>x.m.testBit a.i)=[]:=List.filter_eq_nil_iff.2 fun a b=>by rw[h a b];simp
 grind
theorem YA{all:LH}(h:oa all=true)(hx:x∈all)(h2:x.o.kind.cls≠2):∃d,x.o.dst=some d:=by
 have:=ZN.1 h x hx
 grind
theorem MV{all:LH}(h:oa all=true)(hx:x∈all)(hy:y∈all)(hne:y.i≠x.i){d:Nat}(hd:x.o.dst=some d):y.o.dst≠some d:=by
 have:=ZN.1 h x hx
 grind
theorem YC{all:LH}(h:oa all=true)(hx:x∈all):x.o.args.all eX=true/\∀p b,x.o.guard=some (p,b)->eX p=true:=by
 have:=ZN.1 h x hx
 grind
theorem YB{all:LH}(h:oa all=true)(hx:x∈all)(hy:y∈all){t:Nat}(ht:t∈ri x.o)(hd:y.o.dst=some t):x.m.testBit y.i=true\/y.m.testBit x.i=true:=by
 have:=ZN.1 h x hx
 grind
structure dU(all:LH)(D:AN)(ρ:zh)(tm nm:LL)(tmps:LM):Prop where
 old:∀t v,tm.get t=some v->(∀y∈all,D.getD y.i true=true->y.o.dst≠some t)->∃v',tmps[t]?=some v'/\VR ρ v v'
 new:∀y∈all,D.getD y.i true=true->∀d,y.o.dst=some d->∃v v',nm.get d=some v/\tmps[d]?=some v'/\VR ρ v v'
theorem dU.look{N:Nat}{ops:LX}{all acts:LH}(R:gX P N ops all acts)(hc:cE all D){tmps:LM}(k:dU all D ρ tm nm tmps)(hx:x∈all)(hu:D.getD x.i true=false)(hm:∀j,x.m.testBit j=true->D.getD j true=true):
  ∃tx,yX ρ tx tmps/\kV tx x.o.args=py tm nm (xd all x).args/\fA tx x.o.guard=pV tm nm (xd all x).guard:=by
 obtain⟨tx,h1,h2⟩:=Mn (sb all x tm nm) (ri x.o);obtain⟨g,h⟩:=YC R.tmps hx;refine⟨tx,fun t v l=>?_,HC g fun y a t d=>h1 t ?_,YW h fun p b t q d=>h1 t ?_⟩
 .obtain⟨d,hs⟩:=h2 t v l;simp only[sb,eT]at hs
  split at hs
  .rename_i hany;obtain⟨y,a,c⟩:=List.any_eq_true.1 hany;simp only[Zm,beq_iff_eq]at c;obtain⟨r,v',s,u,w⟩:=k.new y a (hm _ c.2) t c.1;simp only[nX]at hs
   grind
  .rename_i hany;refine k.old t v hs fun y a n f=>?_;rcases YB R.tmps hx a d f with e|e
   .grind
   .have:=hc y a n _ e
    grind
 .unfold ri
  grind
 .unfold ri
  grind
theorem dU.step{N:Nat}{ops:LX}{all acts:LH}(R:gX P N ops all acts){nm':LL}{a:Act}(k:dU all D ρ tm nm a.tmps)(hρ:∀b g loc,ρ b g=some loc->ρ' b g=some loc)(hnm:nm.sub nm')(hx:x∈all)(hi:x.i<D.size){v':Value}(hv:∀d,x.o.dst=some d->d<a.tmps.size/\∃v,nm'.get d=some v/\VR ρ' v v'):dU all (D.setIfInBounds x.i true) ρ' tm nm' (a.put x.o.dst v').tmps:=by
 have put:∀t,x.o.dst≠some t->(a.put x.o.dst v').tmps[t]?=a.tmps[t]?:=fun t n=>by
  cases c:x.o.dst with
  | none=>rfl
  | some d =>
   simp only[Act.put];rw[zDX9 (fun e=>n (by rw[c,e]))]
 refine⟨fun t v m l=>?_,fun y f c d j=>?_⟩
 .obtain⟨u,h1,h2⟩:=k.old t v m fun y f c=>l y f (by rw[gF _ _ _ hi];split;rfl;exact c);exact⟨u,by rw[put t (l x hx (by rw[gF _ _ _ hi,if_pos rfl]))];exact h1,h2.mono hρ⟩
 .rw[gF _ _ _ hi]at c
  by_cases e:y.i=x.i
  .have:=R.uniq y f x hx e;subst this;obtain⟨h1,v,h2,h3⟩:=hv d j;exact⟨v,v',h2,by rw[j];simp[Act.put,h1],h3⟩
  .rw[if_neg e]at c;obtain⟨v,u,h1,h2,h3⟩:=k.new y f c d j;exact⟨v,u,hnm _ _ h1,by rw[put d (MV R.tmps f hx (fun h=>e h.symm) j)];exact h2,h3.mono hρ⟩
def gS(all:LH)(tm:LL)(ρ:zh)(m n:Nat)(nm:LL)(x:Item):Prop :=
 ∃b d u,pV tm nm (xd all x).guard=some b/\x.o.dst=some d/\nm.get d=some u/\(b=false->u=.tuple []) /\
  (b=true->∃vs,py tm nm (xd all x).args=some vs/\(x.o.kind.cls=1->∃c,nT u=some c/\m<=c/\c<n/\∀g,ρ c g=none))
def aE(all:LH)(tm nm:LL)(h:TH)(x:Item):Prop:=pV tm nm (xd all x).guard=some true->∀vs d u,py tm nm (xd all x).args=some vs->x.o.dst=some d->nm.get d=some u ->
 (x.o.kind.cls=0->yb x.o.kind vs h=some u)/\(x.o.kind.cls=1->∀c,nT u=some c->∃z y,lay x.o.kind vs c=some z/\z.v=u/\h.get c=some y/\oq z.o y)
def mP(G:Item->Prop)(nm:LL):Prop:=∀x x' d d' u u' c,G x->G x'->x.o.kind.cls=1->x'.o.kind.cls=1->x.o.dst=some d->x'.o.dst=some d'->d≠d'->nm.get d=some u->nm.get d'=some u'->nT u=some c->nT u'=some c->False
variable {G:Item->Prop}{acts l:LH}{s:DS}
theorem gS.mono{all:LH}{n':Nat}(k:gS all tm ρ m n nm x)(hnm:nm.sub nm')(hn:n<=n')(hρ:∀c,c<n->(∀g,ρ c g=none)->∀g,ρ' c g=none):gS all tm ρ' m n' nm' x:=by
 obtain⟨b,d,u,h1,h2,h3,h4,a⟩:=k;refine⟨b,d,u,oe hnm h1,h2,hnm _ _ h3,h4,fun e=>?_⟩;obtain⟨vs,f,h⟩:=a e;refine⟨vs,en hnm f,fun i=>?_⟩
 grind
theorem aE.mono{all:LH}(k:gS all tm ρ m n nm x)(s:aE all tm nm h x)(hnm:nm.sub nm')(hh:h.sub h'):aE all tm nm' h' x:=by
 obtain⟨b,d,u,h1,h2,h3,h4,l⟩:=k;intro o vs I J p i q;have a:=oe hnm h1;rw[o]at a;injection a with e;subst e;obtain⟨G,j,_⟩:=l rfl;have f:=en hnm j;rw[p]at f;injection f with e;subst e;rw[i]at h2;injection h2 with e;subst e;have g:=hnm _ _ h3;rw[q]at g;injection g with e;subst e;obtain⟨r,t⟩:=s h1 vs _ _ j i h3;refine⟨fun h0=>VX hh (r h0),fun v c w=>?_⟩;obtain⟨z,y,A,B,C,D⟩:=t v c w;exact⟨z,y,A,B,hh _ _ C,D⟩
theorem mP.mono{all:LH}(k:mP G nm)(hk:∀x,G x->gS all tm ρ m n nm x)(hnm:nm.sub nm'):mP G nm':=by
 intro x x' d w u y c g h q j i a l r o s p;obtain⟨_,d0,z,_,h2,h3,_⟩:=hk x g;obtain⟨_,t,v,_,b,f,_⟩:=hk x' h;rw[i]at h2;injection h2 with e;subst e;rw[a]at b;injection b with e;subst e;have e:=hnm _ _ h3;rw[r]at e;injection e with e;subst e;have e:=hnm _ _ f;rw[o]at e;injection e with e;subst e;exact k x x' _ _ _ _ c g h q j i a l h3 f s p
theorem mP.sub{G':Item->Prop}(k:mP G nm)(hg:∀x,G' x->G x):mP G' nm:=fun x x' d a u b c g e=>k x x' d a u b c (hg _ g) (hg _ e)
theorem Ge:∀{l:List vB},dZ tm s l=true->∀o∈l,br tm s o=true
 | [],_,o,b=>by simp at b
 | a::l,h,o,b=>by
  unfold dZ at h;obtain⟨h1,h2⟩:=zD h;rcases ZD.1 b with rfl|b
  .exact h1
  .exact Ge h2 o b
theorem XF{all:LH}(h:br tm s (xd all x)=true):aE all tm s.nm s.h x:=by
 intro a vs d u b e f;unfold br at h;rw[a]at h;dsimp only at h;unfold BH at h;rw[show (xd all x).dst=some d from e]at h;dsimp only at h;rw[b]at h;dsimp only at h;rw[f]at h;unfold BK at h;dsimp only at h;change (match x.o.kind.cls with|0=>BJ s.h x.o.kind vs u|1=>BI s.h x.o.kind vs u|_=>false)=true at h;refine⟨fun h0=>?_,fun h1 c g=>?_⟩
 .simp only[h0]at h;unfold BJ at h
  split at h
  .rename_i v hp;rw[hp,TV.beq_sound _ _ _ h]
  .cases h
 .simp only[h1]at h;unfold BI at h;rw[g]at h;dsimp only at h
  split at h
  .rename_i z hz
   split at h
   .rename_i y hy;obtain⟨i,j⟩:=zD h;exact⟨z,y,hz,TV.beq_sound _ _ _ i,hy,Vj j⟩
   .cases h
  .cases h
theorem C1{all:LH}{s2:DS}(hm:m<=s.h.next)(h2:x.o.kind.cls≠2){d:Nat}(hd:x.o.dst=some d)(he:cY tm (xd all x) s=some s2)(hwr:WR P Z ρ s.h w):
  s2.df=s.df/\s.nm.sub s2.nm/\s.nm.get d=none/\s.h.sub s2.h/\s.h.next<=s2.h.next/\WR P Z ρ s2.h w/\gS all tm ρ m s2.h.next s2.nm x/\aE all tm s2.nm s2.h x/\∀u c,s2.nm.get d=some u->x.o.kind.cls=1->nT u=some c->c=s.h.next:=by
 unfold cY at he
 split at he
 .cases he
 .rename_i hw;obtain⟨nm,j,rfl⟩:=fY he;rw[show (xd all x).dst=some d from hd]at j;obtain⟨a,r,B⟩:=fZ j;obtain⟨t,f⟩:=r d rfl;refine⟨rfl,a,t,.refl _,Zi _,hwr,⟨false,d,_,oe a hw,hd,f,fun _=>rfl,fun h=>by cases h⟩,fun A=>?_,fun u c b _ n=>?_⟩
  .have:=oe a hw;dsimp only at A;rw[A]at this;cases this
  .dsimp only at b;rw[f]at b;injection b with b;subst b;cases n
 .rename_i hw;unfold oM at he
  split at he
  .cases he
  .rename_i vs hv;change (match x.o.kind.cls with|0=>C5 s x.o.dst (yb x.o.kind vs s.h)|1=>C4 s x.o.dst (lay x.o.kind vs s.h.next)|_=>none)=some s2 at he
   by_cases h0:x.o.kind.cls=0
   .rw[h0]at he
    cases i:yb x.o.kind vs s.h with
    | none=>rw[i]at he;cases he
    | some v =>
     rw[i]at he;obtain⟨nm,j,rfl⟩:=fY he;rw[hd]at j;obtain⟨a,r,B⟩:=fZ j;obtain⟨t,f⟩:=r d rfl;refine⟨rfl,a,t,.refl _,Zi _,hwr,⟨true,d,v,oe a hw,hd,f,(fun h=>by cases h),fun _=>⟨vs,en a hv,fun h=>by rw[h0]at h;cases h⟩⟩,fun _ C D G p q k=>?_,fun u c _ l=>by rw[h0]at l;cases l⟩;have e:=en a hv;dsimp only at p k;rw[p]at e;injection e with e;subst e;rw[hd]at q;injection q with e;subst e;rw[f]at k;injection k with e;subst e;exact⟨fun _=>i,fun h=>by rw[h0]at h;cases h⟩
   .by_cases h1:x.o.kind.cls=1
    .rw[h1]at he
     cases i:lay x.o.kind vs s.h.next with
     | none=>rw[i]at he;cases he
     | some z =>
      rw[i]at he;obtain⟨nm,j,rfl⟩:=fY he;rw[hd]at j;obtain⟨a,r,B⟩:=fZ j;obtain⟨t,f⟩:=r d rfl;have y:=Tq i;refine⟨rfl,a,t,TH.sub_push _ _,by dsimp only;rw[TH.nP];omega,hwr.push _,⟨true,d,z.v,oe a hw,hd,f,(fun h=>by cases h),fun _=>⟨vs,en a hv,fun _=>⟨s.h.next,y,hm,by dsimp only;rw[TH.nP];omega,fun g=>?_⟩⟩⟩,fun _ C D G p q k=>?_,fun u c b _ n=>?_⟩
      .cases I:ρ s.h.next g with
       | none=>rfl
       | some loc=>have:=(hwr.dom _ _ _ I).1;omega
      .have e:=en a hv;dsimp only at p k;rw[p]at e;injection e with e;subst e;rw[hd]at q;injection q with e;subst e;rw[f]at k;injection k with e;subst e;refine⟨fun h=>(by rw[h1]at h;cases h),fun _ c l=>?_⟩;rw[y]at l;injection l with l;subst l;exact⟨z,z.o,i,rfl,by dsimp only;rw[TH.gP,if_pos rfl],.refl _ (Ts i)⟩
      .dsimp only at b;rw[f]at b;injection b with b;subst b;rw[y]at n;injection n with n;exact n.symm
    grind
theorem bQ{all:LH}:∀(L:LH) (G:Item->Prop) (s s2:DS),m<=s.h.next->(∀x∈L,x.o.kind.cls≠2/\∃d,x.o.dst=some d)->aT tm (L.map (xd all)) s=some s2->WR P Z ρ s.h w->(∀x,G x->gS all tm ρ m s.h.next s.nm x/\aE all tm s.nm s.h x)->mP G s.nm ->
  s2.df=s.df/\s.nm.sub s2.nm/\s.h.next<=s2.h.next/\WR P Z ρ s2.h w/\(∀x,G x\/x∈L->gS all tm ρ m s2.h.next s2.nm x/\aE all tm s2.nm s2.h x)/\mP (fun x=>G x\/x∈L) s2.nm
 | [],G,s,s2,_,_,f,t,k,A=>by
  simp only[zAW9,aT]at f;injection f with f;subst f;exact⟨rfl,.refl _,Zi _,t,fun x l=>k x (by simpa using l),A.sub fun x l=>by simpa using l⟩
 | x::L,G,s,s2,M,N,f,t,k,A=>by
  simp only[Z3,aT]at f
  cases h1:cY tm (xd all x) s with
  | none=>rw[h1]at f;cases f
  | some i =>
   rw[h1]at f;dsimp only at f;obtain⟨O,d,Y⟩:=N x Zr;obtain⟨e1,n,e3,e4,B,e6,e7,e8,e9⟩:=C1 M O Y h1 t;have Q:∀y,G y\/y=x->gS all tm ρ m i.h.next i.nm y/\aE all tm i.nm i.h y:=fun y a=>by
    rcases a with a|rfl
    .obtain⟨p,r⟩:=k y a;exact⟨p.mono n B fun c _ hn=>hn,r.mono p n e4⟩
    grind
   have new:∀y C u q c,G y->y.o.kind.cls=1->y.o.dst=some C->x.o.kind.cls=1->i.nm.get d=some u->i.nm.get C=some q->nT u=some c->nT q=some c->False:=fun y C u q c gy a R l D v I j=>by
    have hc:=e9 u c D l I;obtain⟨b,d0,u0,p,r,k3,k4,k5⟩:=(k y gy).1;rw[R]at r;injection r with e;subst e;have e:=n _ _ k3;rw[v]at e;injection e with e;subst e
    cases b with
    | false=>rw[k4 rfl]at j;cases j
    | true =>
     obtain⟨vs,_,a2⟩:=k5 rfl;obtain⟨c',J,_,c2,_⟩:=a2 a;rw[j]at J;injection J with J;omega
   have S:mP (fun y=>G y\/y=x) i.nm:=by
    intro y y' d0 d1 u q c g K p T U V X D v I j;rcases g with g|rfl
    .rcases K with K|rfl
     .exact A.mono (fun z hz=>(k z hz).1) n y y' d0 d1 u q c g K p T U V X D v I j
     grind
    grind
   obtain⟨f1,f2,f3,f4,f5,f6⟩:=bQ L _ i s2 (Z0 M B) (fun y a=>N y (Zo _ a)) f e6 Q S;refine⟨f1.trans e1,n.trans f2,Z0 B f3,f4,fun y a=>f5 y ?_,f6.sub fun y a=>?_⟩
   .rcases a with a|a
    .exact .inl (.inl a)
    .rcases ZD.1 a with rfl|a
     .exact .inl (.inr rfl)
     .exact .inr a
   .rcases a with a|a
    .exact .inl (.inl a)
    .rcases ZD.1 a with rfl|a
     .exact .inl (.inr rfl)
     .exact .inr a
noncomputable def sf (C:ua)(ca:LD)(tm:LL)(all acts:LH)(j:Nat):LH->DS->AL
 | [],s=>some (.go s)
 | a::l,s=>match cO C ca tm (xd all a) s with
  | some (.go s)=>km C ca tm (bB all acts (j+1) l) s
  | r=>r
theorem Yr{all:LH}{j:Nat}{R:DR}(h:km C ca tm (bB all acts j l) s=some R):dZ tm s (CL all acts j)=true/\∃s2,aT tm (oN all acts j) s=some s2/\sf C ca tm all acts j l s2=some R:=by
 cases l with
 | nil =>
  simp only[bB,km]at h;obtain⟨h1,h2⟩:=vt h;refine⟨h1,?_⟩
  cases b:aT tm (oN all acts j) s with
  | none=>rw[b]at h2;cases h2
  | some s2=>rw[b]at h2;exact⟨s2,rfl,h2⟩
 | cons a l =>
  simp only[bB,km]at h;obtain⟨h1,h2⟩:=vt h;refine⟨h1,?_⟩
  cases b:aT tm (oN all acts j) s with
  | none=>rw[b]at h2;cases h2
  | some s2=>rw[b]at h2;exact⟨s2,rfl,h2⟩
def nN(all acts:LH)(D:AN)(j:Nat)(x:Item):Prop:=x∈all/\x.o.kind.cls≠2/\pL acts x<=j/\D.getD x.i true=false
theorem enter{N:Nat}{ops:LX}{all:LH}(R:gX P N ops all acts){D:AN}(hc:cE all D){pre:LH}(hal:acts=pre++l)(hpre:∀a∈pre,D.getD a.i true=true)(hund:∀x∈all,x.o.kind.cls≠2->pL acts x=pre.length->D.getD x.i true=false)(hms:m<=s.h.next)(hwr:WR P Z ρ s.h w)(hK:∀x∈all,x.o.kind.cls≠2->pL acts x<pre.length->D.getD x.i true=false->gS all tm ρ m s.h.next s.nm x)(hD:mP (fun x=>x∈all/\x.o.kind.cls≠2/\pL acts x<pre.length/\D.getD x.i true=false) s.nm){r:DR}(hs:km C ca tm (bB all acts pre.length l) s=some r):
  ∃s2,sf C ca tm all acts pre.length l s2=some r/\s2.df=s.df/\s.nm.sub s2.nm/\s.h.next<=s2.h.next/\WR P Z ρ s2.h w/\(∀x,nN all acts D pre.length x->gS all tm ρ m s2.h.next s2.nm x/\aE all tm s2.nm s2.h x)/\mP (nN all acts D pre.length) s2.nm:=by
 obtain⟨h1,s2,h2,h3⟩:=Yr hs;have p:=Ge h1;obtain⟨f1,f2,f3,f4,f5,f6⟩:=bQ _ (fun x=>x∈all/\x.o.kind.cls≠2/\pL acts x<pre.length/\D.getD x.i true=false) s s2 hms (fun x b=>by
   obtain⟨t,c⟩:=zAU9.1 b;simp only[Zm,bne_iff_ne]at c;exact⟨c.1,YA R.tmps t c.1⟩) h2 hwr (fun x ⟨d,e,f,g⟩=>⟨hK x d e f g,XF (p _ (Zu.2 ⟨x,zAU9.2 ⟨d,by
    simp only[Zm,bne_iff_ne,decide_eq_true_eq];refine⟨⟨e,f⟩,ZN.2 fun a n=>?_⟩;have k:a∈pre:=by rw[hal]at n;simpa using n
    have q:a∈all:=by
     have:a∈acts:=by rw[hal];exact zBX9 _ k
     rw[R.ac]at this;exact(zAU9.1 this).1
    cases u:a.m.testBit x.i with
    | false=>rfl
    | true=>have:=hc a q (hpre a k) x.i u;rw[g]at this;cases this⟩,rfl⟩))⟩) hD
 have j:∀x,nN all acts D pre.length x->(x∈all/\x.o.kind.cls≠2/\pL acts x<pre.length/\D.getD x.i true=false)\/x∈all.filter fun x=>x.o.kind.cls != 2&&pL acts x==pre.length:=fun x ⟨d,e,f,g⟩=>by grind
 exact⟨s2,h3,f1,f2,f3,f4,fun x b=>f5 x (j x b),f6.sub j⟩
theorem MK:∀(ds:LN) (tm:LL) (t:Nat) v,(fw nm ds tm).get t=some v->(t∈ds/\nm.get t=some v)\/(t ∉ ds/\tm.get t=some v)
 | [],tm,t,v,h=>.inr ⟨by simp,h⟩
 | d::ds,tm,t,v,h=>by
  simp only[fw]at h;rcases MK ds _ t v h with⟨h1,h2⟩|⟨h1,h2⟩
  .grind
  .rw[Tr.get_set]at h2
   grind
theorem Ik:∀(ds:LN) (tm:LL) (t:Nat) v,(ew ds tm).get t=some v->t ∉ ds/\tm.get t=some v
 | [],tm,t,v,h=>⟨by simp,h⟩
 | d::ds,tm,t,v,h=>by
  simp only[ew]at h;obtain⟨h1,h2⟩:=Ik ds _ t v h;rw[Tr.get_set]at h2
  grind
section
variable {C:ua}{rnd:LA}{ca:LD}{N:Nat}{ops:LX}{all acts:LH}{tm:LL}{h0:TH}{w0:World}{ρ0:zh}
structure pq(P:Program)(Z:Nat)(C:ua)(ca:LD)(N:Nat)(ops:LX)(all acts:LH)(tm:LL)(ρ0:zh)(h0:TH)(w0:World)(r:DR)(D:AN)(a:Act)(w:World)(ρ:zh)(pre l:LH)(s:DS):Prop where
 size:D.size=ops.size
 ac:acts=pre++l
 done:∀y∈pre,D.getD y.i true=true
 und:∀y∈l,D.getD y.i true=false
 closed:cE all D
 wr:WR P Z ρ s.h w
 df:pI ρ ca s.df a.defers
 hZ:Z<=w.heap.size
 sz:N<=a.tmps.size
 le:zh.le h0.next ρ0 ρ
 bel:Below Z w0 w
 nx:h0.next<=s.h.next
 slots:dU all D ρ tm s.nm a.tmps
 told:∀x,nN all acts D pre.length x->gS all tm ρ h0.next s.h.next s.nm x/\aE all tm s.nm s.h x
 dis:mP (nN all acts D pre.length) s.nm
 tail:sf C ca tm all acts pre.length l s=some r
variable {pre:LH}{r:DR}{s':St}
theorem pq.fin(R:gX P N ops all acts)(k:pq P Z C ca N ops all acts tm ρ0 h0 w0 r D a w ρ pre l s)(hall:∀i,i<ops.size->D.getD i true=true){x:TX}(hx:oH (all.filterMap fun x=>x.o.dst) tm (some r)=some (x,s')):CR P Z ρ0 N ca h0 w0 x s' .normal a w:=by
 have e:l=[]:=by
  cases l with
  | nil=>rfl
  | cons y l =>
   have h1:=k.und y Zr;have b:y∈all:=by
    have:y∈acts:=by rw[k.ac];simp
    rw[R.ac]at this;exact(zAU9.1 this).1
   rw[hall _ (R.lt b)]at h1;cases h1
 have c:=k.tail;subst e;simp only[sf]at c;injection c with c;subst c;simp only[oH]at hx;injection hx with hx;injection hx with h1 h2;subst h1;subst h2;refine⟨ρ,k.le,k.bel,k.nx,rfl,k.wr,fun t v f=>?_,k.sz,k.df,k.hZ⟩;rcases MK _ _ t v f with⟨h1,h2⟩|⟨h1,h2⟩
 .obtain⟨y,b,d⟩:=zEJ9.1 h1;obtain⟨u,v',g,h,j⟩:=k.slots.new y b (hall _ (R.lt b)) t d
  grind
 .exact k.slots.old t v h2 fun y b _ d=>h1 (zEJ9.2 ⟨y,b,d⟩)
theorem nN.unset{y:Item}{j:Nat}(hi:x.i<D.size)(h:nN all acts (D.setIfInBounds x.i true) j y):nN all acts D j y/\y.i≠x.i:=by
 obtain⟨h1,h2,h3,h4⟩:=h;rw[gF _ _ _ hi]at h4
 split at h4
 .cases h4
 .rename_i e;exact⟨⟨h1,h2,h3,h4⟩,e⟩
theorem pq.next(R:gX P N ops all acts)(k:pq P Z C ca N ops all acts tm ρ0 h0 w0 r D a w ρ pre l s)(hx:x∈all)(hx2:x.o.kind.cls≠2)(hu:D.getD x.i true=false)(hm:∀j,x.m.testBit j=true->D.getD j true=true){d:Nat}(hd:x.o.dst=some d)(hdN:d<N){u:TV}(hud:s.nm.get d=some u)(hle:zh.le h0.next ρ ρ')(hv:VR ρ' u v')(hwr:WR P Z ρ' s.h w')(hb:Below Z w w')(hnone:∀y,nN all acts D pre.length y->y.i≠x.i->gS all tm ρ' h0.next s.h.next s.nm y):pq P Z C ca N ops all acts tm ρ0 h0 w0 r (D.setIfInBounds x.i true) (a.put x.o.dst v') w' ρ' pre l s:=by
 have hi:=(tB hu).2;refine⟨by rw[Array.size_setIfInBounds];exact k.size,k.ac,fun y b=>?_,fun y b=>?_,k.closed.set R hx hi hm,hwr,by rw[Eu];exact k.df.mono hle.more,Z0 k.hZ hb.size,by rw[Ex];exact k.sz,k.le.trans hle (Zi _),k.bel.trans hb,k.nx,
  k.slots.step R hle.more (.refl _) hx hi fun n c=>?_,fun y b=>?_,k.dis.sub fun y b=>(b.unset hi).1,k.tail⟩
 .rw[gF _ _ _ hi];split
  .rfl
  .exact k.done y b
 .have f:y.i≠x.i:=fun e=>by
   have g:y∈all.filter fun x=>x.o.kind.cls==2:=by rw[<- R.ac,k.ac];exact zCW9 _ b
   obtain⟨h1,h2⟩:=zAU9.1 g;rw[R.uniq y h1 x hx e]at h2
   grind
  rw[gF _ _ _ hi,if_neg f];exact k.und y b
 .rw[hd]at c;injection c with e;subst e;exact⟨ZR hdN k.sz,u,hud,hv⟩
 .obtain⟨h1,h2⟩:=b.unset hi;exact⟨hnone y h1 h2,(k.told y h1).2⟩
theorem pq.acted(R:gX P N ops all acts)(k:pq P Z C ca N ops all acts tm ρ0 h0 w0 r D a w ρ pre (x::l) s)(hm:∀j,x.m.testBit j=true->D.getD j true=true){s1:DS}{a':Act}(hat:a'.tmps=a.tmps)(hs:km C ca tm (bB all acts (pre.length+1) l) s1=some r)(hle:zh.le s.h.next ρ ρ')(hwr:WR P Z ρ' s1.h w')(hb:Below Z w w')(hnx:s.h.next<=s1.h.next)(hnm:s.nm.sub s1.nm)(hdf:pI ρ' ca s1.df a'.defers)(hdst:∀d,x.o.dst=some d->d<N/\∃v,s1.nm.get d=some v/\VR ρ' v v'):∃s2,pq P Z C ca N ops all acts tm ρ0 h0 w0 r (D.setIfInBounds x.i true) (a'.put x.o.dst v') w' ρ' (pre++[x]) l s2:=by
 have Q:=k.und x Zr;have hi:=(tB Q).2;have K:x∈all.filter fun x=>x.o.kind.cls==2:=by rw[<- R.ac,k.ac];simp
 obtain⟨c,f⟩:=zAU9.1 K;have f:x.o.kind.cls=2:=by simpa using f
 have B:=k.closed.set R c hi hm;have t:acts=(pre++[x])++l:=by rw[k.ac];simp
 have n:∀y∈pre++[x],(D.setIfInBounds x.i true).getD y.i true=true:=fun y b=>by
  rw[gF _ _ _ hi];split
  .rfl
  .rename_i e;rcases ZW.1 b with b|b
   .exact k.done y b
   grind
 have G:∀y∈all,y.o.kind.cls≠2->pL acts y=(pre++[x]).length->(D.setIfInBounds x.i true).getD y.i true=false:=fun y b u I=>by
  rw[gF _ _ _ hi]
  split
  .rename_i e;rw[R.uniq y b x c e]at u;exact absurd f u
  .cases g:D.getD y.i true with
   | false=>rfl
   | true =>
    exfalso
    have h1:pL acts y<=pre.length:=by
     rw[k.ac];refine Jw fun z S=>?_
     cases hb:y.m.testBit z.i with
     | false=>rfl
     | true=>have h2:=k.closed y b g _ hb;rw[k.und z S]at h2;cases h2
    rw[I]at h1;simp at h1;omega
 have conv:∀y,y∈all->y.o.kind.cls≠2->pL acts y<(pre++[x]).length->(D.setIfInBounds x.i true).getD y.i true=false->nN all acts D pre.length y:=fun y h1 h2 h3 h4=>by
  rw[gF _ _ _ hi]at h4
  split at h4
  .cases h4
  .exact⟨h1,h2,by simp at h3;omega,h4⟩
 have J:(pre++[x]).length=pre.length+1:=by simp
 rw[<- J]at hs;obtain⟨s2,t1,t2,t3,t4,t5,t6,t7⟩:=enter (w:=w') R B t n G (Z0 k.nx hnx) hwr (fun y h1 h2 h3 h4=>((k.told y (conv y h1 h2 h3 h4)).1).mono hnm hnx hle.none) ((k.dis.mono (fun y b=>(k.told y b).1) hnm).sub fun y ⟨h1,h2,h3,h4⟩=>conv y h1 h2 h3 h4) hs;refine⟨s2,by rw[Array.size_setIfInBounds];exact k.size,t,n,fun y b=>?_,B,t5,by rw[t2,Eu];exact hdf,Z0 k.hZ hb.size,by rw[Ex,hat];exact k.sz,k.le.trans hle k.nx,k.bel.trans hb,Z0 k.nx (Z0 hnx t4),?_,t6,t7,t1⟩
 .have L:y.i≠x.i:=fun e=>by
   have M:y∈all.filter fun x=>x.o.kind.cls==2:=by rw[<- R.ac,k.ac];simp[b]
   have O:=R.uniq y (zAU9.1 M).1 x c e;have q:=R.row;rw[k.ac]at q;obtain⟨p,T,A⟩:=ES (EU pre q) b;rw[O]at A;have:=hm _ A;rw[k.und p T]at this;cases this
  rw[gF _ _ _ hi,if_neg L];exact k.und y (Zo _ b)
 .refine dU.step R (a:=a') (by rw[hat];exact k.slots) hle.more (hnm.trans t3) c hi fun d g=>?_;obtain⟨h1,v,h2,h3⟩:=hdst d g;exact⟨by rw[hat];exact ZR h1 k.sz,v,t3 _ _ h2,h3⟩
theorem Qr(hC:gf P C)(hR:nJ P C)(hrnd:rnd=none\/∀f,ca.get f=none)(R:gX P N ops all acts){x:TX}(hx:oH (all.filterMap fun x=>x.o.dst) tm (some r)=some (x,s')):
  ∀(n:Nat) (D:AN) (a:Act) (w:World) (ρ:zh) (pre l:LH) (s:DS),D.toList.count false<=n->pq P Z C ca N ops all acts tm ρ0 h0 w0 r D a w ρ pre l s->wpAnyIn (Fr rnd) 0 P .any ops (CR P Z ρ0 N ca h0 w0 x s') n D a w:=by
 intro n
 induction n with
 | zero =>
  intro D a w ρ pre l s hn k;have U:Region.ready .any ops D=[]:=by
   cases U:Region.ready .any ops D with
   | nil=>rfl
   | cons i m =>
    have h1:i∈Region.ready .any ops D:=by rw[U];exact Zr
    have:=(tB (mem_ready.1 h1).1).1;omega
  exact⟨U,k.fin R (K4 R k.size U) hx⟩
 | succ n X =>
  intro D a w ρ pre l s hn k;refine⟨fun U=>k.fin R (K4 R k.size U) hx,fun i hi=>?_⟩;obtain⟨cl,o,ho,_⟩:=mem_ready.1 hi;obtain⟨y,K,e⟩:=R.item i o ho;subst e;obtain⟨G,M⟩:=WZ R k.closed K hi;have V:(D.setIfInBounds y.i true).toList.count false<=n:=by have:=Qh G;omega
  obtain⟨o',a9,j⟩:=R.op y K;rw[ho]at a9;injection a9 with e;subst e;obtain⟨tx,x1,x2,x3⟩:=k.slots.look R k.closed K G M;unfold wpOpIn;rw[ho];dsimp only;have ad:∀b,pV tm s.nm (xd all y).guard=some b->Region.wanted o (yielded ops a.tmps)=b:=fun b I=>bE j x1 (by rw[x3];exact I)
  by_cases Q:y.o.kind.cls=2
  ·-- fe that acts
   have bb:y∈acts:=by rw[R.ac];exact zAU9.2 ⟨K,by simp[Q]⟩
   have bm:y∈l:=by
    rw[k.ac]at bb;rcases ZW.1 bb with h1|h1
    .rw[k.done y h1]at G;cases G
    .exact h1
   cases l with
   | nil=>cases bm
   | cons z l =>
    have b3:y=z:=by
     rcases ZD.1 bm with h1|h1
     .exact h1
     .have a7:=R.row;rw[k.ac]at a7;obtain⟨p,q,b4⟩:=ES (EU pre a7) h1;have:=M _ b4;rw[k.und p q]at this;cases this
    subst b3;have A:=k.tail;simp only[sf]at A
    cases h1:cO C ca tm (xd all y) s with
    | none=>rw[h1]at A;cases A
    | some r1 =>
     rw[h1]at A;unfold cO at h1
     split at h1
     .cases h1
     .rename_i hw;rw[ad _ hw];simp only[zAM9,if_false];refine⟨fun _ _=>trivial,?_⟩
      cases q:dput s.df s.h (gt s.nm (xd all y).dst (.tuple []))with
      | none=>rw[q]at h1;cases h1
      | some s1 =>
       rw[q]at h1;simp only[aM]at h1;injection h1 with h1;subst h1;obtain⟨nm,O,rfl⟩:=fY q;obtain⟨Y,a2,a3⟩:=fZ O;rw[<- j.dst];obtain⟨s2,k2⟩:=k.acted R M rfl A (.refl _ _) k.wr (.refl _ _) (Zi _) Y k.df (v':=undef) fun d B=>⟨j.lt d B,_,(a2 d B).2,VR.undef ρ⟩
       exact X _ _ _ _ _ _ _ V k2
     .rename_i hw;rw[ad _ hw];simp only[if_true]
      split at h1
      .cases h1
      .rename_i vs hv
       cases ah:act C ca y.o.kind vs s.h with
       | none=>rw[show (xd all y).kind=y.o.kind from rfl,ah]at h1;cases h1
       | some tr =>
        rw[show (xd all y).kind=y.o.kind from rfl,ah]at h1;refine Ga hC hR hrnd k.wr k.hZ x1 k.df j (x2.trans hv) Q ah (fun v h' e v' w' ρ' T av I a0 a4=>?_) (fun v h' e v' w' ρ' T av I a0 a4=>?_) (fun d e d' b5=>?_)
        .subst e;simp only[cP]at h1
         cases q:dput s.df h' (gt s.nm (xd all y).dst v)with
         | none=>rw[q]at h1;cases h1
         | some s1 =>
          rw[q]at h1;simp only[aM]at h1;injection h1 with h1;subst h1;obtain⟨nm,O,rfl⟩:=fY q;obtain⟨Y,a2,a3⟩:=fZ O;rw[<- j.dst];obtain⟨s2,k2⟩:=k.acted R M rfl A T av I a4 Y (k.df.mono T.more) (v':=v') fun d B=>⟨j.lt d B,_,(a2 d B).2,a0⟩
          exact X _ _ _ _ _ _ _ V k2
        .subst e;simp only[cP]at h1;injection h1 with h1;subst h1;dsimp only at A;injection A with A;subst A;simp only[oH]at hx;injection hx with hx;injection hx with h1 h2;subst h1;subst h2;refine⟨ρ',k.le.trans T k.nx,k.bel.trans I,Z0 k.nx a4,⟨v',rfl,a0⟩,av,fun t u G=>?_,k.sz,k.df.mono T.more,Z0 k.hZ I.size⟩;obtain⟨g1,J⟩:=Ik _ _ t u G;obtain⟨u',b1,b2⟩:=k.slots.old t u J fun z hz _ B=>g1 (zEJ9.2 ⟨z,hz,B⟩);exact⟨u',b1,b2.mono T.more⟩
        .subst e;simp only[cP]at h1
         cases q:dput (d::s.df) s.h (gt s.nm (xd all y).dst (.tuple []))with
         | none=>rw[q]at h1;cases h1
         | some s1 =>
          rw[q]at h1;simp only[aM]at h1;injection h1 with h1;subst h1;obtain⟨nm,O,rfl⟩:=fY q;obtain⟨Y,a2,a3⟩:=fZ O;rw[<- j.dst];obtain⟨s2,k2⟩:=k.acted R (a':={ a with defers:=d'::a.defers }) M rfl A (.refl _ _) k.wr (.refl _ _) (Zi _) Y b5 (v':=undef) fun d B=>⟨j.lt d B,_,(a2 d B).2,VR.undef ρ⟩
          exact X _ _ _ _ _ _ _ V k2
  ·-- fe that does not
   have bw:pL acts y<=pre.length:=by
    rw[k.ac];refine Jw fun z hz=>?_
    cases I:y.m.testBit z.i with
    | false=>rfl
    | true=>have h2:=M _ I;rw[k.und z hz]at h2;cases h2
   have bo:nN all acts D pre.length y:=⟨K,Q,bw,G⟩
   obtain⟨⟨b,d,u,g1,J,g3,g4,g5⟩,bp⟩:=k.told y bo;rw[ad _ g1];have a8:∀v',VR ρ u v'->wpAnyIn (Fr rnd) 0 P .any ops (CR P Z ρ0 N ca h0 w0 x s') n (D.setIfInBounds y.i true) (a.put o.dst v') w:=fun v' b6=>by
    rw[<- j.dst];exact X _ _ _ _ _ _ _ V (k.next R K Q G M J (j.lt d J) g3 (.refl _ _) b6 k.wr (.refl _ _) fun z hz _=>(k.told z hz).1)
   cases b with
   | false =>
    simp only[zAM9,if_false];refine⟨fun _ _=>trivial,a8 _ ?_⟩;rw[g4 rfl];exact VR.undef ρ
   | true =>
    simp only[if_true];obtain⟨vs,hv,b7⟩:=g5 rfl;obtain⟨s1,s2⟩:=bp g1 vs d u hv J g3
    by_cases a5:y.o.kind.cls=0
    .exact KB k.wr x1 j (x2.trans hv) a5 (s1 a5) a8
    .have ab:y.o.kind.cls=1:=Decidable.byContradiction fun h1=>Q (Hf a5 h1);obtain⟨c,c1,c0,c2,c3⟩:=b7 ab;obtain⟨z,yy,z1,z2,z3,z4⟩:=s2 ab c c1;have bx:=k.wr.set_none c3 z.o;refine Jb bx k.hZ x1 j (x2.trans hv) ab c3 (by rw[TH.next_set];exact c2) z1 (by rw[TH.get_set _ _ _ _ c2,if_pos rfl]) fun v' w1 L S q1 q2 b0=>?_;rw[z2]at q2;have bs:=zh.add_more (loc:=⟨w.heap.size,L,S⟩) (c3 0);rw[<- j.dst];refine X _ _ _ _ _ _ _ V (k.next R K Q G M J (j.lt d J) g3 ⟨bs,fun b I hn g=>?_⟩ q2 (q1.unset z3 z4) b0 fun x' a6 cb=>?_)
     .rw[zh.add_ne zo];exact hn g
     .obtain⟨b',d',u',O,e2,e3,e4,e5⟩:=(k.told x' a6).1;refine⟨b',d',u',O,e2,e3,e4,fun cc=>?_⟩;obtain⟨ch,e6,e7⟩:=e5 cc;refine⟨ch,e6,fun hk=>?_⟩;obtain⟨c',i1,i0,i2,i3⟩:=e7 hk;refine⟨c',i1,i0,i2,fun g=>?_⟩;have ck:c'≠c:=fun e=>by
       rw[e]at i1;refine k.dis y x' d d' u u' c bo a6 ab hk J e2 (fun ed=>?_) g3 e3 c1 i1;rw[<- ed]at e2;exact MV R.tmps K a6.1 cb J e2
      rw[zh.add_ne ck];exact i3 g
end
theorem Qs{C:ua}(hC:gf P C)(hR:nJ P C){rnd:LA}{ca:LD}(hrnd:rnd=none\/∀f,ca.get f=none)(hmix:P.follows .mixedOrders=true){N:Nat}{id:Nat}{ops:LX}{os:List vB}(hts:yf (lJ P N ops) ops.toList=some os){c:vP}(hc:tE ops.toList os=some c)
  {s:St} {a:Act} (k:yx P Z ρ N ca s a w) {M:Nat} {trnd:LA} {x:TX} {s':St} (hs:we C ca M trnd c s=some (x,s')):(Code.region id ops true).wpIn (Fr rnd) 0 P (CR P Z ρ N ca s.h w x s') a w:=by
 obtain⟨all,acts,R,rfl⟩:=Qq hts hc;simp only[we]at hs;refine wpIn_region_any hmix ?_
 cases n:km C ca s.tm (bB all acts 0 acts) ⟨.nil,s.df,s.h⟩with
 | none=>rw[n]at hs;cases hs
 | some r =>
  rw[n]at hs;have j:∀x∈all,(Array.replicate ops.size false).getD x.i true=false:=fun x d=>by
   have:=R.lt d
   simp_all
  have o:cE all (Array.replicate ops.size false):=fun x d e=>by rw[j x d]at e;cases e
  have p:WR P Z ρ s.h w.drew:=k.wr.drew;obtain⟨u,t1,t2,t3,t4,t5,t6,t7⟩:=enter (C:=C) (ca:=ca) (tm:=s.tm) (pre:=[]) (l:=acts) (w:=w.drew) (s:=⟨.nil,s.df,s.h⟩) (m:=s.h.next) R o rfl (fun a z=>by cases z) (fun x d _ _=>j x d) (Zi _) p (fun x _ _ h=>by simp at h) (fun x x' _ _ _ _ _ g=>by simp at g) n;have q:∀y∈acts,y∈all:=fun y b=>by rw[R.ac]at b;exact(zAU9.1 b).1
  refine Qr hC hR hrnd R hs ops.size _ a w.drew ρ [] acts u ?_ ⟨(by simp),rfl,fun y b=>(by cases b),fun y b=>j y (q y b),o,t5,(by rw[t2];exact k.df),k.hZ,k.sz,.refl _ _,⟨rfl,rfl,rfl,Zi _,fun _ _=>rfl⟩,t4,⟨fun t v A _=>k.tm t v A,fun y b e=>(by rw[j y b]at e;cases e)⟩,t6,t7,t1⟩;exact Z0 (List.count_le_length) (by simp)
section
variable {F:Fence}{n:Nat}{Q:Exit->Act->World->Prop}{a:Act}
variable {b:Frame}{c:Code}{cs:List Frame}{k:List Go.Item}
theorem MC:step P (lone (b.atR a (.code (.scope c)::k)) cs w)=.next (lone (b.atR a (.code c::.inScope c::k)) cs w) :=
 step_lone_go (by simp[stepG,stepG.exec,Frame.atR])
theorem Yt:step P (lone (b.atR a (.inScope c::k)) cs w)=.next (lone (b.atR a k) cs w) :=
 step_lone_go (by simp[stepG,stepG.exec,Frame.atR])
theorem HF(id:Nat)(c:Code)(k:List Go.Item):exitTo id (.inScope c::k)=exitTo id k:=by simp[exitTo]
theorem Fq(J:Act->World->Prop)(l:Nat)(hf:(∀a w,¬J a w)\/∃rest,findLabel c l=some rest/\∀a w,J a w->rest.wpIn F n P (Exit.noGoto Q) a w)(first:c.wpIn F n P (Exit.jump l J Q) a w):(Code.scope c).wpIn F n P Q a w:=by
 intro b k cs r j o;have h0:(lone (b.atR a (.code (.scope c)::k)) cs w).fenced P F:=fenced_calm j o rfl;have t:∀{e:Exit} {g:Act} {h:World} {m:Machine},(∀l,e ≠ .goto l)->ArrivesIn (Machine.fenced P F) P m b (.inScope c::k) cs e g h->ArrivesIn (Machine.fenced P F) P m b k cs e g h:=fun{e g h m} f d=>by
  cases e with
  | normal=>exact StepsIn.trans d (.one (fenced_calm j o rfl) Yt)
  | exit id=>exact⟨fun k' p=>d.1 k' (by rw[HF];exact p),fun z p=>d.2 z (by rw[HF];exact p)⟩
  | goto i=>exact absurd rfl (f i)
  | ret=>exact d
  | panic G=>exact d
  | outgrown=>exact d
 obtain⟨e,g,h,u,d⟩:=first b (.inScope c::k) cs r j o
 by_cases v:∃i,e=.goto i
 .obtain⟨i,rfl⟩:=v;obtain⟨rfl,B⟩:=u;rcases hf with hf|⟨rest,hf,x⟩
  .grind
  .have A:gotoIn i (.inScope c::k)=some (.code rest::.inScope c::k):=by simp[gotoIn,hf]
   obtain⟨q,C,D,s,y⟩:=x g h B b (.inScope c::k) cs r j o;have f:∀l,q ≠ .goto l:=fun l e=>by subst e;exact s
   refine⟨q,C,D,?_,.of_steps (.head h0 MC (d.1 _ A)) (t f y)⟩
   cases q<;>first|exact s|exact absurd rfl (f _)
 .have f:∀l,e ≠ .goto l:=fun l e=>v ⟨l,e⟩;refine⟨e,g,h,?_,.of_steps (.one h0 MC) (t f d)⟩
  cases e<;>first|exact u|exact absurd rfl (f _)
end
def dS(ρ:zh):LA->LA->Prop
 | none,none=>True
 | some l,some r=>∃loc,ρ l 0=some loc/\loc.r=r
 | _,_=>False
variable {assign:Code}{bo:vP}{body:Code}{e:Exit}{l:Nat}{ps:Array Tmp}{s:St}{trnd:LA}{x:TX}
theorem dS.mono(hρ:∀b g loc,ρ b g=some loc->ρ' b g=some loc){t r:LA}(k:dS ρ t r):dS ρ' t r:=by
 cases t<;>cases r<;>first|exact k|skip
 obtain⟨loc,h1,h2⟩:=k;exact⟨loc,hρ _ _ _ h1,h2⟩
theorem Cs{r:Nat}(hr:Z<=r)(o:Obj):Below Z w (w.putObj r o):=⟨rfl,rfl,rfl,by simp,fun k a=>World.putObj_heap_other zo⟩
theorem Xt{r:Loop}(hl:w.heap[l]?=some (.loop r))(fn:FuncId)(tmps:LM)(ps:Array Tmp)(assign body:Code):
  (Instr.enterLoop fn tmps ps assign body (some l)).run P w=.ok (w.heap.size,[]) (w.alloc (.loop { state:=.ready,pending:=none,fn,tmps,params:=ps,assign,body,defers:=r.defers })):=by
 unfold Instr.enterLoop;simp only[Sem.run_bind,run_getLoop hl,run_newObj_alloc,Result.andThen,Sem.run_pure]
theorem WR.none_at(k:WR P Z ρ h w)(g:Nat):ρ h.next g=none:=by
 cases a:ρ h.next g with
 | none=>rfl
 | some loc=>have:=(k.dom _ _ _ a).1;omega
theorem zh.le_add{b:Nat}(hb:n<=b)(hn:ρ b 0=none){loc:yP}:zh.le n ρ (ρ.add b 0 loc) :=
 ⟨zh.add_more hn,fun c a h g=>by rw[zh.add_ne zo];exact h g⟩
theorem Ys{rnd:LA}(k:yx P Z ρ N ca s a w)(kr:dS ρ trnd rnd){x:FL}(hx:se trnd s=some x){aS:vP}(hps:∀p∈ps.toList,p<N)(has:uT P N n assign=some aS)(hbo:uT P N m body=some bo)(fn:FuncId):
  ∃lr mark w1 ρ1 loc,(Instr.enterLoop fn a.tmps ps assign body rnd).run P w=.ok (lr,mark) w1/\zh.le s.h.next ρ ρ1/\ρ1 x.l 0=some loc/\loc.r=lr/\WR P Z ρ1 (x.h.push (.loop .ready .norm s.tm ps.toList aS bo x.d)) w1/\Below Z w w1/\pI ρ1 ca x.df (mark++a.defers)/\s.h.next<=x.h.next:=by
 cases trnd with
 | none =>
  cases rnd with
  | some r=>exact kr.elim
  | none =>
   simp only[se]at hx;injection hx with hx;subst hx;have B:WR P Z ρ (s.h.push (.dfr false)) w:=k.wr.push _;have e:=k.wr.none_at
   have v:=B.real (x:=.dfr false) (o:=.deferred (some [])) (L:=0) (S:=0) e (by rw[TH.nP];omega) k.hZ (by rw[TH.gP,if_pos rfl]) ⟨_,zh.aS _ _ _ _,World.alloc_heap_new _ _⟩;have g:=zh.le_add (ρ:=ρ) (loc:=⟨w.heap.size,0,0⟩) (Zi s.h.next) (e 0);have j:=v.push (.loop .ready .norm s.tm ps.toList aS bo s.h.next);have i:=v.none_at
   rw[TH.nP]at i;have c:=zh.le_add (ρ:=ρ.add s.h.next 0 ⟨w.heap.size,0,0⟩) (loc:=⟨(w.alloc (.deferred (some []))).heap.size,0,0⟩) (Nat.le_succ s.h.next) (i 0);have t:Z<=(w.alloc (.deferred (some []))).heap.size:=by have:=k.hZ;simp;omega
   have q:=j.real (x:=.loop .ready .norm s.tm ps.toList aS bo s.h.next) (b:=s.h.next+1) (L:=0) (S:=0) (o:=.loop { state:=.ready,pending:=none,fn,tmps:=a.tmps,params:=ps,assign,body,defers:=w.heap.size }) i (by rw[TH.nP,TH.nP];omega) t (by rw[TH.gP,TH.nP,if_pos rfl])
    ⟨_,_,⟨w.heap.size,0,0⟩,N,n,m,zh.aS _ _ _ _,c.more _ _ _ (zh.aS _ _ _ _),World.alloc_heap_new _ _,rfl,rfl,(k.tm.mono g.more).mono c.more,k.sz,rfl,hps,has,hbo,rfl⟩
   refine⟨_,_,_,_,_,run_enterLoop_outer fn a.tmps ps assign body,g.trans c (Zi _),zh.aS _ _ _ _,by simp,q,((Below.refl Z w).alloc k.hZ _).trans ((Below.refl Z _).alloc t _),?_,by dsimp only;rw[TH.nP];omega⟩;exact .mark (c.more _ _ _ (zh.aS _ _ _ _)) ((k.df.mono g.more).mono c.more)
 | some T =>
  cases rnd with
  | none=>exact kr.elim
  | some r =>
   obtain⟨J,u,rfl⟩:=kr;simp only[se]at hx;obtain⟨o,C,z⟩:=k.wr.obj _ _ _ u;rw[C]at hx;dsimp only at hx
   cases o with
   | loop U V M O Q R d =>
    simp only[Hr]at hx;injection hx with hx;subst hx;obtain⟨K,A,y,X,Y,m',f,D,G,_,_,_,_,_,_,_,_,I⟩:=z;rw[u]at f;injection f with f;subst f;have e:=k.wr.none_at
    have j:=k.wr.push (.loop .ready .norm s.tm ps.toList aS bo d);have c:=zh.le_add (ρ:=ρ) (loc:=⟨w.heap.size,0,0⟩) (Zi s.h.next) (e 0);have q:=j.real (x:=.loop .ready .norm s.tm ps.toList aS bo d) (b:=s.h.next) (L:=0) (S:=0) (o:=.loop { state:=.ready,pending:=none,fn,tmps:=a.tmps,params:=ps,assign,body,defers:=A.defers }) e (by rw[TH.nP];omega) k.hZ (by rw[TH.gP,if_pos rfl])
     ⟨_,_,y,N,n,m,zh.aS _ _ _ _,c.more _ _ _ D,World.alloc_heap_new _ _,rfl,rfl,k.tm.mono c.more,k.sz,rfl,hps,has,hbo,I⟩
    exact⟨_,_,_,_,_,Xt G fn a.tmps ps assign body,c,zh.aS _ _ _ _,rfl,q,(Below.refl Z w).alloc k.hZ _,k.df.mono c.more,Zi _⟩
   | row=>cases hx
   | map=>cases hx
   | dfr=>cases hx
   | ro=>cases hx
theorem WM(hC:gf P C){rnd:LA}(k:yx P Z ρ N ca s a w)(kr:dS ρ trnd rnd){g:Operand}{gid:Nat}{cap:LK}(hg:VR ρ (.fn gid cap) (a.eval g)){aS:vP}(hps:∀p∈ps.toList,p<N)(has:uT P N n assign=some aS)(hbo:uT P N m body=some bo){s':St}(hs:Br C trnd gid cap ps.toList aS bo s=some (x,s')):(Code.rangeFunc g ps assign body).wpIn (Fr rnd) 0 P (CR P Z ρ N ca s.h w x s') a w:=by
 unfold Br at hs
 split at hs
 .cases hs
 .rename_i st hst
  cases q:C.fn gid (.yield st.l::cap) (st.h.push (.loop .ready .norm s.tm ps.toList aS bo st.d))with
  | none=>rw[q]at hs;cases hs
  | some a6 =>
   obtain⟨te,h1⟩:=a6;rw[q]at hs
   cases te with
   | panic v=>cases hs
   | ret v =>
    simp only[Ci]at hs
    cases R:h1.get st.l with
    | none=>rw[R]at hs;cases hs
    | some o =>
     rw[R]at hs;dsimp only at hs;refine wpIn_rangeFunc fun fn b6=>?_;obtain⟨lr,mark,M,ρ1,loc,e1,e2,e3,e4,e5,X,e7,e8⟩:=Ys k kr hst hps has hbo fn;subst e4;have ab:=hg.mono e2.more;generalize a7:a.eval g=gv at ab
     cases ab with
     | fn a8 a9 =>
      rename_i G;obtain⟨a2,a1⟩:=hC gid _ _ _ h1 q Z ρ1 M (.func (.yield loc.r) #[] #[]::G) e5 (Z0 k.hZ X.size) (.cons (.yield e3) ⟨a8,a9⟩);refine⟨loc.r,mark,M,{ target:=.fn (.func gid) G.toArray,args:=#[.func (.yield loc.r) #[] #[]] },M,gid,(.func (.yield loc.r) #[] #[]::G).toArray,M,e1,?_,fun _ _=>trivial,?_,fun hd=>by simp[Fr,Fence.wide]at hd,?_⟩
      .have hy:a.eval (.const (.func (.yield loc.r) #[] #[]))=.func (.yield loc.r) #[] #[]:=rfl;simp[resolve,rangeCall,a7,Deferred.ofValue,hy]
      .have:(#[.func (.yield loc.r) #[] #[]]:LM)++G.toArray=(.func (.yield loc.r) #[] #[]::G).toArray:=by simp
       simp only[invoke,this];exact a2 M
      .refine CallsIn.mono (Pw.2 a1) ?_;rintro e B ⟨D,Y,y,g3,g4,v',rfl,g5⟩;have ad:zh.le s.h.next ρ D:=e2.trans Y (by rw[TH.nP];omega);have u:=Y.more _ _ _ e3;obtain⟨o',O,bb⟩:=y.obj _ _ _ u;rw[R]at O;injection O with O;subst O
       cases o with
       | row=>cases hs
       | map=>cases hs
       | dfr=>cases hs
       | ro=>cases hs
       | loop bm i I J K L d =>
        obtain⟨b5,j,a3,N',n',m',S,q2,q3,q4,b,q6,q7,q8,q9,bp,bs,bw⟩:=bb;rw[u]at S;injection S with S;subst S;have ah:j.state ≠ .busy:=fun hb=>by rw[q4]at hb;subst hb;cases hs
        have U:some (i,(⟨s.tm,st.df,h1.set st.l (.loop .exhausted i I J K L d)⟩:St))=some (x,s'):=by
         rw[<- hs]
         cases bm<;>first|rfl|(exact absurd q4 ah)
        injection U with U;injection U with bx b0;subst bx;subst b0;have V:∀t T,D st.l t=some T->Z<=T.r:=fun t T f=>y.own f R (fun cs h=>by cases h);have b1:=y.dom _ _ _ u;have b2:=V _ _ u;have a4:(B.putObj loc.r (.loop { j with state:=.exhausted })).heap[loc.r]?=some (.loop { j with state:=.exhausted }):=World.putObj_heap_same b1.2.2;have b3:∀c t z,c≠st.l->D c t=some z->z.r≠loc.r:=fun c t z q f e=>q (y.sep _ _ _ _ _ _ f u e zo);have k2:=y.change (ρ':=D) (x':=.loop .exhausted i I J K L d) (fun _ _ _ h=>h) (fun _ _ _=>rfl) u (w':=B.putObj loc.r (.loop { j with state:=.exhausted })) (by simp) (fun c t z q f=>World.putObj_heap_other (b3 c t z q f))
         ⟨loc,_,a3,N',n',m',u,q2,a4,rfl,b,q6,q7,q8,q9,bp,bs,bw⟩ (fun t z f=>by
          have b4:=y.dom _ _ _ f;exact⟨V _ _ f,by simp;exact b4.2.2⟩) (fun t z f c b7 cb q a5 e=>q (y.sep _ _ _ _ _ _ f a5 e (V _ _ f)).symm)
        have av:=Cs (w:=B) b2 (.loop { j with state:=.exhausted });have Q:∀e,XR D i e->CR P Z ρ N ca s.h w i ⟨s.tm,st.df,h1.set st.l (.loop .exhausted i I J K L d)⟩ e { a with defers:=mark++a.defers } (B.putObj loc.r (.loop { j with state:=.exhausted })):=fun e he =>
         ⟨D,ad,(X.trans g3).trans av,by
          rw[TH.next_set];rw[TH.nP]at g4;omega,he,k2,k.tm.mono ad.more,k.sz,e7.mono Y.more,Z0 k.hZ ((X.trans g3).trans av).size⟩
        refine⟨j.pending,_,run_endLoop q3 ah,?_⟩
        suffices a0:∀A,A=j.pending->(match A with
         | none=>CR P Z ρ N ca s.h w i ⟨s.tm,st.df,h1.set st.l (.loop .exhausted i I J K L d)⟩ .normal { a with defers:=mark++a.defers } (B.putObj loc.r (.loop { j with state:=.exhausted }))
         | some c=>c.wpIn (Fr rnd) 0 P (CR P Z ρ N ca s.h w i ⟨s.tm,st.df,h1.set st.l (.loop .exhausted i I J K L d)⟩) { a with defers:=mark++a.defers } (B.putObj loc.r (.loop { j with state:=.exhausted }))) by grind
        intro A a0;rw[<- a0]at b
        cases i with
        | norm =>
         have b:A=none:=b;subst b;exact Q _ rfl
        | exit id =>
         have b:A=some (.exit id):=b;subst b;exact wpIn_exit (Q _ rfl)
        | goto l =>
         have b:A=some (.goto l):=b;subst b;exact wpIn_goto (Q _ rfl)
        | ret =>
         have b:A=some .ret:=b;subst b;exact wpIn_ret (Q _ rfl)
        | panic v=>exact b.elim
theorem CR.refl(k:yx P Z ρ N ca s a w)(hx:XR ρ x e):CR P Z ρ N ca s.h w x s e a w:=⟨ρ,.refl _ _,.refl _ _,Zi _,hx,k⟩
theorem XR.norm(hx:XR ρ x e)(h:e=.normal):x=.norm:=by
 cases x<;>simp only[XR]at hx<;>first|rfl|(subst hx;cases h)|(obtain⟨_,e,_⟩:=hx;rw[e]at h;cases h)
theorem XR.goto(hx:XR ρ x e)(h:e=.goto l):x=.goto l:=by
 cases x<;>simp only[XR]at hx<;>first|(subst hx;cases h;done)|(obtain⟨_,e,_⟩:=hx;rw[e]at h;cases h;done)|(subst hx;injection h with h;subst h;rfl)
theorem XR.exit(hx:XR ρ x e)(h:e=.exit l):x=.exit l:=by
 cases x<;>simp only[XR]at hx<;>first|(subst hx;cases h;done)|(obtain⟨_,e,_⟩:=hx;rw[e]at h;cases h;done)|(subst hx;injection h with h;subst h;rfl)
theorem CN(hC:gf P C)(hR:nJ P C)(hmix:P.follows .mixedOrders=true){M:Nat}{rnd:LA}(hrnd:rnd=none\/∀f,ca.get f=none):
  ∀(n:Nat) (c:Code) (T:vP),uT P N n c=some T->∀(ρ:zh) (s:St) (a:Act) (w:World) (x:TX) (s':St),dS ρ trnd rnd->yx P Z ρ N ca s a w->we C ca M trnd T s=some (x,s')->c.wpIn (Fr rnd) 0 P (CR P Z ρ N ca s.h w x s') a w:=by
 intro n
 induction n with
 | zero=>intro c T d;cases d
 | succ n V =>
  intro c T d ρ s a w x s' G k i
  cases c with
  | skip =>
   simp only[uT]at d;injection d with d;subst d;simp only[we]at i;injection i with i;injection i with h1 h2;subst h1;subst h2;exact wpIn_skip (CR.refl k rfl)
  | label l =>
   simp only[uT]at d;injection d with d;subst d;simp only[we]at i;injection i with i;injection i with h1 h2;subst h1;subst h2;exact wpIn_label (CR.refl k rfl)
  | region id ops a4 =>
   simp only[uT]at d
   split at d
   .cases d
   .rename_i os hos
    cases a4 with
    | false =>
     simp only[zAM9,if_false]at d;injection d with d;subst d;exact W7 hC hR hrnd hos k i
    | true =>
     simp only[if_true]at d;exact Qs hC hR hrnd hmix hos d k i
  | seq c1 c2 =>
   simp only[uT]at d
   split at d
   .rename_i t1 t2 h1 h2;injection d with d;subst d;simp only[we]at i;refine wpIn_seq ?_
    cases q:we C ca M trnd t1 s with
    | none=>rw[q]at i;cases i
    | some X =>
     obtain⟨u,v⟩:=X;rw[q]at i;refine wpIn_mono (V c1 t1 h1 ρ s a w u v G k q) ?_;intro e J K z;obtain⟨L,I,O,R,y,S⟩:=z
     by_cases A:e=.normal
     .have:=y.norm A;subst this;subst A;exact wpIn_mono (V c2 t2 h2 L v J K x s' (G.mono I.more) S i) fun e a2 w2 ab=>ab.trans I O R
     .have ad:u ≠ .norm:=fun U=>by subst U;exact A y
      have o:some (u,v)=some (x,s'):=by grind
      injection o with o;injection o with B D;subst B;subst D
      cases e<;>first|exact absurd rfl A|exact⟨L,I,O,R,y,S⟩
   .cases d
  | cond c c1 c2 =>
   simp only[uT]at d
   split at d
   .rename_i c' t1 t2 hc' h1 h2;injection d with d;subst d;simp only[we]at i
    split at i
    .rename_i hb;have hv:=tK k.tm hc' hb;generalize a0:a.eval c=av at hv
     cases hv
     exact wpIn_cond_true a0 (V c1 t1 h1 ρ s a w x s' G k i)
    .rename_i hb;have hv:=tK k.tm hc' hb;generalize a0:a.eval c=av at hv
     cases hv
     exact wpIn_cond_false a0 (V c2 t2 h2 ρ s a w x s' G k i)
    .cases i
   .cases d
  | block id b =>
   simp only[uT]at d
   split at d
   .rename_i t ht;injection d with d;subst d;simp only[we]at i;refine wpIn_block ?_
    cases q:we C ca M trnd t s with
    | none=>rw[q]at i;cases i
    | some X =>
     obtain⟨u,v⟩:=X;rw[q]at i;refine wpIn_mono (V b t ht ρ s a w u v G k q) ?_;intro e J K z;obtain⟨L,I,O,R,y,S⟩:=z
     by_cases A:∃j,e=.exit j
     .obtain⟨j,rfl⟩:=A;have:=y.exit rfl;subst this;simp only[Exit.inBlock];dsimp only at i
      by_cases Y:j=id
      .subst Y;rw[show Nat.beq j j=true from Nat.beq_refl j]at i;simp only[cond_true]at i;injection i with i;injection i with B D;subst B;subst D;rw[if_pos rfl];exact⟨L,I,O,R,rfl,S⟩
      .rw[show Nat.beq j id=false from zET9.2 fun h=>Y (Zk h)]at i;simp only[cond_false]at i;injection i with i;injection i with B D;subst B;subst D;rw[if_neg Y];exact⟨L,I,O,R,rfl,S⟩
     .have ad:∀j,u ≠ .exit j:=fun j U=>by subst U;exact A ⟨j,y⟩
      have o:some (u,v)=some (x,s'):=by grind
      injection o with o;injection o with B D;subst B;subst D
      cases e<;>first|exact absurd ⟨_,rfl⟩ A|exact⟨L,I,O,R,y,S⟩
   .cases d
  | loop b =>
   simp only[uT]at d
   split at d
   .rename_i t ht;injection d with d;subst d;simp only[we]at i;refine wpIn_loop_rounds M ?_;have key:∀(m:Nat) (ρ:zh) (s:St) (a:Act) (w:World),dS ρ trnd rnd->yx P Z ρ N ca s a w->dj (we C ca M trnd t) m s=some (x,s')->∀Q:Exit->Act->World->Prop,(∀e a' w',CR P Z ρ N ca s.h w x s' e a' w'->Q e a' w')->Code.roundsIn (Fr rnd) 0 P b Q m a w:=by
     intro m
     induction m with
     | zero=>intro ρ s a w _ _ i;cases i
     | succ m a6 =>
      intro ρ s a w G k i Q hQ;simp only[dj]at i;rw[roundsIn_succ]
      cases q:we C ca M trnd t s with
      | none=>rw[q]at i;cases i
      | some X =>
       obtain⟨u,v⟩:=X;rw[q]at i;refine wpIn_mono (V b t ht ρ s a w u v G k q) ?_;intro e J K z;obtain⟨L,I,O,R,y,S⟩:=z
       by_cases A:e=.normal
       .have:=y.norm A;subst this;subst A;exact a6 L v J K (G.mono I.more) S i Q fun e a2 w2 ab=>hQ _ _ _ (ab.trans I O R)
       .have ad:u ≠ .norm:=fun U=>by subst U;exact A y
        have o:some (u,v)=some (x,s'):=by grind
        injection o with o;injection o with B D;subst B;subst D;have:=hQ e J K ⟨L,I,O,R,y,S⟩
        cases e<;>first|exact absurd rfl A|exact this
    exact key M ρ s a w G k i _ fun _ _ _ h=>h
   .cases d
  | rangeFunc f ps c1 c2 =>
   simp only[uT]at d
   split at d
   .cases d
   .rename_i hps
    split at d
    .rename_i f' t1 t2 hf h1 h2;injection d with d;subst d;simp only[we]at i
     split at i
     .rename_i g cap hg;exact WM hC k G (tK k.tm hf hg) (fun p hp=>by
       have:=ZN.1 (Bool.not_eq_false _ ▸ hps) p hp;simpa using this) h1 h2 i
     .cases i
    .cases d
  | exit id =>
   simp only[uT]at d;injection d with d;subst d;simp only[we]at i;injection i with i;injection i with h1 h2;subst h1;subst h2;exact wpIn_exit (CR.refl k rfl)
  | goto l =>
   simp only[uT]at d;injection d with d;subst d;simp only[we]at i;injection i with i;injection i with h1 h2;subst h1;subst h2;exact wpIn_goto (CR.refl k rfl)
  | ret =>
   simp only[uT]at d;injection d with d;subst d;simp only[we]at i;injection i with i;injection i with h1 h2;subst h1;subst h2;exact wpIn_ret (CR.refl k rfl)
  | scope b =>
   simp only[uT]at d
   split at d
   .split at d
    .rename_i t ht;injection d with d;subst d;simp only[we]at i
     cases q:we C ca M trnd t s with
     | none=>rw[q]at i;cases i
     | some X =>
      obtain⟨u,v⟩:=X;rw[q]at i;refine Fq (fun _ _=>False) 0 (.inl fun _ _ h=>h) ?_;refine wpIn_mono (V b t ht ρ s a w u v G k q) ?_;intro e J K z;have ad:∀j,u ≠ .goto j:=fun j U=>by subst U;cases i
      have o:some (u,v)=some (x,s'):=by grind
      injection o with o;injection o with B D;subst B;subst D
      cases e<;>first|exact z|(obtain⟨_,_,_,_,y,_⟩:=z;exact absurd (y.goto rfl) (ad _))
    .cases d
   .rename_i l hl
    split at d
    .cases d
    .rename_i r hfl
     split at d
     .rename_i t1 t2 h1 h2;injection d with d;subst d;simp only[we]at i
      cases q:we C ca M trnd t1 s with
      | none=>rw[q]at i;cases i
      | some X =>
       obtain⟨u,v⟩:=X;rw[q]at i
       by_cases hg:∃j,u=.goto j
       .obtain⟨j,rfl⟩:=hg;dsimp only at i;obtain⟨Y,ah⟩:=vt i;have Y:=Zk Y;subst Y
        cases a3:we C ca M trnd t2 v with
        | none=>rw[a3]at ah;cases ah
        | some r2 =>
         obtain⟨x2,s2⟩:=r2;rw[a3]at ah;have a7:∀j,x2 ≠ .goto j:=fun j U=>by subst U;cases ah
         have o:some (x2,s2)=some (x,s'):=by grind
         injection o with o;injection o with B D;subst B;subst D;refine Fq (fun J K=>CR P Z ρ N ca s.h w (.goto j) v (.goto j) J K) j (.inr ⟨r,hfl,fun J K z=>?_⟩) ?_
         .obtain⟨L,I,O,R,y,S⟩:=z;refine wpIn_mono (V r t2 h2 L v J K x2 s2 (G.mono I.more) S a3) ?_;intro e a2 w2 ab;have a5:=ab.trans I O R
          cases e<;>first|exact a5|(obtain⟨_,_,_,_,y,_⟩:=ab;exact absurd (y.goto rfl) (a7 _))
         .refine wpIn_mono (V b t1 h1 ρ s a w (.goto j) v G k q) ?_;intro e J K z;have A:e=.goto j:=by obtain⟨_,_,_,_,y,_⟩:=z;exact y
          subst A;exact⟨rfl,z⟩
       .have ad:∀j,u ≠ .goto j:=fun j U=>hg ⟨j,U⟩;have o:some (u,v)=some (x,s'):=by grind
        injection o with o;injection o with B D;subst B;subst D;refine Fq (fun _ _=>False) 0 (.inl fun _ _ h=>h) ?_;refine wpIn_mono (V b t1 h1 ρ s a w u v G k q) ?_;intro e J K z
        cases e<;>first|exact z|(obtain⟨_,_,_,_,y,_⟩:=z;exact absurd (y.goto rfl) (ad _))
     .cases d
  | refuse=>cases d
end Tw
end Go.Proofs.YtkeknmgnoceogaaGreat
