/- part 1 of the proof of dir_holds. -/
import Derived.KernelRfl
import Derived.CallsIn
import Derived.RangeFuncLeaves
import Derived.OrdersIn
import Derived.Maps.AppendAt
import Derived.Below
import Derived.Laws.CopyOwn
import Derived.RangeFuncRecord
import Derived.Lib.Hide
import Derived.Laws.StructEq
import Derived.ChangeKeysEq
import Derived.Laws.Tables
import Derived.Laws.BytesString
import Derived.Lib.ConvBytes
import Derived.Lib.AppendZerosOnto
import Derived.ScopeJumps
import Derived.LoopNIn
set_option linter.unusedSimpArgs false
set_option linter.unusedVariables false
set_option maxHeartbeats 4000000
set_option linter.defProp false
namespace Go.Proofs.YtkeknmgnoceogaaGreat
def Yk:=@List.getElem?_eq_getElem
def Yl:=@List.getElem?_eq_some_iff
def Ym:=@Nat.le_refl
def Yn:=@List.length_append
def Yo:=@Nat.eq_of_beq_eq_true
def Yp:=@List.mem_cons_self
def Yq:=@List.length_cons
def Yr:=@Bool.and_eq_true
def Ys:=@List.mem_cons_of_mem
def Yt:=@List.mem_of_getElem?
def Yu:=@List.getD_eq_getElem?_getD
def Yv:=@Nat.zero_le
def Yw:=@List.length_map
def Yx:=@List.mem_map
def Yy:=@List.cons_append
def Yz:=@List.getElem?_set_self
def YA:=@List.mem_cons
def YB:=@Nat.le_of_ble_eq_true
def YC:=@List.nil_append
def YD:=@List.getElem?_set_ne
def YE:=@List.drop_eq_getElem_cons
def YF:=@List.length_take
def YG:=@List.mem_flatMap
def YH:=@List.getElem?_map
def YI:=@List.append_assoc
def YJ:=@List.map_append
def YK:=@List.length_nil
def YL:=@List.map_cons
def YM:=@List.mem_append
def YN:=@List.getElem?_append_right
def YO:=@List.take_add_one
def YP:=@List.getElem?_append_left
def YQ:=@List.mem_singleton
def YR:=@List.take_length
def YS:=@Nat.lt_of_lt_of_le
def YT:=@List.flatMap_cons
def YU:=@List.mem_iff_getElem
def YV:=@List.take_of_length_le
def YW:=@List.mem_of_mem_take
def YX:=@List.getElem_mem
def YY:=@Nat.le_trans
def YZ:=@List.all_eq_true
def Y0:=@List.length_drop
def Y1:=@List.length_set
def Y2:=@List.getElem?_cons_succ
def Y3:=@List.take_append_drop
def Y4:=@List.getElem?_take
def Y5:=@List.mem_of_mem_drop
def Y6:=@Nat.zero_add
def Y7:=@Array.getElem?_toList
def Y8:=@List.append_nil
def Y9:=@List.drop_length
def Za:=@List.getElem?_eq_none
def Zb:=@List.length_replicate
def Zc:=@List.eq_nil_of_length_eq_zero
def Zd:=@Array.getElem?_eq_some_iff
def Ze:=@Nat.mul_le_mul_right
def Zf:=@Array.getElem?_eq_getElem
def Zg:=@List.length_eq_zero_iff
def Zh:=@List.map_congr_left
def Zi:=@Bool.false_eq_true
def Zj:=@List.flatMap_append
def Zk:=@List.mem_filter
def Zl:=@List.not_mem_nil
def Zm:=@List.mem_range
def Zn:=@List.ext_getElem?
def Zo:=@List.getElem?_drop
def Zp:=@Nat.add_mul
def Zq:=@List.length_pos_iff
def Zr:=@Nat.lt_succ_self
def Zs:=@Int.eq_ofNat_of_zero_le
def Zt:=@Nat.succ_pos
def Zu:=@List.pairwise_cons
def Zv:=@List.map_drop
def Zw:=@List.range_succ
def Zx:=@Nat.mod_eq_of_lt
def Zy:=@List.replicate_succ
def Zz:=@Int.toNat_natCast
def ZA:=@Bool.not_eq_true'
def ZB:=@List.getLast?_cons_cons
def ZC:=@Nat.pow_le_pow_right
def ZD:=@Int.natCast_nonneg
def ZE:=@List.set_cons_zero
def ZF:=@List.nodup_cons
def ZG:=@List.take_append_of_le_length
def ZH:=@Bool.true_and
def ZI:=@List.mem_iff_getElem?
def ZJ:=@List.length_singleton
def ZK:=@Nat.min_eq_left
def ZL:=@Array.getD_eq_getD_getElem?
def ZM:=@Nat.add_sub_cancel
def ZN:=@Nat.blt_eq
def ZO:=@List.mem_append_left
def ZP:=@Nat.add_zero
def ZQ:=@Nat.add_comm
def ZR:=@Nat.succ_mul
def ZS:=@List.nodup_append
def ZT:=@List.reverse_cons
def ZU:=@List.map_nil
def ZV:=@List.eq_of_mem_replicate
def ZW:=@Nat.lt_or_ge
def ZX:=@List.set_cons_succ
def ZY:=@List.map_take
def ZZ:=@List.drop_take
def Z0:=@List.drop_drop
def Z1:=@List.dropLast_concat_getLast
def Z2:=@List.drop_of_length_le
def Z3:=@List.mem_append_right
def Z4:=@List.getLast?_eq_getElem?
def Z5:=@List.foldl_cons
def Z6:=@Bool.or_eq_true
def Z7:=@List.dropLast_concat
def Z8:=@List.getLast?_concat
def Z9:=@List.size_toArray
def zAA9:=@List.flatten_cons
def zAB9:=@List.drop_append_of_le_length
def zAC9:=@List.getLast?_eq_some_getLast
def zAD9:=@Array.length_toList
def zAE9:=@List.mem_reverse
def zAF9:=@Nat.xor_lt_two_pow
def zAG9:=@Nat.sub_self
def zAH9:=@Array.size_append
def zAI9:=@List.getElem?_zip_eq_some
def zAJ9:=@List.drop_zero
def zAK9:=@List.take_take
def zAL9:=@Bool.cond_eq_ite
def zAM9:=@Array.toList_map
def zAN9:=@Nat.mul_comm
def zAO9:=@List.map_set
def zAP9:=@Nat.add_assoc
def zAQ9:=@List.findIdx?_cons
def zAR9:=@List.of_mem_zip
def zAS9:=@List.length_eq_one_iff
def zAT9:=@List.drop_left
def zAU9:=@List.getElem?_append
def zAV9:=@List.pairwise_append
def zAW9:=@Array.toList_setIfInBounds
def zAX9:=@Array.getElem?_append_left
def zAY9:=@List.take_succ_cons
def zAZ9:=@List.headD_cons
def zBA9:=@List.pairwise_iff_getElem
def zBB9:=@Nat.lt_of_le_of_lt
def zBC9:=@Bool.false_ne_true
def zBD9:=@List.map_map
def zBE9:=@List.set_set
def zBF9:=@Nat.add_sub_cancel_left
def zBG9:=@List.pairwise_singleton
def zBH9:=@Nat.testBit_mul_two_pow
def zBI9:=@List.getElem?_set
def zBJ9:=@List.any_eq_false
def zBK9:=@List.take_sublist
def zBL9:=@List.pairwise_map
def zBM9:=@Nat.mul_one
def zBN9:=@Bool.and_true
def zBO9:=@Array.getElem?_modify
def zBP9:=@List.contains_iff_mem
def zBQ9:=@List.set_append_right
def zBR9:=@Array.getElem?_setIfInBounds_ne
def zBS9:=@Nat.beq_eq
def zBT9:=@Nat.zero_mul
def zBU9:=@Int.natCast_mul
def zBV9:=@Nat.mod_lt
def zBW9:=@List.getElem?_mapIdx
def zBX9:=@Nat.pow_succ
def zBY9:=@Nat.div_le_self
def zBZ9:=@Bool.decide_and
def zCA9:=@List.dropLast_subset
def zCB9:=@List.contains_eq_mem
def zCC9:=@List.drop_succ_cons
def zCD9:=@List.filter_eq_self
def zCE9:=@List.takeWhile_cons
def zCF9:=@List.replicate_zero
def zCG9:=@List.getElem?_range
def zCH9:=@List.take_zero
def zCI9:=@Nat.mul_add
def zCJ9:=@Nat.and_lt_two_pow
def zCK9:=@Nat.pos_of_ne_zero
def zCL9:=@List.filter_append
def zCM9:=@List.mem_filterMap
def zCO9:=@List.contains_cons
def zCQ9:=@List.map_replicate
def zCR9:=@List.map_singleton
def zCV9:=@Bool.eq_false_iff
end Go.Proofs.YtkeknmgnoceogaaGreat
namespace Go.Proofs.YtkeknmgnoceogaaGreat
abbrev LN:=List Nat
abbrev LB:=Option Nat
abbrev LG:=List Value
abbrev LH:=List Int
abbrev LO:=Array Value
abbrev LW:=Option Bool
abbrev LX:=Array Oper
abbrev AN:=Array Bool
abbrev AP:=List Operand
abbrev AJ:=Option Value
abbrev AA:=List Oper
abbrev AG:=Array Operand
end Go.Proofs.YtkeknmgnoceogaaGreat
namespace Go.Proofs.YtkeknmgnoceogaaGreat
variable {P:Prop}
theorem zo(h:P:=by omega):P:=h
theorem zy(h:P:=by decide):P:=h
namespace Tw
noncomputable section
inductive Tr(α:Type) where
 | nil
 | node (l:Tr α) (v:Option α) (r:Tr α)
variable {α:Type}(x:Option α)(d:Nat)(l r:Tr α)(v:Option α)(n:Nat)
abbrev LE:=Tr Unit
def Tr.get{α:Type}(t:Tr α):Nat->Option α :=
 Tr.rec (motive:=fun _=>Nat->Option α) (fun _=>none) (fun _ v _ gl gr n=>bif Nat.beq n 0 then v else bif Nat.beq (n%2) 1 then gl (n/2)else gr (n/2-1)) t
def Tr.setN{α:Type}(x:Option α)(d:Nat):Tr α->Nat->Tr α :=
 Nat.rec (motive:=fun _=>Tr α->Nat->Tr α) (fun t _=>t) (fun _ f t n=>Tr.rec (motive:=fun _=>Tr α)
  (bif Nat.beq n 0 then .node .nil x .nil else bif Nat.beq (n%2) 1 then .node (f .nil (n/2)) none .nil else .node .nil none (f .nil (n/2-1)))
  (fun l v r _ _=>bif Nat.beq n 0 then .node l x r else bif Nat.beq (n%2) 1 then .node (f l (n/2)) v r else .node l v (f r (n/2-1))) t) d
theorem Tr.get_none:(Tr.nil:Tr α).get n=none:=rfl
theorem Tr.get_node:(Tr.node l v r).get n=bif Nat.beq n 0 then v else bif Nat.beq (n%2) 1 then l.get (n/2)else r.get (n/2-1):=rfl
theorem Tr.setN_none:Tr.setN x (d+1) .nil n=bif Nat.beq n 0 then .node .nil x .nil else bif Nat.beq (n%2) 1 then .node (Tr.setN x d .nil (n/2)) none .nil else .node .nil none (Tr.setN x d .nil (n/2-1)):=rfl
theorem Tr.setN_node:Tr.setN x (d+1) (.node l v r) n=bif Nat.beq n 0 then .node l x r else bif Nat.beq (n%2) 1 then .node (Tr.setN x d l (n/2)) v r else .node l v (Tr.setN x d r (n/2-1)):=rfl
def Tr.set{α:Type}(t:Tr α)(n:Nat)(x:Option α):Tr α:=Tr.setN x (n+1) t n
def Tr.putL{α:Type}:Tr α->Nat->List α->Tr α
 | t,_,[]=>t
 | t,n,x::l=>Tr.putL (t.set n (some x)) (n+1) l
def Tr.getL{α:Type}(t:Tr α):Nat->Nat->Option (List α)
 | _,0=>some []
 | i,n+1=>match t.get i with
  | none=>none
  | some x=>match Tr.getL t (i+1) n with
   | none=>none
   | some l=>some (x::l)
inductive TV where
 | bool (b:Bool)
 | int (k:IntKind) (n:Int)
 | str (s:LN)
 | nilptr
 | ptr (b g o e:Nat)
 | nilsl
 | sl (b g o n q z:Nat)
 | nilmap
 | map (b:Nat)
 | fn (f:Nat) (cap:List TV)
 | yield (l:Nat)
 | nilfn
 | iface (t:Nat) (v:TV)
 | niliface
 | agg (vs:List TV)
 | tuple (vs:List TV)
 deriving Inhabited
abbrev LK:=List TV
abbrev LA:=Tr TV
abbrev LD:=Option TV
def TV.cells:TV->LK
 | .agg l=>l
 | .tuple _=>[]
 | v=>[v]
inductive vy where
 | tmp (t:Nat)
 | new (t:Nat)
 | const (v:TV)
 | fn (f:Nat)
inductive zh where
 | mov
 | pick
 | load (agg:Bool) (n:Nat)
 | nilchk
 | bin (op:BinOp)
 | eqnil (neg:Bool) (f:Nat)
 | eqB (neg:Bool)
 | cstr
 | eqagg (neg:Bool) (ks:LN)
 | un (op:UnOp)
 | conv (k:IntKind)
 | mkif (t:Nat)
 | mkfn (f:Nat)
 | slice (esz:Nat) (lo hi mx:Bool)
 | slstr (lo hi:Bool)
 | slarr (len esz:Nat) (lo hi:Bool)
 | faddr (off size:Nat)
 | fld (agg:Bool) (off size:Nat)
 | iaddr (esz:Nat)
 | iaddrA (len esz:Nat)
 | idxstr
 | idxagg (len:Nat) (agg:Bool) (esz:Nat)
 | look (kf:Nat) (zero:TV) (ok:Bool)
 | tassert (t:Nat) (zero:TV) (ok:Bool)
 | extr (i:Nat)
 | len (f:Nat)
 | maxI
 | minI
 | build (zero:LK) (places:List (Nat×Nat))
 | box (e n:Nat)
 | alloc (e:Nat) (zero:LK)
 | bslice (e esz len:Nat) (zero:LK) (places:List (Nat×Nat))
 | mkslice (e esz bytes:Nat) (zero:LK)
 | mkmap
 | store (n:Nat)
 | mupd (kf:Nat)
 | ment (kf:Nat) (zero:TV)
 | estore
 | append (e esz bytes:Nat)
 | appz (e esz bytes:Nat) (zero:LK)
 | tobytes (e:Nat)
 | tostr
 | copy (esz:Nat)
 | call
 | panic
 | defer
def zh.cls:zh->Nat
 | .box .. | .alloc .. | .bslice .. | .mkslice .. | .mkmap | .tobytes ..=>1
 | .store .. | .mupd .. | .ment .. | .estore | .append .. | .appz .. | .copy .. | .call | .panic | .defer=>2
 | _=>0
structure vl where
 dst:LB
 kind:zh
 args:List vy
 guard:Option (vy×Bool)
structure uX where
 chk:List vl
 exe:List vl
 act:Option vl
inductive vw where
 | skip
 | region (ops:List vl)
 | drawn (xV:List uX) (ds:LN)
 | seq (a b:vw)
 | cond (c:vy) (thn els:vw)
 | block (id:Nat) (body:vw)
 | loop (body:vw)
 | rangef (f:vy) (params:LN) (assign body:vw)
 | exit (id:Nat)
 | scope (body:vw) (l:Nat) (rest:vw)
 | scope0 (body:vw)
 | goto (l:Nat)
 | ret
inductive TX where
 | norm|exit (id:Nat)|goto (l:Nat)|ret|panic (v:TV)
inductive TD where
 | caught (p clear:TV)
 | mark (b:Nat)
abbrev LZ:=List TD
structure ud where
 k:TV
 v:TV
 n:Nat
inductive TO where
 | row (e G M len:Nat) (cells:LA)
 | map (es:List ud) (clock:Nat)
 | dfr (shut:Bool)
 | loop (st:LoopState) (pending:TX) (tm:LA) (params:LN) (assign body:vw) (df:Nat)
 | ro (cells:LA)
structure TH where
 next:Nat
 objs:Tr TO
structure St where
 tm:LA
 df:LZ
 h:TH
def TH.push(h:TH)(o:TO):TH:=⟨h.next+1,h.objs.set h.next (some o)⟩
def TH.get(h:TH)(b:Nat):Option TO:=bif Nat.blt b h.next then h.objs.get b else none
def TH.set(h:TH)(b:Nat)(o:TO):TH:=⟨h.next,h.objs.set b (some o)⟩
def St.put(s:St)(d:LB)(v:TV):St:=match d with
 | none=>s
 | some d=>⟨s.tm.set d (some v),s.df,s.h⟩
def gH:Int->Int->Bool
 | .ofNat a,.ofNat b=>Nat.beq a b
 | .negSucc a,.negSucc b=>Nat.beq a b
 | _,_=>false
def gI(a b:Int):Bool:=match b-a with
 | .ofNat _=>true
 | .negSucc _=>false
def wC:IntKind->Nat
 | .i8=>0 | .i16=>1 | .i32=>2 | .i64=>3 | .u8=>4 | .u16=>5 | .u32=>6 | .u64=>7
def xO:LN->LN->Bool
 | [],[]=>true
 | a::l,b::m=>bif Nat.beq a b then xO l m else false
 | _,_=>false
def bZ(f:TV->TV->Bool):LK->LK->Bool
 | [],[]=>true
 | a::l,b::m=>bif f a b then bZ f l m else false
 | _,_=>false
def FF(x:Bool):TV->Bool
 | .bool y=>bif x then y else bif y then false else true
 | _=>false
def BN(k:IntKind)(x:Int):TV->Bool
 | .int k' y=>bif Nat.beq (wC k) (wC k')then gH x y else false
 | _=>false
def FH(s:LN):TV->Bool
 | .str t=>xO s t
 | _=>false
def sc(b g o e:Nat):TV->Bool
 | .ptr b' g' o' e'=>bif Nat.beq b b' then bif Nat.beq g g' then bif Nat.beq o o' then Nat.beq e e' else false else false else false
 | _=>false
def sd(b g o n q z:Nat):TV->Bool
 | .sl b' g' o' n' q' z'=>bif Nat.beq b b' then bif Nat.beq g g' then bif Nat.beq o o' then bif Nat.beq n n' then bif Nat.beq q q' then Nat.beq z z' else false else false else false else false else false
 | _=>false
def FG(b:Nat):TV->Bool
 | .map b'=>Nat.beq b b'
 | _=>false
def FJ(l:Nat):TV->Bool
 | .yield m=>Nat.beq l m
 | _=>false
def BL(f:TV->TV->Bool)(g:Nat)(l:LK):TV->Bool
 | .fn g' l'=>bif Nat.beq g g' then bZ f l l' else false
 | _=>false
def BM(f:TV->TV->Bool)(t:Nat)(v:TV):TV->Bool
 | .iface t' v'=>bif Nat.beq t t' then f v v' else false
 | _=>false
def FC(f:TV->TV->Bool)(l:LK):TV->Bool
 | .agg l'=>bZ f l l'
 | _=>false
def FI(f:TV->TV->Bool)(l:LK):TV->Bool
 | .tuple l'=>bZ f l l'
 | _=>false
def mA:TV->Nat
 | .nilptr=>1 | .nilsl=>2 | .nilmap=>3 | .nilfn=>4 | .niliface=>5|_=>0
def TV.beq:Nat->TV->TV->Bool
 | 0,_,_=>false
 | n+1,a,b=>match a with
  | .bool x=>FF x b
  | .int k x=>BN k x b
  | .str s=>FH s b
  | .ptr c g o e=>sc c g o e b
  | .sl c g o n q z=>sd c g o n q z b
  | .map c=>FG c b
  | .fn f l=>BL (TV.beq n) f l b
  | .iface t v=>BM (TV.beq n) t v b
  | .agg l=>FC (TV.beq n) l b
  | .tuple l=>FI (TV.beq n) l b
  | .yield l=>FJ l b
  | .nilptr=>Nat.beq (mA b) 1
  | .nilsl=>Nat.beq (mA b) 2
  | .nilmap=>Nat.beq (mA b) 3
  | .nilfn=>Nat.beq (mA b) 4
  | .niliface=>Nat.beq (mA b) 5
def mi(tm:LA):vy->LD
 | .tmp t=>tm.get t
 | .new _=>none
 | .const v=>some v
 | .fn f=>some (.fn f [])
def kw(tm:LA):List vy->Option (LK)
 | []=>some []
 | x::l=>match mi tm x with
  | none=>none
  | some v=>match kw tm l with
   | none=>none
   | some vs=>some (v::vs)
def mY(tm nm:LA):vy->LD
 | .tmp t=>tm.get t
 | .new t=>nm.get t
 | .const v=>some v
 | .fn f=>some (.fn f [])
def kN(tm nm:LA):List vy->Option (LK)
 | []=>some []
 | x::l=>match mY tm nm x with
  | none=>none
  | some v=>match kN tm nm l with
   | none=>none
   | some vs=>some (v::vs)
def mC(g o n:Nat):TO->Option (LK)
 | .row _ G M _ cells=>bif Nat.ble M g then bif Nat.ble g G then cells.getL o n else none else none
 | .ro cells=>bif Nat.beq g 0 then cells.getL o n else none
 | _=>none
def wK(h:TH)(b g o n:Nat):Option (LK) :=
 match h.get b with
 | some x=>mC g o n x
 | none=>none
def gK:IntKind->Nat
 | .i8=>7 | .i16=>15 | .i32=>31 | .i64=>63 | .u8=>8 | .u16=>16 | .u32=>32 | .u64=>64
def aF(f:Nat->Nat->Nat)(k:IntKind):Int->Int->LD
 | .ofNat a,.ofNat b=>bif Nat.blt a (2 ^ gK k)then bif Nat.blt b (2 ^ gK k)then some (.int k (.ofNat (f a b)))else none else none
 | _,_=>none
def K9(k:IntKind)(a:Int):Int->LD
 | .ofNat n=>bif Nat.ble n 64 then some (.int k (k.wrap (a*2 ^ (min n k.bits))))else none
 | _=>none
def La(k:IntKind):Int->Int->LD
 | .ofNat a,.ofNat n=>bif Nat.ble n 64 then some (.int k (.ofNat (a/2 ^ (min n k.bits))))else none
 | _,_=>none
def ku(op:BinOp)(k k':IntKind)(x y:Int):LD :=
 match op with
 | .shl=>K9 k x y
 | .shr=>La k x y
 | .add=>bif Nat.beq (wC k) (wC k')then some (.int k (k.wrap (x+y)))else none
 | .sub=>bif Nat.beq (wC k) (wC k')then some (.int k (k.wrap (x-y)))else none
 | .mul=>bif Nat.beq (wC k) (wC k')then some (.int k (k.wrap (x*y)))else none
 | .quo=>bif Nat.beq (wC k) (wC k')then(bif gH y 0 then none else some (.int k (k.wrap (x.tdiv y))))else none
 | .rem=>bif Nat.beq (wC k) (wC k')then(bif gH y 0 then none else some (.int k (x.tmod y)))else none
 | .and=>bif Nat.beq (wC k) (wC k')then aF Nat.land k x y else none
 | .or=>bif Nat.beq (wC k) (wC k')then aF Nat.lor k x y else none
 | .xor=>bif Nat.beq (wC k) (wC k')then aF Nat.xor k x y else none
 | .eql=>bif Nat.beq (wC k) (wC k')then some (.bool (gH x y))else none
 | .neq=>bif Nat.beq (wC k) (wC k')then some (.bool (not (gH x y)))else none
 | .lss=>bif Nat.beq (wC k) (wC k')then some (.bool (not (gI y x)))else none
 | .leq=>bif Nat.beq (wC k) (wC k')then some (.bool (gI x y))else none
 | .gtr=>bif Nat.beq (wC k) (wC k')then some (.bool (not (gI x y)))else none
 | .geq=>bif Nat.beq (wC k) (wC k')then some (.bool (gI y x))else none
 | .andNot=>none
def am:LN->LN->Bool
 | _,[]=>false
 | [],_::_=>true
 | a::l,b::m=>bif Nat.blt a b then true else bif Nat.beq a b then am l m else false
def BO(op:BinOp)(a b:LN):LD :=
 match op with
 | .eql=>some (.bool (xO a b))
 | .neq=>some (.bool (not (xO a b)))
 | .lss=>some (.bool (am a b))
 | .gtr=>some (.bool (am b a))
 | .leq=>some (.bool (not (am b a)))
 | .geq=>some (.bool (not (am a b)))
 | .add=>bif Nat.ble (a.length+b.length) 1000000 then some (.str (a++b))else none
 | _=>none
def kv(op:BinOp)(k:IntKind)(x:Int):TV->LD
 | .int k' y=>ku op k k' x y
 | _=>none
def FQ(op:BinOp)(a:LN):TV->LD
 | .str b=>BO op a b
 | _=>none
def wO(op:BinOp)(x y:TV):LD :=
 match x with
 | .int k a=>kv op k a y
 | .str a=>FQ op a y
 | _=>none
def oJ:TV->LW
 | .nilptr=>some true
 | .ptr ..=>some false
 | _=>none
def oK:TV->LW
 | .nilsl=>some true
 | .sl ..=>some false
 | _=>none
def oH:TV->LW
 | .nilmap=>some true
 | .map _=>some false
 | _=>none
def z7:TV->LW
 | .nilfn=>some true
 | .fn ..=>some false
 | _=>none
def oG:TV->LW
 | .niliface=>some true
 | .iface ..=>some false
 | _=>none
def og(f:Nat)(x:TV):LW:=match f with
 | 1=>oJ x
 | 2=>oK x
 | 3=>oH x
 | 4=>z7 x
 | 5=>oG x
 | _=>none
def qk:LW->LW->LW
 | some a,some b=>bif a then some b else bif b then some false else none
 | _,_=>none
def bN(f:Nat)(x y:TV):LW:=qk (og f x) (og f y)
def dR(k:Nat)(x y:TV):LW :=
 match x with
 | .int j a=>bif Nat.beq k 1 then(match y with | .int j' b=>bif Nat.beq (wC j) (wC j')then some (gH a b)else none|_=>none)else none
 | .bool a=>bif Nat.beq k 2 then(match y with | .bool b=>some (bif a then b else not b)|_=>none)else none
 | .str a=>bif Nat.beq k 3 then(match y with | .str b=>some (xO a b)|_=>none)else none
 | _=>none
def yG:LN->LK->LK->LW
 | [],[],[]=>some true
 | k::ks,x::l,y::m=>match dR k x y with
  | some true=>yG ks l m
  | r=>r
 | _,_,_=>none
def nQ(x y:TV):LW :=
 match x with
 | .int k a=>(match y with | .int k' b=>bif Nat.beq (wC k) (wC k')then some (gH a b)else none|_=>none)
 | .str a=>(match y with | .str b=>some (xO a b)|_=>none)
 | _=>none
def pL(k:TV):List ud->Nat->Option (Option (Nat×ud))
 | [],_=>some none
 | e::l,i=>match nQ k e.k with
  | none=>none
  | some true=>some (some (i,e))
  | some false=>pL k l (i+1)
def od:TV->Bool
 | .int ..=>true
 | _=>false
def oe:TV->Bool
 | .str ..=>true
 | _=>false
def gJ(kf:Nat)(x:TV):Bool:=match kf with
 | 1=>od x
 | 2=>oe x
 | _=>false
def Dl:Int->LB
 | .ofNat n=>some n
 | _=>none
def xN:TV->LB
 | .int _ n=>Dl n
 | _=>none
def xl(x:TV)(m:Nat):LB :=
 match xN x with
 | some n=>bif Nat.ble n m then some n else none
 | none=>none
def bQ(cells:LK):List (Nat×Nat)->LK->Option (LK)
 | [],[]=>some cells
 | (off,size)::ps,v::vs =>
  let cs:=v.cells
  bif Nat.beq cs.length size then bif Nat.ble (off+size) cells.length then bQ (cells.take off++cs++cells.drop (off+size)) ps vs else none else none
 | _,_=>none
def yT{α:Type}(l:List α):Nat->List α
 | 0=>[]
 | n+1=>l++yT l n
def um(vs:LK)(f:TV->LD):LD:=match vs with
 | [x]=>f x
 | _=>none
def ux(vs:LK)(f:TV->TV->LD):LD:=match vs with
 | [x,y]=>f x y
 | _=>none
def DB(vs:LK):LD:=match vs with
 | [.bool c,a,b]=>some (bif c then a else b)
 | _=>none
def dG(agg:Bool)(l:LK):LD:=bif agg then some (.agg l)else match l with
 | [x]=>some x
 | _=>none
def ni(agg:Bool)(n:Nat)(h:TH):TV->LD
 | .ptr b g o e=>bif Nat.ble n e then(match wK h b g o n with|some l=>dG agg l|none=>none)else none
 | _=>none
def Dz:TV->LD
 | .ptr b g o e=>some (.ptr b g o e)
 | .fn f c=>some (.fn f c)
 | _=>none
def oM(neg:Bool):LW->LD
 | some b=>some (.bool (bif neg then not b else b))
 | none=>none
def oR(neg:Bool)(ks:LN)(x y:TV):LD:=match x with
 | .agg l=>(match y with | .agg m=>bif Nat.beq l.length ks.length then bif Nat.beq m.length ks.length then oM neg (yG ks l m)else none else none|_=>none)
 | _=>none
def iG(neg:Bool)(x y:TV):LD:=match x with
 | .bool a=>(match y with | .bool b=>some (.bool (bif neg then(bif a then not b else b)else bif a then b else not b))|_=>none)
 | _=>none
def Ab:TV->LD
 | .str s=>some (.str s)
 | _=>none
def DA:TV->LD
 | .bool b=>some (.bool (not b))
 | _=>none
def Dy:TV->LD
 | .int k n=>some (.int k (k.wrap (0-n)))
 | _=>none
def JK:TV->LD
 | .int .u64 n=>ku .xor .u64 .u64 (.ofNat 18446744073709551615) n
 | _=>none
def mB(op:UnOp)(x:TV):LD:=match op with
 | .not=>DA x
 | .neg=>Dy x
 | .xor=>JK x
 | _=>none
def iF(k:IntKind):TV->LD
 | .int _ n=>some (.int k (k.wrap n))
 | _=>none
def al(b g o z:Nat)(x:TV)(h q:Nat):LD:=match xl x h with
 | some l=>some (.sl b g (o+l*z) (h-l) (q-2*l) z)
 | none=>none
def A7(b g o q z:Nat)(x:TV):LD:=match xl x (q/2)with
 | some h=>some (.sl b g o h q z)
 | none=>none
def A8(b g o q z:Nat)(x y:TV):LD:=match xl y (q/2)with
 | some h=>al b g o z x h q
 | none=>none
def A9(b g o q z:Nat)(x y m:TV):LD:=match xl m (q/2)with
 | some m=>(match xl y m with|some h=>al b g o z x h (2*m+1)|none=>none)
 | none=>none
def cr(lo hi mx:Bool)(b g o n q z:Nat)(bs:LK):LD :=
 match bs with
 | []=>bif lo then none else bif hi then none else bif mx then none else some (.sl b g o n q z)
 | [x]=>bif mx then none else bif lo then(bif hi then none else al b g o z x n q)else bif hi then A7 b g o q z x else none
 | [x,y]=>bif mx then none else bif lo then bif hi then A8 b g o q z x y else none else none
 | [x,y,m]=>bif lo then bif hi then bif mx then A9 b g o q z x y m else none else none else none
 | _=>none
def DC(lo hi mx:Bool)(bs:LK):LD:=bif mx then none else
 match bs with
 | []=>bif lo then none else bif hi then none else some .nilsl
 | [x]=>(match xl x 0 with|some _=>bif lo then(bif hi then none else some .nilsl)else bif hi then some .nilsl else none|none=>none)
 | _=>none
def nj(esz:Nat)(lo hi mx:Bool)(x:TV)(bs:LK):LD:=match x with
 | .nilsl=>DC lo hi mx bs
 | .sl b g o n q z=>bif Nat.beq esz z then cr lo hi mx b g o n q z bs else none
 | _=>none
def dH(esz:Nat)(lo hi mx:Bool)(vs:LK):LD:=match vs with
 | x::bs=>nj esz lo hi mx x bs
 | []=>none
def JQ(lo hi:Bool)(s:LN)(bs:LK):LD:=match bs with
 | []=>bif lo then none else bif hi then none else some (.str s)
 | [x]=>bif lo then(bif hi then none else match xl x s.length with|some l=>some (.str (s.drop l))|none=>none)else bif hi then(match xl x s.length with|some l=>some (.str (s.take l))|none=>none)else none
 | [x,y]=>bif lo then bif hi then(match xl y s.length with|some h=>(match xl x h with|some l=>some (.str ((s.take h).drop l))|none=>none)|none=>none)else none else none
 | _=>none
def oT(lo hi:Bool)(vs:LK):LD:=match vs with
 | .str s::bs=>JQ lo hi s bs
 | _=>none
def Aa(len esz:Nat)(lo hi:Bool)(vs:LK):LD:=match vs with
 | [.ptr b g o e]=>bif lo then none else bif hi then none else bif Nat.ble (len*esz) e then some (.sl b g o len (2*len+1) esz)else none
 | _=>none
def iH(off size:Nat):TV->LD
 | .ptr b g o e=>bif Nat.ble (off+size) e then some (.ptr b g (o+off) size)else none
 | _=>none
def aV:LK->Nat->LD
 | [],_=>none
 | x::l,n=>match n with
  | 0=>some x
  | n+1=>aV l n
def iM(agg:Bool)(off size:Nat)(l:LK):LD :=
 bif agg then(bif Nat.ble (off+size) l.length then some (.agg ((l.drop off).take size))else none)else aV l off
def Dw(agg:Bool)(off size:Nat):TV->LD
 | .agg l=>iM agg off size l
 | _=>none
def iI(esz:Nat)(x y:TV):LD:=match x with
 | .sl b g o n _ z=>bif Nat.beq esz z then(match xN y with|some i=>bif Nat.blt i n then some (.ptr b g (o+i*z) z)else none|none=>none)else none
 | _=>none
def iJ(len esz:Nat)(x y:TV):LD:=match x with
 | .ptr b g o e=>(match xN y with|some i=>bif Nat.blt i len then bif Nat.ble (len*esz) e then some (.ptr b g (o+i*esz) esz)else none else none|none=>none)
 | _=>none
def aW:LN->Nat->LB
 | [],_=>none
 | x::l,n=>match n with
  | 0=>some x
  | n+1=>aW l n
def oS(x y:TV):LD:=match x with
 | .str s=>(match xN y with|some i=>(match aW s i with|some c=>some (.int .u8 (.ofNat c))|none=>none)|none=>none)
 | _=>none
def Dx(len:Nat)(agg:Bool)(esz:Nat)(x y:TV):LD:=match x with
 | .agg l=>(match xN y with|some i=>bif Nat.blt i len then iM agg (i*esz) esz l else none|none=>none)
 | _=>none
def nh(ok:Bool)(v:TV)(b:Bool):TV:=bif ok then .tuple [v,.bool b]else v
def pT(zero:TV)(ok:Bool)(k:TV):TO->LD
 | .map es _=>(match pL k es 0 with
  | some (some (_,e))=>some (nh ok e.v true)
  | some none=>some (nh ok zero false)
  | none=>none)
 | _=>none
def aY(kf:Nat)(zero:TV)(ok:Bool)(h:TH)(x k:TV):LD:=bif gJ kf k then(match x with
 | .nilmap=>some (nh ok zero false)
 | .map b=>(match h.get b with|some o=>pT zero ok k o|none=>none)
 | _=>none)else none
def Ac(t:Nat)(zero:TV)(ok:Bool):TV->LD
 | .iface t' v=>bif Nat.beq t t' then some (nh ok v true)else bif ok then some (.tuple [zero,.bool false])else none
 | .niliface=>bif ok then some (.tuple [zero,.bool false])else none
 | _=>none
def tZ(i:Nat):TV->LD
 | .tuple l=>aV l i
 | _=>none
def Is:TO->LD
 | .map es _=>some (.int .i64 (.ofNat es.length))
 | _=>none
def It:TV->LD
 | .nilsl=>some (.int .i64 (.ofNat 0))
 | .sl _ _ _ n _ _=>some (.int .i64 (.ofNat n))
 | _=>none
def C5(h:TH):TV->LD
 | .nilmap=>some (.int .i64 (.ofNat 0))
 | .map b=>(match h.get b with|some o=>Is o|none=>none)
 | _=>none
def tg:TV->LD
 | .str s=>some (.int .i64 (.ofNat s.length))
 | _=>none
def iL(f:Nat)(h:TH)(x:TV):LD:=match f with
 | 1=>It x
 | 2=>C5 h x
 | 3=>tg x
 | _=>none
def aa(mx:Bool)(x y:TV):LD:=match x with
 | .int k a=>(match y with | .int k' b=>bif Nat.beq (wC k) (wC k')then some (.int k (bif mx then(bif gI b a then a else b)else(bif gI a b then a else b)))else none|_=>none)
 | _=>none
def tY(zero:LK)(places:List (Nat×Nat))(vs:LK):LD:=match bQ zero places vs with
 | some l=>some (.agg l)
 | none=>none
def ql:LK->Option (LN)
 | []=>some []
 | .int .u8 (.ofNat n)::l=>bif Nat.blt n 256 then(match ql l with
  | some s=>some (n::s)
  | none=>none)else none
 | _=>none
def aZ(h:TH):TV->LD
 | .nilsl=>some (.str [])
 | .sl b g o n _ 1=>(match wK h b g o n with
  | some l=>(match ql l with
   | some s=>some (.str s)
   | none=>none)
  | none=>none)
 | _=>none
def uE(k:zh)(vs:LK)(h:TH):LD :=
 match k with
 | .mov=>um vs some
 | .pick=>DB vs
 | .load agg n=>um vs (ni agg n h)
 | .nilchk=>um vs Dz
 | .bin op=>ux vs (wO op)
 | .eqnil neg f=>ux vs fun x y=>oM neg (bN f x y)
 | .eqagg neg ks=>ux vs (oR neg ks)
 | .eqB neg=>ux vs (iG neg)
 | .cstr=>um vs Ab
 | .un op=>um vs (mB op)
 | .conv k=>um vs (iF k)
 | .mkif t=>um vs fun x=>some (.iface t x)
 | .mkfn f=>some (.fn f vs)
 | .slice esz lo hi mx=>dH esz lo hi mx vs
 | .slstr lo hi=>oT lo hi vs
 | .slarr len esz lo hi=>Aa len esz lo hi vs
 | .faddr off size=>um vs (iH off size)
 | .fld agg off size=>um vs (Dw agg off size)
 | .iaddr esz=>ux vs (iI esz)
 | .iaddrA len esz=>ux vs (iJ len esz)
 | .idxstr=>ux vs oS
 | .idxagg len agg esz=>ux vs (Dx len agg esz)
 | .look kf zero ok=>ux vs (aY kf zero ok h)
 | .tassert t zero ok=>um vs (Ac t zero ok)
 | .extr i=>um vs (tZ i)
 | .len f=>um vs (iL f h)
 | .maxI=>ux vs (aa true)
 | .minI=>ux vs (aa false)
 | .build zero places=>tY zero places vs
 | .tostr=>um vs (aZ h)
 | _=>none
def ui(e:Nat)(l:LK):TO:=.row e 0 0 l.length (Tr.putL .nil 0 l)
structure uA where
 o:TO
 v:TV
def ft(e n b:Nat)(vs:LK):Option uA:=match vs with
 | [v]=>bif Nat.beq v.cells.length n then some ⟨ui e v.cells,.ptr b 0 0 n⟩else none
 | _=>none
def oi(e:Nat)(zero:LK)(b:Nat)(vs:LK):Option uA:=match vs with
 | []=>some ⟨ui e zero,.ptr b 0 0 zero.length⟩
 | _=>none
def fu(e esz len:Nat)(zero:LK)(places:List (Nat×Nat))(b:Nat)(vs:LK):Option uA :=
 bif Nat.ble (len*esz) 16777216 then(match bQ (yT zero len) places vs with
  | some l=>some ⟨ui e l,.sl b 0 0 len (2*len) esz⟩
  | none=>none)else none
def fw(e esz bytes:Nat)(zero:LK)(b:Nat)(vs:LK):Option uA:=match vs with
 | [x,y]=>(match xN x,xN y with
  | some n,some c=>bif Nat.ble n c then bif Nat.ble c 1000000 then bif Nat.ble (c*bytes) 140737488355328 then some ⟨ui e (yT zero n),.sl b 0 0 n (2*n) esz⟩else none else none else none
  | _,_=>none)
 | _=>none
def oj(b:Nat)(vs:LK):Option uA:=match vs with
 | []=>some ⟨.map [] 0,.map b⟩
 | [.int _ _]=>some ⟨.map [] 0,.map b⟩
 | _=>none
def fx(e b:Nat)(vs:LK):Option uA:=match vs with
 | [.str s]=>bif Nat.ble s.length 1000000 then some ⟨ui e (s.map fun n=>.int .u8 (.ofNat n)),.sl b 0 0 s.length (2*s.length) 1⟩else none
 | _=>none
def lay(k:zh)(vs:LK)(b:Nat):Option uA :=
 match k with
 | .box e n=>ft e n b vs
 | .alloc e zero=>oi e zero b vs
 | .bslice e esz len zero places=>fu e esz len zero places b vs
 | .mkslice e esz bytes zero=>fw e esz bytes zero b vs
 | .mkmap=>oj b vs
 | .tobytes e=>fx e b vs
 | _=>none
inductive TE where
 | ret (v:TV)
 | panic (v:TV)
structure wE where
 fn:Nat->LK->TH->Option (TE×TH)
 rd:Nat->LK->TH->Option (Bool×TH)
def rC(h:TH)(b g o:Nat)(l:LK):TO->Option TH
 | .row e G _ len cells=>bif Nat.beq g G then bif Nat.ble (o+l.length) len then some (h.set b (.row e G G len (cells.putL o l)))else none else none
 | _=>none
def nG(h:TH)(b g o:Nat)(l:LK):Option TH :=
 match h.get b with
 | some x=>rC h b g o l x
 | none=>none
def be(h:TH)(esz:Nat)(x:TV)(n:Nat):Option (LK):=match x with
 | .nilsl=>some []
 | .sl b g o _ _ z=>bif Nat.beq esz z then wK h b g o (n*z)else none
 | _=>none
def lenV:TV->Nat
 | .sl _ _ _ n _ _=>n
 | .str s=>s.length
 | _=>0
inductive TR where
 | ok (v:TV) (h:TH)
 | panic (v:TV) (h:TH)
 | dfr (d:TD)
abbrev LY:=Option TR
def lH(h:TH)(e esz bytes m:Nat)(news:LK):LY :=
 bif Nat.ble (m*(bytes+1)) 140737488355328 then some (.ok (.sl h.next 0 0 m (2*m) esz) (h.push (ui e news)))else none
def rZ(h:TH)(e bytes b g n z m:Nat)(news:LK):TO->LY
 | .row e' G M len cells =>
  bif Nat.beq e e' then bif Nat.beq g G then bif Nat.beq (n*z) len then bif Nat.ble ((n+m)*(bytes+1)) 140737488355328 then
   some (.ok (.sl b (G+1) 0 (n+m) (2*(n+m)) z) (h.set b (.row e' (G+1) M (len+news.length) (cells.putL len news))))
  else none else none else none else none
 | _=>none
def mc(h:TH)(e esz bytes:Nat)(s:TV)(m:Nat)(news:LK):LY :=
 match s with
 | .nilsl=>bif Nat.beq m 0 then some (.ok .nilsl h)else lH h e esz bytes m news
 | .sl b g o n q z=>bif Nat.beq m 0 then some (.ok (.sl b g o n q z) h)else
  bif Nat.beq o 0 then bif Nat.beq (q%2) 0 then bif Nat.beq esz z then(match h.get b with
  | some r=>rZ h e bytes b g n z m news r
  | none=>none)else none else none else none
 | _=>none
def r9(h:TH)(e esz bytes:Nat)(s x:TV):LY :=
 match be h esz x (lenV x)with
 | none=>none
 | some news=>mc h e esz bytes s (lenV x) news
def setE(i:Nat)(k v:TV)(es:List ud):List ud:=match es with
 | []=>[]
 | e::l=>match i with
  | 0=>⟨k,v,e.n⟩::l
  | i+1=>e::setE i k v l
def Be(n:Nat)(v:TV):List ud->Option (List ud)
 | []=>none
 | e::l=>bif Nat.beq e.n n then some (⟨e.k,v,e.n⟩::l)else match Be n v l with
  | none=>none
  | some l'=>some (e::l')
def bF(n:Nat)(h:TH)(vs:LK):LY:=match vs with
 | [.ptr b g o e,v]=>bif Nat.beq v.cells.length n then bif Nat.ble n e then(match nG h b g o v.cells with
  | some h=>some (.ok (.tuple []) h)
  | none=>none)else none else none
 | _=>none
def oE(h:TH)(b:Nat)(k v:TV):TO->LY
 | .map es clock=>(match pL k es 0 with
   | none=>none
   | some none=>some (.ok (.tuple []) (h.set b (.map (es++[⟨k,v,clock⟩]) (clock+1))))
   | some (some (i,_))=>some (.ok (.tuple []) (h.set b (.map (setE i k v es) clock))))
 | _=>none
def nL(kf:Nat)(h:TH)(vs:LK):LY:=match vs with
 | [.map b,k,v]=>bif gJ kf k then(match h.get b with|some o=>oE h b k v o|none=>none)else none
 | _=>none
def Dh(zero:TV)(h:TH)(b:Nat)(k:TV):TO->LY
 | .map es clock=>(match pL k es 0 with
   | none=>none
   | some none=>some (.ok (.tuple [zero,.int .i64 (.ofNat clock)]) (h.set b (.map (es++[⟨k,zero,clock⟩]) (clock+1))))
   | some (some (_,e))=>some (.ok (.tuple [e.v,.int .i64 (.ofNat e.n)]) h))
 | _=>none
def rU(kf:Nat)(zero:TV)(h:TH)(vs:LK):LY:=match vs with
 | [.map b,k]=>bif gJ kf k then(match h.get b with|some o=>Dh zero h b k o|none=>none)else none
 | _=>none
def Ch(h:TH)(b n:Nat)(v:TV):TO->LY
 | .map es clock=>(match Be n v es with
   | none=>none
   | some es=>some (.ok (.tuple []) (h.set b (.map es clock))))
 | _=>none
def rT(h:TH)(vs:LK):LY:=match vs with
 | [.map b,s,v]=>(match xN s with|some n=>(match h.get b with|some o=>Ch h b n v o|none=>none)|none=>none)
 | _=>none
def bE(e esz bytes:Nat)(h:TH)(vs:LK):LY:=match vs with
 | [s,x]=>r9 h e esz bytes s x
 | _=>none
def cR(e esz bytes:Nat)(zero:LK)(h:TH)(vs:LK):LY:=match vs with
 | [s,.int _ (.ofNat m)]=>bif Nat.ble m 1000000 then bif Nat.ble (m*(bytes+1)) 140737488355328 then mc h e esz bytes s m (yT zero m)else none else none
 | _=>none
def mQ(esz:Nat)(h:TH)(vs:LK):LY:=match vs with
 | [d,x]=>let m:=min (lenV x) (lenV d);(match be h esz x m with
  | none=>none
  | some news=>match d with
   | .nilsl=>some (.ok (.int .i64 (.ofNat 0)) h)
   | .sl b g o _ _ z=>bif Nat.beq m 0 then some (.ok (.int .i64 (.ofNat 0)) h)else bif Nat.beq esz z then(match nG h b g o news with
    | some h=>some (.ok (.int .i64 (.ofNat m)) h)
    | none=>none)else none
   | _=>none)
 | _=>none
def fd:Option (TE×TH)->LY
 | some (.ret v,h)=>some (.ok v h)
 | some (.panic v,h)=>some (.panic v h)
 | none=>none
def EI:Option (Bool×TH)->LY
 | some (b,h)=>some (.ok (.bool b) h)
 | none=>none
def eJ(C:wE)(h:TH)(vs:LK):LY:=match vs with
 | .fn f cap::args=>fd (C.fn f (args++cap) h)
 | .yield l::args=>EI (C.rd l args h)
 | _=>none
def Fa(h:TH)(vs:LK):LY:=match vs with
 | [.iface t v]=>some (.panic (.iface t v) h)
 | _=>none
def Bz(caught:LE)(vs:LK):LY:=match vs with
 | [.fn f [],p,c]=>(match caught.get f with
  | some _=>some (.dfr (.caught p c))
  | none=>none)
 | _=>none
def act(C:wE)(caught:LE)(k:zh)(vs:LK)(h:TH):LY :=
 match k with
 | .store n=>bF n h vs
 | .mupd kf=>nL kf h vs
 | .ment kf zero=>rU kf zero h vs
 | .estore=>rT h vs
 | .append e esz bytes=>bE e esz bytes h vs
 | .appz e esz bytes zero=>cR e esz bytes zero h vs
 | .copy esz=>mQ esz h vs
 | .call=>eJ C h vs
 | .panic=>Fa h vs
 | .defer=>Bz caught vs
 | _=>none
def aq(b:Bool):LD->LW
 | some (.bool c)=>some (bif b then c else not c)
 | some _=>some false
 | none=>none
def wM(tm:LA):Option (vy×Bool)->LW
 | none=>some true
 | some (x,b)=>aq b (mi tm x)
def pB(tm nm:LA):Option (vy×Bool)->LW
 | none=>some true
 | some (x,b)=>aq b (mY tm nm x)
inductive TS where
 | go (s:St)
 | panic (v:TV) (s:St)
abbrev AQ:=Option TS
def eL(d:LB)(s:St):LY->AQ
 | some (.ok v h)=>some (.go ((⟨s.tm,s.df,h⟩:St).put d v))
 | some (.panic v h)=>some (.panic v ⟨s.tm,s.df,h⟩)
 | some (.dfr x)=>some (.go ((⟨s.tm,x::s.df,s.h⟩:St).put d (.tuple [])))
 | none=>none
def Im(d:LB)(s:St):Option uA->AQ
 | some x=>some (.go ((⟨s.tm,s.df,s.h.push x.o⟩:St).put d x.v))
 | none=>none
def Ad(d:LB)(s:St):LD->AQ
 | some v=>some (.go (s.put d v))
 | none=>none
def mW(C:wE)(caught:LE)(o:vl)(s:St)(vs:LK):AQ :=
 match o.kind.cls with
 | 0=>Ad o.dst s (uE o.kind vs s.h)
 | 1=>Im o.dst s (lay o.kind vs s.h.next)
 | _=>eL o.dst s (act C caught o.kind vs s.h)
def pA(C:wE)(caught:LE)(o:vl)(s:St):AQ :=
 match wM s.tm o.guard with
 | none=>none
 | some false=>some (.go (s.put o.dst (.tuple [])))
 | some true=>match kw s.tm o.args with
  | none=>none
  | some vs=>mW C caught o s vs
def kc(C:wE)(caught:LE):List vl->St->AQ
 | [],s=>some (.go s)
 | o::l,s=>match pA C caught o s with
  | some (.go s')=>kc C caught l s'
  | r=>r
def lh:Nat->Nat->LA->LA->Bool
 | _,0,_,_=>true
 | i,n+1,a,b=>match a.get i,b.get i with
  | some x,some y=>bif TV.beq 4 x y then lh (i+1) n a b else false
  | _,_=>false
def iB(a b:TO):Bool :=
 match a,b with
 | .row e G M n c,.row e' G' M' n' c'=>bif Nat.beq e e' then bif Nat.beq G G' then bif Nat.beq M M' then bif Nat.beq n n' then lh 0 n c c' else false else false else false else false
 | .map [] c,.map [] c'=>Nat.beq c c'
 | _,_=>false
def mS:TV->LB
 | .ptr b _ _ _ | .sl b _ _ _ _ _ | .map b=>some b
 | _=>none
def pJ(nm:LA)(d:LB)(v:TV):Option (LA):=match d with
 | none=>some nm
 | some d=>match nm.get d with
  | none=>some (nm.set d (some v))
  | some _=>none
structure DS where
 nm:LA
 df:LZ
 h:TH
abbrev AI:=Option DS
def dput(df:LZ)(h:TH):Option (LA)->AI
 | some nm=>some ⟨nm,df,h⟩
 | none=>none
def Az(h:TH)(k:zh)(vs:LK)(u:TV):Bool:=match uE k vs h with
 | some v=>TV.beq 4 v u
 | none=>false
def Ay(h:TH)(k:zh)(vs:LK)(u:TV):Bool:=match mS u with
 | none=>false
 | some b=>match lay k vs b with
  | some x=>(match h.get b with
   | some y=>bif TV.beq 4 x.v u then iB x.o y else false
   | none=>false)
  | none=>false
def A0(h:TH)(k:zh)(vs:LK):LD->Bool
 | some u=>(match k.cls with
  | 0=>Az h k vs u
  | 1=>Ay h k vs u
  | _=>false)
 | none=>false
def Ax(tm:LA)(s:DS)(o:vl):Bool:=match o.dst with
 | none=>false
 | some d=>match kN tm s.nm o.args with
  | some vs=>A0 s.h o.kind vs (s.nm.get d)
  | none=>false
def aj(tm:LA)(s:DS)(o:vl):Bool:=match pB tm s.nm o.guard with
 | none=>false
 | some false=>true
 | some true=>Ax tm s o
def cT(tm:LA)(s:DS):List vl->Bool
 | []=>true
 | o::l=>bif aj tm s o then cT tm s l else false
def Cl(s:DS)(d:LB):LD->AI
 | some v=>dput s.df s.h (pJ s.nm d v)
 | none=>none
def Ck(s:DS)(d:LB):Option uA->AI
 | some x=>dput s.df (s.h.push x.o) (pJ s.nm d x.v)
 | none=>none
def lU(tm:LA)(o:vl)(s:DS):AI:=match kN tm s.nm o.args with
 | none=>none
 | some vs=>match o.kind.cls with
  | 0=>Cl s o.dst (uE o.kind vs s.h)
  | 1=>Ck s o.dst (lay o.kind vs s.h.next)
  | _=>none
def bP(tm:LA)(o:vl)(s:DS):AI:=match pB tm s.nm o.guard with
 | none=>none
 | some false=>dput s.df s.h (pJ s.nm o.dst (.tuple []))
 | some true=>lU tm o s
def nR(tm:LA):List vl->DS->AI
 | [],s=>some s
 | o::l,s=>match bP tm o s with
  | some s=>nR tm l s
  | none=>none
inductive DR where
 | go (s:DS)
 | panic (v:TV) (df:LZ) (h:TH)
abbrev AL:=Option DR
def nP:AI->AL
 | some s=>some (.go s)
 | none=>none
def bH(d:LB)(s:DS):LY->AL
 | some (.ok v h)=>nP (dput s.df h (pJ s.nm d v))
 | some (.panic v h)=>some (.panic v s.df h)
 | some (.dfr x)=>nP (dput (x::s.df) s.h (pJ s.nm d (.tuple [])))
 | none=>none
def bG(C:wE)(caught:LE)(tm:LA)(o:vl)(s:DS):AL:=match pB tm s.nm o.guard with
 | none=>none
 | some false=>nP (dput s.df s.h (pJ s.nm o.dst (.tuple [])))
 | some true=>match kN tm s.nm o.args with
  | none=>none
  | some vs=>bH o.dst s (act C caught o.kind vs s.h)
def xV(C:wE)(caught:LE)(tm:LA):List uX->DS->AL
 | [],s=>some (.go s)
 | g::l,s=>bif cT tm s g.chk then(match nR tm g.exe s with
  | some s=>match g.act with
   | none=>xV C caught tm l s
   | some o=>match bG C caught tm o s with
    | some (.go s)=>xV C caught tm l s
    | r=>r
  | none=>none)else none
def dY(nm:LA):LN->LA->LA
 | [],tm=>tm
 | d::l,tm=>dY nm l (tm.set d (nm.get d))
def dg:LN->LA->LA
 | [],tm=>tm
 | d::l,tm=>dg l (tm.set d none)
def b9(f:St->Option (TX×St)):Nat->St->Option (TX×St)
 | 0,_=>none
 | n+1,s=>match f s with
  | some (.norm,s')=>b9 f n s'
  | r=>r
def rp(dsts:LA->LA):AQ->Option (TX×St)
 | some (.go s)=>some (.norm,s)
 | some (.panic v s)=>some (.panic v,{ s with tm:=dsts s.tm })
 | none=>none
def lQ(ds:LN)(tm:LA):AL->Option (TX×St)
 | some (.go s)=>some (.norm,⟨dY s.nm ds tm,s.df,s.h⟩)
 | some (.panic v df h)=>some (.panic v,⟨dg ds tm,df,h⟩)
 | none=>none
def aL:List vl->LA->LA
 | [],tm=>tm
 | o::l,tm=>aL l (match o.dst with|some d=>tm.set d none|none=>tm)
structure E0 where
 h:TH
 df:LZ
 d:Nat
 l:Nat
def Gx:TO->LB
 | .loop _ _ _ _ _ _ d=>some d
 | _=>none
def rg(rnd:LB)(s:St):Option E0:=match rnd with
 | none=>some ⟨s.h.push (.dfr false),.mark s.h.next::s.df,s.h.next,s.h.next+1⟩
 | some l0=>match s.h.get l0 with
  | some o=>(match Gx o with
   | some d=>some ⟨s.h,s.df,d,s.h.next⟩
   | none=>none)
  | none=>none
def JJ(h:TH)(l:Nat)(tm:LA)(df:LZ):TO->Option (TX×St)
 | .loop st pe tm' ps aS bo d=>(match st with
  | .busy=>none
  | _=>some (pe,⟨tm,df,h.set l (.loop .exhausted pe tm' ps aS bo d)⟩))
 | _=>none
def BE(l:Nat)(tm:LA)(df:LZ):Option (TE×TH)->Option (TX×St)
 | some (.ret _,h)=>(match h.get l with
  | some o=>JJ h l tm df o
  | none=>none)
 | _=>none
def Ag(C:wE)(rnd:LB)(g:Nat)(cap:LK)(params:LN)(assign body:vw)(s:St):Option (TX×St) :=
 match rg rnd s with
 | none=>none
 | some x=>BE x.l s.tm x.df (C.fn g (.yield x.l::cap) (x.h.push (.loop .ready .norm s.tm params assign body x.d)))
def vE(C:wE)(caught:LE)(N:Nat)(rnd:LB):vw->St->Option (TX×St)
 | .skip,s=>some (.norm,s)
 | .region ops,s=>rp (aL ops) (kc C caught ops s)
 | .drawn gs ds,s=>lQ ds s.tm (xV C caught s.tm gs ⟨.nil,s.df,s.h⟩)
 | .seq a b,s=>match vE C caught N rnd a s with
  | some (.norm,s')=>vE C caught N rnd b s'
  | r=>r
 | .cond c a b,s=>match mi s.tm c with
  | some (.bool true)=>vE C caught N rnd a s
  | some (.bool false)=>vE C caught N rnd b s
  | _=>none
 | .block id b,s=>match vE C caught N rnd b s with
  | some (.exit j,s')=>bif Nat.beq j id then some (.norm,s')else some (.exit j,s')
  | r=>r
 | .loop b,s=>b9 (vE C caught N rnd b) N s
 | .exit id,s=>some (.exit id,s)
 | .goto l,s=>some (.goto l,s)
 | .ret,s=>some (.ret,s)
 | .scope b l rest,s=>match vE C caught N rnd b s with
  | some (.goto j,s')=>bif Nat.beq j l then(match vE C caught N rnd rest s' with
   | some (.goto _,_)=>none
   | r=>r)else none
  | r=>r
 | .scope0 b,s=>match vE C caught N rnd b s with
  | some (.goto _,_)=>none
  | r=>r
 | .rangef f params assign body,s =>
  match mi s.tm f with
  | some (.fn g cap)=>Ag C rnd g cap params assign body s
  | _=>none
inductive cQ where
 | tmp (t:Nat)
 | cell (t:Nat) (agg:Bool) (n:Nat)
structure ze where
 body:vw
 res:List cQ
 N:Nat
abbrev AF:=Tr ze
structure vC where
 funcs:AF
 spec:Nat->Option (LK->TH->Option (TE×TH))
 caught:LE
 errno:Nat
 N:Nat
def ny(tm:LA)(h:TH):List cQ->Option (LK)
 | []=>some []
 | r::l=>match(match r with
   | .tmp t=>tm.get t
   | .cell t agg n=>match tm.get t with
    | some p=>uE (.load agg n) [p] h
    | none=>none)with
  | none=>none
  | some v=>match ny tm h l with
   | none=>none
   | some vs=>some (v::vs)
def rq:LK->TV
 | [v]=>v
 | l=>.tuple l
inductive TM where
 | returning
 | panicking (v:TV)
def uS(E:vC)(C:wE):LZ->TM->TH->Option (TM×TH)
 | [],m,h=>some (m,h)
 | .mark b::l,m,h=>match h.get b with
  | some (.dfr false)=>uS E C l m (h.set b (.dfr true))
  | _=>none
 | .caught p c::l,m,h=>match m with
  | .returning=>uS E C l m h
  | .panicking (.iface t (.int .i64 n))=>bif Nat.beq t E.errno then(match c with
   | .fn g cap=>match C.fn g cap h with
    | some (.ret (.tuple []),h)=>match p with
     | .ptr b g 0 _=>match nG h b g 0 [.int .i64 n]with
      | some h=>uS E C l .returning h
      | none=>none
     | _=>none
    | _=>none
   | _=>none)else none
  | _=>none
def pR(E:vC)(F:ze)(tm:LA):Option (TM×TH)->Option (TE×TH)
 | some (.returning,h)=>(match ny tm h F.res with
  | some vs=>some (.ret (rq vs),h)
  | none=>none)
 | some (.panicking v,h)=>some (.panic v,h)
 | none=>none
def Cf(E:vC)(C:wE)(F:ze):Option (TX×St)->Option (TE×TH)
 | some (x,s)=>(match x with
  | .norm=>pR E F s.tm (uS E C s.df .returning s.h)
  | .ret=>pR E F s.tm (uS E C s.df .returning s.h)
  | .panic v=>pR E F s.tm (uS E C s.df (.panicking v) s.h)
  | _=>none)
 | none=>none
def zC(E:vC)(C:wE)(f:Nat)(args:LK)(h:TH):Option (TE×TH) :=
 match E.funcs.get f with
 | some F=>bif Nat.ble args.length F.N then Cf E C F (vE C E.caught E.N none F.body ⟨Tr.putL .nil 0 args,[],h⟩)else none
 | none=>match E.spec f with
  | some g=>g args h
  | none=>none
def bd:LN->LK->LA->LA
 | p::ps,v::vs,t=>bd ps vs (t.set p (some v))
 | _,_,t=>t
def CS(x:TX)(h:TH)(l:Nat):TO->Option (Bool×TH)
 | .loop _ _ tm ps aS bo d=>(match x with
  | .norm=>some (true,h.set l (.loop .ready .norm tm ps aS bo d))
  | .panic _=>none
  | x=>some (false,h.set l (.loop .done x tm ps aS bo d)))
 | _=>none
def Ao(l:Nat):Option (TX×St)->Option (Bool×TH)
 | some (x,s)=>(match s.df with
  | []=>(match s.h.get l with
   | some o=>CS x s.h l o
   | none=>none)
  | _=>none)
 | none=>none
def BJ(E:vC)(C:wE)(l:Nat)(bo:vw)(s:St):TO->Option (Bool×TH)
 | .loop st pe tm ps aS bo' d=>(match st with
  | .ready=>Ao l (vE C .nil E.N (some l) bo ⟨s.tm,s.df,s.h.set l (.loop .busy pe tm ps aS bo' d)⟩)
  | _=>none)
 | _=>none
def Di(E:vC)(C:wE)(l:Nat)(bo:vw):Option (TX×St)->Option (Bool×TH)
 | some (x,s)=>(match x with
  | .norm=>(match s.h.get l with
   | some o=>BJ E C l bo s o
   | none=>none)
  | _=>none)
 | none=>none
def Ed(E:vC)(C:wE)(l:Nat)(args:LK)(h:TH):TO->Option (Bool×TH)
 | .loop _ _ tm ps aS bo _=>bif Nat.beq ps.length args.length then Di E C l bo (vE C .nil E.N (some l) aS ⟨bd ps args tm,[],h⟩)else none
 | _=>none
def i6(E:vC)(C:wE)(l:Nat)(args:LK)(h:TH):Option (Bool×TH) :=
 match h.get l with
 | some o=>Ed E C l args h o
 | none=>none
def y7(E:vC):Nat->wE
 | 0=>⟨fun _ _ _=>none,fun _ _ _=>none⟩
 | d+1=>⟨zC E (y7 E d),i6 E (y7 E d)⟩
end
end Tw
namespace Tw
def dS:Value->LD
 | .bool b=>some (.bool b)
 | .int k n=>some (.int k n)
 | .string s=>some (.str (s.data.toList.map (·.toNat)))
 | .pointer none=>some .nilptr
 | .slice none 0 0=>some .nilsl
 | .map none=>some .nilmap
 | .nilFunc=>some .nilfn
 | .nilIface=>some .niliface
 | _=>none
def uI{α β:Type}(f:α->Option β):List α->Option (List β)
 | []=>some []
 | a::l=>match f a with
  | none=>none
  | some b=>match uI f l with
   | none=>none
   | some bs=>some (b::bs)
def sj:Value->LD
 | .agg cs=>match uI dS cs.toList with
  | some l=>some (.agg l)
  | none=>none
 | .tuple cs=>match uI dS cs.toList with
  | some l=>some (.tuple l)
  | none=>none
 | .iface t v=>match dS v with
  | some v=>some (.iface t v)
  | none=>none
 | v=>dS v
def ky:Operand->Option vy
 | .tmp t=>some (.tmp t)
 | .const v=>(sj v).map .const
 | .func f=>some (.fn f)
 | .global _=>none
section
variable (P:Program)
def yg(t:TypeId):LW:=match P.underlying t with
 | some (.struct _)|some (.array ..)=>some true
 | some _=>some false
 | none=>none
def wL(t:TypeId):LB:=match P.info? t with
 | some i=>if i.size=0 then none else some i.size
 | none=>none
def cU(t:TypeId):LB:=(P.info? t).map (·.bytes)
def xA(t:TypeId):LD:=match P.info? t with
 | some i=>match i.zero with
  | some z=>sj z
  | none=>none
 | none=>none
def fg(t:TypeId)(f:Nat):Option (Nat×Bool×Nat):=match P.underlying t with
 | some (.struct fs)=>match fs[f]? with
  | some x=>match yg P x.type,wL P x.type with
   | some a,some n=>some (x.offset,a,n)
   | _,_=>none
  | none=>none
 | _=>none
def fc(t:TypeId):Option TypeId:=match P.underlying t with
 | some (.slice e)=>some e
 | _=>none
def lX(f:TypeId->Option (LN)):List Field->Nat->Option (LN)
 | [],_=>some []
 | x :: l, n => if x.name = "_" then none else if x.offset ≠ n then none else match f x.type, wL P x.type with
  | some ks,some z=>if ks.length=z then(match lX f l (n+z)with
   | some ms=>some (ks++ms)
   | none=>none)else none
  | _,_=>none
def cy(ks:LN):Nat->LN
 | 0=>[]
 | n+1=>ks++cy ks n
def mj:Nat->TypeId->Option (LN)
 | 0,_=>none
 | d+1,t=>match P.underlying t with
  | some (.int _)=>some [1]
  | some .bool=>some [2]
  | some .string=>some [3]
  | some (.struct fs)=>if P.stoodInHeld t then none else lX P (mj d) fs.toList 0
  | some (.array n e)=>match mj d e,wL P e with
   | some ks,some z=>if ks.length=z then some (cy ks n)else none
   | _,_=>none
  | _=>none
def sE(t:TypeId):Option (LN):=match P.underlying t with
 | some (.struct _)|some (.array ..)=>if P.eqGuardType P.depth t then none else mj P 8 t
 | _=>none
def QG(fs:List Field):Option (List (Nat×Nat)):=fs.mapM fun f=>(P.info? f.type).map fun i=>(f.offset,i.size)
def DE(pl:List (Nat×Nat))(p:Nat×Operand):Option (Nat×Nat):=match pl[p.1]? with
 | some q=>if q.2=0 then none else some q
 | none=>none
def DG(t:TypeId)(parts:List (Nat×Operand)):Option (List (Nat×Nat)):=match P.underlying t with
 | some (.struct fs)=>match QG P fs.toList with
  | some pl=>uI (DE pl) parts
  | none=>none
 | some (.array _ e)=>match wL P e with
  | some n=>some (parts.map fun p=>(p.1*n,n))
  | none=>none
 | _=>none
def mk(k:zh)(xs:AP):Option (zh×List vy):=match uI ky xs with
 | some l=>some (k,l)
 | none=>none
def dq:Operand->Bool
 | .const _=>true
 | _=>false
def CM(t:TypeId):Bool:=match P.underlying t with
 | some (.int _)=>true
 | _=>false
def bT(t:TypeId):Bool:=match P.underlying t with
 | some (.int .u8)=>match wL P t with
  | some 1=>true
  | _=>false
 | _=>false
def yS(o:Op):Option (zh×List vy) :=
 match o with
 | .move x | .assign x=>mk .mov [x]
 | .pick c a b=>mk .pick [c,a,b]
 | .load t a=>match yg P t,wL P t with
  | some g,some n=>mk (.load g n) [a]
  | _,_=>none
 | .store t a v=>match wL P t with
  | some n=>mk (.store n) [a,v]
  | none=>none
 | .nilCheck x=>mk .nilchk [x]
 | .binOp op t x y _=>match op,P.underlying t with
  | .eql,some (.int _) | .eql,some .string=>mk (.bin .eql) [x,y]
  | .neq,some (.int _) | .neq,some .string=>mk (.bin .neq) [x,y]
  | .eql,some .bool=>mk (.eqB false) [x,y]
  | .neq,some .bool=>mk (.eqB true) [x,y]
  | .eql,some (.struct _) | .eql,some (.array ..)=>match sE P t with|some n=>mk (.eqagg false n) [x,y]|none=>none
  | .neq,some (.struct _) | .neq,some (.array ..)=>match sE P t with|some n=>mk (.eqagg true n) [x,y]|none=>none
  | .eql,some (.pointer _)=>mk (.eqnil false 1) [x,y]
  | .eql,some (.slice _)=>mk (.eqnil false 2) [x,y]
  | .eql,some (.map ..)=>mk (.eqnil false 3) [x,y]
  | .eql,some (.func ..)=>mk (.eqnil false 4) [x,y]
  | .eql,some (.interface _)=>if dq x||dq y then mk (.eqnil false 5) [x,y]else none
  | .neq,some (.pointer _)=>mk (.eqnil true 1) [x,y]
  | .neq,some (.slice _)=>mk (.eqnil true 2) [x,y]
  | .neq,some (.map ..)=>mk (.eqnil true 3) [x,y]
  | .neq,some (.func ..)=>mk (.eqnil true 4) [x,y]
  | .neq,some (.interface _)=>if dq x||dq y then mk (.eqnil true 5) [x,y]else none
  | .eql,_ | .neq,_=>none
  | op,_=>mk (.bin op) [x,y]
 | .unOp op _ x=>mk (.un op) [x]
 | .convert src dst x=>match P.underlying src,P.underlying dst with
  | some (.int _),some (.int k)=>mk (.conv k) [x]
  | some .string,some .string=>mk .cstr [x]
  | some .string,some (.slice e)=>if bT P e then mk (.tobytes e) [x]else none
  | some (.slice e),some .string=>if bT P e then mk .tostr [x]else none
  | _,_=>none
 | .makeInterface t x=>match P.underlying t with
  | some (.interface _)|none=>none
  | _=>mk (.mkif t) [x]
 | .makeFunc (.func f) first captured=>if first.size=0 then mk (.mkfn f) captured.toList else none
 | .makeMap t r=>match P.underlying t,r with
  | some (.map ..),none=>mk .mkmap []
  | some (.map ..),some x=>mk .mkmap [x]
  | _,_=>none
 | .makeSlice t l c=>match fc P t with
  | some e=>match wL P e,cU P e,xA P e with
   | some n,some b,some z=>if z.cells.length=n then mk (.mkslice e n b z.cells) [l,c]else none
   | _,_,_=>none
  | none=>none
 | .slice t x lo hi mx=>match P.underlying t with
  | some (.slice e)=>match wL P e with
   | some n=>mk (.slice n lo.isSome hi.isSome mx.isSome) ([x]++lo.toList++hi.toList++mx.toList)
   | none=>none
  | some .string=>if mx.isSome then none else mk (.slstr lo.isSome hi.isSome) ([x]++lo.toList++hi.toList)
  | some (.array len e)=>if mx.isSome then none else match wL P e with
   | some n=>if len<=1000000 then mk (.slarr len n lo.isSome hi.isSome) ([x]++lo.toList++hi.toList)else none
   | none=>none
  | _=>none
 | .fieldAddr t x f=>match fg P t f with
  | some (o,_,n)=>mk (.faddr o n) [x]
  | none=>none
 | .field t x f=>match fg P t f with
  | some (o,a,n)=>mk (.fld a o n) [x]
  | none=>none
 | .indexAddr t x i=>match P.underlying t with
  | some (.slice e)=>match wL P e with
   | some n=>mk (.iaddr n) [x,i]
   | none=>none
  | some (.array len e)=>match wL P e with
   | some n=>mk (.iaddrA len n) [x,i]
   | none=>none
  | _=>none
 | .index t x i=>match P.underlying t with
  | some .string=>mk .idxstr [x,i]
  | some (.array len e)=>match yg P e,wL P e with
   | some a,some n=>mk (.idxagg len a n) [x,i]
   | _,_=>none
  | _=>none
 | .lookup t m k ok=>match P.underlying t with
  | some (.map key e)=>match P.underlying key,xA P e with
   | some (.int _),some z=>mk (.look 1 z ok) [m,k]
   | some .string,some z=>mk (.look 2 z ok) [m,k]
   | _,_=>none
  | _=>none
 | .mapUpdate t m k v | .insert t m k v=>match P.underlying t with
  | some (.map key _)=>match P.underlying key with
   | some (.int _)=>mk (.mupd 1) [m,k,v]
   | some .string=>mk (.mupd 2) [m,k,v]
   | _=>none
  | _=>none
 | .mapEntry t m k=>match P.underlying t with
  | some (.map key e)=>match P.underlying key,xA P e with
   | some (.int _),some z=>mk (.ment 1 z) [m,k]
   | some .string,some z=>mk (.ment 2 z) [m,k]
   | _,_=>none
  | _=>none
 | .entryStore _ m s v=>mk .estore [m,s,v]
 | .typeAssert x _ t ok=>match P.underlying t,xA P t with
  | some (.interface _),_|none,_|_,none=>none
  | _,some z=>mk (.tassert t z ok) [x]
 | .extract t i=>mk (.extr i) [t]
 | .alloc e=>match xA P e,wL P e with
  | some z,some n=>if z.cells.length=n then mk (.alloc e z.cells) []else none
  | _,_=>none
 | .box e v=>match wL P e with
  | some n=>mk (.box e n) [v]
  | none=>none
 | .build t parts=>match xA P t,DG P t parts.toList with
  | some (.agg z),some ps=>mk (.build z ps) (parts.toList.map (·.2))
  | _,_=>none
 | .buildSlice t len parts=>match fc P t with
  | some e=>match wL P e,xA P e with
   | some n,some z=>if z.cells.length=n then mk (.bslice e n len z.cells (parts.toList.map fun p=>(p.1*n,n))) (parts.toList.map (·.2))else none
   | _,_=>none
  | none=>none
 | .panic x=>mk .panic [x]
 | .defer { callee:=.value f,args,.. }=>mk .defer (f::args.toList)
 | .call { callee:=.value f,args,.. }=>mk .call (f::args.toList)
 | .call { callee:=.builtin b,args,argTypes }=>match b,argTypes.toList with
  | .append,[t,u]=>match fc P t with
   | some e=>match wL P e,cU P e,xA P e with
    | some n,some b,some z=>if z.cells.length=n then if u=t then mk (.append e n b) args.toList else if CM P u then mk (.appz e n b z.cells) args.toList else none else none
    | _,_,_=>none
   | none=>none
  | .copy,[t,_]=>match fc P t with
   | some e=>match wL P e with
    | some n=>mk (.copy n) args.toList
    | none=>none
   | none=>none
  | .len,[t]=>match P.underlying t with
   | some (.slice _)=>mk (.len 1) args.toList
   | some (.map ..)=>mk (.len 2) args.toList
   | some .string=>mk (.len 3) args.toList
   | _=>none
  | .max,_=>if args.size=2 then mk .maxI args.toList else none
  | .min,_=>if args.size=2 then mk .minI args.toList else none
  | .panic,_=>if args.size=1 then mk .panic args.toList else none
  | _,_=>none
 | _=>none
def iE(N:Nat)(ops:LX)(o:Oper):Option vl:=if(o.dst.all fun d=>decide (d<N))=false then none else match yS P o.op with
 | none=>none
 | some (k,args)=>match o.guard with
  | none=>some ⟨o.dst,k,args,none⟩
  | some (j,b)=>match(ops[j]?).bind (·.dst)with
   | some t=>some ⟨o.dst,k,args,some (.tmp t,b)⟩
   | none=>none
end
def y9:AA->LN->LN
 | [],acc=>acc.reverse
 | o::l,acc =>
  let m:=o.after.toList.foldl (fun s e=>if Region.binds .any e then Nat.lor (Nat.lor s (2 ^ e.on)) (acc.reverse.getD e.on 0)else s) 0
  y9 l (m::acc)
structure Item where
 i:Nat
 o:vl
 m:Nat
abbrev LM:=List Item
def aQ:List vl->LN->Nat->LM
 | o::l,m::ms,i=>⟨i,o,m⟩::aQ l ms (i+1)
 | _,_,_=>[]
def cB:LM->Bool
 | a::b::l=>b.m.testBit a.i&&cB (b::l)
 | _=>true
def pq(acts:LM)(x:Item):Nat:=(acts.filter fun a=>x.m.testBit a.i).length
def dB:vy->Bool
 | .new _=>false
 | _=>true
def Bf:vy->LB
 | .tmp t=>some t
 | _=>none
def ov(o:vl):LN:=(o.args++(match o.guard with|some (x,_)=>[x]|none=>[])).filterMap Bf
def lg(all:LM):Bool :=
  all.all fun x =>
    (match x.o.dst with
     | none=>x.o.kind.cls==2
     | some d=>all.all fun y=>y.i==x.i || !(y.o.dst==some d)) &&
    (x.o.args.all dB&&(match x.o.guard with|some (p,_)=>dB p|none=>true)) &&
    (ov x.o).all fun t=>all.all fun y=>!(y.o.dst==some t)||x.m.testBit y.i||y.m.testBit x.i
def dA(all:LM)(x:Item):vy->vy
 | .tmp t=>if all.any fun y=>y.o.dst==some t&&x.m.testBit y.i then .new t else .tmp t
 | a=>a
def yW(all:LM)(x:Item):vl:=⟨x.o.dst,x.o.kind,x.o.args.map (dA all x),x.o.guard.map fun p=>(dA all x p.1,p.2)⟩
def B4(all acts:LM)(s:Nat):List vl:=(all.filter fun x=>x.o.kind.cls != 2&&decide (pq acts x<s)&&(acts.take s).all fun a=>!a.m.testBit x.i).map (yW all)
def lV(all acts:LM)(s:Nat):List vl:=(all.filter fun x=>x.o.kind.cls != 2&&pq acts x==s).map (yW all)
def ap(all acts:LM):Nat->LM->List uX
 | s,[]=>[⟨B4 all acts s,lV all acts s,none⟩]
 | s,a::l=>⟨B4 all acts s,lV all acts s,some (yW all a)⟩::ap all acts (s+1) l
def eQ:AA->Nat->Bool
 | [],_=>true
 | o::l,i=>(o.after.all fun e=>!Region.binds .any e||decide (e.on<i))&&eQ l (i+1)
def su(ops:AA)(os:List vl):Option vw :=
 let all:=aQ os (y9 ops []) 0
 let acts:=all.filter fun x=>x.o.kind.cls==2
 if eQ ops 0&&cB acts&&lg all then some (.drawn (ap all acts 0 acts) (all.filterMap fun x=>x.o.dst))else none
def CW:Code->LB
 | .label l=>some l
 | .seq a b=>match CW a with
  | some l=>some l
  | none=>CW b
 | _=>none
section
variable (P:Program)
def ut(N:Nat):Nat->Code->Option vw
 | 0,_=>none
 | n+1,c=>match c with
  | .skip | .label _=>some .skip
  | .region _ ops draw=>match uI (iE P N ops) ops.toList with
   | none=>none
   | some os=>if draw then su ops.toList os else some (.region os)
  | .seq a b=>match ut N n a,ut N n b with
   | some a,some b=>some (.seq a b)
   | _,_=>none
  | .cond c a b=>match ky c,ut N n a,ut N n b with
   | some c,some a,some b=>some (.cond c a b)
   | _,_,_=>none
  | .block id b=>match ut N n b with
   | some b=>some (.block id b)
   | none=>none
  | .loop b=>match ut N n b with
   | some b=>some (.loop b)
   | none=>none
  | .rangeFunc f ps a b=>if(ps.toList.all fun d=>decide (d<N))=false then none else match ky f,ut N n a,ut N n b with
   | some f,some a,some b=>some (.rangef f ps.toList a b)
   | _,_,_=>none
  | .exit id=>some (.exit id)
  | .goto l=>some (.goto l)
  | .ret=>some .ret
  | .scope b=>match CW b with
   | none=>match ut N n b with
    | some b=>some (.scope0 b)
    | none=>none
   | some l=>match findLabel b l with
    | none=>none
    | some r=>match ut N n b,ut N n r with
     | some b,some r=>some (.scope b l r)
     | _,_=>none
  | .refuse _=>none
def iX:ResultVar->Option cQ
 | .tmp t=>some (.tmp t)
 | .cell t ty=>match yg P ty,wL P ty with
  | some a,some n=>some (.cell t a n)
  | _,_=>none
def di(F:Func):Option ze:=match F.body with
 | none=>none
 | some c=>match ut P F.ntmps 1000 c,uI (iX P) F.results.toList with
  | some c,some r=>some ⟨c,r,F.ntmps⟩
  | _,_=>none
end
open Go.RowKit
section tries
variable {α:Type}
theorem Tr.get_setN(x:Option α):∀(d:Nat) (t:Tr α) (n m:Nat),n<d->(Tr.setN x d t n).get m=if m=n then x else t.get m
 | 0,_,_,_,h=>absurd h (Nat.not_lt_zero _)
 | d+1,.nil,n,m,h=>by
  have a:=Tr.get_setN x d .nil (n/2) (m/2);have b:=Tr.get_setN x d .nil (n/2-1) (m/2-1);simp only[Tr.setN_none,Tr.get_none,zAL9,zBS9]at a b⊢;have h2:(Tr.node .nil x .nil:Tr α).get m=if m=0 then x else none:=by simp only[Tr.get_node,Tr.get_none,zAL9,zBS9];grind
  have h3:∀t:Tr α,(Tr.node t none .nil).get m=if m=0 then none else if m%2=1 then t.get (m/2)else none:=fun t=>by simp only[Tr.get_node,Tr.get_none,zAL9,zBS9]
  have h4:∀t:Tr α,(Tr.node .nil none t).get m=if m=0 then none else if m%2=1 then none else t.get (m/2-1):=fun t=>by simp only[Tr.get_node,Tr.get_none,zAL9,zBS9]
  grind
 | d+1,.node l v r,n,m,h=>by
  have a:=Tr.get_setN x d l (n/2) (m/2);have b:=Tr.get_setN x d r (n/2-1) (m/2-1);simp only[Tr.setN_node,zAL9,zBS9]at a b⊢;have h2:∀(l r:Tr α) (v:Option α),(Tr.node l v r).get m=if m=0 then v else if m%2=1 then l.get (m/2)else r.get (m/2-1):=fun l r v=>by simp only[Tr.get_node,zAL9,zBS9]
  grind
theorem Tr.get_set(t:Tr α)(n:Nat)(x:Option α)(m:Nat):(t.set n x).get m=if m=n then x else t.get m:=Tr.get_setN x (n+1) t n m (Zr _)
theorem Tr.get_nil(n:Nat):(Tr.nil:Tr α).get n=none:=rfl
theorem Tr.get_putL:∀(l:List α) (t:Tr α) (n m:Nat),(Tr.putL t n l).get m=if n<=m/\m<n+l.length then l[m-n]? else t.get m
 | [],t,n,m=>by simp only[Tr.putL,YK];grind
 | x::l,t,n,m=>by
  rw[Tr.putL,Tr.get_putL l _ (n+1) m,Tr.get_set]
  grind
theorem Tr.getL_some:∀{n i:Nat} {t:Tr α} {l:List α},Tr.getL t i n=some l->l.length=n/\∀j,j<n->l[j]?=t.get (i+j)
 | 0,i,t,l,h=>by simp[Tr.getL]at h;grind
 | n+1,i,t,l,h=>by
  unfold Tr.getL at h
  split at h
  .cases h
  .rename_i x hx
   split at h
   .cases h
   .rename_i l' hl'
    cases h
    obtain⟨h1,h2⟩:=Tr.getL_some hl'
    grind
end tries
variable {a b:Nat}
theorem bI(h:a<b):Nat.blt a b=true:=ZN.mpr h
theorem F4(h:¬a<b):Nat.blt a b=false:=by
 cases c:Nat.blt a b
 .rfl
 .exact absurd (ZN.mp c) h
theorem TH.gP(h:TH)(o:TO)(b:Nat):(h.push o).get b=if b=h.next then some o else h.get b:=by
 unfold TH.get TH.push;dsimp only;rw[Tr.get_set]
 by_cases e:b=h.next
 .subst e;rw[if_pos rfl,if_pos rfl,bI (Zr _)];rfl
 .rw[if_neg e,if_neg e]
  by_cases a:b<h.next
  .rw[bI a,bI (Nat.lt_succ_of_lt a)]
  .rw[F4 a,F4 zo]
theorem TH.get_set(h:TH)(b:Nat)(o:TO)(c:Nat)(hb:b<h.next):(h.set b o).get c=if c=b then some o else h.get c:=by
 unfold TH.get TH.set;dsimp only;rw[Tr.get_set]
 by_cases e:c=b
 .subst e;rw[if_pos rfl,if_pos rfl,bI hb];rfl
 grind
theorem TH.get_lt{h:TH}{o:TO}(hg:h.get b=some o):b<h.next:=by
 unfold TH.get at hg
 cases a:Nat.blt b h.next
 all_goals simp_all
theorem TH.nP(h:TH)(o:TO):(h.push o).next=h.next+1:=rfl
theorem TH.next_set(h:TH)(b:Nat)(o:TO):(h.set b o).next=h.next:=rfl
structure yE where
 r:Nat
 L:Nat
 S:Nat
abbrev zg:=Nat->Nat->Option yE
def TV.one:TV->Bool
 | .agg _ | .tuple _=>false
 | _=>true
inductive VR(ρ:zg):TV->Value->Prop
 | bool (b:Bool):VR ρ (.bool b) (.bool b)
 | int (k:IntKind) (n:Int):VR ρ (.int k n) (.int k n)
 | str (s:ByteArray):VR ρ (.str (s.data.toList.map (·.toNat))) (.string s)
 | nilptr:VR ρ .nilptr (.pointer none)
 | ptr {b g o e:Nat} {loc:yE} (h:ρ b g=some loc) (hc:o+e<=loc.L):VR ρ (.ptr b g o e) (.pointer (some ⟨loc.r,o,none⟩))
 | nilsl:VR ρ .nilsl (.slice none 0 0)
 | sl {b g o n q z o' c:Nat} {loc:yE} (h:ρ b g=some loc) (hn:n<=q/2) (hq:q/2<=c) (hc:o+q/2*z<=loc.L) (ho:o'=o\/n=0/\c=0/\o≠0) (hs:q%2=0->o+c*z=loc.S) (hm:c<=maxLen) :
   VR ρ (.sl b g o n q z) (.slice (some ⟨loc.r,o',none⟩) n c)
 | nilmap:VR ρ .nilmap (.map none)
 | map {b:Nat} {loc:yE} (h:ρ b 0=some loc):VR ρ (.map b) (.map (some loc.r))
 | fn {f:Nat} {l:LK} {cs:LG} (hl:l.length=cs.length) (h:∀(i:Nat) (x:TV) (y:Value),l[i]?=some x->cs[i]?=some y->VR ρ x y):VR ρ (.fn f l) (.func (.func f) #[] cs.toArray)
 | yield {l:Nat} {loc:yE} (h:ρ l 0=some loc):VR ρ (.yield l) (.func (.yield loc.r) #[] #[])
 | nilfn:VR ρ .nilfn .nilFunc
 | iface {t:Nat} {v:TV} {v':Value} (h:VR ρ v v'):VR ρ (.iface t v) (.iface t v')
 | niliface:VR ρ .niliface .nilIface
 | agg {l:LK} {cs:LG} (hl:l.length=cs.length) (h1:∀x∈l,x.one=true) (h:∀(i:Nat) (x:TV) (y:Value),l[i]?=some x->cs[i]?=some y->VR ρ x y):VR ρ (.agg l) (.agg cs.toArray)
 | tuple {l:LK} {cs:LG} (hl:l.length=cs.length) (h:∀(i:Nat) (x:TV) (y:Value),l[i]?=some x->cs[i]?=some y->VR ρ x y):VR ρ (.tuple l) (.tuple cs.toArray)
def VL(ρ:zg)(l:LK)(cs:LG):Prop:=l.length=cs.length/\∀(i:Nat) (x:TV) (y:Value),l[i]?=some x->cs[i]?=some y->VR ρ x y
variable {cs:LG}{l:LK}{x:TV}{y:Value}{ρ:zg}
theorem VL.nil(ρ:zg):VL ρ [] []:=⟨rfl,fun i x y h=>by simp at h⟩
theorem VL.cons(h:VR ρ x y)(hl:VL ρ l cs):VL ρ (x::l) (y::cs) :=
 ⟨by simp[hl.1],fun i a b c d=>by
  cases i with
  | zero=>simp at c d;subst c;subst d;exact h
  | succ i=>simp at c d;exact hl.2 i a b c d⟩
theorem VL.oc(h:VL ρ (x::l) cs):∃y cs',cs=y::cs'/\VR ρ x y/\VL ρ l cs':=by
 cases cs with
 | nil=>have:=h.1;grind
 | cons y cs'=>exact⟨y,cs',rfl,h.2 0 x y rfl rfl,by have:=h.1;grind,fun i a b c d=>h.2 (i+1) a b (by grind) (by grind)⟩
theorem VL.oN(h:VL ρ [] cs):cs=[]:=by
 cases cs with
 | nil=>rfl
 | cons y a=>have:=h.1;grind
theorem VL.one(h:VR ρ x y):VL ρ [x] [y]:=.cons h (.nil ρ)
theorem VL.app{m:LK}{ds:LG}(h:VL ρ l cs)(k:VL ρ m ds):VL ρ (l++m) (cs++ds):=by
 refine⟨by simp[h.1,k.1],fun i x y a b=>?_⟩;rw[zAU9]at a b;rw[h.1]at a
 split at a
 .rename_i hi;rw[if_pos hi]at b;exact h.2 i x y a b
 .rename_i hi;rw[if_neg hi]at b;exact k.2 _ x y a b
theorem VL.drop(h:VL ρ l cs)(k:Nat):VL ρ (l.drop k) (cs.drop k) :=
 ⟨by simp[h.1],fun i x y a b=>h.2 (k+i) x y (by grind) (by grind)⟩
theorem VL.take(h:VL ρ l cs)(k:Nat):VL ρ (l.take k) (cs.take k):=by
 refine⟨by simp[h.1],fun i x y a b=>?_⟩;rw[Y4]at a b
 split at a
 .rename_i hi;rw[if_pos hi]at b;exact h.2 i x y a b
 .cases a
theorem VL.at(h:VL ρ l cs){i:Nat}(hx:l[i]?=some x):∃y,cs[i]?=some y/\VR ρ x y:=by
 have hi:i<cs.length:=by rw[<- h.1];exact(Yl.1 hx).1
 exact⟨cs[i],Yk hi,h.2 i x _ hx (Yk hi)⟩
theorem VR.aggL(h:VL ρ l cs)(h1:∀x∈l,x.one=true):VR ρ (.agg l) (.agg cs.toArray):=.agg h.1 h1 h.2
theorem VR.tL(h:VL ρ l cs):VR ρ (.tuple l) (.tuple cs.toArray):=.tuple h.1 h.2
theorem VR.fnL{f:Nat}(h:VL ρ l cs):VR ρ (.fn f l) (.func (.func f) #[] cs.toArray):=.fn h.1 h.2
theorem VR.undef(ρ:zg):VR ρ (.tuple []) Go.undef:=VR.tL (VL.nil ρ)
structure zg.le(n:Nat)(ρ ρ':zg):Prop where
 more:∀b g loc,ρ b g=some loc->ρ' b g=some loc
 none:∀b,b<n->(∀g,ρ b g=none)->∀g,ρ' b g=none
variable {v:TV}{v':Value}{ρ':zg}
theorem zg.le.refl(n:Nat)(ρ:zg):zg.le n ρ ρ:=⟨fun _ _ _ h=>h,fun _ _ h=>h⟩
theorem zg.le.trans{n m:Nat}{ρ'':zg}(h:zg.le n ρ ρ')(k:zg.le m ρ' ρ'')(hnm:n<=m):zg.le n ρ ρ'' :=
 ⟨fun b g loc a=>k.more b g loc (h.more b g loc a),fun b a c=>k.none b (YS a hnm) (h.none b a c)⟩
theorem VR.mono(hρ:∀b g loc,ρ b g=some loc->ρ' b g=some loc)(h:VR ρ v v'):VR ρ' v v':=by
 induction h with
 | bool b=>exact .bool b
 | int k n=>exact .int k n
 | str s=>exact .str s
 | nilptr=>exact .nilptr
 | ptr h d=>exact .ptr (hρ _ _ _ h) d
 | nilsl=>exact .nilsl
 | sl h e f d i j l=>exact .sl (hρ _ _ _ h) e f d i j l
 | nilmap=>exact .nilmap
 | map h=>exact .map (hρ _ _ _ h)
 | fn c _ a=>exact .fn c a
 | yield h=>exact .yield (hρ _ _ _ h)
 | nilfn=>exact .nilfn
 | iface _ a=>exact .iface a
 | niliface=>exact .niliface
 | agg c h1 _ a=>exact .agg c h1 a
 | tuple c _ a=>exact .tuple c a
theorem VL.mono(hρ:∀b g loc,ρ b g=some loc->ρ' b g=some loc){l:LK}{cs:LG}(h:VL ρ l cs):VL ρ' l cs:=⟨h.1,fun i x y a c=>(h.2 i x y a c).mono hρ⟩
theorem VR.oneCell(h:VR ρ v v')(h1:v.one=true):v'.oneCell'=true:=by
 cases h<;>first|rfl|(simp[TV.one]at h1)
theorem VR.cells(h:VR ρ v v')(hn:v.cells ≠ []\/∃l,v=.agg l):VL ρ v.cells v'.cells.toList/\(∀x∈v.cells,x.one=true):=by
 cases h with
 | agg a h1 h=>exact⟨⟨by simpa[TV.cells,Value.cells]using a,by simpa[TV.cells,Value.cells]using h⟩,h1⟩
 | tuple a h=>rcases hn with hn|⟨l,hn⟩<;>simp[TV.cells]at hn
 | bool b=>exact⟨VL.one (.bool b),by simp[TV.cells,TV.one]⟩
 | int k n=>exact⟨VL.one (.int k n),by simp[TV.cells,TV.one]⟩
 | str s=>exact⟨VL.one (.str s),by simp[TV.cells,TV.one]⟩
 | nilptr=>exact⟨VL.one .nilptr,by simp[TV.cells,TV.one]⟩
 | ptr h c=>exact⟨VL.one (.ptr h c),by simp[TV.cells,TV.one]⟩
 | nilsl=>exact⟨VL.one .nilsl,by simp[TV.cells,TV.one]⟩
 | sl h d e c f g i=>exact⟨VL.one (.sl h d e c f g i),by simp[TV.cells,TV.one]⟩
 | nilmap=>exact⟨VL.one .nilmap,by simp[TV.cells,TV.one]⟩
 | map h=>exact⟨VL.one (.map h),by simp[TV.cells,TV.one]⟩
 | fn a h=>exact⟨VL.one (.fn a h),by simp[TV.cells,TV.one]⟩
 | yield h=>exact⟨VL.one (.yield h),by simp[TV.cells,TV.one]⟩
 | nilfn=>exact⟨VL.one .nilfn,by simp[TV.cells,TV.one]⟩
 | iface h=>exact⟨VL.one (.iface h),by simp[TV.cells,TV.one]⟩
 | niliface=>exact⟨VL.one .niliface,by simp[TV.cells,TV.one]⟩
def xE(ρ:zg)(es:List ud)(es':List MapEntry):Prop:=es.length=es'.length/\∀(i:Nat) (e:ud) (e':MapEntry),es[i]?=some e->es'[i]?=some e'->VR ρ e.k e'.key/\VR ρ e.v e'.val/\e'.born=e.n
def rL:TX->Option Code->Prop
 | .norm,c=>c=none
 | .exit id,c=>c=some (.exit id)
 | .goto l,c=>c=some (.goto l)
 | .ret,c=>c=some .ret
 | .panic _,_=>False
def yP(ρ:zg)(tm:LA)(tmps:LO):Prop:=∀t v,tm.get t=some v->∃v',tmps[t]?=some v'/\VR ρ v v'
def eu(P:Program)(e:TypeId)(fz:Nat×Nat)(n:Nat):Prop:=fz=(0,0)\/bT P e=true/\n<=fz.1
def mN(P:Program)(w:World)(r:Nat)(cur:LO)(e:TypeId):Prop:=∃fz,w.heap[r]?=some (.cells cur e fz)/\eu P e fz cur.size
variable {P:Program}{cur:LO}{e:TypeId}{r:Nat}{w:World}
theorem mN.of(h:w.heap[r]?=some (.cells cur e (0,0))):mN P w r cur e:=⟨_,h,.inl rfl⟩
theorem mN.move{w':World}(h:mN P w r cur e)(k:w'.heap[r]?=w.heap[r]?):mN P w' r cur e:=let ⟨fz,a,b⟩:=h;⟨fz,k.trans a,b⟩
theorem mN.plain(h:mN P w r cur e)(he:bT P e=false):w.heap[r]?=some (.cells cur e (0,0)):=by
 obtain⟨c,a,rfl|⟨b,_⟩⟩:=h
 .exact a
 .rw[he]at b;cases b
def OR(P:Program)(ρ:zg)(b:Nat)(w:World):TO->Prop
 | .row e G M len cells=>M<=G/\(∀g loc,ρ b g=some loc->g<=G)/\∀g,M<=g->g<=G->∃loc cur,ρ b g=some loc/\mN P w loc.r cur e/\(g=G->cur.size=loc.S)/\loc.L<=len/\loc.L<=cur.size/\(g=G->loc.L=len) /\
   ∀i,i<loc.L->∃x v,cells.get i=some x/\cur[i]?=some v/\x.one=true/\VR ρ x v
 | .map es ck=>∃loc es',ρ b 0=some loc/\w.heap[loc.r]?=some (.map es' ck)/\xE ρ es es'.toList
 | .dfr shut=>∃loc,ρ b 0=some loc/\w.heap[loc.r]?=some (.deferred (if shut=true then none else some []))
 | .loop st pe tm ps aS bo d=>∃loc rec locd N n m,ρ b 0=some loc/\ρ d 0=some locd/\w.heap[loc.r]?=some (.loop rec)/\rec.state=st/\rL pe rec.pending/\yP ρ tm rec.tmps/\N<=rec.tmps.size /\
   rec.params.toList=ps/\(∀p∈ps,p<N)/\ut P N n rec.assign=some aS/\ut P N m rec.body=some bo/\rec.defers=locd.r
 | .ro cells=>∀g loc,ρ b g=some loc->g=0/\∀i x,cells.get i=some x->∃v,w.cell? ⟨loc.r,i,none⟩=some v/\x.one=true/\VR ρ x v
def RO(h:TH)(b:Nat):Prop:=∃cs,h.get b=some (.ro cs)
structure WR(P:Program)(Z:Nat)(ρ:zg)(h:TH)(w:World):Prop where
 dom:∀b g loc,ρ b g=some loc->b<h.next/\(Z<=loc.r\/RO h b)/\loc.r<w.heap.size
 obj:∀b g loc,ρ b g=some loc->∃o,h.get b=some o/\OR P ρ b w o
 sep:∀b b' g g' loc loc',ρ b g=some loc->ρ b' g'=some loc'->loc.r=loc'.r->Z<=loc.r->b=b'
variable {Z c g:Nat}{h:TH}{loc:yE}{w':World}{x:TO}
theorem xE.mono(hρ:∀b g loc,ρ b g=some loc->ρ' b g=some loc){es es'}(h:xE ρ es es'):xE ρ' es es' :=
 ⟨h.1,fun i e f j d=>let ⟨a,b,c⟩:=h.2 i e f j d;⟨a.mono hρ,b.mono hρ,c⟩⟩
theorem yP.mono(hρ:∀b g loc,ρ b g=some loc->ρ' b g=some loc){tm tmps}(h:yP ρ tm tmps):yP ρ' tm tmps :=
 fun t v a=>let ⟨v',h1,h2⟩:=h t v a;⟨v',h1,h2.mono hρ⟩
theorem OR.move(hρ:∀b g loc,ρ b g=some loc->ρ' b g=some loc){o:TO}(hsame:∀g,ρ' b g=ρ b g)(hb:∀g loc,ρ b g=some loc->w'.heap[loc.r]?=w.heap[loc.r]?)(h:OR P ρ b w o):OR P ρ' b w' o:=by
 cases o with
 | row e G M len cells =>
  refine⟨h.1,fun g loc K=>h.2.1 g loc (by grind),fun g h1 h2=>?_⟩;obtain⟨loc,cur,a,c,f,j,k,l,s⟩:=h.2.2 g h1 h2;refine⟨loc,cur,hρ _ _ _ a,c.move (hb _ _ a),f,j,k,l,fun i hi=>?_⟩;obtain⟨x,v,t,u,y,z⟩:=s i hi;exact⟨x,v,t,u,y,z.mono hρ⟩
 | map es ck =>
  obtain⟨loc,es',a,c,A⟩:=h;exact⟨loc,es',hρ _ _ _ a,(hb _ _ a).trans c,A.mono hρ⟩
 | dfr J =>
  obtain⟨loc,a,c⟩:=h;exact⟨loc,hρ _ _ _ a,(hb _ _ a).trans c⟩
 | loop L O tm ps aS bo d =>
  obtain⟨loc,q,p,N,n,m,a,hd,c,f,j,k,l⟩:=h;exact⟨loc,q,p,N,n,m,hρ _ _ _ a,hρ _ _ _ hd,(hb _ _ a).trans c,f,j,k.mono hρ,l⟩
 | ro cells =>
  intro g loc a;rw[hsame]at a;obtain⟨h1,h2⟩:=h g loc a;refine⟨h1,fun i x B=>?_⟩;obtain⟨v,C,D,I⟩:=h2 i x B;exact⟨v,by rw[World.cell?,hb _ _ a];exact C,D,I.mono hρ⟩
theorem WR.own(k:WR P Z ρ h w)(hl:ρ b g=some loc)(hx:h.get b=some x)(hn:∀cs,x ≠ .ro cs):Z<=loc.r:=by
 rcases(k.dom b g loc hl).2.1 with h1|⟨cs,h1⟩
 all_goals grind
theorem WR.drew(k:WR P Z ρ h w):WR P Z ρ h w.drew :=
 ⟨k.dom,fun b g loc a=>let ⟨o,ho,hr⟩:=k.obj b g loc a;⟨o,ho,hr.move (fun _ _ _ h=>h) (fun _=>rfl) (fun _ _ _=>rfl)⟩,k.sep⟩
theorem WR.world(k:WR P Z ρ h w)(hs:w.heap.size<=w'.heap.size)(hb:∀r,r<w.heap.size->w'.heap[r]?=w.heap[r]?):WR P Z ρ h w' :=
  ⟨fun b g loc d=>let ⟨a,b,c⟩:=k.dom b g loc d;⟨a,b,YS c hs⟩,
   fun b g loc d=>let ⟨o,ho,hr⟩:=k.obj b g loc d;⟨o,ho,hr.move (fun _ _ _ h=>h) (fun _=>rfl) (fun g loc e=>hb _ (k.dom b g loc e).2.2)⟩,k.sep⟩
theorem WR.push(k:WR P Z ρ h w)(o:TO):WR P Z ρ (h.push o) w :=
  ⟨fun b g loc d=>let ⟨a,b,c⟩:=k.dom b g loc d;⟨Nat.lt_succ_of_lt a,b.imp id fun⟨cs,h⟩=>⟨cs,by rw[TH.gP,if_neg zo];exact h⟩,c⟩,
   fun b g loc d=>by
    obtain⟨x,e,f⟩:=k.obj b g loc d;have i:=(k.dom b g loc d).1;exact⟨x,by rw[TH.gP,if_neg zo];exact e,f⟩,k.sep⟩
def zg.add(ρ:zg)(b:Nat)(g:Nat)(loc:yE):zg:=fun c k=>if c=b/\k=g then some loc else ρ c k
theorem zg.aS(ρ:zg)(b g:Nat)(loc:yE):ρ.add b g loc b g=some loc:=by simp[zg.add]
theorem zg.add_more(hn:ρ b g=none):∀c k l,ρ c k=some l->ρ.add b g loc c k=some l:=fun c k l h=>by
 unfold zg.add
 grind
theorem zg.add_ne(hc:c≠b)(k:Nat):ρ.add b g loc c k=ρ c k:=by
 unfold zg.add;grind
theorem zg.add_inv{k:Nat}{l:yE}(h:ρ.add b g loc c k=some l):(c=b/\k=g/\l=loc)\/ρ c k=some l:=by
 unfold zg.add at h
 grind
theorem WR.real(k:WR P Z ρ h w)(hn:∀g,ρ b g=none)(hb:b<h.next)(hZ:Z<=w.heap.size)(hx:h.get b=some x){o:Obj}{L S:Nat}(hr:OR P (ρ.add b 0 ⟨w.heap.size,L,S⟩) b (w.alloc o) x):WR P Z (ρ.add b 0 ⟨w.heap.size,L,S⟩) h (w.alloc o):=by
 have r:=zg.add_more (loc:=⟨w.heap.size,L,S⟩) (hn 0);refine⟨fun c g loc f=>?_,fun c g loc f=>?_,fun c l g m loc j f i e p=>?_⟩
 .rcases zg.add_inv f with⟨rfl,rfl,rfl⟩|f
  .simp_all
  .obtain⟨a,b,d⟩:=k.dom c g loc f;exact⟨a,b,by simp;omega⟩
 .by_cases n:c=b
  .grind
  .have i:ρ c g=some loc:=by rw[<- f,zg.add_ne n]
   obtain⟨y,s,q⟩:=k.obj c g loc i;refine⟨y,s,q.move r (fun g=>zg.add_ne n g) fun g loc t=>?_⟩;exact Below.heap_alloc w o _ (k.dom c g loc t).2.2
 .rcases zg.add_inv f with⟨h1,h2,h3⟩|ha
  .rcases zg.add_inv i with⟨h4,h5,h6⟩|ha'
   .omega
   .have:=(k.dom l m j ha').2.2;grind
  .rcases zg.add_inv i with⟨h4,h5,h6⟩|ha'
   .have:=(k.dom c g loc ha).2.2;grind
   .exact k.sep c l g m loc j ha ha' e p
variable {P:Program}{ρ:zg}{Z:Nat}{h:TH}{w:World}
variable {a:Act}{g:Bool}{n:Nat}{t:TypeId}{tm:LA}{v:Value}{z:TV}
theorem rY(hg:yg P t=some g)(w:World):(isAgg t).run P w=.ok g w:=by
 unfold yg at hg
 split at hg<;>first|(cases hg;done)|skip
 all_goals (injection hg with hg;subst hg)
 .rename_i hu;simp[isAgg,run_underlying hu]
 .rename_i hu;simp[isAgg,run_underlying hu]
 .rename_i d _ _ hu
  cases d<;>simp_all [isAgg,run_underlying hu]
theorem mD(hn:wL P t=some n):n≠0/\∃i,P.info? t=some i/\i.size=n:=by
 unfold wL at hn
 grind
theorem yM(hn:wL P t=some n)(w:World):(sizeOf t).run P w=.ok n w:=by
 obtain⟨_,i,hi,rfl⟩:=mD hn;simp[sizeOf,typeInfo,hi]
theorem BW(hn:cU P t=some n):∃i,P.info? t=some i/\i.bytes=n:=by
 unfold cU at hn
 simp_all
theorem A5{t:TV}(hv:dS v=some t):VR ρ t v/\t.one=true:=by
 unfold dS at hv
 split at hv<;>first|(cases hv;done)|(injection hv with hv;subst hv;exact⟨by constructor,rfl⟩)
theorem oz{α β:Type}{f:α->Option β}:∀{l:List α} {m:List β},uI f l=some m->m.length=l.length/\∀(i:Nat) a b,l[i]?=some a->m[i]?=some b->f a=some b
 | [],m,c=>by simp[uI]at c;subst c;exact⟨rfl,fun i a b d=>by simp at d⟩
 | x::l,m,c=>by
  unfold uI at c
  split at c
  .cases c
  .rename_i b hb
   split at c
   .cases c
   .rename_i bs hbs;injection c with c;subst c;obtain⟨h1,h2⟩:=oz hbs
    grind
theorem I3{l:LG}{m:LK}(hm:uI dS l=some m):VL ρ m l/\∀x∈m,x.one=true:=by
 obtain⟨h1,h2⟩:=oz hm;refine⟨⟨h1,fun i x y a c=>(A5 (h2 i y x c a)).1⟩,fun x a=>?_⟩;obtain⟨i,hi,rfl⟩:=YU.1 a;have b:i<l.length:=by rw[<- h1];exact hi
 exact(A5 (ρ:=ρ) (h2 i l[i] m[i] (Yk b) (Yk hi))).2
theorem Gq{t:TV}(hv:sj v=some t):VR ρ t v:=by
 unfold sj at hv
 split at hv
 .split at hv<;>first|(cases hv;done)|skip
  rename_i cs _ l a;injection hv with hv;subst hv;have:=I3 (ρ:=ρ) a;have:=VR.aggL this.1 this.2;omega
 .split at hv<;>first|(cases hv;done)|skip
  rename_i cs _ l a;injection hv with hv;subst hv;have:=I3 (ρ:=ρ) a;have:=VR.tL this.1;omega
 .split at hv<;>first|(cases hv;done)|skip
  rename_i a;injection hv with hv;subst hv;exact .iface (A5 a).1
 .exact(A5 hv).1
theorem Bm(hz:xA P t=some z):∃i zv,P.info? t=some i/\i.zero=some zv/\∀ρ,VR ρ z zv:=by
 unfold xA at hz
 split at hz
 .rename_i i hi
  split at hz
  .rename_i zv hzv;exact⟨i,zv,hi,hzv,fun ρ=>Gq hz⟩
  .cases hz
 .cases hz
theorem lp(hz:xA P t=some z)(w:World):∃zv,(zeroValue t).run P w=.ok zv w/\VR ρ z zv:=by
 obtain⟨i,zv,hi,a,b⟩:=Bm hz;exact⟨zv,by simp[zeroValue,typeInfo,hi,a],b ρ⟩
theorem lS{e:TypeId}(he:fc P t=some e):P.underlying t=some (.slice e):=by
 unfold fc at he
 grind
theorem sA(ht:yP ρ tm a.tmps){x:Operand}{y:vy}(hx:ky x=some y){v:TV}(hv:mi tm y=some v):VR ρ v (a.eval x):=by
 cases x with
 | tmp t =>
  simp[ky]at hx;subst hx;obtain⟨v',h1,h2⟩:=ht t v hv;simpa[Act.eval,h1]using h2
 | const c =>
  simp[ky]at hx;obtain⟨u,b,rfl⟩:=hx;simp[mi]at hv;subst hv;exact Gq b
 | global g=>simp[ky]at hx
 | func f =>
  simp[ky]at hx;subst hx;simp[mi]at hv;subst hv;exact VR.fnL (VL.nil ρ)
theorem bO(ht:yP ρ tm a.tmps):∀{xs:AP} {ys:List vy},uI ky xs=some ys->∀{vs:LK},kw tm ys=some vs->VL ρ vs (xs.map a.eval)
 | [],ys,c,vs,d=>by simp[uI]at c;subst c;simp[kw]at d;subst d;exact VL.nil ρ
 | x::xs,ys,c,vs,d=>by
  unfold uI at c
  split at c
  .cases c
  .rename_i b hb
   split at c
   .cases c
   .rename_i bs hbs;injection c with c;subst c;unfold kw at d
    split at d
    .cases d
    .rename_i u hu
     split at d
     .cases d
     .rename_i us hus;injection d with d;subst d;exact .cons (sA ht hb hu) (bO ht hbs hus)
theorem DT(k:WR P Z ρ h w){b g o:Nat}{loc:yE}(hl:wK h b g o n=some l)(hρ:ρ b g=some loc)(hc:o+n<=loc.L):
  ∃cs,VL ρ l cs/\cs.length=n/\(∀(j:Nat) v,cs[j]?=some v->w.cell? ⟨loc.r,o+j,none⟩=some v)/\∀x∈l,x.one=true:=by
 unfold wK at hl
 split at hl
 .rename_i x a;obtain⟨y,c,u⟩:=k.obj b g loc hρ;rw[a]at c;injection c with c;subst c;unfold mC at hl
  split at hl
  .rename_i e G M len cells;have h1:Nat.ble M g=true:=by cases d:Nat.ble M g<;>simp[d]at hl⊢
   have h2:Nat.ble g G=true:=by cases d:Nat.ble g G<;>simp[h1,d]at hl⊢
   simp only[h1,h2,cond_true]at hl;obtain⟨f,s⟩:=Tr.getL_some hl;obtain⟨N,cur,m,q,Q,R,S,T,z⟩:=u.2.2 g (YB h1) (YB h2);rw[hρ]at m;injection m with m;subst m;refine⟨(cur.toList.drop o).take n,⟨by simp[f];omega,fun i x y a c=>?_⟩,by simp;omega,fun j v t=>?_,fun x a=>?_⟩
   .have hi:i<n:=by rw[<- f];exact(Yl.1 a).1
    rw[s i hi]at a;obtain⟨x',v',C,D,I,J⟩:=z (o+i) zo
    grind
   .have p:j<n:=by grind
    rw[Y4,if_pos p,Zo,Y7]at t;obtain⟨U,q,_⟩:=q;simp[World.cell?,q,t]
   .obtain⟨i,hi,rfl⟩:=YU.1 a;have A:=Yk hi;rw[s i zo]at A;obtain⟨x',v',C,D,I,J⟩:=z (o+i) zo
    grind
  .rename_i cells;have h1:Nat.beq g 0=true:=by cases d:Nat.beq g 0<;>simp[d]at hl⊢
   rw[h1]at hl;simp only[cond_true]at hl;obtain⟨f,s⟩:=Tr.getL_some hl;have O:=(u g loc hρ).2;have B:∀j,j<n->∃v,w.cell? ⟨loc.r,o+j,none⟩=some v/\∃x,l[j]?=some x/\x.one=true/\VR ρ x v:=fun j p=>by grind
   have hd:∀j,j<n->∃v,w.cell? ⟨loc.r,o+j,none⟩=some v:=fun j p=>by obtain⟨v,K,_⟩:=B j p;exact⟨v,K⟩
   refine⟨(List.range n).map fun j=>(w.cell? ⟨loc.r,o+j,none⟩).getD undef,⟨by simp[f],fun i x y a c=>?_⟩,by simp,fun j v t=>?_,fun x a=>?_⟩
   .grind
   .grind
   .obtain⟨i,hi,rfl⟩:=YU.1 a
    grind
  .cases hl
 .cases hl
theorem tX{agg:Bool}{v:TV}(hv:dG agg l=some v):(agg=true/\v=.agg l)\/(agg=false/\l=[v]):=by
 unfold dG at hv
 grind
theorem pH(r o j:Nat):(⟨r,o,none⟩:Addr).add j=⟨r,o+j,none⟩:=by unfold Addr.add;split<;>simp_all
theorem JN(k:WR P Z ρ h w)(hg:yg P t=some g)(hn:wL P t=some n){p:TV}{p':Value}(hp:VR ρ p p'){v:TV}(hv:ni g n h p=some v):
  ∃v',(Instr.loadAt t p').run P w=.ok v' w/\VR ρ v v':=by
 unfold ni at hv
 split at hv
 .rename_i b g' o e
  cases c:Nat.ble n e<;>simp only[c,cond_true,cond_false]at hv
  .cases hv
  .have f:=YB c
   split at hv
   .rename_i l hl
    cases hp with
    | ptr d i =>
     rename_i loc;obtain⟨cs,h1,h2,h3,h4⟩:=DT k hl d zo;have a:=run_loadCells_list (P:=P) w ⟨loc.r,o,none⟩ cs (fun j v hv=>by rw[pH];exact h3 j v hv);rw[h2]at a;rcases tX hv with⟨rfl,rfl⟩|⟨rfl,rfl⟩
     .refine⟨.agg cs.toArray,?_,VR.aggL h1 h4⟩;simp[Instr.loadAt,Instr.sureAddr,loadVar,rY hg,yM hn,a]
     .obtain⟨y,cs',rfl,hy,hr⟩:=h1.oc;obtain rfl:=hr.oN;have:=h3 0 y rfl;rw[ZP]at this;exact⟨y,by simp[Instr.loadAt,Instr.sureAddr,loadVar,rY hg,load,Sem.run,this],hy⟩
   .cases hv
 .cases hv
theorem fq{k k':IntKind}(h:Nat.beq (wC k) (wC k')=true):k=k':=by
 have:=Yo h
 cases k<;>cases k'<;>first|rfl|(simp[wC]at this)
theorem x9(a b:Int):gH a b=(a==b):=by
 cases a<;>cases b<;>simp only[gH]
 .rename_i x y;show Nat.beq x y=_
  by_cases h:x=y
  .simp_all
  .have:Nat.beq x y=false:=by cases c:Nat.beq x y;rfl;exact absurd (Yo c) h
   grind
 .simp
 .simp
 .rename_i x y
  by_cases h:x=y
  .simp_all
  .have:Nat.beq x y=false:=by cases c:Nat.beq x y;rfl;exact absurd (Yo c) h
   grind
theorem mv(a b:Int):gI a b=decide (a<=b):=by
 unfold gI
 split
 all_goals grind
theorem iz:∀(a b:LN),xO a b=(a==b)
 | [],[]=>rfl
 | [],_::_=>rfl
 | _::_,[]=>rfl
 | a::l,b::m=>by
  unfold xO;rw[iz l m]
  cases c:Nat.beq a b
  .have:a≠b:=fun e=>by subst e;simp at c
   simp[this]
  simp_all
def ur(s:ByteArray):LN:=s.data.toList.map (·.toNat)
variable {b:Bool}{k k':IntKind}{op:BinOp}{v x:TV}{α:Type}
theorem F5{s t:ByteArray}(h:ur s=ur t):s.toList=t.toList:=by
 rw[ByteArray.toList_eq,ByteArray.toList_eq];exact List.map_inj_right (f:=fun x:UInt8=>x.toNat) (fun x y=>UInt8.toNat_inj.1) |>.1 h
theorem BU(s t:ByteArray):(ur s==ur t)=(s.toList==t.toList):=by
 by_cases e:s.toList=t.toList
 .have:ur s=ur t:=by unfold ur;rw[<- ByteArray.toList_eq,<- ByteArray.toList_eq,e]
  grind
 .have:ur s≠ur t:=fun h=>e (F5 h)
  grind
theorem Eo:∀(a b:List UInt8),am (a.map (·.toNat)) (b.map (·.toNat))=Op.bytesLess a b
 | [],[]=>rfl
 | [],_::_=>rfl
 | _::_,[]=>by simp[am,Op.bytesLess]
 | a::l,b::m=>by
  simp only[YL,am,Op.bytesLess,Eo l m];have h1:Nat.blt a.toNat b.toNat=decide (a<b):=by
   by_cases h:a<b
   .rw[ZN.mpr (UInt8.lt_iff_toNat_lt.1 h)];simp[h]
   .cases c:Nat.blt a.toNat b.toNat
    .simp[h]
    .exact absurd (UInt8.lt_iff_toNat_lt.2 (ZN.mp c)) h
  have h2:Nat.beq a.toNat b.toNat=(a==b):=by
   cases c:Nat.beq a.toNat b.toNat
   .have:a≠b:=fun e=>by subst e;simp at c
    simp[this]
   .have:=UInt8.toNat_inj.1 (Yo c);simp[this]
  grind
theorem R1{x:Option α}{y:α}(h:(bif Nat.beq (wC k) (wC k')then x else none)=some y):k=k'/\x=some y:=by
 cases a:Nat.beq (wC k) (wC k')<;>rw[a]at h
 .cases h
 .exact⟨fq a,h⟩
theorem ve{x:Option α}{y:α}(h:(bif b then x else none)=some y):b=true/\x=some y:=by grind
theorem C6{n:Nat}(h:n<2 ^ gK k):k.wrap (n:Int)=n:=by
 cases k<;>simp only[gK]at h<;>simp[IntKind.wrap,IntKind.bits,IntKind.signed]<;>omega
theorem fB(k:IntKind):2 ^ gK k<=2 ^ k.bits:=ZC zo (by cases k<;>simp[gK,IntKind.bits])
theorem Ql(op:BinOp)(t:TypeId)(x y:Operand)(k k':IntKind)(a b:Int)(w:World):(eqGuard op t x y (.int k a) (.int k' b)).run P w=.ok () w:=by
 cases op<;>simp[eqGuard]
theorem Qm(op:BinOp)(t:TypeId)(x y:Operand)(a b:ByteArray)(w:World):(eqGuard op t x y (.string a) (.string b)).run P w=.ok () w:=by
 cases op<;>simp[eqGuard]
theorem BQ{f:Nat->Nat->Nat}{x y:Int}(hv:aF f k x y=some v):∃a b:Nat,x=a/\y=b/\a<2 ^ gK k/\b<2 ^ gK k/\v=.int k (f a b:Nat):=by
 unfold aF at hv
 split at hv
 .rename_i a b;obtain⟨h1,hv⟩:=ve hv;obtain⟨h2,hv⟩:=ve hv;injection hv with hv;exact⟨a,b,rfl,rfl,ZN.mp h1,ZN.mp h2,hv.symm⟩
 .cases hv
theorem QD(a n:Nat):(a:Int).fdiv (2 ^ n)=((a/2 ^ n:Nat):Int):=by grind
theorem FL{a b:Int}(hv:ku op k k' a b=some v)(w:World):∃v',(binOp op t (.int k a) (.int k' b)).run P w=.ok v' w/\VR ρ v v':=by
 cases op<;>simp only[ku]at hv<;>try(obtain⟨j,i⟩:=R1 hv;clear hv;subst j;have hv:=i;clear i)
 case add=>injection hv with hv;subst hv;exact⟨_,by simp[binOp,Op.intArith],.int _ _⟩
 case sub=>injection hv with hv;subst hv;exact⟨_,by simp[binOp,Op.intArith],.int _ _⟩
 case mul=>injection hv with hv;subst hv;exact⟨_,by simp[binOp,Op.intArith],.int _ _⟩
 case quo =>
  cases d:gH b 0<;>rw[d]at hv
  .injection hv with hv;subst hv;rw[x9]at d;exact⟨_,by simp[binOp,Op.intDiv,(by simpa using d:b≠0)],.int _ _⟩
  .cases hv
 case rem =>
  cases d:gH b 0<;>rw[d]at hv
  .injection hv with hv;subst hv;rw[x9]at d;exact⟨_,by simp[binOp,Op.intDiv,(by simpa using d:b≠0)],.int _ _⟩
  .cases hv
 case and =>
  obtain⟨x,y,rfl,rfl,e,c,rfl⟩:=BQ hv;refine⟨.int k ((Nat.land x y:Nat):Int),?_,.int _ _⟩;have:Nat.land x y<2 ^ gK k:=zCJ9 _ c;have f:x%2 ^ k.bits=x:=Zx (YS e (fB k));have g:y%2 ^ k.bits=y:=Zx (YS c (fB k));simp[binOp,Op.intBits,BitVec.toNat_and,f,g];exact C6 this
 case or =>
  obtain⟨x,y,rfl,rfl,e,c,rfl⟩:=BQ hv;refine⟨.int k ((Nat.lor x y:Nat):Int),?_,.int _ _⟩;have:Nat.lor x y<2 ^ gK k:=Nat.or_lt_two_pow e c;have f:x%2 ^ k.bits=x:=Zx (YS e (fB k));have g:y%2 ^ k.bits=y:=Zx (YS c (fB k));simp[binOp,Op.intBits,BitVec.toNat_or,f,g];exact C6 this
 case xor =>
  obtain⟨x,y,rfl,rfl,e,c,rfl⟩:=BQ hv;refine⟨.int k ((Nat.xor x y:Nat):Int),?_,.int _ _⟩;have:Nat.xor x y<2 ^ gK k:=zAF9 e c;have f:x%2 ^ k.bits=x:=Zx (YS e (fB k));have g:y%2 ^ k.bits=y:=Zx (YS c (fB k));simp[binOp,Op.intBits,BitVec.toNat_xor,f,g];exact C6 this
 case shl =>
  unfold K9 at hv
  split at hv
  .rename_i n;obtain⟨_,hv⟩:=ve hv;injection hv with hv;subst hv;exact⟨_,by simp[binOp,Op.shift,Int.not_lt.2 (ZD n)],.int _ _⟩
  .cases hv
 case shr =>
  unfold La at hv
  split at hv
  .rename_i a n;obtain⟨_,hv⟩:=ve hv;injection hv with hv;subst hv;refine⟨_,?_,.int _ _⟩;simp[binOp,Op.shift,Int.not_lt.2 (ZD n)];exact QD a _
  .cases hv
 case andNot=>cases hv
 case eql=>injection hv with hv;subst hv;exact⟨_,by simp[binOp,Op.intCmp];rfl,by rw[x9];exact .bool _⟩
 case neq=>injection hv with hv;subst hv;exact⟨_,by simp[binOp,Op.intCmp];rfl,by rw[x9];exact .bool _⟩
 case lss =>
  injection hv with hv;subst hv;refine⟨.bool (decide (a<b)),by simp[binOp,Op.intCmp],?_⟩;have:(decide (a<b))=!(gI b a):=by rw[mv];by_cases h:b<=a<;>simp[h]<;>omega
  rw[this];exact .bool _
 case leq=>injection hv with hv;subst hv;exact⟨.bool (decide (a<=b)),by simp[binOp,Op.intCmp],by rw[<- mv];exact .bool _⟩
 case gtr =>
  injection hv with hv;subst hv;refine⟨.bool (decide (a>b)),by simp[binOp,Op.intCmp],?_⟩;have:(decide (a>b))=!(gI a b):=by rw[mv];by_cases h:a<=b<;>simp[h]<;>omega
  rw[this];exact .bool _
 case geq=>injection hv with hv;subst hv;exact⟨.bool (decide (a ≥ b)),by simp[binOp,Op.intCmp],by rw[show decide (a ≥ b)=gI b a by rw[mv]];exact .bool _⟩
theorem Iu(a b:List UInt8):(Op.bytesLess a b||(a==b))=!(Op.bytesLess b a):=by
 induction a generalizing b with
 | nil=>cases b<;>simp[Op.bytesLess]
 | cons x l c =>
  cases b with
  | nil=>simp[Op.bytesLess]
  | cons y m =>
   simp only[Op.bytesLess];have:=c m
   by_cases h1:x<y
   .have h2:¬y<x:=fun h=>by have:=UInt8.lt_trans h1 h;simp at this
    have h3:(y==x)=false:=by simp;rintro rfl;simp at h1
    simp[h1,h2,h3]
   .by_cases h2:x=y
    .subst h2;simp[this]
    .have h3:y<x:=by grind
     simp[h1,h2,h3]
theorem Om{a b:ByteArray}(hv:BO op (ur a) (ur b)=some v)(w:World):∃v',(binOp op t (.string a) (.string b)).run P w=.ok v' w/\VR ρ v v':=by
 have h1:xO (ur a) (ur b)=(a.toList==b.toList):=by rw[iz,BU]
 have h2:am (ur a) (ur b)=Op.bytesLess a.toList b.toList:=by unfold ur;rw[Eo,ByteArray.toList_eq,ByteArray.toList_eq]
 have h3:am (ur b) (ur a)=Op.bytesLess b.toList a.toList:=by unfold ur;rw[Eo,ByteArray.toList_eq,ByteArray.toList_eq]
 cases op<;>simp only[BO]at hv<;>first|(cases hv;done)|skip
 case eql=>injection hv with hv;subst hv;rw[h1];exact⟨_,by simp[binOp,Op.stringOp],.bool _⟩
 case neq=>injection hv with hv;subst hv;rw[h1];exact⟨_,by simp[binOp,Op.stringOp],.bool _⟩
 case lss=>injection hv with hv;subst hv;rw[h2];exact⟨_,by simp[binOp,Op.stringOp],.bool _⟩
 case leq=>injection hv with hv;subst hv;rw[h3];exact⟨.bool (!(Op.bytesLess b.toList a.toList)),by simp[binOp,Op.stringOp,Iu],.bool _⟩
 case gtr=>injection hv with hv;subst hv;rw[h3];exact⟨.bool (Op.bytesLess b.toList a.toList),by simp[binOp,Op.stringOp,Iu],.bool _⟩
 case geq=>injection hv with hv;subst hv;rw[h2];exact⟨_,by simp[binOp,Op.stringOp],.bool _⟩
 case add =>
  obtain⟨h0,hv⟩:=ve hv;injection hv with hv;subst hv;have c:=YB h0;have d:(ur a).length=a.size:=by simp[ur]
  have e:(ur b).length=b.size:=by simp[ur]
  refine⟨.string (a++b),?_,?_⟩
  .have:¬(((a.size+b.size:Nat):Int)>IntKind.i64.max):=by simp[IntKind.max,IntKind.signed,IntKind.bits];omega
   simp only[binOp,Op.stringOp];rw[if_neg this];simp
  .have:ur a++ur b=ur (a++b):=by simp[ur]
   rw[this];exact .str _
theorem On{X Y:Operand}{y:TV}{x' y':Value}(hx:VR ρ x x')(hy:VR ρ y y')(hv:wO op x y=some v)(w:World):
  ∃v',(do eqGuard op t X Y x' y';binOp op t x' y':Sem Value).run P w=.ok v' w/\VR ρ v v':=by
 unfold wO at hv
 split at hv
 .unfold kv at hv
  split at hv
  .cases hx;cases hy
   obtain⟨v',h1,h2⟩:=FL (P:=P) (ρ:=ρ) (t:=t) hv w;exact⟨v',by simp[Ql,h1],h2⟩
  .cases hv
 .unfold FQ at hv
  split at hv
  .cases hx with
   | str a=>cases hy with
    | str b =>
     obtain⟨v',h1,h2⟩:=Om (P:=P) (ρ:=ρ) (t:=t) hv w;exact⟨v',by simp[Qm,h1],h2⟩
  .cases hv
 .cases hv
theorem Jv{neg:Bool}{x:LW}(hv:oM neg x=some v):∃b,x=some b/\v=.bool (neg ^^ b):=by
 unfold oM at hv
 split at hv
 .rename_i b;injection hv with hv;exact⟨b,rfl,by rw[<- hv];cases neg<;>cases b<;>rfl⟩
 .cases hv
theorem lM{x y:LW}(hb:qk x y=some b):(x=some true/\y=some true/\b=true)\/(x=some true/\y=some false/\b=false)\/(x=some false/\y=some true/\b=false):=by
 cases x with
 | none=>cases hb
 | some x=>cases y with
  | none=>cases hb
  | some y=>cases x<;>cases y<;>simp[qk]at hb<;>simp[<- hb]
theorem tM(h:oJ x=some true):x=.nilptr:=by cases x<;>simp[oJ]at h;rfl
theorem Jn(h:oJ x=some false):∃b g o e,x=.ptr b g o e:=by cases x<;>simp[oJ]at h;exact⟨_,_,_,_,rfl⟩
theorem tN(h:oK x=some true):x=.nilsl:=by cases x<;>simp[oK]at h;rfl
theorem Jo(h:oK x=some false):∃b g o n q z,x=.sl b g o n q z:=by cases x<;>simp[oK]at h;exact⟨_,_,_,_,_,_,rfl⟩
theorem tL(h:oH x=some true):x=.nilmap:=by cases x<;>simp[oH]at h;rfl
theorem Jm(h:oH x=some false):∃b,x=.map b:=by cases x<;>simp[oH]at h;exact⟨_,rfl⟩
theorem tJ(h:z7 x=some true):x=.nilfn:=by cases x<;>simp[z7]at h;rfl
theorem Jk(h:z7 x=some false):∃f l,x=.fn f l:=by cases x<;>simp[z7]at h;exact⟨_,_,rfl⟩
theorem tK(h:oG x=some true):x=.niliface:=by cases x<;>simp[oG]at h;rfl
theorem Jl(h:oG x=some false):∃t v,x=.iface t v:=by cases x<;>simp[oG]at h;exact⟨_,_,rfl⟩
theorem sy(t:TypeId)(x y:Value):Op.equal t x y=Op.equalIn (9999+1) t x y:=rfl
def bA(P:Program)(t:TypeId)(X Y:Operand)(x y:Value)(b:Bool)(w:World):Prop :=
 (∀op,(eqGuard op t X Y x y).run P w=.ok () w)/\(binOp .eql t x y).run P w=.ok (.bool b) w/\(binOp .neq t x y).run P w=.ok (.bool (!b)) w
variable {X Y:Operand}{hi:AJ}{i l:Nat}{lo:AJ}{m:Nat}{vs:LK}{x':Value}{y:TV}{y':Value}{z:Nat}
theorem pw{x y:Value}(hg:∀op,(eqGuard op t X Y x y).run P w=.ok () w)(he:∀d,(Op.equalIn (d+1) t x y).run P w=.ok b w)(h1:binOp .eql t x y=(do pure (.bool (<- Op.equal t x y))))(h2:binOp .neq t x y=(do pure (.bool (!(<- Op.equal t x y))))):bA P t X Y x y b w :=
 ⟨hg,by rw[h1,sy];simp[he 9999],by rw[h2,sy];simp[he 9999]⟩
theorem Qn(hu:P.underlying t=some (.pointer e))(hx:VR ρ x x')(hy:VR ρ y y')(hb:bN 1 x y=some b):bA P t X Y x' y' b w:=by
 rcases lM hb with⟨h1,h2,rfl⟩|⟨h1,h2,rfl⟩|⟨h1,h2,rfl⟩
 .obtain rfl:=tM h1;obtain rfl:=tM h2
  cases hx;cases hy
  exact pw (fun op=>by cases op<;>simp[eqGuard]) (fun d=>by simp[Op.equalIn,run_underlying hu]) rfl rfl
 .obtain rfl:=tM h1;obtain⟨_,_,_,_,rfl⟩:=Jn h2
  cases hx;cases hy
  exact pw (fun op=>by cases op<;>simp[eqGuard]) (fun d=>by simp[Op.equalIn,run_underlying hu]) rfl rfl
 .obtain⟨_,_,_,_,rfl⟩:=Jn h1;obtain rfl:=tM h2
  cases hx;cases hy
  exact pw (fun op=>by cases op<;>simp[eqGuard]) (fun d=>by simp[Op.equalIn,run_underlying hu]) rfl rfl
theorem Qo(hu:P.underlying t=some (.slice e))(hx:VR ρ x x')(hy:VR ρ y y')(hb:bN 2 x y=some b):bA P t X Y x' y' b w:=by
 rcases lM hb with⟨h1,h2,rfl⟩|⟨h1,h2,rfl⟩|⟨h1,h2,rfl⟩
 .obtain rfl:=tN h1;obtain rfl:=tN h2
  cases hx;cases hy
  exact pw (fun op=>by cases op<;>simp[eqGuard]) (fun d=>by simp[Op.equalIn,run_underlying hu]) rfl rfl
 .obtain rfl:=tN h1;obtain⟨_,_,_,_,_,_,rfl⟩:=Jo h2
  cases hx;cases hy
  exact pw (fun op=>by cases op<;>simp[eqGuard]) (fun d=>by simp[Op.equalIn,run_underlying hu]) rfl rfl
 .obtain⟨_,_,_,_,_,_,rfl⟩:=Jo h1;obtain rfl:=tN h2
  cases hx;cases hy
  exact pw (fun op=>by cases op<;>simp[eqGuard]) (fun d=>by simp[Op.equalIn,run_underlying hu]) rfl rfl
theorem Qp{e':TypeId}(hu:P.underlying t=some (.map e e'))(hx:VR ρ x x')(hy:VR ρ y y')(hb:bN 3 x y=some b):bA P t X Y x' y' b w:=by
 rcases lM hb with⟨h1,h2,rfl⟩|⟨h1,h2,rfl⟩|⟨h1,h2,rfl⟩
 .obtain rfl:=tL h1;obtain rfl:=tL h2
  cases hx;cases hy
  exact pw (fun op=>by cases op<;>simp[eqGuard]) (fun d=>by simp[Op.equalIn,run_underlying hu]) rfl rfl
 .obtain rfl:=tL h1;obtain⟨_,rfl⟩:=Jm h2
  cases hx;cases hy
  exact pw (fun op=>by cases op<;>simp[eqGuard]) (fun d=>by simp[Op.equalIn,run_underlying hu]) rfl rfl
 .obtain⟨_,rfl⟩:=Jm h1;obtain rfl:=tL h2
  cases hx;cases hy
  exact pw (fun op=>by cases op<;>simp[eqGuard]) (fun d=>by simp[Op.equalIn,run_underlying hu]) rfl rfl
theorem Qq{ps rs:Array TypeId}{vr:Bool}(hu:P.underlying t=some (.func ps rs vr))(hx:VR ρ x x')(hy:VR ρ y y')(hb:bN 4 x y=some b):bA P t X Y x' y' b w:=by
 rcases lM hb with⟨h1,h2,rfl⟩|⟨h1,h2,rfl⟩|⟨h1,h2,rfl⟩
 .obtain rfl:=tJ h1;obtain rfl:=tJ h2
  cases hx;cases hy
  exact pw (fun op=>by cases op<;>simp[eqGuard]) (fun d=>by simp[Op.equalIn,run_underlying hu]) rfl rfl
 .obtain rfl:=tJ h1;obtain⟨_,_,rfl⟩:=Jk h2
  cases hx;cases hy
  exact pw (fun op=>by cases op<;>simp[eqGuard]) (fun d=>by simp[Op.equalIn,run_underlying hu]) rfl rfl
 .obtain⟨_,_,rfl⟩:=Jk h1;obtain rfl:=tJ h2
  cases hx;cases hy
  exact pw (fun op=>by cases op<;>simp[eqGuard]) (fun d=>by simp[Op.equalIn,run_underlying hu]) rfl rfl
theorem Qr{ms:Array (String×TypeId)}(hu:P.underlying t=some (.interface ms))(hXY:(dq X||dq Y)=true)(hx:VR ρ x x')(hy:VR ρ y y')(hb:bN 5 x y=some b):bA P t X Y x' y' b w:=by
 rcases lM hb with⟨h1,h2,rfl⟩|⟨h1,h2,rfl⟩|⟨h1,h2,rfl⟩
 .obtain rfl:=tK h1;obtain rfl:=tK h2
  cases hx;cases hy
  refine pw (fun op=>?_) (fun d=>by simp[Op.equalIn,run_underlying hu]) rfl rfl
  cases X<;>cases Y<;>simp[dq]at hXY<;>cases op<;>simp[eqGuard]
 .obtain rfl:=tK h1;obtain⟨_,_,rfl⟩:=Jl h2
  cases hx;cases hy
  exact pw (fun op=>by cases op<;>simp[eqGuard]) (fun d=>by simp[Op.equalIn,run_underlying hu]) rfl rfl
 .obtain⟨_,_,rfl⟩:=Jl h1;obtain rfl:=tK h2
  cases hx;cases hy
  exact pw (fun op=>by cases op<;>simp[eqGuard]) (fun d=>by simp[Op.equalIn,run_underlying hu]) rfl rfl
theorem cg(hx:xN x=some n)(hr:VR ρ x x'):∃k,x=.int k (n:Nat)/\x'=.int k (n:Nat):=by
 cases x<;>simp[xN]at hx
 rename_i k i
 cases i<;>simp[Dl]at hx
 subst hx
 cases hr
 grind
theorem me(hx:xl x m=some l)(hr:VR ρ x x'):∃k,x'=.int k (l:Nat)/\l<=m:=by
 unfold xl at hx
 split at hx
 .rename_i n hn;obtain⟨h1,hx⟩:=ve hx
  cases hx
  obtain⟨k,_,rfl⟩:=cg hn hr
  simp_all
 grind
theorem ra{k:IntKind}{y:Nat}(hl:l<=y)(code:BoundsCode)(w:World):(Instr.sliceBound (.int k (l:Nat)) y code).run P w=.ok l w:=by
 simp[Instr.sliceBound,asIntOf,hl]
theorem W7{b g o q o' c:Nat}{loc:yE}(hρ:ρ b g=some loc)(hn:n<=q/2)(hq:q/2<=c)(hc:o+q/2*z<=loc.L)(ho:o'=o\/n=0/\c=0/\o≠0)(hs:q%2=0->o+c*z=loc.S)(hm:c<=maxLen){j q':Nat}(hlj:l<=j)(hjm:j<=m)(hmc:m<=c)(hq1:j-l<=q'/2)(hq2:q'/2<=m-l)(hq3:l+q'/2<=q/2)(hq4:q'%2=0->m=c/\q%2=0):
  VR ρ (.sl b g (o+l*z) (j-l) q' z) (.slice (if m=l then some ⟨loc.r,o',none⟩else some ((⟨loc.r,o',none⟩:Addr).add (l*z))) (j-l) (m-l)):=by
 have a:o+l*z+q'/2*z<=loc.L:=by
  have:(l+q'/2)*z<=q/2*z:=Ze z hq3
  grind
 by_cases e:m=l
 .rw[if_pos e];have d:j-l=0:=zo;have f:m-l=0:=zo;rw[d]at hq1⊢;rw[f]at hq2⊢;refine .sl hρ hq1 hq2 a ?_ (fun h0=>?_) (Yv _)
  all_goals grind
 .rw[if_neg e,pH];refine .sl hρ hq1 hq2 a ?_ (fun h0=>?_) zo
  .omega
  .obtain⟨h1,h2⟩:=hq4 h0;have:=hs h2;rw[<- this,h1,zAP9,<- Zp]
   grind
theorem CQ{α:Type}{x:Option α}{y:α}(h:(bif b then none else x)=some y):b=false/\x=some y:=by grind
theorem W9(hu:P.underlying t=some (.slice e))(x:Value)(lo hi mx:AJ)(w:World):(Instr.sliceAt t x lo hi mx).run P w=(Instr.slice t x lo hi mx).run P w:=by
 simp[Instr.sliceAt,run_underlying hu]
theorem VL.cons'(h:VL ρ vs (x'::cs)):∃y l,vs=y::l/\VR ρ y x'/\VL ρ l cs:=by
 cases vs with
 | nil=>have:=h.1;grind
 | cons y l=>obtain⟨_,_,e,h1,h2⟩:=h.oc;grind
theorem VL.nil'(h:VL ρ vs []):vs=[]:=Zc h.1
theorem U2(hu:P.underlying t=some (.slice e))(hz:wL P e=some z){mx:AJ}(hv:VL ρ vs (x'::(lo.toList++hi.toList++mx.toList)))(hp:dH z lo.isSome hi.isSome mx.isSome vs=some v)(w:World):
  ∃v',(Instr.sliceAt t x' lo hi mx).run P w=.ok v' w/\VR ρ v v':=by
 rw[W9 hu];obtain⟨x,O,rfl,A,a⟩:=hv.cons';simp only[dH,nj]at hp
 cases x<;>simp only at hp<;>first|(cases hp;done)|skip
 case nilsl =>
  cases A
  unfold DC at hp;obtain⟨h0,hp⟩:=CQ hp
  cases mx<;>first|(simp at h0;done)|skip
  cases lo<;>cases hi<;>simp only[Option.toList,YC,Y8,Yy]at a
  .obtain rfl:=a.nil';simp at hp;subst hp;exact⟨_,by simp[Instr.slice,run_underlying hu,Instr.sliceBounds,yM hz],.nilsl⟩
  iterate 2
   obtain⟨y,_,rfl,p,a⟩:=a.cons';obtain rfl:=a.nil';simp only at hp
   split at hp
   .rename_i l f;obtain⟨k,rfl,d⟩:=me f p;simp at hp;subst hp;obtain rfl:l=0:=zo;exact⟨_,by simp[Instr.slice,run_underlying hu,Instr.sliceBounds,yM hz,Instr.sliceBound,asIntOf],.nilsl⟩
   .cases hp
  grind
 case sl b g o n q z' =>
  obtain⟨B,hp⟩:=ve hp;obtain rfl:=Yo B
  cases A with
  | sl D G I J K L M =>
   rename_i Q c loc;unfold cr at hp;have fin:=fun l j m q'=>W7 D G I J K L M (l:=l) (j:=j) (m:=m) (q':=q');have i:∀{k:IntKind} {l y:Nat} (r:BoundsCode),l<=y->(Instr.sliceBound (.int k (l:Nat)) y r).run P w=.ok l w:=fun r f=>ra f r w
   cases mx<;>cases lo<;>cases hi<;>simp only[Option.toList,YC,Y8,Yy]at a
   all_goals
    (try obtain⟨y,_,rfl,p,a⟩:=a.cons');(try obtain⟨R,_,rfl,u,a⟩:=a.cons');(try obtain⟨S,_,rfl,C,a⟩:=a.cons');obtain rfl:=a.nil';simp[A8,A7,A9,al]at hp
    try(repeat' split at hp)
    all_goals first|(cases hp;done)|skip
    all_goals ((try injection hp with hp);subst hp)
   .have:=fin 0 n c q (Yv _) zo (Ym _) zo zo zo (fun h=>⟨rfl,h⟩);simp only[zBT9,ZP,Nat.sub_zero]at this;exact⟨_,by simp[Instr.slice,run_underlying hu,Instr.sliceBounds,yM hz],this⟩
   .rename_i j hj;obtain⟨k,rfl,s⟩:=me hj p;have:=fin 0 j c q (Yv _) zo (Ym _) zo zo zo (fun h=>⟨rfl,h⟩);simp only[zBT9,ZP,Nat.sub_zero]at this;exact⟨_,by simp[Instr.slice,run_underlying hu,Instr.sliceBounds,yM hz,i _ (show j<=c by omega)],this⟩
   .rename_i l f;obtain⟨k,rfl,d⟩:=me f p;exact⟨_,by simp[Instr.slice,run_underlying hu,Instr.sliceBounds,yM hz,i _ d],fin l n c (q-2*l) d zo (Ym _) zo zo zo (fun h=>⟨rfl,by omega⟩)⟩
   .rename_i j hj _ l f;obtain⟨k,rfl,d⟩:=me f p;obtain⟨N,rfl,s⟩:=me hj u;exact⟨_,by simp[Instr.slice,run_underlying hu,Instr.sliceBounds,yM hz,i _ (show j<=c by omega),i _ d],fin l j c (q-2*l) d zo (Ym _) zo zo zo (fun h=>⟨rfl,by omega⟩)⟩
   .rename_i m hm' _ j hj _ l f;obtain⟨k,rfl,d⟩:=me f p;obtain⟨N,rfl,s⟩:=me hj u;obtain⟨T,rfl,xc⟩:=me hm' C;exact⟨_,by simp[Instr.slice,run_underlying hu,Instr.sliceBounds,yM hz,i _ (show m<=c by omega),i _ s,i _ d],fin l j m (2*m+1-2*l) d zo zo zo zo zo (fun h=>by omega)⟩
theorem bg{f:TV->LD}(hv:um vs f=some v):∃x,vs=[x]/\f x=some v:=by
 unfold um at hv
 grind
theorem Bj{f:TV->TV->LD}(hv:ux vs f=some v):∃x y,vs=[x,y]/\f x y=some v:=by
 unfold ux at hv
 grind
theorem dD:∀(l:LK) (n:Nat),aV l n=l[n]?
 | [],_=>by simp[aV]
 | _::_,0=>rfl
 | _::l,n+1=>by simp only[aV,Y2];exact dD l n
theorem oN:∀(l:LN) (n:Nat),aW l n=l[n]?
 | [],_=>by simp[aW]
 | _::_,0=>rfl
 | _::l,n+1=>by simp only[aW,Y2];exact oN l n
theorem JR{off:Nat}(hg:yg P t=some g)(hn:wL P t=some n){l:LK}(hl:VL ρ l cs)(h1:∀x∈l,x.one=true)(hv:iM g off n l=some v)(w:World):
  ∃v',(part t cs.toArray off).run P w=.ok v' w/\VR ρ v v':=by
 unfold iM at hv
 cases g
 .simp only[cond_false,dD]at hv;obtain⟨y,a,b⟩:=hl.at hv;refine⟨y,?_,b⟩;simp[part,rY hg,a]
 .simp only[cond_true]at hv;obtain⟨h0,hv⟩:=ve hv;injection hv with hv;subst hv;have d:=YB h0;refine⟨.agg ((cs.drop off).take n).toArray,?_,VR.aggL ((hl.drop off).take n) fun x c=>h1 x (Y5 (YW c))⟩;simp[part,rY hg,yM hn]
theorem GU{off:Nat}(hf:fg P t i=some (off,g,n)):∃fs f,P.underlying t=some (.struct fs)/\fs[i]?=some f/\f.offset=off/\yg P f.type=some g/\wL P f.type=some n:=by
 unfold fg at hf
 grind
theorem UT{off:Nat}(hf:fg P t i=some (off,g,n))(hx:VR ρ x x')(hv:iH off n x=some v)(w:World):∃v',(Instr.fieldAt t x' i).run P w=.ok v' w/\VR ρ v v':=by
 obtain⟨h,f,c,b,rfl,_,a⟩:=GU hf;unfold iH at hv
 split at hv
 .obtain⟨h0,hv⟩:=ve hv;injection hv with hv;subst hv;have e:=YB h0
  cases hx with
  | ptr d j =>
   have:=(mD a).1;exact⟨_,by simp[Instr.fieldAt,run_underlying c,b,Instr.sureAddr,fieldPlace,yM a,this,pH],.ptr d zo⟩
 .cases hv
theorem UU{off:Nat}(hf:fg P t i=some (off,g,n))(hx:VR ρ x x')(hv:Dw g off n x=some v)(w:World):∃v',(Instr.field t x' i).run P w=.ok v' w/\VR ρ v v':=by
 obtain⟨j,f,b,a,rfl,c,d⟩:=GU hf;unfold Dw at hv
 split at hv
 .cases hx with
  | agg e h1 h =>
   obtain⟨v',h2,h3⟩:=JR c d ⟨e,h⟩ h1 hv w;exact⟨v',by simp[Instr.field,run_underlying b,a,asAgg,h2],h3⟩
 .cases hv
theorem UW(hu:P.underlying t=some (.slice e))(hz:wL P e=some z)(hx:VR ρ x x')(hy:VR ρ y y')(hv:iI z x y=some v)(w:World):∃v',(Instr.indexAt t x' y').run P w=.ok v' w/\VR ρ v v':=by
 unfold iI at hv
 split at hv
 .rename_i b g o n q zz;obtain⟨d,hv⟩:=ve hv;obtain rfl:=Yo d
  split at hv
  .rename_i i hi;obtain⟨h0,hv⟩:=ve hv;injection hv with hv;subst hv;have f:=ZN.mp h0;obtain⟨k,_,rfl⟩:=cg hi hy
   cases hx with
   | sl l p s u m A B =>
    rename_i a c loc;have j:a=o:=by rcases m with h|⟨h,_⟩;exact h;omega
    subst j;refine⟨.pointer (some ⟨loc.r,a+i*z,none⟩),?_,.ptr l ?_⟩
    .simp[Instr.indexAt,asIntOf,run_underlying hu,yM hz,f,pH]
    .have:(i+1)*z<=q/2*z:=Ze z zo;rw[Zp]at this;omega
  .cases hv
 .cases hv
theorem UV{len:Nat}(hu:P.underlying t=some (.array len e))(hz:wL P e=some z)(hx:VR ρ x x')(hy:VR ρ y y')(hv:iJ len z x y=some v)(w:World):∃v',(Instr.indexAt t x' y').run P w=.ok v' w/\VR ρ v v':=by
 unfold iJ at hv
 split at hv
 .rename_i b g o e
  split at hv
  .rename_i i hi;obtain⟨h0,hv⟩:=ve hv;obtain⟨h1,hv⟩:=ve hv;injection hv with hv;subst hv;have a:=ZN.mp h0;have d:=YB h1;obtain⟨k,_,rfl⟩:=cg hi hy
   cases hx with
   | ptr c f =>
    rename_i loc;refine⟨.pointer (some ⟨loc.r,o+i*z,none⟩),?_,.ptr c ?_⟩
    .simp[Instr.indexAt,asIntOf,run_underlying hu,yM hz,a,pH,Instr.sureAddr]
    .have:(i+1)*z<=len*z:=Ze z zo;rw[Zp]at this;omega
  .cases hv
 .cases hv
theorem UX{len:Nat}(hu:P.underlying t=some (.array len e))(hg:yg P e=some g)(hz:wL P e=some z)(hx:VR ρ x x')(hy:VR ρ y y')(hv:Dx len g z x y=some v)(w:World):
  ∃v',(Instr.index t x' y').run P w=.ok v' w/\VR ρ v v':=by
 unfold Dx at hv
 split at hv
 .split at hv
  .rename_i i hi;obtain⟨h0,hv⟩:=ve hv;have a:=ZN.mp h0;obtain⟨k,_,rfl⟩:=cg hi hy
   cases hx with
   | agg b h1 c =>
    obtain⟨v',h2,h3⟩:=JR hg hz ⟨b,c⟩ h1 hv w;exact⟨v',by simp[Instr.index,asIntOf,run_underlying hu,yM hz,a,h2],h3⟩
  .cases hv
 .cases hv
theorem UY(hu:P.underlying t=some .string)(hx:VR ρ x x')(hy:VR ρ y y')(hv:oS x y=some v)(w:World):∃v',(Instr.index t x' y').run P w=.ok v' w/\VR ρ v v':=by
 unfold oS at hv
 split at hv
 .split at hv
  .rename_i i hi
   split at hv
   .rename_i c hc;injection hv with hv;subst hv;obtain⟨k,_,rfl⟩:=cg hi hy
    cases hx with
    | str s =>
     rw[oN]at hc;simp at hc;obtain⟨u,a,rfl⟩:=hc;have:s[i]?=some u:=by
      have b:=(Zd.1 a).1;have h2:=(Zd.1 a).2;have d:i<s.size:=b;rw[getElem?_pos s i d];exact congrArg some h2
     exact⟨.int .u8 ((u.toNat:Nat):Int),by simp[Instr.index,asIntOf,run_underlying hu,this],.int _ _⟩
   .cases hv
  .cases hv
 .cases hv
theorem U4(hu:P.underlying t=some .string)(hv:VL ρ vs (x'::(lo.toList++hi.toList)))(hp:oT lo.isSome hi.isSome vs=some v)(w:World):
  ∃v',(Instr.sliceAt t x' lo hi none).run P w=.ok v' w/\VR ρ v v':=by
 have h:(Instr.sliceAt t x' lo hi none).run P w=(Instr.slice t x' lo hi none).run P w:=by simp[Instr.sliceAt,run_underlying hu]
 rw[h];obtain⟨x,m,rfl,n,b⟩:=hv.cons';unfold oT at hp
 split at hp
 .rename_i s m e
  cases e
  cases n with
  | str s =>
   have c:(s.data.toList.map (·.toNat)).length=s.size:=by simp
   unfold JQ at hp;have d:∀l j,l<=j->j<=s.size->VR ρ (.str (((s.data.toList.map (·.toNat)).take j).drop l)) (.string (s.extract l j)):=fun l j h1 h2=>by
    have:((s.data.toList.map (·.toNat)).take j).drop l=(s.extract l j).data.toList.map (·.toNat):=by
     simp[ByteArray.data_extract,Array.toList_extract,List.extract_eq_take_drop,ZY,Zv,ZZ]
    rw[this];exact .str _
   cases lo<;>cases hi<;>simp only[Option.toList,YC,Y8,Yy]at b
   all_goals
    (try obtain⟨y,_,rfl,f,b⟩:=b.cons');(try obtain⟨o,_,rfl,i,b⟩:=b.cons');obtain rfl:=b.nil';simp at hp
    try(repeat' split at hp)
    all_goals first|(cases hp;done)|skip
    all_goals ((try injection hp with hp);subst hp)
   .have:=d 0 s.size (Yv _) (Ym _);rw[<- c,YR,zAJ9,c]at this;exact⟨.string s,by simp[Instr.slice,run_underlying hu,Instr.sliceBounds],by simpa using this⟩
   .rename_i j hj;obtain⟨k,rfl,a⟩:=me hj f;have:=d 0 j (Yv _) a;rw[zAJ9]at this;exact⟨_,by simp[Instr.slice,run_underlying hu,Instr.sliceBounds,ra a];rfl,by simpa using this⟩
   .rename_i j hj;obtain⟨k,rfl,a⟩:=me hj f;have:=d j s.size a (Ym _);rw[<- c,YR,c]at this;exact⟨_,by simp[Instr.slice,run_underlying hu,Instr.sliceBounds,ra a];rfl,by simpa using this⟩
   .rename_i j hj _ l hl;obtain⟨k,rfl,a⟩:=me hj i;obtain⟨p,rfl,g⟩:=me hl f;have:=d l j g a;exact⟨_,by simp[Instr.slice,run_underlying hu,Instr.sliceBounds,ra a,ra g];rfl,by simpa using this⟩
 .cases hp
theorem U1{len:Nat}(hu:P.underlying t=some (.array len e))(hz:wL P e=some z)(hlen:len<=1000000)(hv:VL ρ vs (x'::(lo.toList++hi.toList)))(hp:Aa len z lo.isSome hi.isSome vs=some v)(w:World):
  ∃v',(Instr.sliceAt t x' lo hi none).run P w=.ok v' w/\VR ρ v v':=by
 unfold Aa at hp
 split at hp
 .obtain⟨h0,hp⟩:=CQ hp;obtain⟨h1,hp⟩:=CQ hp;obtain⟨h2,hp⟩:=ve hp;injection hp with hp;subst hp;have g:=YB h2
  cases lo with
  | some _=>simp at h0
  | none=>cases hi with
   | some _=>simp at h1
   | none =>
    obtain⟨_,i,e,a,j⟩:=hv.oc;injection e with b d;subst b;subst d
    cases a with
    | ptr f k =>
     refine⟨_,?_,.sl f (c:=len) zo zo ?_ (.inl rfl) (fun h=>by omega) (by simp only[maxLen];omega)⟩
     .simp[Instr.sliceAt,run_underlying hu,Instr.sliceBounds,Instr.sureAddr,yM hz,pH]
     .have:(2*len+1)/2=len:=zo;rw[this];omega
 .cases hp
def sY(P:Program)(t:TypeId):Prop:=(∃k,P.underlying t=some (.int k))\/P.underlying t=some .string
variable {key:TypeId}
theorem B1(hk:sY P key)(b:Bool)(n:Nat)(v:Value)(w:World):(Instr.checkKey b (n+1) key v).run P w=.ok () w:=by
 rcases hk with⟨k,a⟩|a<;>simp[Instr.checkKey,run_underlying a]
theorem xE.oc{e:ud}{es:List ud}{es':List MapEntry}(h:xE ρ (e::es) es'):∃e' r,es'=e'::r/\VR ρ e.k e'.key/\VR ρ e.v e'.val/\e'.born=e.n/\xE ρ es r:=by
 cases es' with
 | nil=>have:=h.1;simp at this
 | cons e' r =>
  obtain⟨a,b,c⟩:=h.2 0 e e' rfl rfl;exact⟨e',r,rfl,a,b,c,by have:=h.1;simpa using this,fun i x y d f=>h.2 (i+1) x y (by simpa using d) (by simpa using f)⟩
theorem KV{d:TypeDesc}(hu:P.underlying key=some d)(hk:sY P key){x y:TV}{x' y':Value}(hx:VR ρ x x')(hy:VR ρ y y'){b:Bool}(he:nQ x y=some b)(hx1:(∃k,d=.int k)->∃j n,x=.int j n)(hx2:d=.string->∃s,x=.str s):Instr.sameNow d x' y'=some b:=by
 unfold nQ at he
 split at he
 .split at he
  .rename_i k a _ k' b';obtain⟨g,e⟩:=ve he;obtain rfl:=fq g;injection e with e;subst e
   cases hx;cases hy
   have:∃k,d=.int k:=by
    rcases hk with⟨j,f⟩|f
    all_goals grind
   obtain⟨j,rfl⟩:=this;simp[Instr.sameNow,x9]
  .cases he
 .split at he
  .injection he with he;subst he
   cases hx with
   | str a=>cases hy with
    | str c =>
     have:d=.string:=by
      rcases hk with⟨j,f⟩|f
      all_goals grind
     subst this;have h1:xO (ur a) (ur c)=(a==c):=by rw[iz,BU,beq_toListBytes]
     simp only[Instr.sameNow];exact congrArg some h1.symm
  .cases he
 .cases he
def Ia(d:TypeDesc)(x:TV):Prop:=((∃k,d=.int k)->∃j n,x=.int j n)/\(d=.string->∃s,x=.str s)
theorem de{key:TypeId}{d:TypeDesc}(hu:P.underlying key=some d)(hk:sY P key){x:TV}{x':Value}(hx:VR ρ x x')(hkv:Ia d x):∀{es:List ud} {es':List MapEntry} {i:Nat} {r:Option (Nat×ud)},xE ρ es es'->pL x es i=some r ->
  ∃r',Instr.findNow d x' es' i=some r'/\((r=none/\r'=none)\/∃j e e',r=some (i+j,e)/\r'=some (i+j,e'.val)/\es[j]?=some e/\es'[j]?=some e'/\nQ x e.k=some true)
 | [],es',i,r,f,c=>by
  have:es'=[]:=by have:=f.1;cases es' with|nil=>rfl|cons _ _=>simp at this
  subst this;simp[pL]at c;subst c;exact⟨none,rfl,.inl ⟨rfl,rfl⟩⟩
 | e::es,es',i,r,f,c=>by
  obtain⟨e',q,rfl,h1,h2,h3,h4⟩:=f.oc;unfold pL at c
  split at c
  .cases c
  .rename_i hq;injection c with c;subst c;have:=KV hu hk hx h1 hq hkv.1 hkv.2;refine⟨some (i,e'.val),by simp[Instr.findNow,this],.inr ⟨0,e,e',rfl,rfl,rfl,rfl,hq⟩⟩
  .rename_i hq;have:=KV hu hk hx h1 hq hkv.1 hkv.2;obtain⟨r',h,g⟩:=de hu hk hx hkv h4 c;refine⟨r',by simp[Instr.findNow,this,h],?_⟩;rcases g with g|⟨j,a,b,l,m,n,o,p⟩
   .grind
   .exact .inr ⟨j+1,a,b,by rw[l];congr 2;omega,by rw[m];congr 2;omega,by simpa using n,by simpa using o,p⟩
def oh(kf:Nat)(d:TypeDesc):Prop:=(kf=1/\∃k,d=.int k)\/(kf=2/\d=.string)
variable {ck:Nat}{d:TypeDesc}{kf:Nat}{z:TV}
theorem CN(hk:oh kf d)(h:gJ kf x=true):Ia d x:=by
 rcases hk with⟨rfl,k,rfl⟩|⟨rfl,rfl⟩
 .cases x<;>simp[gJ,od]at h
  exact⟨fun _=>⟨_,_,rfl⟩,fun h=>by cases h⟩
 .cases x<;>simp[gJ,oe]at h
  exact⟨fun h=>(by obtain⟨_,h⟩:=h;cases h),fun _=>⟨_,rfl⟩⟩
theorem CU(hu:P.underlying key=some d)(hk:oh kf d):sY P key:=by
 rcases hk with⟨_,k,rfl⟩|⟨_,rfl⟩
 .exact .inl ⟨k,hu⟩
 .exact .inr hu
theorem oA(k:WR P Z ρ h w){b:Nat}{loc:yE}(hρ:ρ b 0=some loc){es:List ud}(hb:h.get b=some (.map es ck)):∃es',w.heap[loc.r]?=some (.map es' ck)/\xE ρ es es'.toList:=by
 obtain⟨o,a,c⟩:=k.obj b 0 loc hρ;rw[hb]at a;injection a with a;subst a;obtain⟨d,es',h1,h2,h3⟩:=c
 grind
theorem cC{r:Nat}{es:Array MapEntry}(hh:w.heap[r]?=some (.map es ck)):(getObj r).run P w=.ok (.map es ck) w:=by
 simp[getObj,Sem.run,hh]
theorem tW{ok:Bool}{v':Value}(h:VR ρ v v')(b:Bool):VR ρ (nh ok v b) (if ok=true then .tuple #[v',.bool b]else v'):=by
 cases ok
 .exact h
 .exact VR.tL (.cons h (VL.one (.bool b)))
theorem JO(k:WR P Z ρ h w){e:TypeId}(hu:P.underlying t=some (.map key e))(hd:P.underlying key=some d)(hkf:oh kf d)(hz:xA P e=some z){ok:Bool}(hx:VR ρ x x')(hy:VR ρ y y')(hv:aY kf z ok h x y=some v):
  ∃v',(Instr.lookup t x' y' ok).run P w=.ok v' w/\VR ρ v v':=by
 have g:=CU hd hkf;obtain⟨zv,n,p⟩:=lp (ρ:=ρ) hz w;unfold aY at hv;obtain⟨h0,hv⟩:=ve hv;have q:=CN hkf h0;have i:∀b,(Instr.checkKey b 10000 key y').run P w=.ok () w:=fun b=>B1 g b 9999 y' w
 split at hv
 .injection hv with hv;subst hv
  cases hx
  refine⟨_,?_,tW p false⟩;simp[Instr.lookup,run_underlying hu,i,Instr.findKey,run_underlying hd,Instr.findNow,n]
 .split at hv
  .rename_i o ho;unfold pT at hv
   split at hv
   .rename_i es ck
    cases hx with
    | map A =>
     obtain⟨es',r,l⟩:=oA k A ho
     split at hv
     .rename_i j e hf;injection hv with hv;subst hv;obtain⟨B,m,f⟩:=de hd g hy q l hf;rcases f with⟨f,_⟩|⟨s,a,b,c,C,D,G,I⟩
      .cases f
      .injection c with c;injection c with _ c;subst c;subst C;obtain⟨_,u,_⟩:=l.2 s e b D G;refine⟨_,?_,tW u true⟩;simp[Instr.lookup,run_underlying hu,cC r,i,Instr.findKey,run_underlying hd,m]
     .rename_i hf;injection hv with hv;subst hv;obtain⟨B,m,f⟩:=de hd g hy q l hf;rcases f with⟨_,rfl⟩|⟨s,a,b,c,_⟩
      .refine⟨_,?_,tW p false⟩;simp[Instr.lookup,run_underlying hu,cC r,i,Instr.findKey,run_underlying hd,m,n]
      .cases c
     .cases hv
   .cases hv
  .cases hv
 .cases hv
theorem U5{X:TypeId}(hu:P.underlying t=some d)(hd:∀ms,d ≠ .interface ms)(hz:xA P t=some z){ok:Bool}(hx:VR ρ x x')(hv:Ac t z ok x=some v)(w:World):
  ∃v',(Instr.typeAssert x' X t ok).run P w=.ok v' w/\VR ρ v v':=by
 obtain⟨zv,b,c⟩:=lp (ρ:=ρ) hz w;unfold Ac at hv
 split at hv
 .cases hx with
  | iface h =>
   rename_i f u i
   cases a:Nat.beq t f<;>rw[a]at hv
   .have g:f≠t:=fun e=>by subst e;simp at a
    simp only[cond_false]at hv;obtain⟨rfl,hv⟩:=ve hv;injection hv with hv;subst hv;refine⟨_,?_,VR.tL (.cons c (VL.one (.bool false)))⟩
    cases d<;>first|(exact absurd rfl (hd _))|simp[Instr.typeAssert,run_underlying hu,g,b]
   .obtain rfl:=Yo a;simp only[cond_true]at hv;injection hv with hv;subst hv;refine⟨_,?_,tW h true⟩
    cases d<;>first|(exact absurd rfl (hd _))|simp[Instr.typeAssert,run_underlying hu]
 .obtain⟨rfl,hv⟩:=ve hv;injection hv with hv;subst hv
  cases hx
  refine⟨_,?_,VR.tL (.cons c (VL.one (.bool false)))⟩
  cases d<;>first|(exact absurd rfl (hd _))|simp[Instr.typeAssert,run_underlying hu,b]
 .cases hv
theorem Hl(off:Nat):∀(cs:LG) (k:Nat) (cells:LO),off+k+cs.length<=cells.size ->
  ((cs.zipIdx k).foldl (fun a (x:Value×Nat)=>a.setIfInBounds (off+x.2) x.1) cells).toList=cells.toList.take (off+k)++cs++cells.toList.drop (off+k+cs.length)
 | [],k,cells,_=>by simp
 | c::cs,k,cells,h=>by
  simp only[Yq]at h;have b:off+k<cells.toList.length:=by simp;omega
  rw[List.zipIdx_cons,Z5,Hl off cs (k+1) _ (by grind)];have h1:(cells.setIfInBounds (off+k) c).toList.take (off+(k+1))=cells.toList.take (off+k)++[c]:=by
   rw[zAW9,show off+(k+1)=(off+k)+1 by omega,YO];rw[List.take_set_of_le (Ym _)]
   grind
  have h2:(cells.setIfInBounds (off+k) c).toList.drop (off+(k+1)+cs.length)=cells.toList.drop (off+k+(cs.length+1)):=by
   rw[zAW9,List.drop_set_of_lt zo]
   grind
  simp_all
theorem QH(cells v:LO)(off:Nat)(h:off+v.size<=cells.size) :
  v.zipIdx.foldl (fun cs (x:Value×Nat)=>cs.setIfInBounds (off+x.2) x.1) cells=(cells.toList.take off++v.toList++cells.toList.drop (off+v.size)).toArray:=by
 apply Array.ext'
 have:=Hl off v.toList 0 cells (by omega);simp only[ZP,zAD9]at this;rw[<- this,<- Array.foldl_toList];simp
theorem sC{place:Nat->Option (Nat×Nat)}:∀{parts:List (Nat×Value)} {places:List (Nat×Nat)} {vs:LK} {cells:LK} {cs:LO} {l:LK},
  places.length=parts.length->(∀(i:Nat) p q,parts[i]?=some p->places[i]?=some q->place p.1=some q)->VL ρ vs (parts.map (·.2))->VL ρ cells cs.toList->(∀x∈cells,x.one=true)->(∀q∈places,q.2≠0)->bQ cells places vs=some l ->
  ∃ds,Instr.fill place cs parts=some ds/\VL ρ l ds.toList/\(∀x∈l,x.one=true)/\l.length=cells.length
 | [],places,vs,cells,cs,l,f,_,c,b,h1,_,a=>by
  have:places=[]:=by cases places;rfl;simp at f
  subst this;have:vs=[]:=by have:=c.1;cases vs;rfl;simp at this
  subst this;simp[bQ]at a;subst a;exact⟨cs,rfl,b,h1,rfl⟩
 | (i,v)::parts,places,vs,cells,cs,l,f,g,c,b,h1,h,a=>by
  cases places with
  | nil=>grind
  | cons q places =>
   cases vs with
   | nil=>have:=c.1;grind
   | cons u vs =>
    obtain⟨_,_,e,w,n⟩:=c.oc;simp at e;obtain⟨rfl,rfl⟩:=e;obtain⟨off,size⟩:=q;simp only[bQ]at a;obtain⟨y,a⟩:=ve a;obtain⟨z,a⟩:=ve a;have o:=Yo y;have C:=YB z;have D:size≠0:=h (off,size) (by simp);obtain⟨d,G⟩:=w.cells (.inl (by grind));have m:v.cells.size=size:=by have:=d.1;rw[o]at this;simpa using this.symm
    have B:cs.size=cells.length:=by have:=b.1;simpa using this.symm
    have r:=g 0 (i,v) (off,size) rfl rfl;dsimp only at r;have A:=QH cs v.cells off zo;obtain⟨ds,hd,s,t,I⟩:=sC (place:=place) (parts:=parts) (places:=places) (vs:=vs) (cs:=(cs.toList.take off++v.cells.toList++cs.toList.drop (off+v.cells.size)).toArray) (by grind) (fun j p q J k=>g (j+1) p q (by grind) (by grind)) n
     (by rw[m];exact((b.take off).app d).app (b.drop (off+size))) (fun x K=>by
      grind) (fun q k=>h q (Ys _ k)) a
    refine⟨ds,?_,s,t,by grind⟩;unfold Instr.fill
    grind
theorem UQ{z:LK}(hz:xA P t=some (.agg z)){ops:Array (Nat×Operand)}{ps:List (Nat×Nat)}(hps:DG P t ops.toList=some ps){a:Act}{vs:LK}(hv:VL ρ vs ((ops.toList.map (·.2)).map a.eval))(hp:tY z ps vs=some v)(w:World):
  ∃v',(Instr.build t (ops.map fun(i,x)=>(i,a.eval x))).run P w=.ok v' w/\VR ρ v v':=by
 obtain⟨i,zv,hi,m,d⟩:=Bm hz;have d:=d ρ;unfold tY at hp
 split at hp
 .rename_i l hl
  cases hp
  unfold DG at hps
  split at hps
  .rename_i fs hu
   split at hps
   .rename_i pl hpl;obtain⟨r,s⟩:=oz hps
    cases d with
    | agg y h1 h =>
     rename_i cs;obtain⟨k,hd,f,g,_⟩:=sC (place:=fun i=>pl[i]?) (parts:=(ops.map fun(i,x)=>(i,a.eval x)).toList) (places:=ps) (vs:=vs) (cells:=z) (cs:=cs.toArray) (by simp[r]) (fun j p q b c=>by
       simp only[zAM9,YH]at b
       cases u:ops.toList[j]? with
       | none=>grind
       | some o =>
        rw[u]at b;simp at b;have:=s j o q u c;unfold DE at this
        grind) (by simpa[Function.comp_def]using hv) ⟨by omega,by simpa using h⟩ h1 (fun q c=>by
       obtain⟨j,b,rfl⟩:=YU.1 c;have A:j<ops.toList.length:=by rw[<- r];exact b
       have:=s j ops.toList[j] ps[j] (Yk A) (Yk b);unfold DE at this
       grind) hl
     refine⟨.agg k,?_,by have:=VR.aggL f g;simpa using this⟩;simp only[zAM9]at hd;simp[Instr.build,run_underlying hu,typeInfo,zeroValue,hi,m,Array.mapM_eq_mapM_toList,run_places w _ _ hpl,Value.cells,hd]
   grind
  .rename_i len e hu
   split at hps
   .rename_i n hn
    cases hps
    cases d with
    | agg y h1 h =>
     rename_i cs;obtain⟨k,hd,f,g,_⟩:=sC (place:=fun i=>some (i*n,n)) (parts:=(ops.map fun(i,x)=>(i,a.eval x)).toList) (places:=ops.toList.map fun p=>(p.1*n,n)) (vs:=vs) (cells:=z) (cs:=cs.toArray) (by simp) (fun j p q b c=>by
       grind) (by simpa[Function.comp_def]using hv) ⟨by omega,by simpa using h⟩ h1 (fun q c=>by obtain⟨p,_,rfl⟩:=Yx.1 c;exact(mD hn).1) hl
     refine⟨.agg k,?_,by have:=VR.aggL f g;simpa using this⟩;simp only[zAM9]at hd;simp[Instr.build,run_underlying hu,typeInfo,zeroValue,hi,m,yM hn,Value.cells,hd]
   grind
  grind
 grind
theorem KW{k:Nat}(hk:(k=1/\∃j,P.underlying t=some (.int j))\/(k=2/\P.underlying t=some .bool)\/(k=3/\P.underlying t=some .string))(hx:VR ρ x x')(hy:VR ρ y y'){b:Bool}(he:dR k x y=some b)(d:Nat)(w:World):
  (Op.equalIn (d+1) t x' y').run P w=.ok b w/\(isAgg t).run P w=.ok false w:=by
 unfold dR at he
 split at he
 .obtain⟨hk1,he1⟩:=ve he;have f:=Yo hk1;clear he hk1;subst f;have he:=he1;clear he1;rcases hk with⟨_,j,e⟩|⟨h,_⟩|⟨h,_⟩<;>first|omega|skip
  split at he
  .obtain⟨hkk,he2⟩:=ve he;obtain rfl:=fq hkk
   cases he2
   cases hx;cases hy
   exact⟨by rw[run_equalIn_int w d t _ j _ _ e,x9],by simp[isAgg,run_underlying e]⟩
  grind
 .obtain⟨hk1,he1⟩:=ve he;have f:=Yo hk1;clear he hk1;subst f;have he:=he1;clear he1;rcases hk with⟨h,_⟩|⟨_,e⟩|⟨h,_⟩<;>first|omega|skip
  split at he
  .cases he
   cases hx;cases hy
   have g:∀a c:Bool,(a==c)=(bif a then c else not c):=by decide
   exact⟨by rw[run_equalIn_bool' w d t _ _ e,g],by simp[isAgg,run_underlying e]⟩
  grind
 .obtain⟨hk1,he1⟩:=ve he;have f:=Yo hk1;clear he hk1;subst f;have he:=he1;clear he1;rcases hk with⟨h,_⟩|⟨h,_⟩|⟨_,e⟩<;>first|omega|skip
  split at he
  .cases he
   cases hx with
   | str a=>cases hy with
    | str c =>
     refine⟨?_,by simp[isAgg,run_underlying e]⟩;rw[run_equalIn_string w d t _ _ e];have:xO (ur a) (ur c)=(a.toList==c.toList):=by rw[iz,BU]
     exact congrArg (fun b=>Result.ok b w) this.symm
  grind
 grind
theorem Cg:∀{ks ms:LN} {l m:LK} {b:Bool},yG (ks++ms) l m=some b->∃b1,yG ks (l.take ks.length) (m.take ks.length)=some b1/\(b1=true->yG ms (l.drop ks.length) (m.drop ks.length)=some b)/\(b1=false->b=false)
 | [],ms,l,m,b,h=>⟨true,by simp[yG],fun _=>by grind,fun h=>by cases h⟩
 | k::ks,ms,l,m,b,h=>by
  rw[Yy]at h;unfold yG at h
  split at h
  .grind
  .rename_i k0 ks0 x l0 y m0 hkk
   cases hkk
   split at h
   .rename_i hsc;obtain⟨b1,h1,h2,h3⟩:=Cg h;exact⟨b1,by simp[yG,hsc,h1],by simpa using h2,h3⟩
   .rename_i r hsc;have a:b=false:=by grind
    subst a;exact⟨false,by simp[yG,h],fun h=>(by cases h),fun _=>rfl⟩
  grind
def nE(P:Program)(t:TypeId)(cs:LG):Value:=if yg P t=some true then .agg cs.toArray else cs.headD default
theorem NX{g:Bool}(h:yg P t=some g)(w:World):(isAgg t).run P w=.ok g w:=by
 unfold yg at h
 split at h
 .rename_i hu;cases h;simp[isAgg,run_underlying hu]
 .rename_i hu;cases h;simp[isAgg,run_underlying hu]
 .rename_i u hn1 hn2 hu
  cases h
  cases u<;>first|exact absurd rfl (hn1 _)|exact absurd rfl (hn2 _ _)|exact absurd hu (hn1 _)|exact absurd hu (hn2 _ _)|simp[isAgg,run_underlying hu]
 grind
def Bo(P:Program)(ρ:zg)(D:Nat)(t:TypeId)(ks:LN):Prop:=∀{l m:LK} {cs ds:LG},VL ρ l cs->VL ρ m ds->cs.length=ks.length->ds.length=ks.length->∀{b:Bool},yG ks l m=some b->∀w,(Op.equalIn D t (nE P t cs) (nE P t ds)).run P w=.ok b w
variable {D:Nat}{a:Value}{args:List vy}{b d:Nat}{dst:TypeId}{kd:zh}{ks:LN}{l:LK}{neg:Bool}{s:Sem Value}{src:TypeId}
theorem Ap{z:Nat}(hg:yg P t=some g)(hz:wL P t=some z)(h1:g=false->z=1){cs:LG}{o:Nat}(h:o+z<=cs.length)(w:World):(part t cs.toArray o).run P w=.ok (nE P t ((cs.drop o).take z)) w:=by
 unfold part;simp only[Sem.run_bind,NX hg w,Result.andThen_ok]
 cases g
 .have b:=h1 rfl;subst b;have a:o<cs.length:=zo;simp only[Zi,if_false,nE,hg,Option.some.injEq];have e:cs.toArray[o]?=some cs[o]:=by simp[a]
  rw[e];have c:(cs.drop o).take 1=[cs[o]]:=by rw[YE a];rfl
  simp_all
 .simp only[if_true,Sem.run_bind,yM hz,Result.andThen_ok,nE,hg]
  simp_all
theorem G8(h:mj P d t=some ks):∃g,yg P t=some g/\(g=false->ks.length=1):=by
 cases d with
 | zero=>simp[mj]at h
 | succ d =>
  unfold mj at h;unfold yg
  split at h
  .rename_i hu;rw[hu];grind
  .rename_i hu;rw[hu];grind
  .rename_i hu;rw[hu];injection h with h;subst h;exact⟨false,rfl,fun _=>rfl⟩
  .rename_i hu;rw[hu];exact⟨true,rfl,fun h=>(by cases h)⟩
  .rename_i hu;rw[hu];exact⟨true,rfl,fun h=>(by cases h)⟩
  .cases h
theorem GZ(IH:∀t ks,mj P d t=some ks->Bo P ρ D t ks):∀{fs:List Field} {n:Nat} {ks:LN},lX P (mj P d) fs n=some ks->∀{l m:LK} {cs ds:LG},VL ρ l (cs.drop n)->VL ρ m (ds.drop n)->cs.length=n+ks.length->ds.length=n+ks.length->∀{b:Bool},yG ks l m=some b->∀w,(Op.eqFields D cs.toArray ds.toArray fs).run P w=.ok b w
 | [],n,ks,a,l,m,cs,ds,h,i,s,hd,b,c,w=>by
  simp[lX]at a;subst a;unfold yG at c
  split at c
  .cases c;simp[Op.eqFields]
  all_goals grind
 | f::fs,n,ks,a,l,m,cs,ds,h,i,s,hd,b,c,w=>by
  unfold lX at a
  split at a
  .cases a
  rename_i j
  split at a
  .cases a
  rename_i e;have e:f.offset=n:=Classical.not_not.1 e
  split at a
  .rename_i k1 z hk1 hz
   split at a
   .rename_i hkz
    split at a
    .rename_i ms hms
     cases a
     subst hkz;simp only[Yn]at s hd;obtain⟨y,A,B,C⟩:=Cg c;obtain⟨g,u,k⟩:=G8 hk1;have v:=Ap u hz k (cs:=cs) (o:=n) zo w;have x:=Ap u hz k (cs:=ds) (o:=n) zo w;have q:=IH _ _ hk1 (h.take k1.length) (i.take k1.length) (by simp;omega) (by simp;omega) A w;have p:=h.drop k1.length;have r:=i.drop k1.length;rw[Z0]at p r
     cases y with
     | true =>
      have G:=GZ IH hms p r zo zo (B rfl) w;simp[Op.eqFields,j,e,v,x,q,G]
     | false =>
      obtain rfl:=C rfl;simp[Op.eqFields,j,e,v,x,q]
    grind
   grind
  grind
theorem G7{z:Nat}(hg:yg P e=some g)(hg1:g=false->ks.length=1)(hz:wL P e=some z)(hkz:ks.length=z)(IH:Bo P ρ D e ks):∀{n i:Nat} {l m:LK} {cs ds:LG},VL ρ l (cs.drop (i*z))->VL ρ m (ds.drop (i*z))->cs.length=(i+n)*z->ds.length=(i+n)*z->∀{b:Bool},yG (cy ks n) l m=some b->∀w,(Op.eqItems D e z cs.toArray ds.toArray (List.range' i n)).run P w=.ok b w
 | 0,i,l,m,cs,ds,f,h,s,hd,b,a,w=>by
  unfold cy yG at a
  split at a
  .cases a;simp[Op.eqItems]
  all_goals grind
 | n+1,i,l,m,cs,ds,f,h,s,hd,b,a,w=>by
  unfold cy at a;obtain⟨t,j,k,u⟩:=Cg a;rw[hkz]at j k hg1;have y:(i+(n+1))*z=i*z+z+n*z:=by rw[show i+(n+1)=i+1+n by omega,Zp,Zp,Nat.one_mul]
  have p:=Ap hg hz hg1 (cs:=cs) (o:=i*z) zo w;have r:=Ap hg hz hg1 (cs:=ds) (o:=i*z) zo w;have q:=IH (f.take z) (h.take z) (by simp;omega) (by grind) j w;have c:=f.drop z;have d:=h.drop z;rw[Z0]at c d;have v:i*z+z=(i+1)*z:=by rw[Zp,Nat.one_mul]
  rw[v]at c d;rw[List.range'_succ]
  cases t with
  | true =>
   have x:=G7 hg (by rw[hkz];exact hg1) hz hkz IH c d (by grind) (by grind) (k rfl) w;simp[Op.eqItems,p,r,q,x]
  | false =>
   obtain rfl:=u rfl;simp[Op.eqItems,p,r,q]
theorem Cp:∀(d D:Nat) (t:TypeId) (ks:LN),mj P d t=some ks->Bo P ρ (D+d) t ks
 | 0,_,_,_,h=>by simp[mj]at h
 | d+1,D,t,ks,h=>by
  rename_i l m cs o;intro p q A hd b a w;have f:∀k,ks=[k]->yg P t=some false->((k=1/\∃j,P.underlying t=some (.int j))\/(k=2/\P.underlying t=some .bool)\/(k=3/\P.underlying t=some .string))->(Op.equalIn (D+(d+1)) t (nE P t cs) (nE P t o)).run P w=.ok b w:=by
   intro k r c u;subst r;unfold yG at a
   split at a
   .grind
   .rename_i k0 ks0 x l0 y m0 hk0
    cases hk0
    obtain⟨x',N,rfl,B,O⟩:=p.oc;obtain⟨y',Q,rfl,C,R⟩:=q.oc;simp only[nE,c,Option.some.injEq,Zi,if_false,zAZ9]
    split at a
    .rename_i hsc;unfold yG at a
     split at a
     .cases a
      exact(KW u B C hsc (D+d) w).1
     all_goals grind
    .exact(KW u B C a (D+d) w).1
   .cases a
  unfold mj at h
  split at h
  .rename_i k hu;injection h with h;exact f 1 h.symm (by simp[yg,hu]) (.inl ⟨rfl,_,hu⟩)
  .rename_i hu;injection h with h;exact f 2 h.symm (by simp[yg,hu]) (.inr (.inl ⟨rfl,hu⟩))
  .rename_i hu;injection h with h;exact f 3 h.symm (by simp[yg,hu]) (.inr (.inr ⟨rfl,hu⟩))
  .rename_i fs hu
   split at h
   .cases h
   rename_i s;have s:P.stoodInHeld t=false:=by simpa using s
   have v:P.fieldsOf t=fs:=by simp[Program.fieldsOf,hu]
   have c:yg P t=some true:=by simp[yg,hu]
   simp only[nE,c,if_true];rw[show D+(d+1)=(D+d)+1 from rfl,run_equalIn_struct w (D+d) t cs.toArray o.toArray (by rw[v];exact hu) s,v];exact GZ (fun t ks r=>Cp d D t ks r) h (by simpa using p) (by simpa using q) zo zo a w
  .rename_i n e hu
   split at h
   .rename_i k1 z hk1 hz
    split at h
    .rename_i hkz
     cases h
     obtain⟨S,i,hi,G⟩:=mD hz;have c:yg P t=some true:=by simp[yg,hu]
     obtain⟨g,I,J⟩:=G8 hk1;simp only[nE,c,if_true];have K:P.cellsOf e=z:=by simp[Program.cellsOf,hi,G]
     rw[show D+(d+1)=(D+d)+1 from rfl,run_equalIn_array w (D+d) cs.toArray o.toArray hu hi,K,List.range_eq_range'];have L:∀n,(cy k1 n).length=n*z:=fun n=>by induction n with|zero=>simp[cy]|succ n M=>simp[cy,M,hkz,Zp,ZQ]
     rw[L]at A hd;exact G7 I J hz hkz (Cp d D e k1 hk1) (by simpa using p) (by simpa using q) (by simpa using A) (by grind) a w
    grind
   grind
  grind
theorem US(hf:sE P t=some ks)(hx:VR ρ x x')(hy:VR ρ y y')(hv:oR neg ks x y=some v)(X Y:Operand)(w:World):
  ∃v',(do eqGuard (if neg=true then .neq else .eql) t X Y x' y';binOp (if neg=true then .neq else .eql) t x' y':Sem Value).run P w=.ok v' w/\VR ρ v v':=by
 obtain⟨e,d,f⟩:P.eqGuardType P.depth t=false/\mj P 8 t=some ks/\yg P t=some true:=by
  unfold sE at hf;unfold yg
  grind
 unfold oR at hv
 split at hv
 .split at hv
  .obtain⟨a,hv⟩:=ve hv;obtain⟨c,hv⟩:=ve hv;have a:=Yo a;have c:=Yo c;obtain⟨b,g,rfl⟩:=Jv hv
   cases hx with
   | agg h h1 i =>
    cases hy with
    | agg j h2 k =>
     rename_i cs ds;have l:∀w,(Op.equalIn 10000 t (.agg cs.toArray) (.agg ds.toArray)).run P w=.ok b w:=fun w=>by
      have:=Cp 8 9992 t ks d (ρ:=ρ) (cs:=cs) (ds:=ds) ⟨h,i⟩ ⟨j,k⟩ zo zo g w;simpa[nE,f]using this
     have m:∀op,(eqGuard op t X Y (.agg cs.toArray) (.agg ds.toArray)).run P w=.ok () w:=fun op=>run_eqGuard_agg w op t X Y _ _ e
     cases neg
     .refine⟨.bool b,?_,by simpa using VR.bool (ρ:=ρ) b⟩;have h4:=run_eql_struct (P:=P) w t cs.toArray ds.toArray
      simp_all
     .refine⟨.bool (!b),?_,by simpa using VR.bool (ρ:=ρ) (!b)⟩;have h4:=run_neq_struct (P:=P) w t cs.toArray ds.toArray
      simp_all
  grind
 grind
theorem dw{k:zh}{xs:AP}(hm:mk k xs=some (kd,args)):kd=k/\uI ky xs=some args:=by
 unfold mk at hm
 grind
theorem nF{v:Value}{w':World}(hs:s.run P w=.ok v w'):(do pure (Next.value (<- s)):Sem Next).run P w=.ok (.value v) w':=by simp[hs]
theorem VL.two{b:Value}(h:VL ρ l [a,b])(e:l=[x,y]):VR ρ x a/\VR ρ y b:=by
 subst e;exact⟨h.2 0 x a rfl rfl,h.2 1 y b rfl rfl⟩
theorem VL.uno(h:VL ρ l [a])(e:l=[x]):VR ρ x a:=by
 subst e;exact h.2 0 x a rfl rfl
theorem XI{k:WR P Z ρ h w}{op:BinOp}{x y:Operand}{b:Bool}(hc:bA P t x y x' y' b w)(hop:op=if neg=true then .neq else .eql):
  (do eqGuard op t x y x' y';binOp op t x' y':Sem Value).run P w=.ok (.bool (neg ^^ b)) w:=by
 subst hop;obtain⟨h1,h2,h3⟩:=hc
 cases neg
 all_goals simp_all
theorem UR(hu:P.underlying t=some .bool)(hx:VR ρ x x')(hy:VR ρ y y')(hv:iG neg x y=some v)(X Y:Operand)(w:World):
  ∃v',(do eqGuard (if neg=true then .neq else .eql) t X Y x' y';binOp (if neg=true then .neq else .eql) t x' y':Sem Value).run P w=.ok v' w/\VR ρ v v':=by
 unfold iG at hv
 split at hv
 .rename_i a
  split at hv
  .rename_i c;injection hv with hv;subst hv
   cases hx with
   | bool _=>cases hy with
    | bool _ =>
     have b:=run_equalIn_bool' (P:=P) w 9999 t a c hu;have d:∀a c:Bool,(a==c)=(bif a then c else not c):=by decide
     have e:∀a c:Bool,(!(a==c))=(bif a then not c else c):=by decide
     cases neg
     .refine⟨.bool (a==c),?_,by rw[d];exact .bool _⟩;have:binOp .eql t (.bool a) (.bool c)=(do pure (.bool (<- Op.equal t (.bool a) (.bool c)))):=rfl;simp[this,sy,b,eqGuard]
     .refine⟨.bool (!(a==c)),?_,by rw[e];exact .bool _⟩;have:binOp .neq t (.bool a) (.bool c)=(do pure (.bool (!(<- Op.equal t (.bool a) (.bool c))))):=rfl;simp[this,sy,b,eqGuard]
  .cases hv
 .cases hv
theorem U7{op:UnOp}(hx:VR ρ x x')(hv:mB op x=some v)(w:World):∃v',(Op.unary op x').run P w=.ok v' w/\VR ρ v v':=by
 unfold mB at hv
 split at hv
 .unfold DA at hv
  split at hv
  .injection hv with hv;subst hv;cases hx
   exact⟨_,by simp[Op.unary],.bool _⟩
  .cases hv
 .unfold Dy at hv
  split at hv
  .injection hv with hv;subst hv;cases hx
   exact⟨_,by simp[Op.unary,Op.intArith],.int _ _⟩
  .cases hv
 .unfold JK at hv
  split at hv
  .rename_i n
   cases hx
   obtain⟨v',h1,h2⟩:=FL (ρ:=ρ) (t:=0) hv w;refine⟨v',?_,h2⟩;have e:(Op.unary .xor (.int .u64 n):Sem Value)=binOp .xor 0 (.int .u64 (.ofNat 18446744073709551615)) (.int .u64 n):=by
    simp[Op.unary,binOp,IntKind.signed,IntKind.max,IntKind.bits]
   rw[e];exact h1
  .cases hv
 .cases hv
theorem UZ(k:WR P Z ρ h w){d:TypeDesc}(hu:P.underlying t=some d){f:Nat}(hd:(f=1/\∃e,d=.slice e)\/(f=2/\∃a b,d=.map a b)\/(f=3/\d=.string))(hx:VR ρ x x')(hv:iL f h x=some v)(ty:TypeId):
  ∃v',(Builtin.len_ #[t] ty #[x']).run P w=.ok v' w/\VR ρ v v':=by
 rcases hd with⟨rfl,e,rfl⟩|⟨rfl,a,b,rfl⟩|⟨rfl,rfl⟩
 .simp only[iL]at hv
  cases x<;>simp[It]at hv
  .subst hv;cases hx
   exact⟨_,by simp[Builtin.len_,run_underlying hu,goInt],.int _ _⟩
  .subst hv;cases hx
   exact⟨_,by simp[Builtin.len_,run_underlying hu,goInt],.int _ _⟩
 .simp only[iL]at hv;unfold C5 at hv
  split at hv
  .injection hv with hv;subst hv;cases hx
   exact⟨_,by simp[Builtin.len_,run_underlying hu,goInt],.int _ _⟩
  .split at hv
   .rename_i o ho;unfold Is at hv
    split at hv
    .rename_i es ck;injection hv with hv;subst hv
     cases hx with
     | map g =>
      obtain⟨es',i,c⟩:=oA k g ho;have:es.length=es'.size:=by have:=c.1;simpa using this
      refine⟨.int .i64 (es'.size:Nat),by simp[Builtin.len_,run_underlying hu,cC i,goInt],?_⟩;rw[this];exact .int _ _
    .cases hv
   .cases hv
  .cases hv
 .simp only[iL]at hv;unfold tg at hv
  split at hv
  .injection hv with hv;subst hv
   cases hx with
   | str s=>exact⟨_,by simp[Builtin.len_,run_underlying hu,goInt];rfl,by simpa using VR.int (ρ:=ρ) .i64 (s.size:Nat)⟩
  .cases hv
theorem JP{mx:Bool}(hx:VR ρ x x')(hy:VR ρ y y')(hv:aa mx x y=some v)(ts:Array TypeId)(ty:TypeId)(w:World):
  ∃v',(if mx=true then Builtin.max_ ts ty #[x',y']else Builtin.min_ ts ty #[x',y']).run P w=.ok v' w/\VR ρ v v':=by
 unfold aa at hv
 split at hv
 .split at hv
  .rename_i k a _ k' b;obtain⟨e,c⟩:=ve hv;have d:=fq e;subst d;injection c with c;subst c
   cases hx;cases hy
   cases mx
   .refine⟨.int k (if b<a then b else a),by simp[Builtin.min_,Builtin.min2],?_⟩;have:(if b<a then b else a)=(bif gI a b then a else b):=by
     rw[mv];by_cases h:a<=b
     all_goals grind
    rw[this];exact .int _ _
   .refine⟨.int k (if b>a then b else a),by simp[Builtin.max_,Builtin.max2],?_⟩;have:(if b>a then b else a)=(bif gI b a then a else b):=by
     rw[mv];by_cases h:b<=a
     all_goals grind
    rw[this];exact .int _ _
  .cases hv
 .cases hv
theorem U0{c b:Value}(h:VL ρ vs [c,a,b])(hv:DB vs=some v)(w:World):∃v',(do pure (if <- asBool c then a else b):Sem Value).run P w=.ok v' w/\VR ρ v v':=by
 unfold DB at hv
 split at hv
 .injection hv with hv;subst hv;rename_i d e f;have h0:=h.2 0 _ _ rfl rfl;have h1:=h.2 1 _ _ rfl rfl;have h2:=h.2 2 _ _ rfl rfl
  cases h0
  cases d
  .exact⟨b,by simp[asBool],h2⟩
  .exact⟨a,by simp[asBool],h1⟩
 .cases hv
theorem dP(f:Operand->Value)(b:Builtin)(args:AG)(ts:Array TypeId)(ty:TypeId)(w:World):(do let d <- resolve f { callee:=.builtin b,args:=args,argTypes:=ts } ty;invoke d.target d.args:Sem Next).run P w=(builtin b ts ty (args.map fun | .const _=>true|_=>false) (args.map f)).run P w:=by
 simp only[resolve,invoke,Sem.run_bind,Sem.run_pure,Result.andThen_ok];rfl
def lC(P:Program)(ρ:zg)(w:World)(s:Sem Next)(v:TV):Prop:=∃v',s.run P w=.ok (.value v') w/\VR ρ v v'
theorem lC.of(hs:∃v',s.run P w=.ok v' w/\VR ρ v v'):lC P ρ w (do pure (.value (<- s))) v :=
 let ⟨v',h1,h2⟩:=hs;⟨v',nF h1,h2⟩
theorem J3:∀(ns:LH) (acc:ByteArray),(ns.foldl (fun(r:ByteArray) n=>r.push (UInt8.ofNat n.toNat)) acc).data.toList.map (·.toNat)=acc.data.toList.map (·.toNat)++ns.map fun n=>n.toNat%256
 | [],acc=>by simp
 | n::ns,acc=>by
  rw[Z5,J3 ns]
  simp_all
theorem Ls:∀{l:LK} {s:LN} {cs:LG},ql l=some s->VL ρ l cs->∃ns:LH,cs=ns.map (Value.int .u8)/\s=ns.map fun n=>n.toNat%256
 | [],s,cs,h,a=>by
  simp[ql]at h;subst h;exact⟨[],a.oN,rfl⟩
 | x::l,s,cs,h,a=>by
  unfold ql at h
  split at h
  .grind
  .rename_i n l0 hh
   cases hh
   obtain⟨b,h⟩:=ve h;have b:n<256:=ZN.mp b
   split at h
   .rename_i s0 hs
    cases h
    obtain⟨y,e,rfl,d,c⟩:=a.oc;obtain⟨ns,rfl,rfl⟩:=Ls hs c
    cases d
    exact⟨Int.ofNat n::ns,rfl,by grind⟩
   grind
  grind
theorem U6(k:WR P Z ρ h w)(hs:P.underlying src=some (.slice e))(hd:P.underlying dst=some .string)(he:bT P e=true)(hx:VR ρ x x')(hv:aZ h x=some v):
  ∃v',(convert src dst x').run P w=.ok v' w/\VR ρ v v':=by
 have f:P.underlying e=some (.int .u8):=by
  unfold bT at he
  split at he
  .omega
  .cases he
 unfold aZ at hv
 split at hv
 .cases hv
  cases hx
  exact⟨_,by simp[convert,run_underlying hs,run_underlying hd,run_underlying f,Conv.bytesToString],VR.str ByteArray.empty⟩
 .rename_i b g o n q
  split at hv
  .rename_i l hl
   split at hv
   .rename_i s hs'
    cases hv
    cases hx with
    | sl m h1 h2 h3 h4 A B =>
     rename_i i c loc;obtain⟨cs,p,t,C,D⟩:=DT k hl m zo;obtain⟨a,rfl,rfl⟩:=Ls hs' p;have d:=run_loadCells_list (P:=P) w ⟨loc.r,i,none⟩ (a.map (Value.int .u8)) (fun j v u=>by
      have z:=(Yl.1 u).1;rw[pH]
      grind)
     rw[t]at d;have y:=run_bytesToString (P:=P) w ⟨loc.r,i,none⟩ n c a d;refine⟨_,by simp only[convert,Sem.run_bind,run_underlying hs,run_underlying hd,run_underlying f,Result.andThen_ok];exact y,?_⟩;have:=VR.str (ρ:=ρ) (a.foldl (fun(r:ByteArray) n=>r.push (UInt8.ofNat n.toNat)) ByteArray.empty);rw[J3]at this;simpa using this
   grind
  grind
 grind
theorem Ae(k:WR P Z ρ h w){o:Oper}(ho:yS P o.op=some (kd,args))(hc:kd.cls=0){a:Act}{tm:LA}(ht:yP ρ tm a.tmps)(hv:kw tm args=some vs)(hp:uE kd vs h=some v):
  lC P ρ w (execOp a.eval o) v:=by
 have key:∀{k0:zh} {C:AP},mk k0 C=some (kd,args)->kd=k0/\VL ρ vs (C.map a.eval):=fun Y=>by
  obtain⟨h1,h2⟩:=dw Y;exact⟨h1,bO ht h2 hv⟩
 obtain⟨dst,op,ty,S,after,guard⟩:=o
 cases op with
 | pick c x y =>
  obtain⟨rfl,g⟩:=key ho;obtain⟨v',h1,h2⟩:=U0 (P:=P) g hp w;exact⟨v',by simpa[execOp]using nF h1,h2⟩
 | nilCheck x =>
  obtain⟨rfl,g⟩:=key ho;obtain⟨y,rfl,hp⟩:=bg hp;have p:=g.uno rfl;change Dz y=some v at hp;unfold Dz at hp
  split at hp
  .cases hp
   generalize A:a.eval x=x' at p
   cases p with
   | ptr hρ q=>exact⟨_,by simp[execOp,A],.ptr hρ q⟩
  .cases hp
   generalize A:a.eval x=x' at p
   cases p with
   | fn g h=>exact⟨_,by simp[execOp,A],.fn g h⟩
  .cases hp
 | binOp op t x y yt =>
  have two:∀{f:TV->TV->LD} {Q:Prop},ux vs f=some v->VL ρ vs [a.eval x,a.eval y]->(∀{u N},f u N=some v->VR ρ u (a.eval x)->VR ρ N (a.eval y)->Q)->Q:=fun hp g hQ=>by
   obtain⟨u,N,rfl,hp⟩:=Bj hp;obtain⟨n,D⟩:=g.two rfl;exact hQ hp n D
  have J:∀{neg:Bool} {f:Nat},kd=.eqnil neg f->VL ρ vs [a.eval x,a.eval y]->op=(if neg=true then .neq else .eql)->(∀{x' y':Value} {u v:TV},VR ρ u x'->VR ρ v y'->∀{b:Bool},bN f u v=some b->bA P t x y x' y' b w) ->
    lC P ρ w (execOp a.eval ⟨dst,.binOp op t x y yt,ty,S,after,guard⟩) v:=fun M g U T=>by
   subst M;exact two hp g fun hp n D=>by
    obtain⟨b,q,rfl⟩:=Jv hp;exact .of ⟨_,XI (k:=k) (T n D q) U,.bool _⟩
  simp only[yS]at ho;(repeat' (split at ho))<;>first|(cases ho;done)|skip
  all_goals
   obtain⟨h1,h2⟩:=key ho
   first|exact J h1 h2 rfl (fun p B _ q=>Qn ‹_› p B q)|exact J h1 h2 rfl (fun p B _ q=>Qo ‹_› p B q)|exact J h1 h2 rfl (fun p B _ q=>Qp ‹_› p B q)|exact J h1 h2 rfl (fun p B _ q=>Qq ‹_› p B q)|exact J h1 h2 rfl (fun p B _ q=>Qr ‹_› ‹_› p B q)|(subst h1;exact two hp h2 fun hp n D=>by first|exact .of (US ‹_› n D hp x y w)|exact .of (UR ‹_› n D hp x y w)|exact .of (On n D hp w))
 | convert src R x =>
  simp only[yS]at ho
  split at ho
  .rename_i hs hd;obtain⟨rfl,g⟩:=key ho;obtain⟨y,rfl,hp⟩:=bg hp;have p:=g.uno rfl;change iF _ y=some v at hp;unfold iF at hp
   split at hp
   .cases hp
    generalize A:a.eval x=x' at p
    cases p
    refine .of (s:=convert src R (a.eval x)) ⟨_,?_,.int _ _⟩;rw[A];simp[convert,run_underlying hs,run_underlying hd,Conv.intToInt]
   .cases hp
  .rename_i hs hd;obtain⟨rfl,g⟩:=key ho;obtain⟨y,rfl,hp⟩:=bg hp;have p:=g.uno rfl;change Ab y=some v at hp;unfold Ab at hp
   split at hp
   .cases hp
    generalize A:a.eval x=x' at p
    cases p with
    | str s =>
     refine .of (s:=convert src R (a.eval x)) ⟨_,?_,.str s⟩;rw[A];simp[convert,run_underlying hs,run_underlying hd]
   .cases hp
  .rename_i e hs hd
   split at ho
   .obtain⟨rfl,_⟩:=key ho;cases hc
   .cases ho
  .rename_i e hs hd
   split at ho
   .rename_i he;obtain⟨rfl,g⟩:=key ho;obtain⟨y,rfl,hp⟩:=bg hp;exact .of (U6 k hs hd he (g.uno rfl) hp)
   .cases ho
  .cases ho
 | makeInterface t x =>
  simp only[yS]at ho
  split at ho
  .cases ho
  .cases ho
  .rename_i d n hni;obtain⟨rfl,g⟩:=key ho;obtain⟨y,rfl,hp⟩:=bg hp
   cases hp
   refine .of (s:=Instr.makeInterface t (a.eval x)) ⟨_,?_,.iface (g.uno rfl)⟩
   cases hd:P.underlying t with
   | none=>exact absurd hd hni
   | some d=>cases d<;>first|(exact absurd hd (n _))|simp[Instr.makeInterface,run_underlying hd]
 | makeFunc fn first O =>
  cases fn<;>simp only[yS]at ho<;>first|(cases ho;done)|skip
  split at ho
  .rename_i f hf;obtain⟨rfl,g⟩:=key ho;simp[uE]at hp;subst hp;have h0:first=#[]:=Array.eq_empty_of_size_eq_zero hf;subst h0;refine .of (s:=Instr.makeFunc (.func f) ((#[]:AG).map a.eval) (O.map a.eval)) ⟨_,?_,VR.fnL g⟩;simp[Instr.makeFunc];obtain⟨c⟩:=O;simp
  .cases ho
 | slice t x lo hi mx =>
  simp only[yS]at ho
  split at ho
  .rename_i n
   split at ho
   .rename_i hz;obtain⟨rfl,g⟩:=key ho;have h1:=U2 n hz (lo:=lo.map a.eval) (hi:=hi.map a.eval) (mx:=mx.map a.eval) (x':=a.eval x) (vs:=vs) (by cases lo<;>cases hi<;>cases mx<;>simpa using g) (v:=v) (by have L:dH _ _ _ _ vs=some v:=hp;simpa using L) w;exact .of h1
   .cases ho
  .rename_i n
   split at ho
   .cases ho
   .rename_i hmx;have:mx=none:=by cases mx<;>simp at hmx;rfl
    subst this;obtain⟨rfl,g⟩:=key ho;have h1:=U4 n (lo:=lo.map a.eval) (hi:=hi.map a.eval) (x':=a.eval x) (vs:=vs) (by cases lo<;>cases hi<;>simpa using g) (v:=v) (by have L:oT _ _ vs=some v:=hp;simpa using L) w;exact .of h1
  .rename_i len e n
   split at ho
   .cases ho
   .rename_i hmx;have:mx=none:=by cases mx<;>simp at hmx;rfl
    subst this
    split at ho
    .rename_i hz
     split at ho
     .rename_i K;obtain⟨rfl,g⟩:=key ho;have h1:=U1 n hz K (lo:=lo.map a.eval) (hi:=hi.map a.eval) (x':=a.eval x) (vs:=vs) (by cases lo<;>cases hi<;>simpa using g) (v:=v) (by have L:Aa _ _ _ _ vs=some v:=hp;simpa using L) w;exact .of h1
     .cases ho
    .cases ho
  .cases ho
 | typeAssert x xt t ok =>
  simp only[yS]at ho
  split at ho
  .cases ho
  .cases ho
  .cases ho
  .rename_i z hz hni hnn;obtain⟨rfl,g⟩:=key ho;obtain⟨y,rfl,hp⟩:=bg hp
   cases hd:P.underlying t with
   | none=>exact absurd hd hnn
   | some d=>exact .of (U5 hd (fun ms e=>by subst e;exact hni _ hd) hz (g.uno rfl) hp w)
 | extract x i =>
  obtain⟨rfl,g⟩:=key ho;obtain⟨y,rfl,hp⟩:=bg hp;have p:=g.uno rfl;change tZ i y=some v at hp;unfold tZ at hp
  split at hp
  .generalize A:a.eval x=x' at p
   cases p with
   | tuple V hr =>
    rename_i cs;rw[dD]at hp;obtain⟨u,n,X⟩:=VL.at (ρ:=ρ) (l:=_) (cs:=cs) ⟨V,hr⟩ hp;refine .of (s:=Instr.extract (a.eval x) i) ⟨u,?_,X⟩;rw[A];simp[Instr.extract,n]
  .cases hp
 | call c =>
  obtain⟨callee,G,I⟩:=c
  cases callee with
  | value f=>obtain⟨rfl,_⟩:=key ho;cases hc
  | invoke r m=>cases ho
  | builtin b =>
   simp only[yS]at ho
   split at ho
   ·(repeat' (split at ho))<;>first|(cases ho;done)|(obtain⟨rfl,_⟩:=key ho;cases hc)
   .split at ho<;>first|(cases ho;done)|skip
    split at ho<;>first|(cases ho;done)|skip
    obtain⟨rfl,_⟩:=key ho;cases hc
   .rename_i t hts;have K:∀(f:Nat) {d:TypeDesc},P.underlying t=some d->((f=1/\∃e,d=.slice e)\/(f=2/\∃a b,d=.map a b)\/(f=3/\d=.string))->kd=.len f->VL ρ vs (G.toList.map a.eval)->lC P ρ w (execOp a.eval ⟨dst,.call { callee:=.builtin .len,args:=G,argTypes:=I },ty,S,after,guard⟩) v:=fun f d n hd M g=>by
     subst M;obtain⟨y,rfl,hp⟩:=bg hp;obtain⟨C⟩:=G;obtain⟨I⟩:=I;simp at hts;subst hts
     cases C with
     | nil=>have:=g.1;simp at this
     | cons x r=>cases r with
      | cons _ _=>have:=g.1;simp at this
      | nil =>
       obtain⟨v',h1,h2⟩:=UZ k n hd (g.uno rfl) hp ty;refine⟨v',?_,h2⟩;simp only[execOp,dP];simpa[builtin]using nF h1
    split at ho
    .rename_i n;obtain⟨h1,h2⟩:=key ho;exact K 1 n (.inl ⟨rfl,_,rfl⟩) h1 h2
    .rename_i n;obtain⟨h1,h2⟩:=key ho;exact K 2 n (.inr (.inl ⟨rfl,_,_,rfl⟩)) h1 h2
    .rename_i n;obtain⟨h1,h2⟩:=key ho;exact K 3 n (.inr (.inr ⟨rfl,rfl⟩)) h1 h2
    .cases ho
   .split at ho
    .rename_i hsz;obtain⟨rfl,g⟩:=key ho;obtain⟨y,j,rfl,hp⟩:=Bj hp;obtain⟨C⟩:=G
     match C,hsz with
     | [x0,x1],_ =>
      obtain⟨h1,h2⟩:=g.two rfl;obtain⟨v',h3,h4⟩:=JP (P:=P) (mx:=true) h1 h2 hp I ty w;refine⟨v',?_,h4⟩;simp only[execOp,dP];simpa[builtin]using nF h3
    .cases ho
   .split at ho
    .rename_i hsz;obtain⟨rfl,g⟩:=key ho;obtain⟨y,j,rfl,hp⟩:=Bj hp;obtain⟨C⟩:=G
     match C,hsz with
     | [x0,x1],_ =>
      obtain⟨h1,h2⟩:=g.two rfl;obtain⟨v',h3,h4⟩:=JP (P:=P) (mx:=false) h1 h2 hp I ty w;refine⟨v',?_,h4⟩;simp only[execOp,dP];simpa[builtin]using nF h3
    .cases ho
   .split at ho
    .obtain⟨rfl,_⟩:=key ho;cases hc
    .cases ho
   .cases ho
 | defer c =>
  obtain⟨callee,G,I⟩:=c
  cases callee<;>first|(cases ho;done)|(obtain⟨rfl,_⟩:=key ho;cases hc)
 | _=>first|(cases ho;done)|(simp only[yS]at ho;(repeat' (split at ho))<;>first|(cases ho;done)|(obtain⟨rfl,g⟩:=key ho;first|(cases hc;done)|exact .of (UQ ‹_› ‹_› g hp w)|(obtain⟨y,rfl,hp⟩:=bg hp;have u:=g.uno rfl;first|(cases hp;exact⟨_,by simp[execOp],u⟩)|exact .of (U7 u hp w)|exact .of (JN k ‹_› ‹_› u hp)|exact .of (UT ‹_› u hp w)|exact .of (UU ‹_› u hp w))|(obtain⟨y,j,rfl,hp⟩:=Bj hp;obtain⟨h1,h2⟩:=g.two rfl;first|exact .of (UW ‹_› ‹_› h1 h2 hp w)|exact .of (UV ‹_› ‹_› h1 h2 hp w)|exact .of (UY ‹_› h1 h2 hp w)|exact .of (UX ‹_› ‹_› ‹_› h1 h2 hp w)|exact .of (JO k ‹_› ‹_› (.inl ⟨rfl,_,rfl⟩) ‹_› h1 h2 hp)|exact .of (JO k ‹_› ‹_› (.inr ⟨rfl,rfl⟩) ‹_› h1 h2 hp))))
theorem iZ(k:WR P Z ρ h w)(hn:∀g,ρ b g=none)(hb:b<h.next)(hZ:Z<=w.heap.size){e:Nat}(hx:h.get b=some (ui e l)){cs:LO}(hl:l.length<=cs.size)(hr:∀(i:Nat) x y,l[i]?=some x->cs[i]?=some y->VR ρ x y)(h1:∀x∈l,x.one=true):WR P Z (ρ.add b 0 ⟨w.heap.size,l.length,cs.size⟩) h (w.alloc (.cells cs e)):=by
 have d:=zg.add_more (loc:=⟨w.heap.size,l.length,cs.size⟩) (hn 0);refine k.real hn hb hZ hx ⟨Ym _,fun g loc c=>?_,fun g f j=>?_⟩
 .rcases zg.add_inv c with⟨_,rfl,_⟩|c
  all_goals grind
 .obtain rfl:g=0:=zo;refine⟨_,cs,zg.aS _ _ _ _,.of (World.alloc_heap_new w _),fun _=>rfl,Ym _,hl,fun _=>rfl,fun i hi=>?_⟩;dsimp only at hi;have a:i<cs.size:=zo;refine⟨l[i],cs[i],?_,Zf a,h1 _ (YX hi),(hr i _ _ (Yk hi) (Zf a)).mono d⟩;rw[Tr.get_putL,if_pos zo,Nat.sub_zero,Yk hi]
theorem iV(l:List α):∀n,(yT l n).length=n*l.length
 | 0=>by simp[yT]
 | n+1=>by rw[yT,Yn,iV l n,ZR,ZQ]
theorem Kz(l:List α):∀(n i:Nat),i<n*l.length->(yT l n)[i]?=l[i%l.length]?
 | 0,i,h=>by simp at h
 | n+1,i,h=>by
  rw[yT,zAU9]
  split
  .rename_i hi;rw[Zx hi]
  .rename_i hi;rw[ZR]at h;rw[Kz l n (i-l.length) zo]
   congr 1
   rw[Nat.mod_eq_sub_mod (show i ≥ l.length by omega)]
theorem Al{l:List α}:∀{n:Nat} {x:α},x∈yT l n->x∈l
 | 0,x,h=>by simp[yT]at h
 | n+1,x,h=>by
  rw[yT,YM]at h;exact h.elim id Al
theorem EJ{zv:Value}(hz:VR ρ z zv)(hc:z.cells ≠ [])(n m:Nat)(hnm:n<=m):∀(i:Nat) x y,(yT z.cells n)[i]?=some x->(((Array.range (m*zv.cells.size)).map (fun j=>zv.cells[j%zv.cells.size]!)))[i]?=some y->VR ρ x y:=fun i x y a b=>by
 obtain⟨⟨c,d⟩,_⟩:=hz.cells (.inl hc);have hi:i<n*z.cells.length:=by rw[<- iV];exact(Yl.1 a).1
 rw[Kz _ _ _ hi]at a
 grind
def aB(P:Program)(Z:Nat)(ρ:zg)(h:TH)(w:World)(b:Nat)(s:Sem Next)(v:TV):Prop :=
 ∃v' w1 L S,s.run P w=.ok (.value v') w1/\WR P Z (ρ.add b 0 ⟨w.heap.size,L,S⟩) h w1/\VR (ρ.add b 0 ⟨w.heap.size,L,S⟩) v v'/\Below Z w w1
theorem aB.of{v':Value}{o:Obj}(hZ:Z<=w.heap.size)(L S:Nat)(hs:s.run P w=.ok v' (w.alloc o))(hw:WR P Z (ρ.add b 0 ⟨w.heap.size,L,S⟩) h (w.alloc o))(hv:VR (ρ.add b 0 ⟨w.heap.size,L,S⟩) v v'):aB P Z ρ h w b (do pure (.value (<- s))) v :=
 ⟨v',w.alloc o,L,S,nF hs,hw,hv,(Below.refl Z w).alloc hZ o⟩
theorem i7(e:TypeId)(cs:LO):(newRow e cs).run P w=.ok ⟨w.heap.size,0,none⟩ (w.alloc (.cells cs e)):=by
 simp[newRow,run_newObj_alloc]
theorem SD(k:WR P Z ρ h w)(hn:∀g,ρ b g=none)(hb:b<h.next)(hZ:Z<=w.heap.size)(hs:wL P e=some n)(hv:VL ρ vs [x']){x:uA}(hl:ft e n b vs=some x)(hx:h.get b=some x.o):
  aB P Z ρ h w b (do pure (.value (<- Instr.box e x'))) x.v:=by
 unfold ft at hl
 split at hl
 .rename_i v;obtain⟨h0,hl⟩:=ve hl;injection hl with hl;subst hl;have a:=Yo h0;have d:=hv.uno rfl;have j:=(mD hs).1;obtain⟨c,h1⟩:=d.cells (.inl (by intro e;rw[e]at a;simp at a;omega));have l:x'.cells.size=n:=by have:=c.1;rw[a]at this;simpa using this.symm
  refine .of hZ v.cells.length x'.cells.size (v':=.pointer (some ⟨w.heap.size,0,none⟩)) (o:=.cells x'.cells e) (by simp[Instr.box,newVar,i7]) (iZ k hn hb hZ hx zo (fun i x y hx f=>c.2 i x y hx (by simpa using f)) h1) ?_;exact .ptr (loc:=⟨w.heap.size,v.cells.length,x'.cells.size⟩) (zg.aS _ _ _ _) (by simp[a])
 .cases hl
theorem SC(k:WR P Z ρ h w)(hn:∀g,ρ b g=none)(hb:b<h.next)(hZ:Z<=w.heap.size)(hs:wL P e=some n)(hz:xA P e=some z)(hzl:z.cells.length=n){x:uA}(hl:oi e z.cells b vs=some x)(hx:h.get b=some x.o):
  aB P Z ρ h w b (do pure (.value (<- Instr.alloc e true (.tuple #[])))) x.v:=by
 unfold oi at hl
 split at hl
 .injection hl with hl;subst hl;obtain⟨zv,c,d⟩:=lp (ρ:=ρ) hz w;have j:=(mD hs).1;obtain⟨a,h1⟩:=d.cells (.inl (by intro e;rw[e]at hzl;simp at hzl;omega));have l:zv.cells.size=n:=by have:=a.1;rw[hzl]at this;simpa using this.symm
  refine .of hZ z.cells.length zv.cells.size (v':=.pointer (some ⟨w.heap.size,0,none⟩)) (o:=.cells zv.cells e) (by simp[Instr.alloc,newVar,i7,c]) (iZ k hn hb hZ hx zo (fun i x y hx f=>a.2 i x y hx (by simpa using f)) h1) ?_;exact .ptr (loc:=⟨w.heap.size,z.cells.length,zv.cells.size⟩) (zg.aS _ _ _ _) (by simp)
 .cases hl
theorem SE(k:WR P Z ρ h w)(hn:∀g,ρ b g=none)(hb:b<h.next)(hZ:Z<=w.heap.size){len:Nat}(hu:P.underlying t=some (.slice e))(hs:wL P e=some n)(hz:xA P e=some z)(hzl:z.cells.length=n){ops:Array (Nat×Operand)}{a:Act}(hv:VL ρ vs ((ops.toList.map (·.2)).map a.eval)){x:uA}(hl:fu e n len z.cells (ops.toList.map fun p=>(p.1*n,n)) b vs=some x)(hx:h.get b=some x.o):
  aB P Z ρ h w b (do pure (.value (<- Instr.buildSlice t len (ops.map fun(i,x)=>(i,a.eval x))))) x.v:=by
 unfold fu at hl;obtain⟨h0,hl⟩:=ve hl;have Q:=YB h0
 split at hl
 .rename_i l hf;injection hl with hl;subst hl;obtain⟨zv,G,s⟩:=lp (ρ:=ρ) hz w;have I:=(mD hs).1;have u:z.cells ≠ []:=by intro e;rw[e]at hzl;simp at hzl;omega
  obtain⟨N,h1⟩:=s.cells (.inl u);have A:zv.cells.size=n:=by have:=N.1;rw[hzl]at this;simpa using this.symm
  obtain⟨m,hd,B,J,K⟩:=sC (place:=fun i=>some (i*n,n)) (parts:=(ops.map fun(i,x)=>(i,a.eval x)).toList) (places:=ops.toList.map fun p=>(p.1*n,n)) (vs:=vs) (cells:=yT z.cells len) (cs:=(Array.range (len*n)).map (fun j=>zv.cells[j%zv.cells.size]!)) (by simp) (fun j p q c d=>by
    simp only[zAM9,YH]at c d
    cases C:ops.toList[j]? with
    | none=>rw[C]at c;cases c
    | some o=>rw[C]at c d;simp at c d;subst c;subst d;rfl) (by simpa[Function.comp_def]using hv) ⟨by rw[iV];simp[hzl],fun i x y hx f=>by
     have:=EJ s u len len (Ym _) i x y hx;rw[A]at this;rw[A]at f;rw[Y7]at f;exact this f⟩ (fun x hx=>h1 x (Al hx)) (fun q d=>by obtain⟨p,_,rfl⟩:=Yx.1 d;exact I) hf
  have D:l.length=len*n:=by rw[K,iV,hzl]
  have O:m.size=len*n:=by have:=B.1;rw[D]at this;simpa using this.symm
  refine .of hZ l.length m.size (v':=.slice (some ⟨w.heap.size,0,none⟩) len len) (o:=.cells m e) ?_ (iZ k hn hb hZ hx zo (fun i x y hx f=>B.2 i x y hx (by simpa using f)) J) ?_
  .simp only[zAM9]at hd;have L:¬(16777216<len*n):=zo
   by_cases r:len*n=0
   .have M:(Array.range (len*n)).map (fun j=>zv.cells[j%zv.cells.size]!)=(Array.range (len*n)).map (fun j=>(#[]:LO)[j%(#[]:LO).size]!):=by rw[r];simp
    rw[M]at hd;simp[Instr.buildSlice,run_underlying hu,yM hs,r]at hd⊢;simp[hd,i7]
   .simp[Instr.buildSlice,run_underlying hu,yM hs,L,r,G,hd,i7]
  .refine .sl (loc:=⟨w.heap.size,l.length,m.size⟩) (zg.aS _ _ _ _) zo zo ?_ (.inl rfl) (fun _=>?_) ?_
   .grind
   .grind
   .have:len*1<=len*n:=Nat.mul_le_mul_left len zo;simp only[maxLen];omega
 .cases hl
theorem SF(k:WR P Z ρ h w)(hn:∀g,ρ b g=none)(hb:b<h.next)(hZ:Z<=w.heap.size){by_:Nat}(hu:P.underlying t=some (.slice e))(hs:wL P e=some n)(hby:cU P e=some by_)(hz:xA P e=some z)(hzl:z.cells.length=n)(hv:VL ρ vs [x',y']){x:uA}(hl:fw e n by_ z.cells b vs=some x)(hx:h.get b=some x.o):aB P Z ρ h w b (do pure (.value (<- Instr.makeSlice t x' y'))) x.v:=by
 unfold fw at hl
 split at hl
 .rename_i u v
  split at hl
  .rename_i m c hm hc0;obtain⟨h0,hl⟩:=ve hl;obtain⟨h1,hl⟩:=ve hl;obtain⟨h2,hl⟩:=ve hl;injection hl with hl;subst hl;have f:=YB h0;have N:=YB h1;have O:=YB h2;obtain⟨K,L⟩:=hv.two rfl;obtain⟨T,_,rfl⟩:=cg hm K;obtain⟨U,_,rfl⟩:=cg hc0 L;obtain⟨zv,D,l⟩:=lp (ρ:=ρ) hz w;obtain⟨i,hi,p⟩:=BW hby;have Q:=(mD hs).1;have q:z.cells ≠ []:=by intro e;rw[e]at hzl;simp at hzl;omega
   obtain⟨M,G⟩:=l.cells (.inl q);have I:zv.cells.size=n:=by have:=M.1;rw[hzl]at this;simpa using this.symm
   have C:(yT z.cells m).length=m*n:=by rw[iV,hzl]
   have R:m*n<=c*n:=Ze n f;refine .of hZ (yT z.cells m).length (c*n) (v':=.slice (some ⟨w.heap.size,0,none⟩) m c) (o:=.cells ((Array.range (c*n)).map (fun j=>zv.cells[j%zv.cells.size]!)) e) ?_ ?_ ?_
   .have s:IntKind.i64.wrap (m:Int)=m:=by simp[IntKind.wrap,IntKind.bits,IntKind.signed];omega
    have A:IntKind.i64.wrap (c:Int)=c:=by simp[IntKind.wrap,IntKind.bits,IntKind.signed];omega
    have S:¬((by_:Int)*(c:Int)>2 ^ 48):=by grind
    have r:¬((c:Int)<(m:Int)):=zo;have d:∀(x:Nat) (w:World),(askRoom x).run P w=.ok () w:=fun x w=>by unfold askRoom;split<;>simp[mark,Sem.run]
    by_cases a:c*n=0
    .have J:(Array.range (c*n)).map (fun j=>zv.cells[j%zv.cells.size]!)=(Array.range (c*n)).map (fun j=>(#[]:LO)[j%(#[]:LO).size]!):=by rw[a];simp
     rw[J];simp[Instr.makeSlice,run_underlying hu,asInt,asIntOf,typeInfo,hi,p,s,A,r,yM hs,a,d,i7];omega
    .simp[Instr.makeSlice,run_underlying hu,asInt,asIntOf,typeInfo,hi,p,s,A,r,yM hs,a,D,d,i7];omega
   .have:=iZ k hn hb hZ hx (cs:=(Array.range (c*n)).map (fun j=>zv.cells[j%zv.cells.size]!)) (by simp[C];omega) (fun i x y hx B=>by
     have:=EJ l q m c f i x y hx;rw[I]at this B;exact this B) (fun x hx=>G x (Al hx))
    grind
   .refine .sl (loc:=⟨w.heap.size,(yT z.cells m).length,c*n⟩) (zg.aS _ _ _ _) zo zo ?_ (.inl rfl) (fun _=>?_) ?_
    .grind
    .simp
    .simp only[maxLen];omega
  .cases hl
 .cases hl
theorem Ih(k:WR P Z ρ h w)(hn:∀g,ρ b g=none)(hb:b<h.next)(hZ:Z<=w.heap.size){a1 a2:TypeId}(hu:P.underlying t=some (.map a1 a2)){r:AJ}(hv:VL ρ vs r.toList){x:uA}(hl:oj b vs=some x)(hx:h.get b=some x.o):
  aB P Z ρ h w b (do pure (.value (<- Instr.makeMap t r))) x.v:=by
 have f:=zg.add_more (loc:=⟨w.heap.size,0,0⟩) (hn 0);have c:∀{x:uA},x=⟨.map [] 0,.map b⟩->h.get b=some x.o->WR P Z (ρ.add b 0 ⟨w.heap.size,0,0⟩) h (w.alloc (.map #[] 0)):=fun e hx=>by
  subst e;exact k.real hn hb hZ hx ⟨_,#[],zg.aS _ _ _ _,World.alloc_heap_new w _,rfl,fun i e j d=>by simp at d⟩
 have a:VR (ρ.add b 0 ⟨w.heap.size,0,0⟩) (.map b) (.map (some w.heap.size)):=.map (loc:=⟨w.heap.size,0,0⟩) (zg.aS _ _ _ _);unfold oj at hl
 split at hl
 .injection hl with hl;subst hl
  cases r with
  | some _=>have:=hv.1;simp at this
  | none=>exact .of hZ 0 0 (o:=.map #[] 0) (by simp[Instr.makeMap,run_newObj_alloc]) (c rfl hx) a
 .injection hl with hl;subst hl
  cases r with
  | none=>have:=hv.1;simp at this
  | some y =>
   have:=hv.uno rfl
   cases this
   exact .of hZ 0 0 (o:=.map #[] 0) (by simp[Instr.makeMap,run_underlying hu,asInt,asIntOf,run_newObj_alloc]) (c rfl hx) a
 .cases hl
theorem WR.realW(k:WR P Z ρ h w){w1:World}(hsz:w1.heap.size=w.heap.size+1)(hold:∀j,j<w.heap.size->w1.heap[j]?=w.heap[j]?)(hn:∀g,ρ b g=none)(hb:b<h.next)(hZ:Z<=w.heap.size){x:TO}(hx:h.get b=some x){L S:Nat}(hr:OR P (ρ.add b 0 ⟨w.heap.size,L,S⟩) b w1 x):WR P Z (ρ.add b 0 ⟨w.heap.size,L,S⟩) h w1:=by
 have o:=zg.add_more (loc:=⟨w.heap.size,L,S⟩) (hn 0);refine⟨fun c g loc f=>?_,fun c g loc f=>?_,fun c u g v loc t f i e m=>?_⟩
 .rcases zg.add_inv f with⟨rfl,rfl,rfl⟩|f
  .exact⟨hb,.inl hZ,by dsimp only;omega⟩
  .obtain⟨a,b,d⟩:=k.dom c g loc f;exact⟨a,b,by omega⟩
 .by_cases l:c=b
  .grind
  .have i:ρ c g=some loc:=by rw[<- f,zg.add_ne l]
   obtain⟨y,p,n⟩:=k.obj c g loc i;exact⟨y,p,n.move o (fun g=>zg.add_ne l g) fun g loc q=>hold _ (k.dom c g loc q).2.2⟩
 .rcases zg.add_inv f with⟨r1,r2,r3⟩|f<;>rcases zg.add_inv i with⟨r,z,s⟩|i
  .rw[r1,r]
  .subst r3;have:=(k.dom _ _ _ i).2.2;dsimp only at e;omega
  .subst s;have:=(k.dom _ _ _ f).2.2;dsimp only at e;omega
  .exact k.sep _ _ _ _ _ _ f i e m
theorem SG(k:WR P Z ρ h w)(hn:∀g,ρ b g=none)(hb:b<h.next)(hZ:Z<=w.heap.size)(hs:P.underlying src=some .string)(hd:P.underlying dst=some (.slice e))(he:bT P e=true)(hv:VL ρ vs [x']){x:uA}(hl:fx e b vs=some x)(hx:h.get b=some x.o):
  aB P Z ρ h w b (do pure (.value (<- convert src dst x'))) x.v:=by
 have z:P.underlying e=some (.int .u8):=by
  unfold bT at he
  split at he
  .assumption
  .cases he
 unfold fx at hl
 split at hl
 .rename_i s0;obtain⟨h0,hl⟩:=ve hl;have r:=YB h0;injection hl with hl;subst hl;have t:=hv.uno rfl
  cases t with
  | str s =>
   have u:s.data.size=s.size:=rfl;have c:(s.data.toList.map (·.toNat)).length=s.size:=by rw[Yw,zAD9];rfl
   rw[c]at r;have p:=Lib.run_convert_string_bytes (P:=P) w src dst e s hs hd z;have A:=grownCap_ge w s.size 0 e;have m:=grownCap_le_maxLen w s.size 0 e (by simp only[maxLen];omega);have B:(Lib.bytesCells w e s).size=grownCap w s.size 0 e:=by
    unfold Lib.bytesCells;rw[zAH9,Array.size_map,Array.size_replicate,u];omega
   have q:=Lib.bytesWorld_at_new w e s;have f:=fun j l=>Lib.bytesWorld_at_old w e s j l;have n:∀i,i<s.size->(Lib.bytesCells w e s)[i]?=some (.int .u8 (s.data.toList[i]?.getD 0).toNat):=fun i hi=>by
    have a:i<s.data.size:=hi;unfold Lib.bytesCells;rw[zAX9 (by rw[Array.size_map];exact a),Array.getElem?_map,Zf a,Y7,Zf a];rfl
   have y:WR P Z (ρ.add b 0 ⟨w.heap.size,s.size,(Lib.bytesCells w e s).size⟩) h (Lib.bytesWorld w e s):=by
    refine k.realW (Lib.bytesWorld_size w e s) f hn hb hZ hx ⟨Ym _,fun g loc d=>?_,fun g C D=>?_⟩
    .rcases zg.add_inv d with⟨_,rfl,_⟩|d
     .exact Ym _
     .rw[hn]at d;cases d
    .obtain rfl:g=0:=zo;refine⟨_,_,zg.aS _ _ _ _,⟨_,q,.inr ⟨he,Ym _⟩⟩,fun _=>rfl,by rw[Yw,c];exact Ym _,by dsimp only;omega,fun _=>by rw[Yw,c],fun i hi=>?_⟩;dsimp only at hi;have a:i<s.data.toList.length:=by rw[zAD9];exact hi
     refine⟨.int .u8 (.ofNat (s.data.toList[i]).toNat),_,?_,n i hi,rfl,?_⟩
     .rw[Tr.get_putL,if_pos (by rw[Yw,c];omega),Nat.sub_zero,YH,YH,Yk a];rfl
     .rw[Yk a];exact .int _ _
   refine⟨_,_,_,_,nF p,y,?_,⟨rfl,rfl,rfl,by rw[Lib.bytesWorld_size];omega,fun j l=>f j zo⟩⟩;rw[c];refine .sl (loc:=⟨w.heap.size,s.size,(Lib.bytesCells w e s).size⟩) (zg.aS _ _ _ _) zo zo ?_ (.inl rfl) (fun _=>?_) m
   .dsimp only;omega
   .dsimp only;omega
 .cases hl
variable {P:Program}{ρ ρ':zg}{Z:Nat}{h:TH}{w:World}
variable {g:Nat}
theorem WR.change(k:WR P Z ρ h w){x':TO}(hm:∀c g loc,ρ c g=some loc->ρ' c g=some loc)(hsame:∀c,c≠b->∀g,ρ' c g=ρ c g){g0:Nat}{loc0:yE}(hex:ρ b g0=some loc0){w':World}(hs:w.heap.size<=w'.heap.size)(hb:∀c g loc,c≠b->ρ c g=some loc->w'.heap[loc.r]?=w.heap[loc.r]?)(hr:OR P ρ' b w' x')(hdom:∀g loc,ρ' b g=some loc->Z<=loc.r/\loc.r<w'.heap.size)(hsep:∀g loc,ρ' b g=some loc->∀c g' loc',c≠b->ρ c g'=some loc'->loc.r≠loc'.r):WR P Z ρ' (h.set b x') w':=by
 have f:=(k.dom b g0 loc0 hex).1;refine⟨fun c g loc d=>?_,fun c g loc d=>?_,fun c i g g' loc loc' d j e l=>?_⟩
 .by_cases a:c=b
  .subst a;exact⟨f,.inl (hdom g loc d).1,(hdom g loc d).2⟩
  .rw[hsame c a]at d;obtain⟨p,q,u⟩:=k.dom c g loc d;exact⟨p,q.imp id fun⟨cs,h1⟩=>⟨cs,by rw[TH.get_set _ _ _ _ f,if_neg a];exact h1⟩,by omega⟩
 .by_cases a:c=b
  .subst a;exact⟨x',by rw[TH.get_set _ _ _ _ f,if_pos rfl],hr⟩
  .rw[hsame c a]at d;obtain⟨o,s,m⟩:=k.obj c g loc d;exact⟨o,by rw[TH.get_set _ _ _ _ f,if_neg a];exact s,m.move hm (hsame c a) fun g loc t=>hb c g loc a t⟩
 .by_cases a:c=b<;>by_cases n:i=b
  .omega
  .grind
  .grind
  .rw[hsame c a]at d;rw[hsame i n]at j;exact k.sep c i g g' loc loc' d j e l
theorem Fz(hg:Z<=g)(cs:LO):Below Z w (w.setRow g cs):=⟨rfl,rfl,rfl,by simp,fun k a=>setRow_other w g k cs zo⟩
theorem oC{α:Type}(l m:List α)(o i:Nat)(h:o+m.length<=l.length):(l.take o++m++l.drop (o+m.length))[i]?=if o<=i/\i<o+m.length then m[i-o]? else l[i]?:=by
 rw[YI,zAU9]
 grind
theorem Aq(g o:Nat)(t:TypeId)(fz:Nat×Nat):∀(vs:LG) (i:Nat) (cur:LO) (w:World),w.heap[g]?=some (.cells cur t fz)->eu P t fz cur.size->o+i+vs.length<=cur.size->(∀v∈vs,v.oneCell'=true) ->
  (storeCells ⟨g,o,none⟩ vs i).run P w=.ok () (w.setRow g (cur.toList.take (o+i)++vs++cur.toList.drop (o+i+vs.length)).toArray)
 | [],i,cur,w,a,_,_,_=>by
  simp only[storeCells,Y8,YK,ZP,Y3,Array.toArray_toList];rw[setRow_self w g cur t fz a];rfl
 | v::l,i,cur,w,a,b,f,h1=>by
  rw[Yq]at f;have c:w.frozen? ⟨g,o+i,none⟩=false:=by
   rcases b with rfl|⟨_,b⟩
   .simp[World.frozen?,a]
   .obtain⟨lo,hi⟩:=fz;simp only[World.frozen?,a,Bool.and_eq_false_iff,decide_eq_false_iff_not]
    left
    dsimp only at b;omega
  have hi:o+i<cur.size:=zo;have d:(store ((⟨g,o,none⟩:Addr).add i) v).run P w=.ok () (w.setRow g (cur.setIfInBounds (o+i) v)):=by
   rw[pH,run_store P w _ v _ (h1 v (by simp)),show w.cell? ⟨g,o+i,none⟩=some cur[o+i] by simp[World.cell?,a,hi]];simp[c,setCell_eq_setRow w g (o+i) cur t fz v a]
  have h:=Aq g o t fz l (i+1) (cur.setIfInBounds (o+i) v) (w.setRow g (cur.setIfInBounds (o+i) v)) (setRow_heap w g cur _ t _ a) (by simpa using b) (by simp;omega) (fun x j=>h1 x (by simp[j]));simp only[storeCells,Sem.run_bind,d,Result.andThen_ok,h,setRow_setRow]
  congr 3
  have e:=list_seg_step cur.toList (o+i) v l (by simp;omega);simpa[zAW9,zAP9]using e
theorem eu.same{t:TypeId}{fz:Nat×Nat}{n m:Nat}(h:eu P t fz n)(e:m=n):eu P t fz m:=by rw[e];exact h
theorem EG(k:WR P Z ρ h w){o:Nat}{loc:yE}(hρ:ρ b g=some loc){l:LK}{cs:LG}(hl:VL ρ l cs)(h1:∀x∈l,x.one=true){h':TH}(hw:nG h b g o l=some h'):
  ∃w',(storeCells ⟨loc.r,o,none⟩ cs).run P w=.ok () w'/\WR P Z ρ h' w'/\Below Z w w'/\h'.next=h.next:=by
 unfold nG at hw
 split at hw
 .rename_i x hx;unfold rC at hw
  split at hw
  .rename_i e G M len cells;obtain⟨T,hw⟩:=ve hw;obtain⟨U,hw⟩:=ve hw;injection hw with hw;obtain rfl:=Yo T;have ab:=YB U;obtain⟨y,n,s⟩:=k.obj b g loc hρ;rw[hx]at n;injection n with n;subst n;obtain⟨V,O,s⟩:=s
   .obtain⟨a,cur,m,j,r1,r2,r3,r4,r5⟩:=s g V (Ym _);rw[hρ]at m;injection m with m;subst m;have X:=r4 rfl;have Q:cs.length=l.length:=hl.1.symm;have z:o+cs.length<=cur.size:=zo;obtain⟨t,j,A⟩:=j;have B:=Aq (P:=P) loc.r o e t cs 0 cur w j A (by simpa using z) (fun v Y=>by
     obtain⟨i,hi,rfl⟩:=YU.1 Y;have C:i<l.length:=by rw[hl.1];exact hi
     exact(hl.2 i l[i] cs[i] (Yk C) (Yk hi)).oneCell (h1 _ (YX C)))
    simp only[ZP]at B;have J:=setRow_heap w loc.r cur (cur.toList.take o++cs++cur.toList.drop (o+cs.length)).toArray e t j;have L:mN P _ loc.r _ e:=⟨t,J,A.same (by simp;omega)⟩
    have p:∀d a,ρ b d=some a->Z<=a.r:=fun d a f=>k.own f hx (fun cs h=>by cases h);have R:=p g loc hρ;refine⟨_,B,?_,Fz R _,by rw[<- hw];rfl⟩;rw[<- hw];refine k.change (fun _ _ _ h=>h) (fun _ _ _=>rfl) hρ (by simp) (fun c d a u f=>setRow_other w loc.r a.r _ (fun e=>u (k.sep c b d g a loc f hρ e zo))) ⟨Ym _,O,fun d ad ah=>?_⟩ (fun d a f=>⟨p d a f,by have:=(k.dom b d a f).2.2;simpa using this⟩) (fun d a f c S K u N e=>u ((k.sep b c d S a K f N e (p d a f)).symm));obtain rfl:d=g:=zo;refine⟨loc,_,hρ,L,fun _=>?_,r2,?_,fun _=>X,fun i hi=>?_⟩
    .grind
    .grind
    .have av:i<cur.size:=zo;have e1:((cur.toList.take o++cs++cur.toList.drop (o+cs.length)).toArray)[i]?=if o<=i/\i<o+cs.length then cs[i-o]? else cur[i]?:=by
      rw[List.getElem?_toArray,oC _ _ _ _ (by simpa using z),Y7 (xs:=cur)]
     rw[e1,Tr.get_putL,Q]
     by_cases D:o<=i/\i<o+l.length
     .rw[if_pos D,if_pos D];have q:i-o<l.length:=zo;have I:i-o<cs.length:=zo;exact⟨_,_,Yk q,Yk I,h1 _ (YX q),hl.2 (i-o) _ _ (Yk q) (Yk I)⟩
     grind
  .cases hw
 .cases hw
variable {P:Program}{ρ ρ':zg}{Z:Nat}{h h':TH}{w:World}
variable {b:Value}{d:TypeDesc}{es:List ud}{es':Array MapEntry}{m':Value}
def az(P:Program)(Z:Nat)(ρ:zg)(h h':TH)(w:World)(s:Sem Next)(v:TV):Prop :=
 ∃n v' w' ρ',s.run P w=.ok n w'/\(n=.value v'\/(n=.skip/\v'=undef))/\zg.le h.next ρ ρ'/\WR P Z ρ' h' w'/\Below Z w w'/\VR ρ' v v'/\h.next<=h'.next
theorem az.val{s:Sem Value}(hs:s.run P w=.ok v' w')(hle:zg.le h.next ρ ρ')(hw:WR P Z ρ' h' w')(hb:Below Z w w')(hv:VR ρ' v v')(hn:h.next<=h'.next):az P Z ρ h h' w (do pure (.value (<- s))) v :=
 ⟨_,v',w',ρ',nF hs,.inl rfl,hle,hw,hb,hv,hn⟩
theorem az.skip{s:Sem Unit}(hs:s.run P w=.ok () w')(hle:zg.le h.next ρ ρ')(hw:WR P Z ρ' h' w')(hb:Below Z w w')(hn:h.next<=h'.next):az P Z ρ h h' w (do s;pure .skip) (.tuple []) :=
 ⟨_,undef,w',ρ',by simp[hs],.inr ⟨rfl,rfl⟩,hle,hw,hb,VR.undef _,hn⟩
theorem NO(k:WR P Z ρ h w)(hs:wL P t=some n){p':Value}(hv:VL ρ vs [p',v'])(ha:bF n h vs=some (.ok v h')):v=.tuple []/\az P Z ρ h h' w (do Instr.storeAt t p' v';pure .skip) v:=by
 unfold bF at ha
 split at ha
 .rename_i b g o e u;obtain⟨h0,ha⟩:=ve ha;obtain⟨h1,ha⟩:=ve ha;have a:=Yo h0;have z:=YB h1
  split at ha
  .rename_i h2 hw;injection ha with ha;injection ha with f i;subst f;subst i;obtain⟨q,r⟩:=hv.two rfl;have A:=(mD hs).1;obtain⟨c,d⟩:=r.cells (.inl (by intro e;rw[e]at a;simp at a;omega))
   cases q with
   | ptr s y =>
    rename_i loc;obtain⟨w',j,l,x,m⟩:=EG k s c d hw;have p:v'.cells.size=n:=by have:=c.1;rw[a]at this;simpa using this.symm
    exact⟨rfl,.skip (by simp[Instr.storeAt,Instr.sureAddr,storeVar,yM hs,p,j]) (zg.le.refl _ _) l x (by rw[m];exact Ym _)⟩
  .cases ha
 .cases ha
theorem GK(h:nQ x y=some true):x=y:=by
 unfold nQ at h
 split at h
 .split at h
  .rename_i k a _ k' b;obtain⟨c,h1⟩:=ve h;have:=fq c;subst this;injection h1 with h1;rw[x9]at h1
   grind
  .cases h
 .split at h
  .rename_i a _ b;injection h with h;rw[iz]at h
   grind
  .cases h
 .cases h
theorem VR.str_inv{l:LN}{v:Value}(h:VR ρ (.str l) v):∃s,v=.string s/\ur s=l:=by
 cases h with
 | str s=>exact⟨s,rfl,rfl⟩
theorem HZ(ha:VR ρ x a)(hb:VR ρ x b){d:TypeDesc}(hk:gJ kf x=true)(w:World):(Instr.keyThatStays a b).run P w=.ok b w:=by
 have:Instr.sameBits 10000 a b=true:=by
  match kf,hk with
  | 1,hk =>
   cases x<;>simp[gJ,od]at hk
   cases ha;cases hb
   simp[Instr.sameBits]
  | 2,hk =>
   cases x<;>simp[gJ,oe]at hk
   obtain⟨c,rfl,f⟩:=ha.str_inv;obtain⟨e,rfl,g⟩:=hb.str_inv;have h1:=F5 (s:=c) (t:=e) (f.trans g.symm);have h2:(c==e)=true:=by rw[beq_toListBytes,h1];simp
   simp only[Instr.sameBits];exact h2
 simp[Instr.keyThatStays,this]
theorem xE.push{es':List MapEntry}(h:xE ρ es es'){e:ud}{e':MapEntry}(hk:VR ρ e.k e'.key)(hv:VR ρ e.v e'.val)(hb:e'.born=e.n):xE ρ (es++[e]) (es'++[e']):=by
 refine⟨by simp[h.1],fun i x y a b=>?_⟩;rw[zAU9]at a b;rw[h.1]at a
 split at a
 .rename_i hi;rw[if_pos hi]at b;exact h.2 i x y a b
 grind
theorem KY:∀(es:List ud) (i:Nat) (k v:TV) (j:Nat),(setE i k v es)[j]?=if j=i then(es[j]?).map (fun e=>⟨k,v,e.n⟩)else es[j]?
 | [],i,k,v,j=>by simp[setE]
 | e::es,0,k,v,j=>by cases j<;>simp[setE]
 | e::es,i+1,k,v,j=>by
  cases j with
  | zero=>simp[setE]
  | succ j=>simp only[setE,Y2];rw[KY es i k v j];simp
theorem KZ:∀(es:List ud) (i:Nat) (k v:TV),(setE i k v es).length=es.length
 | [],i,k,v=>by simp[setE]
 | e::es,0,k,v=>by simp[setE]
 | e::es,i+1,k,v=>by simp[setE,KZ es i k v]
theorem xE.setE(h:xE ρ es es'.toList){i:Nat}{k:TV}{f:MapEntry->MapEntry}(hf:∀e e',es[i]?=some e->es'[i]?=some e'->VR ρ k (f e').key/\VR ρ v (f e').val/\(f e').born=e'.born):xE ρ (setE i k v es) (es'.modify i f).toList:=by
 refine⟨by rw[KZ];simpa using h.1,fun j x y d g=>?_⟩;rw[KY]at d;rw[Y7,zBO9]at g
 by_cases n:j=i
 .subst n;rw[if_pos rfl]at d g
  cases m:es[j]? with
  | none=>rw[m]at d;cases d
  | some e =>
   cases l:es'[j]? with
   | none=>rw[l]at g;cases g
   | some e' =>
    rw[m]at d;rw[l]at g;simp at d g;subst d;subst g;obtain⟨a,b,c⟩:=hf e e' m l;exact⟨a,b,c.trans (h.2 j e e' m (by simpa using l)).2.2⟩
 .rw[if_neg n]at d;rw[if_neg (fun e=>n e.symm)]at g;exact h.2 j x y d (by simpa using g)
theorem o0{r:Nat}{es:Array MapEntry}(hh:w.heap[r]?=some (.map es ck))(o:Obj):(setObj r o).run P w=.ok () (w.putObj r o):=by
 simp[setObj,Sem.run,hh,World.putObj]
theorem WR.setMap(k:WR P Z ρ h w){b:Nat}{loc:yE}(hρ:ρ b 0=some loc)(hh:∃es0 ck0,w.heap[loc.r]?=some (.map es0 ck0))(he:xE ρ es es'.toList){x0:TO}(hx0:h.get b=some x0)(hn0:∀cs,x0 ≠ .ro cs):WR P Z ρ (h.set b (.map es ck)) (w.putObj loc.r (.map es' ck))/\Below Z w (w.putObj loc.r (.map es' ck)):=by
 have g:∀d a,ρ b d=some a->Z<=a.r:=fun d a f=>k.own f hx0 hn0;obtain⟨es0,ck0,hh⟩:=hh;have n:loc.r<w.heap.size:=(Zd.1 hh).1;have p:=g 0 loc hρ;refine⟨k.change (fun _ _ _ h=>h) (fun _ _ _=>rfl) hρ (by simp[World.putObj]) (fun c d a i f=>World.putObj_heap_other (fun e=>i (k.sep c b d 0 a loc f hρ e zo))) ⟨loc,es',hρ,World.putObj_heap_same n,he⟩
  (fun d a f=>⟨g d a f,by have:=(k.dom b d a f).2.2;simpa[World.putObj]using this⟩) (fun d a f c o l i m e=>i ((k.sep b c d o a l f m e (g d a f)).symm)),?_⟩
 exact⟨rfl,rfl,rfl,by simp[World.putObj],fun j q=>World.putObj_heap_other zo⟩
theorem VL.three{c:Value}(h:VL ρ l [a,b,c])(e:l=[x,y,z]):VR ρ x a/\VR ρ y b/\VR ρ z c:=by
 subst e;exact⟨h.2 0 x a rfl rfl,h.2 1 y b rfl rfl,h.2 2 z c rfl rfl⟩
theorem E9(k:WR P Z ρ h w)(hu:P.underlying t=some (.map key e))(hd:P.underlying key=some d)(hkf:oh kf d)(hv:VL ρ vs [m',x',y'])(ha:nL kf h vs=some (.ok v h')):
  v=.tuple []/\az P Z ρ h h' w (do Instr.mapUpdate t m' x' y';pure .skip) v:=by
 have m:=CU hd hkf;unfold nL at ha
 split at ha
 .rename_i b x y;obtain⟨h0,ha⟩:=ve ha;have z:=CN hkf h0;obtain⟨M,i,C⟩:=hv.three rfl;have A:∀b,(Instr.checkKey b 10000 key x').run P w=.ok () w:=fun b=>B1 m b 9999 x' w
  split at ha
  .rename_i o ho;unfold oE at ha
   split at ha
   .rename_i es ck
    cases M with
    | map r =>
     rename_i loc;obtain⟨es',f,g⟩:=oA k r ho
     split at ha
     .cases ha
     .rename_i hf;injection ha with ha;injection ha with n p;subst n;subst p;obtain⟨N,q,l⟩:=de hd m i z g hf;rcases l with⟨_,rfl⟩|⟨O,a,b,c,_⟩
      .obtain⟨s,u⟩:=k.setMap r ⟨_,_,f⟩ (es:=es++[⟨x,y,ck⟩]) (ck:=ck+1) (es':=es'.push { key:=x',val:=y',born:=ck }) (by simpa using g.push i C rfl) ho (fun cs h=>by cases h);exact⟨rfl,.skip (by simp[Instr.mapUpdate,run_underlying hu,cC f,A,Instr.findKey,run_underlying hd,q,o0 f]) (zg.le.refl _ _) s u (Ym _)⟩
      .cases c
     .rename_i j e0 hf;injection ha with ha;injection ha with n p;subst n;subst p;obtain⟨N,q,l⟩:=de hd m i z g hf;rcases l with⟨l,_⟩|⟨O,a,b,c,D,Q,G,R⟩
      .cases l
      .injection c with c;injection c with c I;subst I;simp at c;subst c;simp at D;subst D;have J:=GK R;obtain⟨B,_,_⟩:=g.2 j e0 b Q G;rw[<- J]at B;have K:es'[j]?=some b:=by simpa using G
       have L:=HZ (P:=P) B i (d:=d) h0 w;obtain⟨s,u⟩:=k.setMap r ⟨_,_,f⟩ (es:=setE j x y es) (ck:=ck) (es':=es'.modify j fun e=>{ e with key:=x',val:=y' }) (g.setE fun e S _ _=>⟨i,C,rfl⟩) ho (fun cs h=>by cases h);exact⟨rfl,.skip (by simp[Instr.mapUpdate,run_underlying hu,cC f,A,Instr.findKey,run_underlying hd,q,o0 f,K,L]) (zg.le.refl _ _) s u (Ym _)⟩
   .cases ha
  .cases ha
 .cases ha
theorem E8(k:WR P Z ρ h w)(hu:P.underlying t=some (.map key e))(hd:P.underlying key=some d)(hkf:oh kf d)(hz:xA P e=some z)(hv:VL ρ vs [m',x'])(ha:rU kf z h vs=some (.ok v h')):
  az P Z ρ h h' w (do pure (.value (<- Instr.mapEntry t m' x'))) v:=by
 have B:=CU hd hkf;obtain⟨zv,U,M⟩:=lp (ρ:=ρ) hz w;unfold rU at ha
 split at ha
 .rename_i b x;obtain⟨h0,ha⟩:=ve ha;have N:=CN hkf h0;obtain⟨hm,A⟩:=hv.two rfl;have O:∀b,(Instr.checkKey b 10000 key x').run P w=.ok () w:=fun b=>B1 B b 9999 x' w
  split at ha
  .rename_i o ho;unfold Dh at ha
   split at ha
   .rename_i es ck
    cases hm with
    | map I =>
     rename_i loc;obtain⟨es',s,m⟩:=oA k I ho
     split at ha
     .cases ha
     .rename_i hf;injection ha with ha;injection ha with C D;subst C;subst D;obtain⟨r',G,u⟩:=de hd B A N m hf;rcases u with⟨_,rfl⟩|⟨j',a,b,f,_⟩
      .obtain⟨y,J⟩:=k.setMap I ⟨_,_,s⟩ (es:=es++[⟨x,z,ck⟩]) (ck:=ck+1) (es':=es'.push { key:=x',val:=zv,born:=ck }) (by simpa using m.push A M rfl) ho (fun cs h=>by cases h);exact .val (v':=.tuple #[zv,.int .i64 (ck:Nat)]) (by simp[Instr.mapEntry,run_underlying hu,cC s,O,Instr.findKey,run_underlying hd,G,o0 s,U,goInt]) (zg.le.refl _ _) y J (VR.tL (.cons M (VL.one (.int _ _)))) (Ym _)
      .cases f
     .rename_i j e0 hf;injection ha with ha;injection ha with C D;subst C;subst D;obtain⟨r',G,u⟩:=de hd B A N m hf;rcases u with⟨u,_⟩|⟨j',a,b,f,R,c3,S,c5⟩
      .cases u
      .injection f with f;injection f with f V;subst V;simp at f;subst f;simp at R;subst R;have X:=GK c5;obtain⟨Q,Y,ab⟩:=m.2 j e0 b c3 S;rw[<- X]at Q;have ad:es'[j]?=some b:=by simpa using S
       have ah:=HZ (P:=P) Q A (d:=d) h0 w;have T:xE ρ es (es'.modify j fun e=>{ e with key:=x' }).toList:=by
        refine⟨by simpa using m.1,fun i p q hp K=>?_⟩;rw[Y7,zBO9]at K
        split at K
        .grind
        .exact m.2 i p q hp (by simpa using K)
       obtain⟨y,J⟩:=k.setMap I ⟨_,_,s⟩ (es:=es) (ck:=ck) (es':=es'.modify j fun e=>{ e with key:=x' }) T ho (fun cs h=>by cases h);have hh:WR P Z ρ h (w.putObj loc.r (.map (es'.modify j fun e=>{ e with key:=x' }) ck)):=by
        refine⟨fun c g l L=>?_,fun c g l L=>?_,y.sep⟩
        .obtain⟨a1,a2,a3⟩:=y.dom c g l L;refine⟨a1,a2.imp id fun⟨cs,h1⟩=>?_,a3⟩;rw[TH.get_set _ _ _ _ (TH.get_lt ho)]at h1
         split at h1
         .cases h1
         .exact⟨cs,h1⟩
        obtain⟨o',av,a0⟩:=y.obj c g l L;rw[TH.get_set _ _ _ _ (TH.get_lt ho)]at av
        grind
       refine .val (v':=.tuple #[b.val,.int .i64 (e0.n:Nat)]) ?_ (zg.le.refl _ _) hh J (VR.tL (.cons Y (VL.one (.int _ _)))) (Ym _);simp[Instr.mapEntry,run_underlying hu,cC s,O,Instr.findKey,run_underlying hd,G,o0 s,ad,ah,goInt,ab]
   .cases ha
  .cases ha
 .cases ha
theorem Lh(hv:VR ρ v v'):∀{es:List ud} {es':List MapEntry} {r:List ud},xE ρ es es'->Be n v es=some r->∃i,es'.findIdx? (fun e=>(e.born:Int)==(n:Int))=some i/\xE ρ r (es'.modify i fun e=>{ e with val:=v' })
 | [],_,_,_,a=>by cases a
 | e::es,es',r,k,a=>by
  obtain⟨m,s,rfl,h1,h2,h3,h4⟩:=k.oc;simp only[Be]at a
  cases f:Nat.beq e.n n<;>rw[f]at a
  .simp only[cond_false]at a
   split at a
   .cases a
   .rename_i l hl;injection a with a;subst a;obtain⟨i,hi,d⟩:=Lh hv h4 hl;have g:¬((m.born:Int)==(n:Int))=true:=by
     rw[h3];intro o;have:=beq_iff_eq.1 o;have:e.n=n:=zo
     simp_all
    refine⟨i+1,by rw[zAQ9];simp only[g,if_false,Zi];rw[hi];rfl,?_⟩;refine⟨by have:=d.1;simpa using this,fun j p q b c=>?_⟩
    cases j with
    | zero=>simp at b c;subst b;subst c;exact⟨h1,h2,h3⟩
    | succ j=>simp at b c;exact d.2 j p q b (by simpa using c)
  .simp only[cond_true]at a;injection a with a;subst a;have h:=Yo f;refine⟨0,by rw[zAQ9];simp[h3,h],?_⟩;refine⟨by have:=h4.1;simpa using this,fun j p q b c=>?_⟩
   cases j with
   | zero=>simp at b c;subst b;subst c;exact⟨h1,hv,h3⟩
   | succ j=>simp at b c;exact h4.2 j p q b c
theorem NN(k:WR P Z ρ h w){s':Value}(hv:VL ρ vs [m',s',y'])(ha:rT h vs=some (.ok v h')):v=.tuple []/\az P Z ρ h h' w (do Instr.entryStore t m' s' y';pure .skip) v:=by
 unfold rT at ha
 split at ha
 .rename_i b s y;obtain⟨m,p,q⟩:=hv.three rfl
  split at ha
  .rename_i n hn;obtain⟨z,_,rfl⟩:=cg hn p
   split at ha
   .rename_i o ho;unfold Ch at ha
    split at ha
    .rename_i es ck
     split at ha
     .cases ha
     .rename_i es2 hst;injection ha with ha;injection ha with d f;subst d;subst f
      cases m with
      | map c =>
       rename_i loc;obtain⟨es',a,g⟩:=oA k c ho;obtain⟨i,hi,r⟩:=Lh q g hst;obtain⟨u,x⟩:=k.setMap c ⟨_,_,a⟩ (es:=es2) (ck:=ck) (es':=es'.modify i fun e=>{ e with val:=y' }) (by rw[Array.toList_modify];exact r) ho (fun cs h=>by cases h);have j:es'.findIdx? (fun e=>(e.born:Int)==(n:Int))=some i:=by obtain⟨l⟩:=es';rw[List.findIdx?_toArray];exact hi
       exact⟨rfl,.skip (by simp[Instr.entryStore,cC a,asInt,asIntOf,j,o0 a]) (zg.le.refl _ _) u x (Ym _)⟩
    .cases ha
   .cases ha
  .cases ha
 .cases ha
theorem Et(k:WR P Z ρ h w){esz:Nat}(hx:VR ρ x x')(hl:be h esz x n=some l)(hn:n<=lenV x):
  ∃A m c cs,x'=.slice A m c/\m=lenV x/\VL ρ l cs/\cs.length=n*esz/\(∀y∈l,y.one=true)/\(n≠0->∃a,A=some a/\∀(j:Nat) v,cs[j]?=some v->w.cell? (a.add j)=some v):=by
 unfold be at hl
 split at hl
 .cases hl
  cases hx
  have:n=0:=by simp[lenV]at hn;exact hn
  subst this;exact⟨none,0,0,[],rfl,rfl,VL.nil ρ,by simp,fun y d=>(by cases d),fun h=>absurd rfl h⟩
 .rename_i b g o n0 q z;obtain⟨e,hl⟩:=ve hl;obtain rfl:=Yo e
  cases hx with
  | sl f h1 h2 h3 h4 C D =>
   rename_i i c loc;have u:n<=n0:=hn;have:n*esz<=q/2*esz:=Ze esz zo;obtain⟨cs,p,r,G,s⟩:=DT k hl f zo;refine⟨_,n0,c,cs,rfl,rfl,p,r,s,fun B=>⟨_,rfl,fun j v I=>?_⟩⟩;have t:i=o:=by rcases h4 with h|⟨h,_⟩;exact h;omega
   rw[pH,t]
   grind
 grind
theorem Wo{ty:TypeId}(ht:P.underlying t=some (.slice e)){z:Nat}(hz:wL P e=some z){base A:Option Addr}{c m c2:Nat}(hn:n<=c)(hm:m=0):(Builtin.append_ #[t,t] ty #[.slice base n c,.slice A m c2]).run P w=.ok (.slice base n c) w:=by
 subst hm;obtain⟨_,i,hi,rfl⟩:=mD hz
 cases A<;>cases base<;>simp[Builtin.append_,run_underlying ht,sizeOf,typeInfo,hi,Builtin.lenOf,Builtin.firstCells,hn,loadCells,loadCellsFrom,storeCells]
structure cI(P:Program)(w:World)(t u e:TypeId)(i:TypeInfo)(zv:Value)(x':Value)(m:Nat)(cs:LG):Prop where
 zero:∀(ty:TypeId) (base:Option Addr) (n c:Nat),n<=c->m=0->(Builtin.append_ #[t,u] ty #[.slice base n c,x']).run P w=.ok (.slice base n c) w
 nil:∀(ty:TypeId),0<m->(m:Int)<=9223372036854775807->m*i.bytes<=281474976710656->(Builtin.append_ #[t,u] ty #[.slice none 0 0,x']).run P w=.ok (.slice (some ⟨w.heap.size,0,none⟩) m (grownCap w m 0 e)) (w.drew.alloc (.cells (cs.toArray++Builtin.zeroCells zv.cells (grownCap w m 0 e-m)) e))
 room:∀(ty:TypeId) (g n cc:Nat) (cur:LO) (fz:Nat×Nat),w.heap[g]?=some (.cells cur e fz)->eu P e fz cur.size->0<m->n+m<=cc->n*i.size+cs.length<=cur.size->(Builtin.append_ #[t,u] ty #[.slice (some ⟨g,0,none⟩) n cc,x']).run P w=.ok (.slice (some ⟨g,0,none⟩) (n+m) cc) (w.setRow g (cur.toList.take (n*i.size)++cs++cur.toList.drop (n*i.size+cs.length)).toArray)
 grow:∀(ty:TypeId) (b:Addr) (n cc:Nat) (olds:LG),olds.length=n*i.size->(∀j u,olds[j]?=some u->w.cell? (b.add j)=some u)->0<m->cc<n+m->((n+m:Nat):Int)<=9223372036854775807->Builtin.nextslicecap (n+m) cc*i.bytes<=281474976710656->(Builtin.append_ #[t,u] ty #[.slice (some b) n cc,x']).run P w=.ok (.slice (some ⟨w.heap.size,0,none⟩) (n+m) (grownCap w (n+m) cc e)) (w.drew.alloc (.cells (olds.toArray++cs.toArray++Builtin.zeroCells zv.cells (grownCap w (n+m) cc e-(n+m))) e))
variable {a:Act}{by_ esz:Nat}{i:TypeInfo}{o:Oper}{s':Value}{ty u:TypeId}{zv:Value}
theorem cI.slice(ht:P.underlying t=some (.slice e))(hi:P.info? e=some i)(hz:i.zero=some zv)(h0:0<i.size){A:Option Addr}{c:Nat}(hcl:cs.length=m*i.size)(hone:∀u∈cs,u.oneCell'=true)(hmem:m≠0->∃a,A=some a/\∀(j:Nat) v,cs[j]?=some v->w.cell? (a.add j)=some v):cI P w t t e i zv (.slice A m c) m cs:=by
 refine⟨fun ty C n f q d=>?_,fun ty d h1 h2=>?_,fun ty g n f cur r s l d x D=>?_,fun ty b n f k y o d B h1 h2=>?_⟩
 .exact Wo ht (z:=i.size) (by simp[wL,hi];omega) q d
 .obtain⟨a,rfl,ha⟩:=hmem zo;exact run_append_nil (P:=P) w t ty e i zv ht hi hz a m c cs hcl ha d h1 h2
 .obtain⟨a,rfl,ha⟩:=hmem zo;have p:=run_firstCells_some (P:=P) w i.size m a m c cs hcl ha;have h:=Aq (P:=P) g (n*i.size) e r cs 0 cur w s l (by omega) hone;simp only[ZP]at h;simp[Builtin.append_,run_underlying ht,sizeOf,typeInfo,hi,Builtin.lenOf,x,p,pH,h]
 .obtain⟨a,rfl,ha⟩:=hmem zo;exact run_append_grow (P:=P) w t ty e i zv ht hi hz b n f k y o a m c cs hcl ha B h1 h2
theorem cI.zeros{kn kq:IntKind}(ht:P.underlying t=some (.slice e))(hu:P.underlying u=some (.int kn))(hi:P.info? e=some i)(hz:i.zero=some zv)(h0:0<i.size)(hzs:zv.cells.size=i.size)(hone:∀u∈zv.cells.toList,u.oneCell'=true)(uY:m<=1000000)(uZ:m*i.bytes<=281474976710656):cI P w t u e i zv (.int kq (.ofNat m)) m (Builtin.zeroCells zv.cells m).toList:=by
 have y:IntKind.i64.wrap (m:Int)=m:=by simp[IntKind.wrap,IntKind.bits,IntKind.signed];omega
 have h:¬((m:Int)<0):=zo;have k:¬(281474976710656<(m:Int)*(i.bytes:Int)):=by rw[<- zBU9];omega
 refine⟨fun ty l n c z a=>?_,fun ty a h1 h2=>?_,fun ty g n c cur A B o a C K=>?_,fun ty b n c d D p a G h1 h2=>?_⟩
 .subst a;have q:IntKind.i64.wrap 0=0:=by decide
  cases l<;>simp[Builtin.append_,run_underlying ht,run_underlying hu,sizeOf,typeInfo,hi,asInt,asIntOf,q,z,storeCells]
 .have:=Lib.run_append_nil_zeros (P:=P) w t u ty e i zv kq kn ht hu hi hz m a h0 h1 h2;omega
 .have f:=Aq (P:=P) g (n*i.size) e A (Builtin.zeroCells zv.cells m).toList 0 cur w B o (by omega) (fun v I=>by
   obtain⟨j,J,rfl⟩:=YU.1 I;simp only[Builtin.zeroCells,zAM9,List.getElem_map];refine hone _ ?_;have r:(Array.range (m*zv.cells.size)).toList[j]'(by simpa[Builtin.zeroCells]using J)=j:=by simp
   rw[r];have:j%zv.cells.size<zv.cells.size:=zBV9 _ zo
   grind)
  simp only[ZP]at f;have s:¬(m*i.size=0):=Nat.mul_ne_zero zo zo;simp[Builtin.append_,run_underlying ht,run_underlying hu,sizeOf,typeInfo,zeroValue,hi,hz,asInt,asIntOf,y,h,k,s,C,pH,f]
 .have x:=run_firstCells_some (P:=P) w.drew i.size n b n c d D (by simpa using p);have:=Lib.run_append_grow_zeros (P:=P) w t u ty e i zv kq kn ht hu hi hz (some b) n c d x m a h0 G h1 uZ h2;omega
theorem Fl(k:WR P Z ρ h w)(hZ:Z<=w.heap.size)(hi:P.info? e=some i)(hisz:i.size=esz)(hn0:0<esz)(hib:i.bytes=by_)(hzvs:zv.cells.size=esz){s:TV}(hsr:VR ρ s s'){news:LK}(hAS:cI P w t u e i zv x' m cs)(hcs:VL ρ news cs)(hcl:cs.length=m*esz)(hone:∀y∈news,y.one=true)(ha:mc h e esz by_ s m news=some (.ok v h')):∃v' w' ρ',(Builtin.append_ #[t,u] ty #[s',x']).run P w=.ok v' w'/\zg.le h.next ρ ρ'/\WR P Z ρ' h' w'/\Below Z w w'/\VR ρ' v v'/\h.next<=h'.next:=by
 have av:cs.length=m*i.size:=by rw[hcl,hisz]
 have ab:news.length=m*esz:=by rw[hcs.1,hcl]
 unfold mc at ha
 cases s<;>simp only at ha<;>first|(cases ha;done)|skip
 case nilsl =>
  cases hsr
  cases xc:Nat.beq m 0<;>rw[xc]at ha
  ·-- a new block
   have c4:m≠0:=fun e=>by subst e;simp at xc
   simp only[cond_false]at ha;unfold lH at ha;obtain⟨Y,ha⟩:=ve ha
   cases ha
   have Y:=YB Y;rw[zCI9]at Y;have hr:=hAS.nil ty zo zo (by rw[hib];omega);have cb:=grownCap_ge w m 0 e;have bs:=grownCap_le_maxLen w m 0 e (by simp only[maxLen];omega);have ah:∀g,ρ h.next g=none:=fun g=>by
    cases hg:ρ h.next g with
    | none=>rfl
    | some loc=>have:=(k.dom _ _ _ hg).1;omega
   have a6:(cs.toArray++Builtin.zeroCells zv.cells (grownCap w m 0 e-m)).size=grownCap w m 0 e*esz:=by
    simp only[zAH9,Z9,size_zeroCells,hzvs,av,hisz,<- Zp]
    grind
   have dd:=iZ (k.drew.push (ui e news)) (b:=h.next) ah (by rw[TH.nP];omega) (by exact hZ) (by rw[TH.gP,if_pos rfl]) (cs:=cs.toArray++Builtin.zeroCells zv.cells (grownCap w m 0 e-m)) (by rw[a6,ab];exact Ze _ cb) (fun j x y hx hy=>by
    have p:j<cs.length:=by rw[<- hcs.1];exact(Yl.1 hx).1
    rw[zAX9 (by simpa using p)]at hy;exact hcs.2 j x y hx (by simpa using hy)) hone
   refine⟨_,_,_,hr,⟨zg.add_more (ah 0),fun c hc hn g=>by rw[zg.add_ne zo];exact hn g⟩,dd,?_,?_,by rw[TH.nP];omega⟩
   .exact⟨rfl,rfl,rfl,by simp,fun j p=>Below.heap_alloc w.drew _ j (by show j<w.heap.size;omega)⟩
   .refine .sl (zg.aS _ _ _ _) zo zo ?_ (.inl rfl) (fun _=>?_) bs
    .show 0+2*m/2*esz<=news.length;have:2*m/2=m:=zo;rw[this,ab];omega
    .exact(Y6 _).trans a6.symm
  .have bx:=Yo xc;simp only[cond_true]at ha
   cases ha
   exact⟨_,_,ρ,hAS.zero ty _ _ _ (Ym _) bx,zg.le.refl _ _,k,Below.refl _ _,.nilsl,Ym _⟩
 case sl b g o n q z =>
  cases xc:Nat.beq m 0<;>rw[xc]at ha
  .have c4:m≠0:=fun e=>by simp_all
   simp only[cond_false]at ha;obtain⟨ck,a1⟩:=ve ha;clear ha;obtain⟨bm,a2⟩:=ve a1;clear a1;obtain⟨cl,ha⟩:=ve a2;clear a2;have c5:=Yo ck;have ch:=Yo bm;have c6:=Yo cl;clear ck bm cl;have bm:=ch;clear ch;subst c5;subst c6
   split at ha
   .rename_i r hr0;unfold rZ at ha
    split at ha
    .rename_i e' G M len cells;obtain⟨he,a1⟩:=ve ha;clear ha;obtain⟨hg,a2⟩:=ve a1;clear a1;obtain⟨U,cx⟩:=ve a2;clear a2;obtain⟨Y,ha⟩:=ve cx;clear cx
     cases ha
     have df:=Yo he;have dm:=Yo hg;have b6:=Yo U;have bw:=YB Y;rw[zCI9]at bw;clear he hg U Y;have U:=b6;have Y:=bw;clear b6 bw;subst df;subst dm
     cases hsr with
     | sl C s1 s2 s3 s4 s5 s6 =>
      rename_i o' X loc;have dp:o'=0:=by rcases s4 with h|⟨_,_,h⟩;exact h;exact absurd rfl h
      subst dp;obtain⟨y,hy,hr⟩:=k.obj b g loc C;rw[hr0]at hy;cases hy
      obtain⟨ds,dx,b0⟩:=hr;obtain⟨V,cur,bo,⟨fz,a5,c0⟩,r1,r2,r3,r4,r5⟩:=b0 g ds (Ym _);rw[C]at bo;injection bo with bo;subst bo;have hS:=s5 bm;have c7:cur.size=X*esz:=by rw[r1 rfl,<- hS];omega
      have hL:loc.L=len:=r4 rfl;have ah:ρ b (g+1)=none:=by
       cases hq:ρ b (g+1)with
       | none=>rfl
       | some l=>grind
      have a3:∀f V,ρ b f=some V->Z<=V.r:=fun f V a4=>k.own a4 hr0 (fun cs h=>by cases h);have c1:=a3 g loc C;have c8:=(k.dom b g loc C).2.2
      by_cases b7:n+m<=X
      ·-- in place
       have ca:n*i.size+cs.length<=cur.size:=by rw[av,c7,hisz,<- Zp];exact Ze _ b7
       have a7:=hAS.room ty loc.r n X cur fz a5 c0 zo b7 ca;have c2:=setRow_heap w loc.r cur (cur.toList.take (n*i.size)++cs++cur.toList.drop (n*i.size+cs.length)).toArray e fz a5;have a8:((cur.toList.take (n*i.size)++cs++cur.toList.drop (n*i.size+cs.length)).toArray).size=cur.size:=by simp;omega
       have a9:mN P _ loc.r _ e:=⟨fz,c2,c0.same a8⟩
       have bb:∀j,((cur.toList.take (n*i.size)++cs++cur.toList.drop (n*i.size+cs.length)).toArray)[j]?=if n*i.size<=j/\j<n*i.size+cs.length then cs[j-n*i.size]? else cur[j]?:=fun j=>by
        rw[List.getElem?_toArray,oC _ _ _ _ (by omega),Y7 (xs:=cur)]
       have A:=zg.add_more (loc:=⟨loc.r,len+news.length,loc.S⟩) ah;refine⟨_,_,ρ.add b (g+1) ⟨loc.r,len+news.length,loc.S⟩,a7,⟨A,fun D B bp f=>?_⟩,?_,Fz c1 _,?_,Ym _⟩
       .have:D≠b:=fun e=>by grind
        rw[zg.add_ne this];exact bp f
       .refine k.change A (fun D B f=>zg.add_ne B f) C (by simp) (fun D f V B a4=>setRow_other w loc.r V.r _ (fun e=>B (k.sep D b f g V loc a4 C e zo))) ⟨by omega,fun f l d=>?_,fun f b2 dT=>?_⟩ (fun f l d=>?_) (fun f l d D ea c3 B a0 e=>?_)
        .rcases zg.add_inv d with⟨_,rfl,_⟩|d
         .omega
         grind
        .by_cases I:f=g+1
         .subst I;refine⟨_,_,zg.aS _ _ _ _,a9,fun _=>by rw[a8];exact r1 rfl,Ym _,by dsimp only;rw[a8,ab];rw[av,hisz]at ca;omega,fun _=>rfl,fun j p=>?_⟩;dsimp only at p;rw[bb,Tr.get_putL];have e1:len=n*i.size:=by rw[hisz,U]
          by_cases J:len<=j/\j<len+news.length
          .rw[if_pos J,if_pos (by rw[<- e1,<- hcs.1];exact J)];have K:j-len<news.length:=zo;have ad:j-n*i.size<cs.length:=by rw[<- e1,<- hcs.1];exact K
           rw[<- e1]at ad⊢;exact⟨_,_,Yk K,Yk ad,hone _ (YX K),(hcs.2 (j-len) _ _ (Yk K) (Yk ad)).mono A⟩
          .rw[if_neg J,if_neg (by rw[<- e1,<- hcs.1];exact J)];obtain⟨x,u,N,O,Q,R⟩:=r5 j zo;exact⟨x,u,N,O,Q,R.mono A⟩
         .obtain⟨l,cu,p1,T,p3,p4,p5,p6,p7⟩:=b0 f b2 zo
          by_cases b3:l.r=loc.r
          .obtain⟨fz',T,_⟩:=T;rw[b3,a5]at T;injection T with T;cases T
           refine⟨l,_,A _ _ _ p1,by rw[b3];exact a9,fun h=>absurd h I,by omega,by rw[a8];exact p5,fun h=>absurd h I,fun j p=>?_⟩;obtain⟨x,u,N,O,Q,R⟩:=p7 j p;have e1:len=n*i.size:=by rw[hisz,U]
           exact⟨x,u,by rw[Tr.get_putL,if_neg zo];exact N,by rw[bb,if_neg zo];exact O,Q,R.mono A⟩
          .refine⟨l,cu,A _ _ _ p1,T.move (setRow_other w loc.r l.r _ b3),fun h=>absurd h I,by omega,p5,fun h=>absurd h I,fun j p=>?_⟩;obtain⟨x,u,N,O,Q,R⟩:=p7 j p;exact⟨x,u,by rw[Tr.get_putL,if_neg zo];exact N,O,Q,R.mono A⟩
        .rcases zg.add_inv d with⟨_,_,rfl⟩|d
         .exact⟨c1,by simpa using c8⟩
         .exact⟨a3 _ _ d,by have:=(k.dom _ _ _ d).2.2;simpa using this⟩
        .rcases zg.add_inv d with⟨_,_,rfl⟩|d
         .exact B (k.sep _ _ _ _ _ _ a0 C e.symm (by dsimp only at e;omega))
         .exact B (k.sep _ _ _ _ _ _ a0 d e.symm (by have:=a3 _ _ d;omega))
       .refine .sl (loc:=⟨loc.r,len+news.length,loc.S⟩) (zg.aS _ _ _ _) zo zo ?_ (.inl rfl) (fun _=>?_) s6
        .show 0+2*(n+m)/2*esz<=len+news.length;have:2*(n+m)/2=n+m:=zo;rw[this,Y6,Zp,ab,U];exact Ym _
        .exact hS
      ·-- moved
       have b4:(cur.toList.take (n*esz)).length=n*i.size:=by grind
       have a7:=hAS.grow ty ⟨loc.r,0,none⟩ n X (cur.toList.take (n*esz)) b4 (fun j u p=>by
        rw[pH,Y6];have J:j<n*esz:=by have:=(Yl.1 p).1;simp at this;omega
        rw[Y4,if_pos J,Y7]at p;simp[World.cell?,a5,p]) zo zo zo (growslice_fits zo (by rw[hib];omega))
       have cb:=grownCap_ge w (n+m) X e;have bs:=grownCap_le_maxLen w (n+m) X e (by simp only[maxLen];omega);obtain⟨bl,b5⟩:∃bl,bl=(cur.toList.take (n*esz)).toArray++cs.toArray++Builtin.zeroCells zv.cells (grownCap w (n+m) X e-(n+m)):=⟨_,rfl⟩
       rw[<- b5]at a7;have a6:bl.size=grownCap w (n+m) X e*esz:=by
        rw[b5];simp only[zAH9,Z9,size_zeroCells,hzvs,av,b4,hisz,<- Zp]
        grind
       have bb:∀j,j<len+news.length->bl[j]?=if j<len then cur[j]? else cs[j-len]?:=fun j p=>by
        rw[b5,zAX9 (by simp only[zAH9,Z9,b4,av,hisz];rw[U,<- ab];exact p)]
        grind
       have A:=zg.add_more (loc:=⟨w.heap.size,len+news.length,bl.size⟩) ah;have a9:mN P (w.drew.alloc (.cells bl e)) w.heap.size bl e:=.of (World.alloc_heap_new w.drew _);have b1:∀r,r<w.heap.size->(w.drew.alloc (.cells bl e)).heap[r]?=w.heap[r]?:=fun r hr=>Below.heap_alloc w.drew _ r hr;refine⟨_,_,ρ.add b (g+1) ⟨w.heap.size,len+news.length,bl.size⟩,a7,⟨A,fun D B bp f=>?_⟩,?_,?_,?_,Ym _⟩
       .have:D≠b:=fun e=>by subst e;rw[bp]at C;cases C
        rw[zg.add_ne this];exact bp f
       .refine k.change A (fun D B f=>zg.add_ne B f) C (by simp) (fun D f V B a4=>b1 _ (k.dom _ _ _ a4).2.2) ⟨by omega,fun f l d=>?_,fun f b2 dT=>?_⟩ (fun f l d=>?_) (fun f l d D ea c3 B a0 e=>?_)
        .rcases zg.add_inv d with⟨_,rfl,_⟩|d
         .exact Ym _
         .have:=dx _ _ d;omega
        .by_cases I:f=g+1
         .subst I;have eb:len+news.length<=bl.size:=by grind
          refine⟨_,_,zg.aS _ _ _ _,a9,fun _=>rfl,Ym _,eb,fun _=>rfl,fun j p=>?_⟩;dsimp only at p;rw[bb j p,Tr.get_putL]
          by_cases J:len<=j/\j<len+news.length
          .rw[if_pos J,if_neg zo];have K:j-len<news.length:=zo;have ad:j-len<cs.length:=by rw[<- hcs.1];exact K
           exact⟨_,_,Yk K,Yk ad,hone _ (YX K),(hcs.2 (j-len) _ _ (Yk K) (Yk ad)).mono A⟩
          .rw[if_neg J,if_pos zo];obtain⟨x,u,N,O,Q,R⟩:=r5 j zo;exact⟨x,u,N,O,Q,R.mono A⟩
         .obtain⟨l,cu,p1,T,p3,p4,p5,p6,p7⟩:=b0 f b2 zo;refine⟨l,cu,A _ _ _ p1,T.move (b1 _ (k.dom _ _ _ p1).2.2),fun h=>absurd h I,by omega,p5,fun h=>absurd h I,fun j p=>?_⟩;obtain⟨x,u,N,O,Q,R⟩:=p7 j p;exact⟨x,u,by rw[Tr.get_putL,if_neg zo];exact N,O,Q,R.mono A⟩
        .rcases zg.add_inv d with⟨_,_,rfl⟩|d
         .exact⟨hZ,by simp⟩
         .exact⟨a3 _ _ d,by have:=(k.dom _ _ _ d).2.2;simp;omega⟩
        .rcases zg.add_inv d with⟨_,_,rfl⟩|d
         .have:=(k.dom _ _ _ a0).2.2;dsimp only at e;omega
         .exact B (k.sep _ _ _ _ _ _ a0 d e.symm (by have:=a3 _ _ d;omega))
       .exact⟨rfl,rfl,rfl,by simp,fun j p=>b1 j zo⟩
       .refine .sl (zg.aS _ _ _ _) zo zo ?_ (.inl rfl) (fun _=>?_) bs
        .show 0+2*(n+m)/2*esz<=len+news.length;have:2*(n+m)/2=n+m:=zo;rw[this,Y6,Zp,ab,U];exact Ym _
        .exact(Y6 _).trans a6.symm
    grind
   grind
  .have bx:=Yo xc;simp only[cond_true]at ha
   cases ha
   cases hsr with
   | sl C s1 s2 s3 s4 s5 s6=>exact⟨_,_,ρ,hAS.zero ty _ _ _ zo bx,zg.le.refl _ _,k,Below.refl _ _,.sl C s1 s2 s3 s4 s5 s6,Ym _⟩
theorem N2(k:WR P Z ρ h w)(hZ:Z<=w.heap.size)(ht:P.underlying t=some (.slice e))(hs:wL P e=some esz)(hby:cU P e=some by_){zt:TV}(hzt:xA P e=some zt)(hzl:zt.cells.length=esz)(hv:VL ρ vs [s',x'])(ha:bE e esz by_ h vs=some (.ok v h')):∃v' w' ρ',(Builtin.append_ #[t,t] ty #[s',x']).run P w=.ok v' w'/\zg.le h.next ρ ρ'/\WR P Z ρ' h' w'/\Below Z w w'/\VR ρ' v v'/\h.next<=h'.next:=by
 obtain⟨z,i,hi,r⟩:=mD hs;obtain⟨L,g,B⟩:=BW hby;rw[hi]at g;cases g
 obtain⟨M,zv,l,C,a⟩:=Bm hzt;rw[hi]at l;cases l
 have a:=a ρ;have y:zv.cells.size=esz:=by
  obtain⟨I,_⟩:=a.cells (.inl (by grind));have:=I.1;rw[hzl]at this;simpa using this.symm
 unfold bE at ha
 split at ha
 .rename_i s x;obtain⟨D,G⟩:=hv.two rfl;unfold r9 at ha
  split at ha
  .cases ha
  .rename_i news hnews;obtain⟨A,m,c,cs,rfl,J,b,n,d,f⟩:=Et k G hnews (Ym _);rw[<- J]at ha n f;have q:∀u∈cs,u.oneCell'=true:=fun u K=>by
    obtain⟨j,p,rfl⟩:=YU.1 K;have o:j<news.length:=by rw[b.1];exact p
    exact(b.2 j news[j] cs[j] (Yk o) (Yk p)).oneCell (d _ (YX o))
   exact Fl k hZ hi r (zCK9 z) B y D (cI.slice ht hi C zo (by grind) q f) b n d ha
 grind
theorem N3(k:WR P Z ρ h w)(hZ:Z<=w.heap.size)(ht:P.underlying t=some (.slice e))(hu:CM P u=true)(hs:wL P e=some esz)(hby:cU P e=some by_){zt:TV}(hzt:xA P e=some zt)(hzl:zt.cells.length=esz)(hv:VL ρ vs [s',x'])(ha:cR e esz by_ zt.cells h vs=some (.ok v h')):∃v' w' ρ',(Builtin.append_ #[t,u] ty #[s',x']).run P w=.ok v' w'/\zg.le h.next ρ ρ'/\WR P Z ρ' h' w'/\Below Z w w'/\VR ρ' v v'/\h.next<=h'.next:=by
 obtain⟨r,hu⟩:∃r,P.underlying u=some (.int r):=by
  unfold CM at hu
  grind
 obtain⟨A,i,hi,z⟩:=mD hs;obtain⟨I,n,B⟩:=BW hby;rw[hi]at n;cases n
 obtain⟨J,zv,o,C,a⟩:=Bm hzt;rw[hi]at o;cases o
 have a:=a ρ;have p:zt.cells ≠ []:=by intro e;rw[e]at hzl;simp at hzl;omega
 obtain⟨d,h1⟩:=a.cells (.inl p);have c:zv.cells.size=esz:=by have:=d.1;rw[hzl]at this;simpa using this.symm
 unfold cR at ha
 split at ha
 .rename_i s kq m;obtain⟨D,G⟩:=hv.two rfl;obtain⟨f,ha⟩:=ve ha;obtain⟨g,ha⟩:=ve ha;have f:=YB f;have g:=YB g;rw[zCI9]at g
  cases G
  refine Fl k hZ hi z (zCK9 A) B c D (cI.zeros ht hu hi C zo zo (fun y b=>?_) f (by grind)) ⟨?_,fun j x y l b=>?_⟩ ?_ (fun x l=>h1 x (Al l)) ha
  .obtain⟨j,hj,rfl⟩:=YU.1 b;have q:j<zt.cells.length:=by rw[d.1];exact hj
   exact(d.2 j zt.cells[j] _ (Yk q) (Yk hj)).oneCell (h1 _ (YX q))
  .rw[iV];simp[Builtin.zeroCells,hzl,c]
  .rw[Y7]at b;exact EJ a p m m (Ym _) j x y l b
  .simp[Builtin.zeroCells,c]
 grind
theorem NM(k:WR P Z ρ h w){dT sT:TypeId}(ht:P.underlying dT=some (.slice e))(hs:wL P e=some esz){d':Value}(hv:VL ρ vs [d',x'])(ha:mQ esz h vs=some (.ok v h')):∃v' w',(Builtin.copy_ #[dT,sT] ty #[d',x']).run P w=.ok v' w'/\WR P Z ρ h' w'/\Below Z w w'/\VR ρ v v'/\h.next<=h'.next:=by
 unfold mQ at ha
 split at ha
 .rename_i d x;obtain⟨i,B⟩:=hv.two rfl;dsimp only at ha
  split at ha
  .cases ha
  .rename_i news hnews;obtain⟨A,m,c,cs,C,N,D,G,u,y⟩:=Et k B hnews (Nat.min_le_left _ _);subst C
   split at ha
   .cases ha
    cases i
    refine⟨goInt 0,w,?_,k,Below.refl _ _,.int _ _,Ym _⟩
    cases A<;>simp[Builtin.copy_,run_underlying ht,Builtin.lenOf,Builtin.firstCells,yM hs,loadCells,loadCellsFrom]
   .rename_i b g o n q z
    cases i with
    | sl O U V X Y s5 s6 =>
     rename_i l cc loc;have f:Nat.min m n=min (lenV x) (lenV (.sl b g o n q z)):=by rw[N];rfl
     cases xc:Nat.beq (min (lenV x) (lenV (.sl b g o n q z))) 0<;>rw[xc]at ha
     .simp only[cond_false]at ha;have I:min (lenV x) (lenV (.sl b g o n q z))≠0:=fun e=>by simp_all
      obtain⟨p,j⟩:=ve ha;have J:=Yo p;clear ha p;subst J
      split at j
      .rename_i h2 hw
       cases j
       obtain⟨a,Q,t⟩:=y I;subst Q;have R:l=o:=by grind
       subst R;obtain⟨w',K,L,S,T⟩:=EG k O D u hw;have r:=run_loadCells_list (P:=P) w a cs t;refine⟨.int .i64 (Int.ofNat (min (lenV x) (lenV (.sl b g l n q esz)))),w',?_,L,S,.int _ _,by omega⟩;rw[G,<- f]at r;rw[<- f];simp[Builtin.copy_,run_underlying ht,Builtin.lenOf,Builtin.firstCells,yM hs,r,K,goInt]
      grind
     .simp only[cond_true]at ha
      cases ha
      have s:=Yo xc;rw[<- f]at s;refine⟨goInt 0,w,?_,k,Below.refl _ _,.int _ _,Ym _⟩;have M:∀a:Addr,(storeCells a [] 0).run P w=.ok () w:=fun a=>by simp[storeCells]
      cases A<;>simp[Builtin.copy_,run_underlying ht,Builtin.lenOf,Builtin.firstCells,yM hs,s,loadCells,loadCellsFrom,M]
   grind
 grind
theorem rW(k:WR P Z ρ h w)(hZ:Z<=w.heap.size)(ho:yS P o.op=some (kd,args))(hc:kd.cls=2)(hn:kd ≠ .call/\kd ≠ .panic/\kd ≠ .defer)(ht:yP ρ tm a.tmps)(hv:kw tm args=some vs){C:wE}{ca:LE}(hp:act C ca kd vs h=some (.ok v h')):
  az P Z ρ h h' w (execOp a.eval o) v:=by
 have key:∀{k0:zh} {g:AP},mk k0 g=some (kd,args)->kd=k0/\VL ρ vs (g.map a.eval):=fun J=>by
  obtain⟨h1,h2⟩:=dw J;exact⟨h1,bO ht h2 hv⟩
 obtain⟨dst,op,ty,M,after,guard⟩:=o
 cases op with
 | makeFunc K first L=>cases K<;>simp only[yS]at ho<;>(repeat' (split at ho))<;>first|(cases ho;done)|(obtain⟨rfl,_⟩:=key ho;cases hc)
 | call c =>
  obtain⟨y,q,i⟩:=c
  cases y with
  | value f=>obtain⟨rfl,_⟩:=key ho;exact absurd rfl hn.1
  | invoke r m=>cases ho
  | builtin b =>
   simp only[yS]at ho
   split at ho
   .rename_i t u hts
    split at ho<;>first|(cases ho;done)|skip
    rename_i e s
    split at ho<;>first|(cases ho;done)|skip
    rename_i n by_ z x A D
    split at ho<;>first|(cases ho;done)|skip
    rename_i B
    split at ho
    .rename_i hut;subst hut;obtain⟨rfl,d⟩:=key ho;obtain⟨g⟩:=q;obtain⟨i⟩:=i;simp at hts;subst hts;have j:g.length=2:=by
      have h1:=d.1;change bE _ _ _ h vs=_ at hp;unfold bE at hp
      grind
     match g,j with
     | [G,I],_ =>
      obtain⟨v',w',ρ',h1,h2,h3,h4,l,p⟩:=N2 (ty:=ty) k hZ (lS s) x A D B d hp;refine⟨_,v',w',ρ',?_,.inl rfl,h2,h3,h4,l,p⟩;simp only[execOp,dP];simpa[builtin]using nF h1
    .split at ho
     .rename_i hu;obtain⟨rfl,d⟩:=key ho;obtain⟨g⟩:=q;obtain⟨i⟩:=i;simp at hts;subst hts;have j:g.length=2:=by
       have h1:=d.1;change cR _ _ _ _ h vs=_ at hp;unfold cR at hp
       grind
      match g,j with
      | [G,I],_ =>
       obtain⟨v',w',ρ',h1,h2,h3,h4,l,p⟩:=N3 (ty:=ty) k hZ (lS s) hu x A D B d hp;refine⟨_,v',w',ρ',?_,.inl rfl,h2,h3,h4,l,p⟩;simp only[execOp,dP];simpa[builtin]using nF h1
     .cases ho
   .rename_i t u hts
    split at ho<;>first|(cases ho;done)|skip
    rename_i e s
    split at ho<;>first|(cases ho;done)|skip
    rename_i n x;obtain⟨rfl,d⟩:=key ho;obtain⟨g⟩:=q;obtain⟨i⟩:=i;simp at hts;subst hts;have j:g.length=2:=by
     have h1:=d.1;change mQ _ h vs=_ at hp;unfold mQ at hp
     grind
    match g,j with
    | [G,I],_ =>
     obtain⟨v',w',h1,h3,h4,l,p⟩:=NM (ty:=ty) (sT:=u) k (lS s) x d hp;refine⟨_,v',w',ρ,?_,.inl rfl,zg.le.refl _ _,h3,h4,l,p⟩;simp only[execOp,dP];simpa[builtin]using nF h1
   all_goals (repeat' (split at ho))<;>first|(cases ho;done)|(obtain⟨rfl,_⟩:=key ho;first|(cases hc;done)|exact absurd rfl hn.2.1)
 | defer c =>
  obtain⟨y,q,i⟩:=c
  cases y<;>first|(cases ho;done)|(obtain⟨rfl,_⟩:=key ho;exact absurd rfl hn.2.2)
 | _=>first|(cases ho;done)|(simp only[yS]at ho;(repeat' (split at ho))<;>first|(cases ho;done)|(obtain⟨rfl,d⟩:=key ho;first|(cases hc;done)|exact absurd rfl hn.2.1|(obtain⟨rfl,h1⟩:=E9 k ‹_› ‹_› (.inl ⟨rfl,_,rfl⟩) d hp;exact h1)|(obtain⟨rfl,h1⟩:=E9 k ‹_› ‹_› (.inr ⟨rfl,rfl⟩) d hp;exact h1)|(obtain⟨rfl,h1⟩:=NO k ‹_› d hp;exact h1)|exact E8 k ‹_› ‹_› (.inl ⟨rfl,_,rfl⟩) ‹_› d hp|exact E8 k ‹_› ‹_› (.inr ⟨rfl,rfl⟩) ‹_› d hp|(obtain⟨rfl,h1⟩:=NN k d hp;exact h1)))
theorem s9(k:WR P Z ρ h w){b:Nat}(hnone:∀g,ρ b g=none)(hb:b<h.next)(hZ:Z<=w.heap.size)(ho:yS P o.op=some (kd,args))(hc:kd.cls=1)(ht:yP ρ tm a.tmps)(hv:kw tm args=some vs){x:uA}(hp:lay kd vs b=some x)(hx:h.get b=some x.o):
  aB P Z ρ h w b (execOp a.eval o) x.v:=by
 have key:∀{k0:zh} {xs:AP},mk k0 xs=some (kd,args)->kd=k0/\VL ρ vs (xs.map a.eval):=fun i=>by
  obtain⟨h1,h2⟩:=dw i;exact⟨h1,bO ht h2 hv⟩
 obtain⟨dst,op,ty,n,after,guard⟩:=o
 cases op with
 | makeFunc j first m=>cases j<;>simp only[yS]at ho<;>(repeat' (split at ho))<;>first|(cases ho;done)|(obtain⟨rfl,_⟩:=key ho;cases hc)
 | defer c =>
  obtain⟨e,f,l⟩:=c
  cases e<;>first|(cases ho;done)|(obtain⟨rfl,_⟩:=key ho;cases hc)
 | call c =>
  obtain⟨e,f,l⟩:=c
  cases e<;>first|(cases ho;done)|(obtain⟨rfl,_⟩:=key ho;cases hc;done)|(simp only[yS]at ho;(repeat' (split at ho))<;>first|(cases ho;done)|(obtain⟨rfl,_⟩:=key ho;cases hc))
 | _=>first|(cases ho;done)|(simp only[yS]at ho;(repeat' (split at ho))<;>first|(cases ho;done)|(obtain⟨rfl,d⟩:=key ho;first|(cases hc;done)|exact SC k hnone hb hZ ‹_› ‹_› ‹_› hp hx|exact SD k hnone hb hZ ‹_› d hp hx|exact SE k hnone hb hZ (lS ‹_›) ‹_› ‹_› ‹_› d hp hx|exact SF k hnone hb hZ (lS ‹_›) ‹_› ‹_› ‹_› ‹_› d hp hx|exact Ih k hnone hb hZ ‹_› (r:=none) d hp hx|exact Ih k hnone hb hZ ‹_› (r:=some _) d hp hx|exact SG k hnone hb hZ ‹_› ‹_› ‹_› d hp hx))
def Fr(r:LB):Fence:={ Fence.wide with round:=r }
variable {R:Ending->World->Prop}{r:LB}
theorem Pa{f:FuncId}{args:LO}:CallsIn (Fr r) n P f args w R↔CallsIn (Fr none) n P f args w R:=Iff.rfl
theorem Wl{l f:Nat}{tmps:LO}{assign body:Code}:RoundIn (Fr r) n P l f tmps assign body w R↔RoundIn (Fr none) n P l f tmps assign body w R:=Iff.rfl
def kj(P:Program)(Z:Nat)(ρ:zg)(h h':TH)(w:World)(r:TE)(e:Ending)(w':World):Prop :=
 ∃ρ',zg.le h.next ρ ρ'/\WR P Z ρ' h' w'/\Below Z w w'/\h.next<=h'.next/\match r with
  | .ret v=>∃v',e=.returned v'/\VR ρ' v v'
  | .panic v=>∃v',e=.panicked [{ v:=v',recovered:=false }]/\VR ρ' v v'
def pE(P:Program)(C:wE):Prop:=∀f args h r h',C.fn f args h=some (r,h')->∀(Z:Nat) ρ w (args':LG),WR P Z ρ h w->Z<=w.heap.size->VL ρ args args' ->
 (∀w,(callFunc f args'.toArray).run P w=.ok (.enter f args'.toArray) w)/\CallsIn (Fr none) 0 P f args'.toArray w (kj P Z ρ h h' w r)
def mM(P:Program)(C:wE):Prop:=∀l args h b h',C.rd l args h=some (b,h')->∀(Z:Nat) ρ w (args':LG) loc,WR P Z ρ h w->Z<=w.heap.size->ρ l 0=some loc->VL ρ args args' ->
 ∃fn tmps assign body,(Instr.yield loc.r args'.toArray).run P w=.ok (.round loc.r fn tmps assign body) w/\RoundIn (Fr none) 0 P loc.r fn tmps assign body w (kj P Z ρ h h' w (.ret (.bool b)))
inductive pa(ρ:zg)(ca:LE):LZ->List Deferred->Prop
 | nil:pa ρ ca [] []
 | mark {b:Nat} {loc:yE} {l:LZ} {ds:List Deferred} (h:ρ b 0=some loc) (hl:pa ρ ca l ds):pa ρ ca (.mark b::l) ({ target:=.collected loc.r,args:=#[] }::ds)
 | caught {f:Nat} {p c:TV} {p' c':Value} {l:LZ} {ds:List Deferred} (h:ca.get f=some ()) (hp:VR ρ p p') (hc:VR ρ c c') (hl:pa ρ ca l ds):pa ρ ca (.caught p c::l) ({ target:=.fn (.func f) #[],args:=#[p',c'] }::ds)
theorem pa.mono{ca:LE}(hρ:∀b g loc,ρ b g=some loc->ρ' b g=some loc){l:LZ}{ds:List Deferred}(k:pa ρ ca l ds):pa ρ' ca l ds:=by
 induction k with
 | nil=>exact .nil
 | mark h _ a=>exact .mark (hρ _ _ _ h) a
 | caught h c d _ a=>exact .caught h (c.mono hρ) (d.mono hρ) a
structure uW(P:Program)(Z:Nat)(ρ:zg)(N:Nat)(ca:LE)(s:St)(a:Act)(w:World):Prop where
 wr:WR P Z ρ s.h w
 tm:yP ρ s.tm a.tmps
 sz:N<=a.tmps.size
 df:pa ρ ca s.df a.defers
 hZ:Z<=w.heap.size
variable (s:St)(d:LB)
theorem yP.put{tm:LA}(k:yP ρ tm a.tmps){d:LB}(hv:VR ρ v v')(hd:∀t,d=some t->t<a.tmps.size):yP ρ (match d with|none=>tm|some d=>tm.set d (some v)) (a.put d v').tmps:=by
 cases d with
 | none=>exact k
 | some d =>
  intro t u b;have f:=hd d rfl;simp only[Tr.get_set]at b;simp only[Act.put]
  by_cases c:t=d
  .subst c;rw[if_pos rfl]at b;injection b with b;subst b;exact⟨v',by simp[f],hv⟩
  .rw[if_neg c]at b;obtain⟨g,h1,h2⟩:=k t u b;exact⟨g,by rw[zBR9 (fun e=>c e.symm)];exact h1,h2⟩
theorem DM(a:Act)(d:LB)(v:Value):(a.put d v).tmps.size=a.tmps.size:=by cases d<;>simp[Act.put]
theorem DL(a:Act)(d:LB)(v:Value):(a.put d v).defers=a.defers:=by cases d<;>rfl
theorem St.put_df(v:TV):(s.put d v).df=s.df:=by cases d<;>rfl
theorem St.put_h(v:TV):(s.put d v).h=s.h:=by cases d<;>rfl
theorem uW.put{N:Nat}{ca:LE}{s:St}(k:uW P Z ρ N ca s a w){d:LB}(hv:VR ρ v v')(hd:∀t,d=some t->t<N):uW P Z ρ N ca (s.put d v) (a.put d v') w :=
 ⟨by rw[St.put_h];exact k.wr,by have:=k.tm.put (d:=d) hv (fun t b=>YS (hd t b) k.sz);cases d<;>exact this,by rw[DM];exact k.sz,by rw[St.put_df,DL];exact k.df,k.hZ⟩
structure nJ(P:Program)(N:Nat)(ops:LX)(o:Oper)(t:vl):Prop where
 op:yS P o.op=some (t.kind,t.args)
 dst:t.dst=o.dst
 lt:∀d,t.dst=some d->d<N
 guard:(o.guard=none/\t.guard=none)\/∃j b d,o.guard=some (j,b)/\(ops[j]?).bind (·.dst)=some d/\t.guard=some (.tmp d,b)
variable {b:Bool}{ops:LX}{t:vl}
theorem JI{N:Nat}(ht:iE P N ops o=some t):nJ P N ops o t:=by
 unfold iE at ht
 split at ht
 .cases ht
 .rename_i hb;have a:∀d,o.dst=some d->d<N:=fun d hd=>by grind
  split at ht
  .cases ht
  .rename_i kd args hk
   split at ht
   .rename_i hg;injection ht with ht;subst ht;exact⟨hk,rfl,a,.inl ⟨hg,rfl⟩⟩
   .rename_i j b hg
    split at ht
    .rename_i d hd;injection ht with ht;subst ht;exact⟨hk,rfl,a,.inr ⟨j,b,d,hg,hd,rfl⟩⟩
    .cases ht
def BT:AJ->LW
 | some (.bool b)=>some b
 | _=>none
theorem Yf(ops:LX)(tmps:LO)(j:Nat):yielded ops tmps j=BT (((ops[j]?).bind (·.dst)).bind (tmps[·]?)):=by
 unfold yielded BT
 grind
theorem XY{x:LD}{c:Bool}(hw:aq c x=some b){y:AJ}(hxy:∀v,x=some v->∃v',y=some v'/\VR ρ v v'):(BT y==some c)=b:=by
 unfold aq at hw
 split at hw
 .rename_i u;injection hw with hw;subst hw;obtain⟨v',a,d⟩:=hxy _ rfl
  cases d
  rw[a]
  cases c<;>cases u<;>rfl
 .rename_i v hv;injection hw with hw;subst hw;obtain⟨v',a,d⟩:=hxy _ rfl;rw[a]
  cases d<;>first|rfl|(exact absurd rfl (hv _))
 .cases hw
theorem ar{N:Nat}(k:nJ P N ops o t){tm:LA}{tmps:LO}(ht:yP ρ tm tmps)(hw:wM tm t.guard=some b):Region.wanted o (yielded ops tmps)=b:=by
 rcases k.guard with⟨h1,h2⟩|⟨j,c,d,h1,h2,h3⟩
 .rw[h2]at hw;injection hw with hw;subst hw;simp[Region.wanted,h1]
 .rw[h3]at hw;simp only[wM,mi]at hw;simp only[Region.wanted,h1];have:=XY (ρ:=ρ) hw (y:=tmps[d]?) (fun v a=>ht d v a);rw[Yf,h2];exact this
def bB(P:Program)(Z:Nat)(ρ:zg)(N:Nat)(ca:LE)(h0:TH)(w0:World)(r:TS)(e:Exit)(a':Act)(w':World):Prop :=
 ∃ρ',zg.le h0.next ρ ρ'/\Below Z w0 w'/\match r with
  | .go s=>h0.next<=s.h.next/\e=.normal/\uW P Z ρ' N ca s a' w'
  | .panic v s=>h0.next<=s.h.next/\∃v',e=.panic [{ v:=v',recovered:=false }]/\VR ρ' v v'/\uW P Z ρ' N ca s a' w'
variable {C:wE}{K:Act->World->Prop}{N:Nat}{Q:Exit->Act->World->Prop}{ca:LE}{r:TS}{s:St}
theorem eh{r:LB}(hd:∀c,o.op=.defer c->r=none)(h1:o.uponIn (Fr r) 0 P a K Q ((execOp a.eval o).run P w)):o.wpIn (Fr r) 0 P a w K Q:=by
 refine⟨fun _ _=>trivial,?_⟩;have:o.semAt (Fr r).round a.eval=execOp a.eval o:=by
  unfold Oper.semAt
  split
  .rename_i l c hr ho;have:=hd c ho;simp[Fr,this]at hr
  .rfl
 grind
inductive lw(args:List vy):zh->Op->Prop
 | call {f:Operand} {xs:AG} {ts:Array TypeId} (hm:uI ky (f::xs.toList)=some args):lw args .call (.call { callee:=.value f,args:=xs,argTypes:=ts })
 | panic {x:Operand} (hm:uI ky [x]=some args):lw args .panic (.panic x)
 | panicB {x:Operand} {ts:Array TypeId} (hm:uI ky [x]=some args):lw args .panic (.call { callee:=.builtin .panic,args:=#[x],argTypes:=ts })
 | defer {f:Operand} {xs:AG} {ts:Array TypeId} (hm:uI ky (f::xs.toList)=some args):lw args .defer (.defer { callee:=.value f,args:=xs,argTypes:=ts })
theorem Dv{op:Op}{args:List vy}(ho:yS P op=some (kd,args))(hk:kd=.call\/kd=.panic\/kd=.defer):lw args kd op:=by
 have key:∀{k0:zh} {d:AP},mk k0 d=some (kd,args)->kd=k0/\uI ky d=some args:=fun a=>dw a;have e:∀{α:Prop} {k0:zh} {d:AP},mk k0 d=some (kd,args)->k0 ≠ .call/\k0 ≠ .panic/\k0 ≠ .defer->α:=fun a h1=>by grind
 cases op with
 | makeFunc j first l=>cases j<;>simp only[yS]at ho<;>(repeat' (split at ho))<;>first|(cases ho;done)|exact e ho (by simp)
 | call c =>
  obtain⟨g,h,k⟩:=c
  cases g with
  | value f=>obtain⟨rfl,a⟩:=key ho;exact .call a
  | invoke r m=>cases ho
  | builtin b =>
   simp only[yS]at ho;(repeat' (split at ho))<;>first|(cases ho;done)|(refine e ho ?_;simp;done)|skip
   rename_i i;obtain⟨rfl,a⟩:=key ho;obtain⟨d⟩:=h
   match d,i with
   | [x],_=>exact .panicB a
 | defer c =>
  obtain⟨g,h,k⟩:=c
  cases g<;>first|(cases ho;done)|(obtain⟨rfl,a⟩:=key ho;exact .defer a)
 | panic x=>obtain⟨rfl,a⟩:=key ho;exact .panic a
 | _=>first|(cases ho;done)|exact e ho (by simp)|(simp only[yS]at ho;(repeat' (split at ho))<;>first|(cases ho;done)|exact e ho (by simp))
theorem Ff(hn:kd ≠ .call/\kd ≠ .panic/\kd ≠ .defer){r:TR}(ha:act C ca kd vs h=some r):∃v h',r=.ok v h':=by
 have c:∀{b:Bool} {x y:LY},(bif b then x else y)=some r->x=some r\/y=some r:=fun{b} _ _ e=>by grind
 have fin:∀{v h'} {r:TR},some (TR.ok v h')=some r->∃v h',r=.ok v h':=fun e=>by grind
 have d:∀{e esz by_ m:Nat} {s:TV} {news:LK},mc h e esz by_ s m news=some r->∃v h',r=.ok v h':=fun ha=>by
  unfold mc at ha
  split at ha
  .rcases c ha with ha|ha
   .grind
   .simp only[lH]at ha
    grind
  .rcases c ha with ha|ha
   .grind
   .obtain⟨_,ha1⟩:=ve ha;obtain⟨_,a⟩:=ve ha1;obtain⟨_,f⟩:=ve a
    split at f
    .unfold rZ at f
     grind
    grind
  grind
 cases kd<;>simp only[act]at ha<;>first|(cases ha;done)|(exact absurd rfl hn.1)|(exact absurd rfl hn.2.1)|(exact absurd rfl hn.2.2)|skip
 case store n =>
  unfold bF at ha
  split at ha
  .obtain⟨_,ha1⟩:=ve ha;obtain⟨_,a⟩:=ve ha1
   split at a
   .exact fin a
   .cases a
  .cases ha
 case mupd kf =>
  unfold nL at ha
  split at ha
  .obtain⟨_,ha1⟩:=ve ha
   split at ha1
   .unfold oE at ha1
    split at ha1
    .split at ha1
     .cases ha1
     .exact fin ha1
     .exact fin ha1
    .cases ha1
   .cases ha1
  .cases ha
 case ment kf z =>
  unfold rU at ha
  split at ha
  .obtain⟨_,ha1⟩:=ve ha
   split at ha1
   .unfold Dh at ha1
    split at ha1
    .split at ha1
     .cases ha1
     .exact fin ha1
     .exact fin ha1
    .cases ha1
   .cases ha1
  .cases ha
 case estore =>
  unfold rT at ha
  split at ha
  .split at ha
   .split at ha
    .unfold Ch at ha
     split at ha
     .split at ha
      .cases ha
      .exact fin ha
     .cases ha
    .cases ha
   .cases ha
  .cases ha
 case append e n b =>
  unfold bE at ha
  split at ha
  .unfold r9 at ha
   split at ha
   .cases ha
   .exact d ha
  .cases ha
 case appz e n b z =>
  unfold cR at ha
  split at ha
  .obtain⟨_,ha1⟩:=ve ha;obtain⟨_,a⟩:=ve ha1;exact d a
  .cases ha
 case copy n =>
  unfold mQ at ha
  split at ha
  .dsimp only at ha
   split at ha
   .cases ha
   .split at ha
    .exact fin ha
    .rcases c ha with ha|ha
     .exact fin ha
     .obtain⟨_,ha1⟩:=ve ha
      split at ha1
      .exact fin ha1
      .cases ha1
    .cases ha
  .cases ha
theorem Gm{k:zh}(h0:k.cls≠0)(h1:k.cls≠1):k.cls=2:=by cases k<;>simp[zh.cls]at h0 h1⊢
theorem XU{r:LB}{f:FuncId}{args:LO}(h:CallsIn (Fr none) 0 P f args w fun
  | .returned v,w''=>K (a.put o.dst v) w''
  | .panicked chain,w''=>Q (.panic chain) a w''
  | .outgrown,_=>LetsOut Q):o.uponIn (Fr r) 0 P a K Q (.ok (.enter f args) w):=⟨fun h=>by simp[Fr,Fence.wide]at h,h⟩
theorem uW.world(k:uW P Z ρ N ca s a w){n:Nat}(hle:zg.le n ρ ρ')(hw:WR P Z ρ' h' w')(hb:Below Z w w'):uW P Z ρ' N ca ⟨s.tm,s.df,h'⟩ a w' :=
 ⟨hw,k.tm.mono hle.more,k.sz,k.df.mono hle.more,YY k.hZ hb.size⟩
theorem JT{rnd:LB}(k:WR P Z ρ h w)(ktm:yP ρ tm a.tmps)(ko:nJ P N ops o t)(hv:kw tm t.args=some vs)(h0:t.kind.cls=0){v:TV}(hp:uE t.kind vs h=some v)(hK:∀v',VR ρ v v'->K (a.put o.dst v') w):o.wpIn (Fr rnd) 0 P a w K Q:=by
 obtain⟨v',h1,h2⟩:=Ae k ko.op h0 ktm hv hp;refine eh (fun c f=>?_) ?_
 .exfalso
  have b:=ko.op;rw[f]at b;obtain⟨d,g,i⟩:=c
  cases d<;>first|(cases b;done)|(obtain⟨e,_⟩:=dw b;rw[e]at h0;cases h0)
 .rw[h1,Oper.uponIn_value]
  grind
theorem Io{rnd:LB}(k:WR P Z ρ h w)(hZ:Z<=w.heap.size)(ktm:yP ρ tm a.tmps)(ko:nJ P N ops o t)(hv:kw tm t.args=some vs)(h1:t.kind.cls=1){b:Nat}(hnone:∀g,ρ b g=none)(hb:b<h.next){x:uA}(hp:lay t.kind vs b=some x)(hx:h.get b=some x.o)(hK:∀v' w1 L S,WR P Z (ρ.add b 0 ⟨w.heap.size,L,S⟩) h w1->VR (ρ.add b 0 ⟨w.heap.size,L,S⟩) x.v v'->Below Z w w1->K (a.put o.dst v') w1):o.wpIn (Fr rnd) 0 P a w K Q:=by
 obtain⟨v',w1,L,S,i,l,m,n⟩:=s9 k hnone hb hZ ko.op h1 ktm hv hp hx;refine eh (fun c j=>?_) ?_
 .exfalso
  have d:=ko.op;rw[j]at d;obtain⟨f,p,q⟩:=c
  cases f<;>first|(cases d;done)|(obtain⟨e,_⟩:=dw d;rw[e]at h1;cases h1)
 .rw[i,Oper.uponIn_value]
  grind
theorem Fg(hC:pE P C)(hR:mM P C){rnd:LB}(hrnd:rnd=none\/∀f,ca.get f=none){df:LZ}(k:WR P Z ρ h w)(hZ:Z<=w.heap.size)(ktm:yP ρ tm a.tmps)(kdf:pa ρ ca df a.defers)(ko:nJ P N ops o t)(hv:kw tm t.args=some vs)(h2:t.kind.cls=2){r:TR}(hd:act C ca t.kind vs h=some r)(hOk:∀v h',r=.ok v h'->∀v' w' ρ',zg.le h.next ρ ρ'->WR P Z ρ' h' w'->Below Z w w'->VR ρ' v v'->h.next<=h'.next->K (a.put o.dst v') w')(hPan:∀v h',r=.panic v h'->∀v' w' ρ',zg.le h.next ρ ρ'->WR P Z ρ' h' w'->Below Z w w'->VR ρ' v v'->h.next<=h'.next->Q (.panic [{ v:=v',recovered:=false }]) a w')(hDfr:∀d,r=.dfr d->∀d',pa ρ ca (d::df) (d'::a.defers)->K ({ a with defers:=d'::a.defers }.put o.dst undef) w):o.wpIn (Fr rnd) 0 P a w K Q:=by
 by_cases L:t.kind=.call
 ·-- a call
  have j:=Dv ko.op (.inl L);rw[L]at j hd;generalize G:o.op=op at j
  cases j with
  | call i =>
   rename_i f m ts;have q:=bO ktm i hv;simp only[YL]at q;simp only[act]at hd;unfold eJ at hd
   split at hd
   .rename_i g cap args;obtain⟨f',av,I,z,s⟩:=q.oc
    cases I
    generalize R:a.eval f=fv at z
    cases z with
    | fn ab a0 =>
     rename_i A
     cases B:C.fn g (args++cap) h with
     | none=>rw[B]at hd;cases hd
     | some ad =>
      obtain⟨te,h'⟩:=ad;rw[B]at hd;obtain⟨a5,a2⟩:=hC g _ _ te h' B Z ρ w (m.toList.map a.eval++A) k hZ (s.app ⟨ab,a0⟩);have D:(execOp a.eval o).run P w=.ok (.enter g (m.toList.map a.eval++A).toArray) w:=by
       have J:m.map a.eval++A.toArray=(m.toList.map a.eval++A).toArray:=by grind
       simp only[execOp,G,resolve,R,Deferred.ofValue,Sem.run_bind,Sem.run_pure,Result.andThen_ok,invoke,Array.empty_append,J];exact a5 w
      refine eh (fun c y=>by grind) ?_;rw[D];refine XU (a2.mono ?_);rintro e w' ⟨ρ',T,U,V,X,he⟩
      cases te with
      | ret v =>
       obtain⟨v',rfl,S⟩:=he;simp only[fd]at hd
       cases hd
       exact hOk v h' rfl v' w' ρ' T U V S X
      | panic v =>
       obtain⟨v',rfl,S⟩:=he;simp only[fd]at hd
       cases hd
       exact hPan v h' rfl v' w' ρ' T U V S X
   .rename_i l args;obtain⟨f',av,I,z,s⟩:=q.oc
    cases I
    generalize R:a.eval f=fv at z
    cases z with
    | yield a6 =>
     rename_i loc
     cases B:C.rd l args h with
     | none=>rw[B]at hd;cases hd
     | some ad =>
      obtain⟨b,h'⟩:=ad;rw[B]at hd;simp only[EI]at hd
      cases hd
      obtain⟨fn,tmps,assign,body,hy,a7⟩:=hR l _ _ b h' B Z ρ w (m.toList.map a.eval) loc k hZ a6 s;have D:(execOp a.eval o).run P w=.ok (.round loc.r fn tmps assign body) w:=by
       have J:m.map a.eval=(m.toList.map a.eval).toArray:=by grind
       simp only[execOp,G,resolve,R,Deferred.ofValue,Sem.run_bind,Sem.run_pure,Result.andThen_ok,invoke,Array.empty_append,J];exact hy
      refine eh (fun c y=>by grind) ?_;rw[D,Oper.uponIn_round];refine⟨fun h=>by simp[Fr,Fence.wide]at h,Wl.2 (a7.mono ?_)⟩;rintro e w' ⟨ρ',T,U,V,X,v',rfl,S⟩;exact hOk _ h' rfl v' w' ρ' T U V S X
   .cases hd
 .by_cases M:t.kind=.panic
  .have j:=Dv ko.op (.inr (.inl M));rw[M]at j hd;simp only[act]at hd;unfold Fa at hd
   split at hd
   .rename_i ty u
    cases hd
    have fin:∀x:Operand,uI ky [x]=some t.args->(execOp a.eval o).run P w=.halt (.panic (a.eval x)) w->(∀c,o.op ≠ .defer c)->o.wpIn (Fr rnd) 0 P a w K Q:=fun x i D a8=>by
     have q:=bO ktm i hv;have Y:=q.uno rfl;refine eh (fun c y=>absurd y (a8 c)) ?_;rw[D,Oper.uponIn_panic];exact hPan _ _ rfl _ w ρ (zg.le.refl _ _) k (Below.refl _ _) Y (Ym _)
    have a1:∀x:Operand,uI ky [x]=some t.args->(Instr.panic (a.eval x)).run P w=.halt (.panic (a.eval x)) w:=fun x i=>by
     have q:=bO ktm i hv;have Y:=q.uno rfl;generalize a.eval x=xv at Y
     cases Y
     simp[Instr.panic,goPanic]
    generalize G:o.op=op at j
    cases j with
    | panic i =>
     refine fin _ i ?_ (fun c y=>by grind);simp only[execOp,G,Sem.run_bind,a1 _ i];rfl
    | panicB i =>
     refine fin _ i ?_ (fun c y=>by grind);simp only[execOp,G,dP];simp[builtin,a1 _ i]
   .cases hd
  .by_cases O:t.kind=.defer
   .have j:=Dv ko.op (.inr (.inr O));rw[O]at j hd;simp only[act]at hd;unfold Bz at hd
    split at hd
    .rename_i g p c
     split at hd
     .rename_i u hca
      cases hd
      generalize G:o.op=op at j
      cases j with
      | defer i =>
       rename_i f m ts;have q:=bO ktm i hv;simp only[YL]at q;obtain⟨f',av,I,z,s⟩:=q.oc;injection I with I e2;subst I;obtain⟨p',bb,e3,hp,s⟩:=s.oc;obtain⟨c',bm,e4,y,s⟩:=s.oc;obtain rfl:=s.oN;subst e4;subst e3;have a9:rnd=none:=by grind
       generalize R:a.eval f=fv at z
       cases z with
       | fn ab a0 =>
        rename_i A;have a4:A=[]:=by cases A;rfl;simp at ab
        subst a4;have D:(execOp a.eval o).run P w=.ok (.defer { target:=.fn (.func g) #[],args:=#[p',c'] }) w:=by
         have J:m.map a.eval=#[p',c']:=by grind
         simp only[execOp,G,resolve,R,Deferred.ofValue,Sem.run_bind,Sem.run_pure,Result.andThen_ok,J];rfl
        refine eh (fun _ _=>a9) ?_;rw[D,Oper.uponIn_defer];exact hDfr _ rfl _ (.caught hca hp y kdf)
     .cases hd
    .cases hd
   ·-- what calls nothing
    cases r with
    | ok v h' =>
     obtain⟨n,v',w',ρ',g1,g2,g3,g4,g5,g6,g7⟩:=rW k hZ ko.op h2 ⟨L,M,O⟩ ktm hv hd;refine eh (fun c y=>?_) ?_
     .exfalso
      have hk:=ko.op;rw[y]at hk;obtain⟨a3,m,ts⟩:=c
      cases a3<;>first|(cases hk;done)|(obtain⟨e,_⟩:=dw hk;grind)
     .have ah:K (a.put o.dst v') w':=hOk _ _ rfl v' w' ρ' g3 g4 g5 g6 g7;rcases g2 with rfl|⟨rfl,rfl⟩
      .rw[g1,Oper.uponIn_value];exact ah
      .rw[g1,Oper.uponIn_skip];exact ah
    | panic v h'=>obtain⟨_,_,e⟩:=Ff ⟨L,M,O⟩ hd;cases e
    | dfr d=>obtain⟨_,_,e⟩:=Ff ⟨L,M,O⟩ hd;cases e
theorem PZ(hC:pE P C)(hR:mM P C){rnd:LB}(hrnd:rnd=none\/∀f,ca.get f=none)(k:uW P Z ρ N ca s a w)(ko:nJ P N ops o t)(hv:kw s.tm t.args=some vs)(hd:mW C ca t s vs=some r)(hK:∀a' w',bB P Z ρ N ca s.h w r .normal a' w'->K a' w')(hQ:∀ch a' w',bB P Z ρ N ca s.h w r (.panic ch) a' w'->Q (.panic ch) a' w'):o.wpIn (Fr rnd) 0 P a w K Q:=by
 have j:∀{ρ':zg} {s':St} {a:Act} {w':World} {v:TV} {v':Value},uW P Z ρ' N ca s' a w'->VR ρ' v v'->uW P Z ρ' N ca (s'.put t.dst v) (a.put o.dst v') w':=fun k' y=>by
  rw[<- ko.dst];exact k'.put y ko.lt
 unfold mW at hd
 by_cases h0:t.kind.cls=0
 .rw[h0]at hd;simp only[Ad]at hd
  split at hd
  .rename_i v hp
   cases hd
   exact JT k.wr k.tm ko hv h0 hp fun v' h2=>hK _ _ ⟨ρ,zg.le.refl _ _,Below.refl _ _,by rw[St.put_h];omega,rfl,j k h2⟩
  .cases hd
 .by_cases h1:t.kind.cls=1
  .rw[h1]at hd;simp only[Im]at hd
   split at hd
   .rename_i x hp
    cases hd
    have q:∀g,ρ s.h.next g=none:=fun g=>by
     cases A:ρ s.h.next g with
     | none=>rfl
     | some loc=>have:=(k.wr.dom _ _ _ A).1;omega
    refine Io (k.wr.push x.o) k.hZ k.tm ko hv h1 q (by rw[TH.nP];omega) hp (by rw[TH.gP,if_pos rfl]) fun v' M L S B D u=>?_;have G:=zg.add_more (loc:=⟨w.heap.size,L,S⟩) (q 0);have b:zg.le s.h.next ρ (ρ.add s.h.next 0 ⟨w.heap.size,L,S⟩):=⟨G,fun c O l g=>by rw[zg.add_ne zo];grind⟩
    exact hK _ _ ⟨_,b,u,by rw[St.put_h,TH.nP];omega,rfl,j (k.world b B u) D⟩
   .cases hd
  .have h2:=Gm h0 h1;rw[h2]at hd;change eL t.dst s (act C ca t.kind vs s.h)=some r at hd
   cases m:act C ca t.kind vs s.h with
   | none=>rw[m]at hd;cases hd
   | some R =>
    rw[m]at hd;refine Fg hC hR hrnd k.wr k.hZ k.tm k.df ko hv h2 m (fun v h' e v' w' ρ' b n i p l=>?_) (fun v h' e v' w' ρ' b n i p l=>?_) (fun d e I z=>?_)
    .subst e;simp only[eL]at hd
     cases hd
     exact hK _ _ ⟨ρ',b,i,by rw[St.put_h];exact l,rfl,j (k.world b n i) p⟩
    .subst e;simp only[eL]at hd
     cases hd
     exact hQ _ _ _ ⟨ρ',b,i,l,v',rfl,p,k.world b n i⟩
    .subst e;simp only[eL]at hd
     cases hd
     have J:uW P Z ρ N ca ⟨s.tm,d::s.df,s.h⟩ { a with defers:=I::a.defers } w:=⟨k.wr,k.tm,k.sz,z,k.hZ⟩
     exact hK _ _ ⟨ρ,zg.le.refl _ _,Below.refl _ _,by rw[St.put_h];grind,rfl,j J (VR.undef ρ)⟩
theorem bB.trans{h0 h1:TH}{w0 w1:World}(hle:zg.le h0.next ρ ρ')(hb:Below Z w0 w1)(hn:h0.next<=h1.next){e:Exit}{a':Act}(k:bB P Z ρ' N ca h1 w1 r e a' w'):bB P Z ρ N ca h0 w0 r e a' w':=by
 obtain⟨a,h1,h2,h3⟩:=k;refine⟨a,hle.trans h1 hn,hb.trans h2,?_⟩
 grind
theorem Lj(hC:pE P C)(hR:mM P C){rnd:LB}(hrnd:rnd=none\/∀f,ca.get f=none)(k:uW P Z ρ N ca s a w)(ko:nJ P N ops o t)(hs:pA C ca t s=some r)(hK:∀a' w',bB P Z ρ N ca s.h w r .normal a' w'->K a' w')(hQ:∀ch a' w',bB P Z ρ N ca s.h w r (.panic ch) a' w'->Q (.panic ch) a' w'):
  (if Region.wanted o (yielded ops a.tmps)then o.wpIn (Fr rnd) 0 P a w K Q else(∀f,o.about P w a.eval=some f->(Fr rnd).fn f)/\K (a.put o.dst undef) w):=by
 unfold pA at hs
 split at hs
 .cases hs
 .rename_i hw;injection hs with hs;subst hs;rw[ar ko k.tm hw];simp only[Zi,if_false];refine⟨fun _ _=>trivial,hK _ _ ⟨ρ,zg.le.refl _ _,Below.refl _ _,by rw[St.put_h];exact Ym _,rfl,?_⟩⟩;rw[<- ko.dst];exact k.put (VR.undef ρ) ko.lt
 .rename_i hw;rw[ar ko k.tm hw];simp only[if_true]
  split at hs
  .cases hs
  .rename_i vs hv;exact PZ hC hR hrnd k ko hv hs hK hQ
theorem Lm(hC:pE P C)(hR:mM P C){rnd:LB}(hrnd:rnd=none\/∀f,ca.get f=none):∀(ts:List vl) (is:LN) (s:St) (a:Act) (w:World) (ρ:zg) (r:TS),
  is.length=ts.length->(∀(j:Nat) t,ts[j]?=some t->∃i o,is[j]?=some i/\ops[i]?=some o/\nJ P N ops o t)->uW P Z ρ N ca s a w->kc C ca ts s=some r->(∀e a' w',bB P Z ρ N ca s.h w r e a' w'->Q e a' w')->wpOpsIn (Fr rnd) 0 P ops Q is a w
 | [],is,s,a,w,ρ,r,d,_,k,b,g=>by
  have:is=[]:=by cases is;rfl;simp at d
  subst this;simp only[kc]at b;injection b with b;subst b;exact g _ _ _ ⟨ρ,zg.le.refl _ _,Below.refl _ _,Ym _,rfl,k⟩
 | t::ts,is,s,a,w,ρ,r,d,l,k,b,g=>by
  cases is with
  | nil=>simp at d
  | cons i is =>
   obtain⟨B,o,hi,q,m⟩:=l 0 t rfl;simp at hi;subst hi;rw[wpOpsIn_cons];unfold wpOpIn;rw[q];simp only[kc]at b;have n:∀(j:Nat) t,ts[j]?=some t->∃i o,is[j]?=some i/\ops[i]?=some o/\nJ P N ops o t:=fun j u x=>l (j+1) u (by simpa using x)
   split at b
   .rename_i s' hs1;refine Lj hC hR hrnd k m hs1 (fun a' w' c=>?_) (fun y a' w' c=>?_)
    .obtain⟨ρ',hle,hb,hn,_,k'⟩:=c;exact Lm hC hR hrnd ts is s' a' w' ρ' r (by simpa using d) n k' b fun e z A p=>g e z A (p.trans hle hb hn)
    .obtain⟨_,_,_,_,e,_⟩:=c
     cases e
   .rename_i hs1;refine Lj (r:=r) hC hR hrnd k m b (fun a' w' c=>?_) (fun y a' w' c=>g _ _ _ c)
    cases r with
    | go s'=>exact absurd b (hs1 s')
    | panic v s'=>obtain⟨_,_,_,_,_,e,_⟩:=c;cases e
def XR(ρ:zg)(x:TX)(e:Exit):Prop:=match x with
 | .norm=>e=.normal
 | .exit id=>e=.exit id
 | .goto l=>e=.goto l
 | .ret=>e=.ret
 | .panic v=>∃v',e=.panic [{ v:=v',recovered:=false }]/\VR ρ v v'
def CR(P:Program)(Z:Nat)(ρ:zg)(N:Nat)(ca:LE)(h0:TH)(w0:World)(x:TX)(s:St)(e:Exit)(a':Act)(w':World):Prop :=
 ∃ρ',zg.le h0.next ρ ρ'/\Below Z w0 w'/\h0.next<=s.h.next/\XR ρ' x e/\uW P Z ρ' N ca s a' w'
variable {x:TX}
theorem CR.trans{h0 h1:TH}{w0 w1:World}(hle:zg.le h0.next ρ ρ')(hb:Below Z w0 w1)(hn:h0.next<=h1.next){e:Exit}{a':Act}{w':World}(k:CR P Z ρ' N ca h1 w1 x s e a' w'):CR P Z ρ N ca h0 w0 x s e a' w':=by
 obtain⟨a,h1,h2,h3,h4,b⟩:=k;exact⟨a,hle.trans h1 hn,hb.trans h2,YY hn h3,h4,b⟩
theorem Ho:∀(ts:List vl) (tm:LA) (t:Nat) v,(aL ts tm).get t=some v->tm.get t=some v
 | [],tm,t,v,h=>h
 | o::ts,tm,t,v,h=>by
  simp only[aL]at h;have:=Ho ts _ t v h
  split at this
  .rw[Tr.get_set]at this
   grind
  .exact this
theorem uW.forget(k:uW P Z ρ N ca s a w){tm:LA}(ht:∀t v,tm.get t=some v->s.tm.get t=some v):uW P Z ρ N ca ⟨tm,s.df,s.h⟩ a w :=
 ⟨k.wr,fun t v b=>k.tm t v (ht t v b),k.sz,k.df,k.hZ⟩
theorem VY{C:wE}(hC:pE P C)(hR:mM P C){rnd:LB}(hrnd:rnd=none\/∀f,ca.get f=none){id:Nat}{ops:LX}{ts:List vl}(hts:uI (iE P N ops) ops.toList=some ts)(k:uW P Z ρ N ca s a w){s':St}(hs:rp (aL ts) (kc C ca ts s)=some (x,s')):
  (Code.region id ops false).wpIn (Fr rnd) 0 P (CR P Z ρ N ca s.h w x s') a w:=by
 obtain⟨h1,h2⟩:=oz hts;refine wpIn_region ?_
 cases c:kc C ca ts s with
 | none=>rw[c]at hs;cases hs
 | some r =>
  rw[c]at hs;refine Lm hC hR hrnd ts _ s a w ρ r (by simp[h1]) (fun j t m=>?_) k c fun e q w' b=>?_
  .have i:j<ops.size:=by have:=(Yl.1 m).1;rw[h1]at this;simpa using this
   refine⟨j,ops[j],by simp[i],Zf i,JI (h2 j ops[j] t (by simp[i]) m)⟩
  .obtain⟨ρ',hle,hb,b⟩:=b
   cases r with
   | go n =>
    obtain⟨l,rfl,k'⟩:=b;simp only[rp]at hs;injection hs with hs;injection hs with d g;subst d;subst g;exact⟨ρ',hle,hb,l,rfl,k'⟩
   | panic v n =>
    obtain⟨l,v',rfl,o,k'⟩:=b;simp only[rp]at hs;injection hs with hs;injection hs with d g;subst d;subst g;exact⟨ρ',hle,hb,l,⟨v',rfl,o⟩,k'.forget fun t u p=>Ho ts _ t u p⟩
theorem tc{f:TV->TV->Bool}(hf:∀a b,f a b=true->a=b):∀{l m:LK},bZ f l m=true->l=m
 | [],[],_=>rfl
 | a::l,b::m,h=>by
  simp only[bZ]at h
  cases c:f a b
  .grind
  .rw[c]at h;rw[hf a b c,tc hf h]
 | [],_::_,h=>by cases h
 | _::_,[],h=>by cases h
theorem oI{b:TV}{n:Nat}(h:Nat.beq (mA b) n=true):mA b=n:=Yo h
theorem zn{a b:Bool}(h:(bif a then b else false)=true):a=true/\b=true:=by cases a<;>simp_all
theorem TV.beq_sound:∀(n:Nat) (a b:TV),TV.beq n a b=true->a=b
 | 0,_,_,h=>by cases h
 | n+1,a,b,h=>by
  have d:=TV.beq_sound n
  cases a with
  | bool x =>
   cases b<;>simp only[TV.beq,FF]at h<;>try cases h
   rename_i y
   cases x<;>cases y<;>simp_all
  | int k x =>
   cases b<;>simp only[TV.beq,BN]at h<;>try cases h
   obtain⟨h1,h2⟩:=zn h;rw[x9]at h2;rw[fq h1,eq_of_beq h2]
  | str s =>
   cases b<;>simp only[TV.beq,FH]at h<;>try cases h
   rw[iz]at h;rw[eq_of_beq h]
  | ptr c g o e =>
   cases b<;>simp only[TV.beq,sc]at h<;>try cases h
   obtain⟨h1,h⟩:=zn h;obtain⟨h2,h⟩:=zn h;obtain⟨h3,h⟩:=zn h;rw[Yo h1,Yo h2,Yo h3,Yo h]
  | sl c g o m q z =>
   cases b<;>simp only[TV.beq,sd]at h<;>try cases h
   obtain⟨h1,h⟩:=zn h;obtain⟨h2,h⟩:=zn h;obtain⟨h3,h⟩:=zn h;obtain⟨h4,h⟩:=zn h;obtain⟨i,h⟩:=zn h;rw[Yo h1,Yo h2,Yo h3,Yo h4,Yo i,Yo h]
  | map c =>
   cases b<;>simp only[TV.beq,FG]at h<;>try cases h
   rw[Yo h]
  | yield c =>
   cases b<;>simp only[TV.beq,FJ]at h<;>try cases h
   rw[Yo h]
  | fn f l =>
   cases b<;>simp only[TV.beq,BL]at h<;>try cases h
   obtain⟨h1,h⟩:=zn h;rw[Yo h1,tc d h]
  | iface t v =>
   cases b<;>simp only[TV.beq,BM]at h<;>try cases h
   obtain⟨h1,h⟩:=zn h;rw[Yo h1,d _ _ h]
  | agg l =>
   cases b<;>simp only[TV.beq,FC]at h<;>try cases h
   rw[tc d h]
  | tuple l =>
   cases b<;>simp only[TV.beq,FI]at h<;>try cases h
   rw[tc d h]
  | nilptr=>have:=oI (by simpa only[TV.beq]using h);cases b<;>simp[mA]at this;rfl
  | nilsl=>have:=oI (by simpa only[TV.beq]using h);cases b<;>simp[mA]at this;rfl
  | nilmap=>have:=oI (by simpa only[TV.beq]using h);cases b<;>simp[mA]at this;rfl
  | nilfn=>have:=oI (by simpa only[TV.beq]using h);cases b<;>simp[mA]at this;rfl
  | niliface=>have:=oI (by simpa only[TV.beq]using h);cases b<;>simp[mA]at this;rfl
theorem Me:∀{n i:Nat} {a b:LA},lh i n a b=true->∀j,i<=j->j<i+n->∃x,a.get j=some x/\b.get j=some x
 | 0,i,a,b,_,j,h1,h2=>by omega
 | n+1,i,a,b,h,j,h1,h2=>by
  unfold lh at h
  split at h
  .rename_i x y hx hy;obtain⟨c,d⟩:=zn h;have e:=TV.beq_sound _ _ _ c
   by_cases f:j=i
   .grind
   .exact Me d j zo zo
  .cases h
def lB(a b:TO):Prop:=(∀cs,a ≠ .ro cs)/\∀(P:Program) (ρ:zg) (c:Nat) (w:World),OR P ρ c w a->OR P ρ c w b
variable {b:Nat}{nm nm':LA}
theorem lB.refl(a:TO)(hn:∀cs,a ≠ .ro cs):lB a a:=⟨hn,fun _ _ _ _ h=>h⟩
theorem UB{a b:TO}(h:iB a b=true):lB a b:=by
 unfold iB at h
 split at h
 .rename_i e G M n c e' G' M' n' c';obtain⟨h1,d⟩:=zn h;obtain⟨h2,f⟩:=zn d;obtain⟨h3,j⟩:=zn f;obtain⟨h4,l⟩:=zn j;have m:=Yo h1;have o:=Yo h2;have p:=Yo h3;have q:=Yo h4;subst m;subst o;subst p;subst q;refine⟨fun cs h=>(by cases h),?_⟩;intro P ρ b w k;refine⟨k.1,k.2.1,fun g r s=>?_⟩;obtain⟨loc,cur,t,u,z,A,B,C,D⟩:=k.2.2 g r s;refine⟨loc,cur,t,u,z,A,B,C,fun i hi=>?_⟩;obtain⟨x,v,I,J,K,L⟩:=D i hi;obtain⟨y,N,O⟩:=Me l i (Yv _) zo
  grind
 .rename_i c c';have e:=Yo h;subst e;exact .refl _ (fun cs h=>by cases h)
 .cases h
theorem SU{k:zh}{x:uA}(hx:lay k vs b=some x):∀cs,x.o ≠ .ro cs:=by
 have h1:∀(e:Nat) (l:LK) cs,ui e l ≠ .ro cs:=fun e l cs h=>by cases h
 intro cs h
 cases k<;>simp only[lay]at hx<;>try cases hx
 case box e n =>
  unfold ft at hx
  split at hx
  .obtain⟨_,hx⟩:=ve hx;injection hx with hx;subst hx;cases h
  .cases hx
 case alloc e z =>
  unfold oi at hx
  split at hx
  .injection hx with hx;subst hx;cases h
  .cases hx
 case bslice e esz len z p =>
  unfold fu at hx;obtain⟨_,hx⟩:=ve hx
  split at hx
  .injection hx with hx;subst hx;cases h
  .cases hx
 case mkslice e esz by_ z =>
  unfold fw at hx
  split at hx
  .split at hx
   .obtain⟨_,hx⟩:=ve hx;obtain⟨_,hx⟩:=ve hx;obtain⟨_,hx⟩:=ve hx;injection hx with hx;subst hx;cases h
   .cases hx
  .cases hx
 case mkmap =>
  unfold oj at hx
  split at hx
  .injection hx with hx;subst hx;cases h
  .injection hx with hx;subst hx;cases h
  .cases hx
 case tobytes e =>
  unfold fx at hx
  split at hx
  .obtain⟨_,hx⟩:=ve hx;injection hx with hx;subst hx;cases h
  .cases hx
theorem SS{k:zh}{x:uA}(hx:lay k vs b=some x):mS x.v=some b:=by
 cases k<;>simp only[lay]at hx<;>try cases hx
 case box e n =>
  unfold ft at hx
  split at hx
  .obtain⟨_,hx⟩:=ve hx;injection hx with hx;subst hx;rfl
  .cases hx
 case alloc e z =>
  unfold oi at hx
  split at hx
  .injection hx with hx;subst hx;rfl
  .cases hx
 case bslice e n l z p =>
  unfold fu at hx;obtain⟨_,hx⟩:=ve hx
  split at hx
  .injection hx with hx;subst hx;rfl
  .cases hx
 case mkslice e n b z =>
  unfold fw at hx
  split at hx
  .split at hx
   .obtain⟨_,hx⟩:=ve hx;obtain⟨_,hx⟩:=ve hx;obtain⟨_,hx⟩:=ve hx;injection hx with hx;subst hx;rfl
   .cases hx
  .cases hx
 case mkmap =>
  unfold oj at hx
  split at hx
  .injection hx with hx;subst hx;rfl
  .injection hx with hx;subst hx;rfl
  .cases hx
 case tobytes e =>
  unfold fx at hx
  split at hx
  .obtain⟨_,hx⟩:=ve hx;injection hx with hx;subst hx;rfl
  .cases hx
def TH.sub(h h':TH):Prop:=∀b o,h.get b=some o->h'.get b=some o
theorem TH.sub.refl(h:TH):h.sub h:=fun _ _ k=>k
theorem TH.sub.trans{h1 h2 h3:TH}(k:h1.sub h2)(l:h2.sub h3):h1.sub h3:=fun b o a=>l b o (k b o a)
theorem TH.sub_push(h:TH)(o:TO):h.sub (h.push o):=fun b x a=>by rw[TH.gP,if_neg (by have:=TH.get_lt a;omega)];exact a
theorem Kg(k:h.sub h'){g o n:Nat}{l:LK}(hl:wK h b g o n=some l):wK h' b g o n=some l:=by
 unfold wK at hl⊢
 split at hl
 .rename_i x hx;rw[k _ _ hx];exact hl
 .cases hl
theorem EC{f g:TV->LD}(hfg:∀x v,f x=some v->g x=some v)(hv:um vs f=some v):um vs g=some v:=by
 unfold um at *
 grind
theorem X6{f g:TV->TV->LD}(hfg:∀x y v,f x y=some v->g x y=some v)(hv:ux vs f=some v):ux vs g=some v:=by
 unfold ux at *
 grind
theorem Vf(k:h.sub h'){kd:zh}(hv:uE kd vs h=some v):uE kd vs h'=some v:=by
 cases kd<;>first|exact hv|skip
 case load agg n =>
  refine EC (fun x v hv=>?_) hv;unfold ni at hv⊢
  split at hv
  .obtain⟨h1,hv⟩:=ve hv
   split at hv
   .rename_i l hl;rw[h1,Kg k hl];exact hv
   .cases hv
  .cases hv
 case tostr =>
  refine EC (fun x v hv=>?_) hv;unfold aZ at hv⊢
  split at hv
  .exact hv
  .split at hv
   .rename_i l hl;rw[Kg k hl];exact hv
   .cases hv
  .cases hv
 case look kf z ok =>
  refine X6 (fun x y v hv=>?_) hv;unfold aY at hv⊢;obtain⟨h1,hv⟩:=ve hv;rw[h1];simp only[cond_true]
  split at hv
  .exact hv
  .split at hv
   .rename_i o ho;rw[k _ _ ho];exact hv
   .cases hv
  .cases hv
 case len f =>
  refine EC (fun x v hv=>?_) hv;unfold iL at hv⊢
  split at hv
  .exact hv
  .unfold C5 at hv⊢
   split at hv
   .exact hv
   .split at hv
    .rename_i o ho;rw[k _ _ ho];exact hv
    .cases hv
   .cases hv
  .exact hv
  .cases hv
def Tr.sub(a b:LA):Prop:=∀t v,a.get t=some v->b.get t=some v
theorem Tr.sub.refl(a:LA):a.sub a:=fun _ _ k=>k
theorem Tr.sub.trans{a b c:LA}(k:a.sub b)(l:b.sub c):a.sub c:=fun t v h=>l t v (k t v h)
theorem fa{d:LB}(hd:pJ nm d v=some nm'):nm.sub nm'/\(∀t,d=some t->nm.get t=none/\nm'.get t=some v)/\∀t,d≠some t->nm'.get t=nm.get t:=by
 unfold pJ at hd
 split at hd
 .injection hd with hd;subst hd;exact⟨.refl _,fun t h=>(by cases h),fun t _=>rfl⟩
 .rename_i d
  split at hd
  .rename_i hn;injection hd with hd;subst hd;refine⟨fun t u a=>?_,fun t h=>?_,fun t h=>?_⟩
   .rw[Tr.get_set]
    grind
   .injection h with h;subst h;exact⟨hn,by rw[Tr.get_set,if_pos rfl]⟩
   .rw[Tr.get_set,if_neg (fun e=>h (by rw[e]))]
  .cases hd
theorem bM{df:LZ}{x:Option (LA)}{s:DS}(hd:dput df h x=some s):∃nm,x=some nm/\s=⟨nm,df,h⟩:=by
 cases x with
 | none=>cases hd
 | some nm=>simp only[dput]at hd;injection hd with hd;exact⟨nm,rfl,hd.symm⟩
theorem GN(k:nm.sub nm'){x:vy}(hv:mY tm nm x=some v):mY tm nm' x=some v:=by
 cases x<;>first|exact hv|exact k _ _ hv
theorem db(k:nm.sub nm'):∀{xs:List vy} {vs:LK},kN tm nm xs=some vs->kN tm nm' xs=some vs
 | [],vs,a=>a
 | x::xs,vs,a=>by
  unfold kN at a⊢
  split at a
  .cases a
  .rename_i v h1
   split at a
   .cases a
   .rename_i us h2;rw[GN k h1,db k h2];exact a
theorem ll(k:nm.sub nm'){g:Option (vy×Bool)}{b:Bool}(hv:pB tm nm g=some b):pB tm nm' g=some b:=by
 unfold pB at hv⊢
 split at hv
 .exact hv
 .rename_i x c
  cases a:mY tm nm x with
  | none=>rw[a]at hv;cases hv
  | some v=>rw[a]at hv;rw[GN k a];exact hv
theorem Le(f:Nat->LD):∀(l:LN),∃tx:LA,(∀t∈l,tx.get t=f t)/\∀t v,tx.get t=some v->t∈l/\f t=some v
 | []=>⟨.nil,fun t h=>by simp at h,fun t v h=>by simp[Tr.get_nil]at h⟩
 | t::l=>by
  obtain⟨tx,h1,h2⟩:=Le f l;refine⟨tx.set t (f t),fun u a=>?_,fun u v a=>?_⟩
  .rw[Tr.get_set]
   grind
  .rw[Tr.get_set]at a
   grind
noncomputable def rb (all:LM)(x:Item)(tm nm:LA)(t:Nat):LD:=mY tm nm (dA all x (.tmp t))
variable {tx:LA}{x:Item}
theorem GO{all:LM}{y:vy}(hy:dB y=true)(ht:∀t,Bf y=some t->tx.get t=rb all x tm nm t):mi tx y=mY tm nm (dA all x y):=by
 cases y with
 | tmp t=>exact ht t rfl
 | new t=>cases hy
 | const v=>rfl
 | fn f=>rfl
theorem GM{all:LM}:∀{ys:List vy},ys.all dB=true->(∀y∈ys,∀t,Bf y=some t->tx.get t=rb all x tm nm t)->kw tx ys=kN tm nm (ys.map (dA all x))
 | [],_,_=>rfl
 | y::ys,a,b=>by
  simp only[List.all_cons,Yr]at a;simp only[kw,kN,YL];rw[GO a.1 (b y Yp),GM a.2 fun z c=>b z (Ys _ c)]
theorem XZ{all:LM}{g:Option (vy×Bool)}(hy:∀p b,g=some (p,b)->dB p=true)(ht:∀p b t,g=some (p,b)->Bf p=some t->tx.get t=rb all x tm nm t):wM tx g=pB tm nm (g.map fun p=>(dA all x p.1,p.2)):=by
 cases g with
 | none=>rfl
 | some p =>
  obtain⟨p,b⟩:=p;simp only[wM,pB,Option.map_some];rw[GO (hy p b rfl) fun t h=>ht p b t rfl h]
theorem WR.set_none(k:WR P Z ρ h w)(hn:∀g,ρ b g=none)(x:TO):WR P Z ρ (h.set b x) w :=
 ⟨fun c g loc a=>by
  obtain⟨f,i,j⟩:=k.dom c g loc a;have d:c≠b:=fun e=>by rw[e,hn g]at a;cases a
  refine⟨f,i.imp id fun⟨cs,h1⟩=>⟨cs,?_⟩,j⟩;unfold TH.get TH.set at *
  dsimp only at *
  rw[Tr.get_set,if_neg d];exact h1,fun c g loc a=>by
  obtain⟨o,l,m⟩:=k.obj c g loc a;have d:c≠b:=fun e=>by rw[e,hn g]at a;cases a
  refine⟨o,?_,m⟩;unfold TH.get TH.set at *
  dsimp only at *
  rw[Tr.get_set,if_neg d];exact l,k.sep⟩
theorem WR.unset{x y:TO}(k:WR P Z ρ (h.set b x) w)(hy:h.get b=some y)(he:lB x y):WR P Z ρ h w :=
 ⟨fun c g loc d=>by
  obtain⟨i,j,l⟩:=k.dom c g loc d;refine⟨i,j.imp id fun⟨cs,h1⟩=>?_,l⟩;rw[TH.get_set _ _ _ _ (TH.get_lt hy)]at h1
  split at h1
  .rename_i e;subst e;injection h1 with h1;exact absurd h1 (he.1 cs)
  .exact⟨cs,h1⟩,fun c g loc d=>by
  obtain⟨o,a,f⟩:=k.obj c g loc d;rw[TH.get_set _ _ _ _ (TH.get_lt hy)]at a
  split at a
  .rename_i e;subst e;injection a with a;subst a;exact⟨y,hy,he.2 _ _ _ _ f⟩
  .exact⟨o,a,f⟩,k.sep⟩
theorem Hi(f:Nat->Nat):∀(l:List Edge) (s j:Nat),(l.foldl (fun s e=>if Region.binds .any e then Nat.lor (Nat.lor s (2 ^ e.on)) (f e.on)else s) s).testBit j=true↔s.testBit j=true\/∃e∈l,Region.binds .any e=true/\(j=e.on\/(f e.on).testBit j=true)
 | [],s,j=>by simp
 | e::l,s,j=>by
  rw[Z5,Hi f l]
  by_cases a:Region.binds .any e=true
  .rw[if_pos a];have:(Nat.lor (Nat.lor s (2 ^ e.on)) (f e.on)).testBit j=(s.testBit j||decide (e.on=j)||(f e.on).testBit j):=by
    change ((s ||| 2 ^ e.on) ||| f e.on).testBit j=_
    grind
   grind
  grind
theorem lJ:∀{l:AA} {i:Nat},eQ l i=true->∀k o,l[k]?=some o->∀e∈o.after,Region.binds .any e=true->e.on<i+k
 | [],i,_,k,o,h,_,_,_=>by simp at h
 | o::l,i,a,k,d,h,e,c,b=>by
  simp only[eQ,Yr]at a
  cases k with
  | zero =>
   simp at h;subst h;have:=Array.all_eq_true_iff_forall_mem.1 a.1 e c;simp[b]at this;simpa using this
  | succ k =>
   have:=lJ a.2 k d (by simpa using h) e c b;omega
theorem Ki:∀(l:AA) (acc:LN),eQ l acc.length=true->(y9 l acc).length=acc.length+l.length/\(∀i,i<acc.length->(y9 l acc).getD i 0=acc.reverse.getD i 0) /\
  ∀k o,l[k]?=some o->∀j,((y9 l acc).getD (acc.length+k) 0).testBit j=true↔∃e∈o.after.toList,Region.binds .any e=true/\(j=e.on\/((y9 l acc).getD e.on 0).testBit j=true)
 | [],acc,_=>⟨by simp[y9],fun i _=>rfl,fun k o h=>by simp at h⟩
 | o::l,acc,b=>by
  have f:=b;simp only[eQ,Yr]at b;have d:y9 (o::l) acc=y9 l (o.after.toList.foldl (fun s e=>if Region.binds .any e then Nat.lor (Nat.lor s (2 ^ e.on)) (acc.reverse.getD e.on 0)else s) 0::acc):=rfl;generalize n:o.after.toList.foldl (fun s e=>if Region.binds .any e then Nat.lor (Nat.lor s (2 ^ e.on)) (acc.reverse.getD e.on 0)else s) 0=m at d;obtain⟨h1,h2,h3⟩:=Ki l (m::acc) (by simpa using b.2);rw[d];simp only[Yq]at h1 h2 h3;have a:∀i,i<acc.length->(y9 l (m::acc)).getD i 0=acc.reverse.getD i 0:=fun i hi=>by grind
  refine⟨by simp only[Yq];omega,a,fun k p c j=>?_⟩
  cases k with
  | zero =>
   simp at c;subst c;have g:(y9 l (m::acc)).getD (acc.length+0) 0=m:=by simp_all
   rw[g];have key:=Hi (fun i=>acc.reverse.getD i 0) o.after.toList 0 j;rw[n]at key;refine key.trans ?_;simp only[Nat.zero_testBit,Zi,false_or]
   constructor
   .rintro ⟨e,a1,a2,a3⟩;have:=lJ f 0 o rfl e (by simpa using a1) a2;exact⟨e,a1,a2,by rw[a _ zo];exact a3⟩
   .rintro ⟨e,a1,a2,a3⟩;have:=lJ f 0 o rfl e (by simpa using a1) a2;exact⟨e,a1,a2,by rw[a _ zo]at a3;exact a3⟩
  | succ k =>
   have:=h3 k p (by simpa using c) j;rw[show acc.length+(k+1)=acc.length+1+k by omega];exact this
theorem HW:∀(os:List vl) (ms:LN) (i:Nat),os.length=ms.length->∀k x,(aQ os ms i)[k]?=some x↔(x.i=i+k/\os[k]?=some x.o/\ms[k]?=some x.m)
 | [],[],i,_,k,x=>by simp[aQ]
 | o::os,m::ms,i,d,k,x=>by
  simp only[aQ]
  cases k with
  | zero =>
   simp only[List.getElem?_cons_zero,Option.some.injEq]
   constructor
   .rintro rfl;exact⟨rfl,rfl,rfl⟩
   .rintro ⟨a,b,c⟩;cases x;simp_all
  | succ k =>
   simp only[Y2];rw[HW os ms (i+1) (by simpa using d) k x]
   constructor
   .rintro ⟨a,b⟩;exact⟨by omega,b⟩
   .rintro ⟨a,b⟩;exact⟨by omega,b⟩
 | [],_::_,i,d,_,_=>by simp at d
 | _::_,[],i,d,_,_=>by simp at d
structure gi(P:Program)(N:Nat)(ops:LX)(all acts:LM):Prop where
 item:∀i o,ops[i]?=some o->∃x∈all,x.i=i
 op:∀x∈all,∃o,ops[x.i]?=some o/\nJ P N ops o x.o
 uniq:∀x∈all,∀y∈all,x.i=y.i->x=y
 back:∀x∈all,∀o,ops[x.i]?=some o->∀e∈o.after,Region.binds .any e=true->e.on<x.i
 bits:∀x∈all,∀o,ops[x.i]?=some o->∀j,x.m.testBit j=true↔∃e∈o.after,Region.binds .any e=true/\(j=e.on\/∃y∈all,y.i=e.on/\y.m.testBit j=true)
 ac:acts=all.filter fun x=>x.o.kind.cls==2
 row:cB acts=true
 tmps:lg all=true
theorem gi.lt{N:Nat}{all acts:LM}(R:gi P N ops all acts){x:Item}(hx:x∈all):x.i<ops.size:=by
 obtain⟨o,a,_⟩:=R.op x hx
 grind
theorem P5{N:Nat}{os:List vl}(hos:uI (iE P N ops) ops.toList=some os){c:vw}(hc:su ops.toList os=some c):
  ∃all acts,gi P N ops all acts/\c=.drawn (ap all acts 0 acts) (all.filterMap fun x=>x.o.dst):=by
 unfold su at hc;dsimp only at hc
 split at hc
 .rename_i hcond;injection hc with hc;simp only[Yr]at hcond;obtain⟨⟨h1,h2⟩,h3⟩:=hcond;obtain⟨k,t⟩:=oz hos;obtain⟨q,_,r⟩:=Ki ops.toList [] h1;simp only[YK,Y6]at q r;have n:os.length=(y9 ops.toList []).length:=by rw[q,k]
  have get:=HW os (y9 ops.toList []) 0 n;have h:∀x,x∈aQ os (y9 ops.toList []) 0↔os[x.i]?=some x.o/\(y9 ops.toList [])[x.i]?=some x.m:=fun x=>by
   rw[ZI]
   simp_all
  have u:∀i,i<ops.size->∃x∈aQ os (y9 ops.toList []) 0,x.i=i/\x.m=(y9 ops.toList []).getD i 0:=fun i hi=>by
   have h1:i<os.length:=by rw[k];simpa using hi
   have h2:i<(y9 ops.toList []).length:=by rw[<- n];exact h1
   exact⟨⟨i,os[i],(y9 ops.toList [])[i]⟩,(h _).2 ⟨Yk h1,Yk h2⟩,rfl,by simp[Yu,Yk h2]⟩
  have v:∀x∈aQ os (y9 ops.toList []) 0,x.m=(y9 ops.toList []).getD x.i 0:=fun x f=>by grind
  refine⟨aQ os (y9 ops.toList []) 0,_,⟨fun i o g=>?_,fun x f=>?_,fun x f y s e=>?_,fun x f o g e w z=>?_,fun x f o g j=>?_,rfl,h2,h3⟩,hc.symm⟩
  .grind
  .obtain⟨a,b⟩:=(h x).1 f;have hi:x.i<ops.size:=by have:=(Yl.1 a).1;rw[k]at this;simpa using this
   exact⟨ops[x.i],Zf hi,JI (t x.i ops[x.i] x.o (by simp[hi]) a)⟩
  .obtain⟨a,b⟩:=(h x).1 f;obtain⟨c,d⟩:=(h y).1 s;rw[e,c]at a;rw[e,d]at b;injection a with a;injection b with b;obtain⟨C,D,G⟩:=x;obtain⟨I,J,K⟩:=y
   simp_all
  .have:=lJ h1 x.i o (by simpa using g) e w z;omega
  .rw[v x f,r x.i o (by simpa using g) j]
   constructor
   .rintro ⟨e,a1,a2,l⟩;have p:e∈o.after:=by simpa using a1
    refine⟨e,p,a2,?_⟩;rcases l with l|l
    .omega
    .have A:=lJ h1 x.i o (by simpa using g) e p a2;have B:=(Zd.1 g).1;obtain⟨y,s,L,M⟩:=u e.on zo
     grind
   grind
 .cases hc
def bu(all:LM)(D:AN):Prop:=∀x∈all,D.getD x.i true=true->∀j,x.m.testBit j=true->D.getD j true=true
variable {D:AN}{i:Nat}{y:Item}
theorem Q1(h:D.getD i false=true):D.getD i true=true:=by grind
theorem VS{N:Nat}{all acts:LM}(R:gi P N ops all acts)(hc:bu all D)(hx:x∈all)(hr:x.i∈Region.ready .any ops D):D.getD x.i true=false/\∀j,x.m.testBit j=true->D.getD j true=true:=by
 obtain⟨h0,o,d,a⟩:=mem_ready.1 hr;refine⟨h0,fun j f=>?_⟩;obtain⟨e,g,h,b⟩:=(R.bits x hx o d j).1 f;rcases b with rfl|⟨y,k,l,c⟩
 .grind
 .exact hc y k (by rw[l];exact Q1 (a e g h)) j c
theorem Kt{N:Nat}{all acts:LM}(R:gi P N ops all acts)(hs:D.size=ops.size)(hr:Region.ready .any ops D=[]):∀i,i<ops.size->D.getD i true=true:=by
 intro i
 induction i using Nat.strongRecOn with
 | _ i d =>
  intro hi
  cases hd:D.getD i true with
  | true=>rfl
  | false =>
   exfalso
   obtain⟨x,f,e⟩:=R.item i ops[i] (Zf hi);have:i∈Region.ready .any ops D:=mem_ready.2 ⟨hd,ops[i],Zf hi,fun b c g=>by
    have a:=R.back x f ops[i] (by rw[e];exact Zf hi) b c g;rw[e]at a;have h1:=d b.on a zo;simp only[ZL]at *
    rw[Zf zo]at *
    exact h1⟩
   rw[hr]at this
   cases this
theorem kO(D:AN)(i j:Nat)(hi:i<D.size):(D.setIfInBounds i true).getD j true=if j=i then true else D.getD j true:=by
 simp only[ZL]
 grind
theorem bu.set{all:LM}(hc:bu all D){N:Nat}{acts:LM}(R:gi P N ops all acts)(hx:x∈all)(hi:x.i<D.size)(hm:∀j,x.m.testBit j=true->D.getD j true=true):bu all (D.setIfInBounds x.i true):=by
 intro y b hd j a;rw[kO _ _ _ hi]at hd⊢
 split
 .rfl
 .split at hd
  .rename_i e;rw[R.uniq y b x hx e]at a;exact hm j a
  .exact hc y b hd j a
theorem sk(h:D.getD i true=false):0<D.toList.count false/\i<D.size:=by
 simp only[ZL]at h
 cases a:D[i]? with
 | none=>rw[a]at h;cases h
 | some b =>
  rw[a]at h;simp only[Option.getD_some]at h;subst h;have:=Zd.1 a;obtain⟨h1,h2⟩:=this;exact⟨List.count_pos_iff.2 (by rw[<- h2];exact Array.getElem_mem_toList h1),h1⟩
theorem PQ(h:D.getD i true=false):(D.setIfInBounds i true).toList.count false+1=D.toList.count false:=by
 obtain⟨a,hi⟩:=sk h;have b:D[i]=false:=by simpa[ZL,Zf hi]using h
 grind
theorem Ee:∀{l:LM} {a x:Item},cB (a::l)=true->x∈l->∃p∈a::l,x.m.testBit p.i=true
 | [],a,x,_,c=>by simp at c
 | b::l,a,x,d,c=>by
  simp only[cB,Yr]at d;rcases YA.1 c with rfl|c
  .grind
  .obtain⟨p,hp,e⟩:=Ee d.2 c
   grind
theorem Ef:∀(pre:LM) {l:LM},cB (pre++l)=true->cB l=true
 | [],l,h=>h
 | a::pre,l,h=>by
  refine Ef pre ?_
  cases c:pre++l with
  | nil=>rfl
  | cons b m =>
   rw[Yy,c]at h;simp only[cB,Yr]at h;exact h.2
theorem IU{pre l:LM}(h:∀a∈l,x.m.testBit a.i=false):pq (pre++l) x<=pre.length:=by
 unfold pq;rw[zCL9,Yn];have:l.filter (fun a=>x.m.testBit a.i)=[]:=List.filter_eq_nil_iff.2 fun a b=>by rw[h a b];simp
 grind
theorem XF{all:LM}(h:lg all=true)(hx:x∈all)(h2:x.o.kind.cls≠2):∃d,x.o.dst=some d:=by
 have:=YZ.1 h x hx
 grind
theorem Mc{all:LM}(h:lg all=true)(hx:x∈all)(hy:y∈all)(hne:y.i≠x.i){d:Nat}(hd:x.o.dst=some d):y.o.dst≠some d:=by
 have:=YZ.1 h x hx
 grind
theorem XH{all:LM}(h:lg all=true)(hx:x∈all):x.o.args.all dB=true/\∀p b,x.o.guard=some (p,b)->dB p=true:=by
 have:=YZ.1 h x hx
 grind
theorem XG{all:LM}(h:lg all=true)(hx:x∈all)(hy:y∈all){t:Nat}(ht:t∈ov x.o)(hd:y.o.dst=some t):x.m.testBit y.i=true\/y.m.testBit x.i=true:=by
 have:=YZ.1 h x hx
 grind
structure cO(all:LM)(D:AN)(ρ:zg)(tm nm:LA)(tmps:LO):Prop where
 old:∀t v,tm.get t=some v->(∀y∈all,D.getD y.i true=true->y.o.dst≠some t)->∃v',tmps[t]?=some v'/\VR ρ v v'
 new:∀y∈all,D.getD y.i true=true->∀d,y.o.dst=some d->∃v v',nm.get d=some v/\tmps[d]?=some v'/\VR ρ v v'
theorem cO.look{N:Nat}{ops:LX}{all acts:LM}(R:gi P N ops all acts)(hc:bu all D){tmps:LO}(k:cO all D ρ tm nm tmps)(hx:x∈all)(hu:D.getD x.i true=false)(hm:∀j,x.m.testBit j=true->D.getD j true=true):
  ∃tx,yP ρ tx tmps/\kw tx x.o.args=kN tm nm (yW all x).args/\wM tx x.o.guard=pB tm nm (yW all x).guard:=by
 obtain⟨tx,h1,h2⟩:=Le (rb all x tm nm) (ov x.o);obtain⟨g,h⟩:=XH R.tmps hx;refine⟨tx,fun t v l=>?_,GM g fun y a t d=>h1 t ?_,XZ h fun p b t n d=>h1 t ?_⟩
 .obtain⟨d,hs⟩:=h2 t v l;simp only[rb,dA]at hs
  split at hs
  .rename_i hany;obtain⟨y,a,c⟩:=List.any_eq_true.1 hany;simp only[Yr,beq_iff_eq]at c;obtain⟨q,v',r,s,u⟩:=k.new y a (hm _ c.2) t c.1;simp only[mY]at hs
   grind
  .rename_i hany;refine k.old t v hs fun y a hd f=>?_;rcases XG R.tmps hx a d f with e|e
   .grind
   .have:=hc y a hd _ e
    grind
 .unfold ov
  grind
 .unfold ov
  grind
theorem cO.step{N:Nat}{ops:LX}{all acts:LM}(R:gi P N ops all acts){nm':LA}{a:Act}(k:cO all D ρ tm nm a.tmps)(hρ:∀b g loc,ρ b g=some loc->ρ' b g=some loc)(hnm:nm.sub nm')(hx:x∈all)(hi:x.i<D.size){v':Value}(hv:∀d,x.o.dst=some d->d<a.tmps.size/\∃v,nm'.get d=some v/\VR ρ' v v'):cO all (D.setIfInBounds x.i true) ρ' tm nm' (a.put x.o.dst v').tmps:=by
 have put:∀t,x.o.dst≠some t->(a.put x.o.dst v').tmps[t]?=a.tmps[t]?:=fun t m=>by
  cases hd:x.o.dst with
  | none=>rfl
  | some d =>
   simp only[Act.put];rw[zBR9 (fun e=>m (by rw[hd,e]))]
 refine⟨fun t v l j=>?_,fun y c hd d f=>?_⟩
 .obtain⟨u,h1,h2⟩:=k.old t v l fun y c hd=>j y c (by rw[kO _ _ _ hi];split;rfl;exact hd);exact⟨u,by rw[put t (j x hx (by rw[kO _ _ _ hi,if_pos rfl]))];exact h1,h2.mono hρ⟩
 .rw[kO _ _ _ hi]at hd
  by_cases e:y.i=x.i
  .have:=R.uniq y c x hx e;subst this;obtain⟨h1,v,h2,h3⟩:=hv d f;exact⟨v,v',h2,by rw[f];simp[Act.put,h1],h3⟩
  .rw[if_neg e]at hd;obtain⟨v,u,h1,h2,h3⟩:=k.new y c hd d f;exact⟨v,u,hnm _ _ h1,by rw[put d (Mc R.tmps c hx (fun h=>e h.symm) f)];exact h2,h3.mono hρ⟩
def pZ(all:LM)(tm:LA)(ρ:zg)(m n:Nat)(nm:LA)(x:Item):Prop :=
 ∃b d u,pB tm nm (yW all x).guard=some b/\x.o.dst=some d/\nm.get d=some u/\(b=false->u=.tuple []) /\
  (b=true->∃vs,kN tm nm (yW all x).args=some vs/\(x.o.kind.cls=1->∃c,mS u=some c/\m<=c/\c<n/\∀g,ρ c g=none))
def nK(all:LM)(tm nm:LA)(h:TH)(x:Item):Prop:=pB tm nm (yW all x).guard=some true->∀vs d u,kN tm nm (yW all x).args=some vs->x.o.dst=some d->nm.get d=some u ->
 (x.o.kind.cls=0->uE x.o.kind vs h=some u)/\(x.o.kind.cls=1->∀c,mS u=some c->∃z y,lay x.o.kind vs c=some z/\z.v=u/\h.get c=some y/\lB z.o y)
def gX(G:Item->Prop)(nm:LA):Prop:=∀x x' d d' u u' c,G x->G x'->x.o.kind.cls=1->x'.o.kind.cls=1->x.o.dst=some d->x'.o.dst=some d'->d≠d'->nm.get d=some u->nm.get d'=some u'->mS u=some c->mS u'=some c->False
variable {G:Item->Prop}{acts l:LM}{s:DS}
theorem pZ.mono{all:LM}{n':Nat}(k:pZ all tm ρ m n nm x)(hnm:nm.sub nm')(hn:n<=n')(hρ:∀c,c<n->(∀g,ρ c g=none)->∀g,ρ' c g=none):pZ all tm ρ' m n' nm' x:=by
 obtain⟨b,d,u,h1,h2,h3,h4,a⟩:=k;refine⟨b,d,u,ll hnm h1,h2,hnm _ _ h3,h4,fun e=>?_⟩;obtain⟨vs,f,h⟩:=a e;refine⟨vs,db hnm f,fun i=>?_⟩
 grind
theorem nK.mono{all:LM}(k:pZ all tm ρ m n nm x)(s:nK all tm nm h x)(hnm:nm.sub nm')(hh:h.sub h'):nK all tm nm' h' x:=by
 obtain⟨b,d,u,h1,h2,h3,h4,j⟩:=k;intro l vs G I o hd p;have a:=ll hnm h1;rw[l]at a;injection a with e;subst e;obtain⟨D,i,_⟩:=j rfl;have f:=db hnm i;rw[o]at f;injection f with e;subst e;rw[hd]at h2;injection h2 with e;subst e;have g:=hnm _ _ h3;rw[p]at g;injection g with e;subst e;obtain⟨q,r⟩:=s h1 vs _ _ i hd h3;refine⟨fun h0=>Vf hh (q h0),fun t c v=>?_⟩;obtain⟨z,y,w,A,B,C⟩:=r t c v;exact⟨z,y,w,A,hh _ _ B,C⟩
theorem gX.mono{all:LM}(k:gX G nm)(hk:∀x,G x->pZ all tm ρ m n nm x)(hnm:nm.sub nm'):gX G nm':=by
 intro x x' d v u w c g h p i hd a j q l r o;obtain⟨_,d0,y,_,h2,h3,_⟩:=hk x g;obtain⟨_,s,t,_,b,f,_⟩:=hk x' h;rw[hd]at h2;injection h2 with e;subst e;rw[a]at b;injection b with e;subst e;have e:=hnm _ _ h3;rw[q]at e;injection e with e;subst e;have e:=hnm _ _ f;rw[l]at e;injection e with e;subst e;exact k x x' _ _ _ _ c g h p i hd a j h3 f r o
theorem gX.sub{G':Item->Prop}(k:gX G nm)(hg:∀x,G' x->G x):gX G' nm:=fun x x' d a u b c g e=>k x x' d a u b c (hg _ g) (hg _ e)
theorem Fi:∀{l:List vl},cT tm s l=true->∀o∈l,aj tm s o=true
 | [],_,o,b=>by simp at b
 | a::l,h,o,b=>by
  unfold cT at h;obtain⟨h1,h2⟩:=zn h;rcases YA.1 b with rfl|b
  .exact h1
  .exact Fi h2 o b
theorem WK{all:LM}(h:aj tm s (yW all x)=true):nK all tm s.nm s.h x:=by
 intro a vs d u b hd e;unfold aj at h;rw[a]at h;dsimp only at h;unfold Ax at h;rw[show (yW all x).dst=some d from hd]at h;dsimp only at h;rw[b]at h;dsimp only at h;rw[e]at h;unfold A0 at h;dsimp only at h;change (match x.o.kind.cls with|0=>Az s.h x.o.kind vs u|1=>Ay s.h x.o.kind vs u|_=>false)=true at h;refine⟨fun h0=>?_,fun h1 c f=>?_⟩
 .simp only[h0]at h;unfold Az at h
  split at h
  .rename_i v hp;rw[hp,TV.beq_sound _ _ _ h]
  .cases h
 .simp only[h1]at h;unfold Ay at h;rw[f]at h;dsimp only at h
  split at h
  .rename_i z hz
   split at h
   .rename_i y hy;obtain⟨g,i⟩:=zn h;exact⟨z,y,hz,TV.beq_sound _ _ _ g,hy,UB i⟩
   .cases h
  .cases h
theorem Cj{all:LM}{s2:DS}(hm:m<=s.h.next)(h2:x.o.kind.cls≠2){d:Nat}(hd:x.o.dst=some d)(he:bP tm (yW all x) s=some s2)(hwr:WR P Z ρ s.h w):
  s2.df=s.df/\s.nm.sub s2.nm/\s.nm.get d=none/\s.h.sub s2.h/\s.h.next<=s2.h.next/\WR P Z ρ s2.h w/\pZ all tm ρ m s2.h.next s2.nm x/\nK all tm s2.nm s2.h x/\∀u c,s2.nm.get d=some u->x.o.kind.cls=1->mS u=some c->c=s.h.next:=by
 unfold bP at he
 split at he
 .cases he
 .rename_i hw;obtain⟨nm,j,rfl⟩:=bM he;rw[show (yW all x).dst=some d from hd]at j;obtain⟨a,r,B⟩:=fa j;obtain⟨t,f⟩:=r d rfl;refine⟨rfl,a,t,.refl _,Ym _,hwr,⟨false,d,_,ll a hw,hd,f,fun _=>rfl,fun h=>by cases h⟩,fun A=>?_,fun u c b _ n=>?_⟩
  .have:=ll a hw;dsimp only at A;rw[A]at this;cases this
  .dsimp only at b;rw[f]at b;injection b with b;subst b;cases n
 .rename_i hw;unfold lU at he
  split at he
  .cases he
  .rename_i vs hv;change (match x.o.kind.cls with|0=>Cl s x.o.dst (uE x.o.kind vs s.h)|1=>Ck s x.o.dst (lay x.o.kind vs s.h.next)|_=>none)=some s2 at he
   by_cases h0:x.o.kind.cls=0
   .rw[h0]at he
    cases i:uE x.o.kind vs s.h with
    | none=>rw[i]at he;cases he
    | some v =>
     rw[i]at he;obtain⟨nm,j,rfl⟩:=bM he;rw[hd]at j;obtain⟨a,r,B⟩:=fa j;obtain⟨t,f⟩:=r d rfl;refine⟨rfl,a,t,.refl _,Ym _,hwr,⟨true,d,v,ll a hw,hd,f,(fun h=>by cases h),fun _=>⟨vs,db a hv,fun h=>by rw[h0]at h;cases h⟩⟩,fun _ C D G p q k=>?_,fun u c _ l=>by rw[h0]at l;cases l⟩;have e:=db a hv;dsimp only at p k;rw[p]at e;injection e with e;subst e;rw[hd]at q;injection q with e;subst e;rw[f]at k;injection k with e;subst e;exact⟨fun _=>i,fun h=>by rw[h0]at h;cases h⟩
   .by_cases h1:x.o.kind.cls=1
    .rw[h1]at he
     cases i:lay x.o.kind vs s.h.next with
     | none=>rw[i]at he;cases he
     | some z =>
      rw[i]at he;obtain⟨nm,j,rfl⟩:=bM he;rw[hd]at j;obtain⟨a,r,B⟩:=fa j;obtain⟨t,f⟩:=r d rfl;have y:=SS i;refine⟨rfl,a,t,TH.sub_push _ _,by dsimp only;rw[TH.nP];omega,hwr.push _,⟨true,d,z.v,ll a hw,hd,f,(fun h=>by cases h),fun _=>⟨vs,db a hv,fun _=>⟨s.h.next,y,hm,by dsimp only;rw[TH.nP];omega,fun g=>?_⟩⟩⟩,fun _ C D G p q k=>?_,fun u c b _ n=>?_⟩
      .cases I:ρ s.h.next g with
       | none=>rfl
       | some loc=>have:=(hwr.dom _ _ _ I).1;omega
      .have e:=db a hv;dsimp only at p k;rw[p]at e;injection e with e;subst e;rw[hd]at q;injection q with e;subst e;rw[f]at k;injection k with e;subst e;refine⟨fun h=>(by rw[h1]at h;cases h),fun _ c l=>?_⟩;rw[y]at l;injection l with l;subst l;exact⟨z,z.o,i,rfl,by dsimp only;rw[TH.gP,if_pos rfl],.refl _ (SU i)⟩
      .dsimp only at b;rw[f]at b;injection b with b;subst b;rw[y]at n;injection n with n;exact n.symm
    grind
theorem aJ{all:LM}:∀(L:LM) (G:Item->Prop) (s s2:DS),m<=s.h.next->(∀x∈L,x.o.kind.cls≠2/\∃d,x.o.dst=some d)->nR tm (L.map (yW all)) s=some s2->WR P Z ρ s.h w->(∀x,G x->pZ all tm ρ m s.h.next s.nm x/\nK all tm s.nm s.h x)->gX G s.nm ->
  s2.df=s.df/\s.nm.sub s2.nm/\s.h.next<=s2.h.next/\WR P Z ρ s2.h w/\(∀x,G x\/x∈L->pZ all tm ρ m s2.h.next s2.nm x/\nK all tm s2.nm s2.h x)/\gX (fun x=>G x\/x∈L) s2.nm
 | [],G,s,s2,_,_,f,t,k,A=>by
  simp only[ZU,nR]at f;injection f with f;subst f;exact⟨rfl,.refl _,Ym _,t,fun x l=>k x (by simpa using l),A.sub fun x l=>by simpa using l⟩
 | x::L,G,s,s2,M,N,f,t,k,A=>by
  simp only[YL,nR]at f
  cases h1:bP tm (yW all x) s with
  | none=>rw[h1]at f;cases f
  | some i =>
   rw[h1]at f;dsimp only at f;obtain⟨O,d,hd⟩:=N x Yp;obtain⟨Y,n,e3,e4,B,e6,e7,e8,e9⟩:=Cj M O hd h1 t;have Q:∀y,G y\/y=x->pZ all tm ρ m i.h.next i.nm y/\nK all tm i.nm i.h y:=fun y a=>by
    rcases a with a|rfl
    .obtain⟨p,r⟩:=k y a;exact⟨p.mono n B fun c _ hn=>hn,r.mono p n e4⟩
    grind
   have new:∀y C u q c,G y->y.o.kind.cls=1->y.o.dst=some C->x.o.kind.cls=1->i.nm.get d=some u->i.nm.get C=some q->mS u=some c->mS q=some c->False:=fun y C u q c gy a R l D v I j=>by
    have hc:=e9 u c D l I;obtain⟨b,d0,u0,p,r,k3,k4,k5⟩:=(k y gy).1;rw[R]at r;injection r with e;subst e;have e:=n _ _ k3;rw[v]at e;injection e with e;subst e
    cases b with
    | false=>rw[k4 rfl]at j;cases j
    | true =>
     obtain⟨vs,_,a2⟩:=k5 rfl;obtain⟨c',J,_,c2,_⟩:=a2 a;rw[j]at J;injection J with J;omega
   have S:gX (fun y=>G y\/y=x) i.nm:=by
    intro y y' d0 d1 u q c g K p T U V X D v I j;rcases g with g|rfl
    .rcases K with K|rfl
     .exact A.mono (fun z hz=>(k z hz).1) n y y' d0 d1 u q c g K p T U V X D v I j
     grind
    grind
   obtain⟨f1,f2,f3,f4,f5,f6⟩:=aJ L _ i s2 (YY M B) (fun y a=>N y (Ys _ a)) f e6 Q S;refine⟨f1.trans Y,n.trans f2,YY B f3,f4,fun y a=>f5 y ?_,f6.sub fun y a=>?_⟩
   .rcases a with a|a
    .exact .inl (.inl a)
    .rcases YA.1 a with rfl|a
     .exact .inl (.inr rfl)
     .exact .inr a
   .rcases a with a|a
    .exact .inl (.inl a)
    .rcases YA.1 a with rfl|a
     .exact .inl (.inr rfl)
     .exact .inr a
noncomputable def ri (C:wE)(ca:LE)(tm:LA)(all acts:LM)(j:Nat):LM->DS->AL
 | [],s=>some (.go s)
 | a::l,s=>match bG C ca tm (yW all a) s with
  | some (.go s)=>xV C ca tm (ap all acts (j+1) l) s
  | r=>r
theorem Xq{all:LM}{j:Nat}{R:DR}(h:xV C ca tm (ap all acts j l) s=some R):cT tm s (B4 all acts j)=true/\∃s2,nR tm (lV all acts j) s=some s2/\ri C ca tm all acts j l s2=some R:=by
 cases l with
 | nil =>
  simp only[ap,xV]at h;obtain⟨h1,h2⟩:=ve h;refine⟨h1,?_⟩
  cases b:nR tm (lV all acts j) s with
  | none=>rw[b]at h2;cases h2
  | some s2=>rw[b]at h2;exact⟨s2,rfl,h2⟩
 | cons a l =>
  simp only[ap,xV]at h;obtain⟨h1,h2⟩:=ve h;refine⟨h1,?_⟩
  cases b:nR tm (lV all acts j) s with
  | none=>rw[b]at h2;cases h2
  | some s2=>rw[b]at h2;exact⟨s2,rfl,h2⟩
def mP(all acts:LM)(D:AN)(j:Nat)(x:Item):Prop:=x∈all/\x.o.kind.cls≠2/\pq acts x<=j/\D.getD x.i true=false
theorem enter{N:Nat}{ops:LX}{all:LM}(R:gi P N ops all acts){D:AN}(hc:bu all D){pre:LM}(hal:acts=pre++l)(hpre:∀a∈pre,D.getD a.i true=true)(hund:∀x∈all,x.o.kind.cls≠2->pq acts x=pre.length->D.getD x.i true=false)(hms:m<=s.h.next)(hwr:WR P Z ρ s.h w)(hK:∀x∈all,x.o.kind.cls≠2->pq acts x<pre.length->D.getD x.i true=false->pZ all tm ρ m s.h.next s.nm x)(hD:gX (fun x=>x∈all/\x.o.kind.cls≠2/\pq acts x<pre.length/\D.getD x.i true=false) s.nm){r:DR}(hs:xV C ca tm (ap all acts pre.length l) s=some r):
  ∃s2,ri C ca tm all acts pre.length l s2=some r/\s2.df=s.df/\s.nm.sub s2.nm/\s.h.next<=s2.h.next/\WR P Z ρ s2.h w/\(∀x,mP all acts D pre.length x->pZ all tm ρ m s2.h.next s2.nm x/\nK all tm s2.nm s2.h x)/\gX (mP all acts D pre.length) s2.nm:=by
 obtain⟨h1,s2,h2,h3⟩:=Xq hs;have p:=Fi h1;obtain⟨f1,f2,f3,f4,f5,f6⟩:=aJ _ (fun x=>x∈all/\x.o.kind.cls≠2/\pq acts x<pre.length/\D.getD x.i true=false) s s2 hms (fun x b=>by
   obtain⟨t,c⟩:=Zk.1 b;simp only[Yr,bne_iff_ne]at c;exact⟨c.1,XF R.tmps t c.1⟩) h2 hwr (fun x ⟨d,e,f,g⟩=>⟨hK x d e f g,WK (p _ (Yx.2 ⟨x,Zk.2 ⟨d,by
    simp only[Yr,bne_iff_ne,decide_eq_true_eq];refine⟨⟨e,f⟩,YZ.2 fun a n=>?_⟩;have k:a∈pre:=by rw[hal]at n;simpa using n
    have q:a∈all:=by
     have:a∈acts:=by rw[hal];exact ZO _ k
     rw[R.ac]at this;exact(Zk.1 this).1
    cases u:a.m.testBit x.i with
    | false=>rfl
    | true=>have:=hc a q (hpre a k) x.i u;rw[g]at this;cases this⟩,rfl⟩))⟩) hD
 have j:∀x,mP all acts D pre.length x->(x∈all/\x.o.kind.cls≠2/\pq acts x<pre.length/\D.getD x.i true=false)\/x∈all.filter fun x=>x.o.kind.cls != 2&&pq acts x==pre.length:=fun x ⟨d,e,f,g⟩=>by grind
 exact⟨s2,h3,f1,f2,f3,f4,fun x b=>f5 x (j x b),f6.sub j⟩
theorem Lw:∀(ds:LN) (tm:LA) (t:Nat) v,(dY nm ds tm).get t=some v->(t∈ds/\nm.get t=some v)\/(t ∉ ds/\tm.get t=some v)
 | [],tm,t,v,h=>.inr ⟨by simp,h⟩
 | d::ds,tm,t,v,h=>by
  simp only[dY]at h;rcases Lw ds _ t v h with⟨h1,h2⟩|⟨h1,h2⟩
  .grind
  .rw[Tr.get_set]at h2
   grind
theorem Hm:∀(ds:LN) (tm:LA) (t:Nat) v,(dg ds tm).get t=some v->t ∉ ds/\tm.get t=some v
 | [],tm,t,v,h=>⟨by simp,h⟩
 | d::ds,tm,t,v,h=>by
  simp only[dg]at h;obtain⟨h1,h2⟩:=Hm ds _ t v h;rw[Tr.get_set]at h2
  grind
section
variable {C:wE}{rnd:LB}{ca:LE}{N:Nat}{ops:LX}{all acts:LM}{tm:LA}{h0:TH}{w0:World}{ρ0:zg}
structure kH(P:Program)(Z:Nat)(C:wE)(ca:LE)(N:Nat)(ops:LX)(all acts:LM)(tm:LA)(ρ0:zg)(h0:TH)(w0:World)(r:DR)(D:AN)(a:Act)(w:World)(ρ:zg)(pre l:LM)(s:DS):Prop where
 size:D.size=ops.size
 ac:acts=pre++l
 done:∀y∈pre,D.getD y.i true=true
 und:∀y∈l,D.getD y.i true=false
 closed:bu all D
 wr:WR P Z ρ s.h w
 df:pa ρ ca s.df a.defers
 hZ:Z<=w.heap.size
 sz:N<=a.tmps.size
 le:zg.le h0.next ρ0 ρ
 bel:Below Z w0 w
 nx:h0.next<=s.h.next
 slots:cO all D ρ tm s.nm a.tmps
 told:∀x,mP all acts D pre.length x->pZ all tm ρ h0.next s.h.next s.nm x/\nK all tm s.nm s.h x
 dis:gX (mP all acts D pre.length) s.nm
 tail:ri C ca tm all acts pre.length l s=some r
variable {pre:LM}{r:DR}{s':St}
theorem kH.fin(R:gi P N ops all acts)(k:kH P Z C ca N ops all acts tm ρ0 h0 w0 r D a w ρ pre l s)(hall:∀i,i<ops.size->D.getD i true=true){x:TX}(hx:lQ (all.filterMap fun x=>x.o.dst) tm (some r)=some (x,s')):CR P Z ρ0 N ca h0 w0 x s' .normal a w:=by
 have d:l=[]:=by
  cases l with
  | nil=>rfl
  | cons y l =>
   have h1:=k.und y Yp;have b:y∈all:=by
    have:y∈acts:=by rw[k.ac];simp
    rw[R.ac]at this;exact(Zk.1 this).1
   rw[hall _ (R.lt b)]at h1;cases h1
 have c:=k.tail;subst d;simp only[ri]at c;injection c with c;subst c;simp only[lQ]at hx;injection hx with hx;injection hx with h1 h2;subst h1;subst h2;refine⟨ρ,k.le,k.bel,k.nx,rfl,k.wr,fun t v e=>?_,k.sz,k.df,k.hZ⟩;rcases Lw _ _ t v e with⟨h1,h2⟩|⟨h1,h2⟩
 .obtain⟨y,b,hd⟩:=zCM9.1 h1;obtain⟨u,v',f,g,h⟩:=k.slots.new y b (hall _ (R.lt b)) t hd
  grind
 .exact k.slots.old t v h2 fun y b _ hd=>h1 (zCM9.2 ⟨y,b,hd⟩)
theorem mP.unset{y:Item}{j:Nat}(hi:x.i<D.size)(h:mP all acts (D.setIfInBounds x.i true) j y):mP all acts D j y/\y.i≠x.i:=by
 obtain⟨h1,h2,h3,h4⟩:=h;rw[kO _ _ _ hi]at h4
 split at h4
 .cases h4
 .rename_i e;exact⟨⟨h1,h2,h3,h4⟩,e⟩
theorem kH.next(R:gi P N ops all acts)(k:kH P Z C ca N ops all acts tm ρ0 h0 w0 r D a w ρ pre l s)(hx:x∈all)(hx2:x.o.kind.cls≠2)(hu:D.getD x.i true=false)(hm:∀j,x.m.testBit j=true->D.getD j true=true){d:Nat}(hd:x.o.dst=some d)(hdN:d<N){u:TV}(hud:s.nm.get d=some u)(hle:zg.le h0.next ρ ρ')(hv:VR ρ' u v')(hwr:WR P Z ρ' s.h w')(hb:Below Z w w')(hnone:∀y,mP all acts D pre.length y->y.i≠x.i->pZ all tm ρ' h0.next s.h.next s.nm y):kH P Z C ca N ops all acts tm ρ0 h0 w0 r (D.setIfInBounds x.i true) (a.put x.o.dst v') w' ρ' pre l s:=by
 have hi:=(sk hu).2;refine⟨by rw[Array.size_setIfInBounds];exact k.size,k.ac,fun y b=>?_,fun y b=>?_,k.closed.set R hx hi hm,hwr,by rw[DL];exact k.df.mono hle.more,YY k.hZ hb.size,by rw[DM];exact k.sz,k.le.trans hle (Ym _),k.bel.trans hb,k.nx,
  k.slots.step R hle.more (.refl _) hx hi fun n c=>?_,fun y b=>?_,k.dis.sub fun y b=>(b.unset hi).1,k.tail⟩
 .rw[kO _ _ _ hi];split
  .rfl
  .exact k.done y b
 .have f:y.i≠x.i:=fun e=>by
   have g:y∈all.filter fun x=>x.o.kind.cls==2:=by rw[<- R.ac,k.ac];exact Z3 _ b
   obtain⟨h1,h2⟩:=Zk.1 g;rw[R.uniq y h1 x hx e]at h2
   grind
  rw[kO _ _ _ hi,if_neg f];exact k.und y b
 .rw[hd]at c;injection c with e;subst e;exact⟨YS hdN k.sz,u,hud,hv⟩
 .obtain⟨h1,h2⟩:=b.unset hi;exact⟨hnone y h1 h2,(k.told y h1).2⟩
theorem kH.acted(R:gi P N ops all acts)(k:kH P Z C ca N ops all acts tm ρ0 h0 w0 r D a w ρ pre (x::l) s)(hm:∀j,x.m.testBit j=true->D.getD j true=true){s1:DS}{a':Act}(hat:a'.tmps=a.tmps)(hs:xV C ca tm (ap all acts (pre.length+1) l) s1=some r)(hle:zg.le s.h.next ρ ρ')(hwr:WR P Z ρ' s1.h w')(hb:Below Z w w')(hnx:s.h.next<=s1.h.next)(hnm:s.nm.sub s1.nm)(hdf:pa ρ' ca s1.df a'.defers)(hdst:∀d,x.o.dst=some d->d<N/\∃v,s1.nm.get d=some v/\VR ρ' v v'):∃s2,kH P Z C ca N ops all acts tm ρ0 h0 w0 r (D.setIfInBounds x.i true) (a'.put x.o.dst v') w' ρ' (pre++[x]) l s2:=by
 have O:=k.und x Yp;have hi:=(sk O).2;have J:x∈all.filter fun x=>x.o.kind.cls==2:=by rw[<- R.ac,k.ac];simp
 obtain⟨c,f⟩:=Zk.1 J;have f:x.o.kind.cls=2:=by simpa using f
 have A:=k.closed.set R c hi hm;have q:acts=(pre++[x])++l:=by rw[k.ac];simp
 have g:∀y∈pre++[x],(D.setIfInBounds x.i true).getD y.i true=true:=fun y b=>by
  rw[kO _ _ _ hi];split
  .rfl
  .rename_i e;rcases YM.1 b with b|b
   .exact k.done y b
   grind
 have B:∀y∈all,y.o.kind.cls≠2->pq acts y=(pre++[x]).length->(D.setIfInBounds x.i true).getD y.i true=false:=fun y b t G=>by
  rw[kO _ _ _ hi]
  split
  .rename_i e;rw[R.uniq y b x c e]at t;exact absurd f t
  .cases hd:D.getD y.i true with
   | false=>rfl
   | true =>
    exfalso
    have h1:pq acts y<=pre.length:=by
     rw[k.ac];refine IU fun z Q=>?_
     cases hb:y.m.testBit z.i with
     | false=>rfl
     | true=>have h2:=k.closed y b hd _ hb;rw[k.und z Q]at h2;cases h2
    rw[G]at h1;simp at h1;omega
 have conv:∀y,y∈all->y.o.kind.cls≠2->pq acts y<(pre++[x]).length->(D.setIfInBounds x.i true).getD y.i true=false->mP all acts D pre.length y:=fun y h1 h2 h3 h4=>by
  rw[kO _ _ _ hi]at h4
  split at h4
  .cases h4
  .exact⟨h1,h2,by simp at h3;omega,h4⟩
 have I:(pre++[x]).length=pre.length+1:=by simp
 rw[<- I]at hs;obtain⟨s2,t1,t2,t3,t4,t5,t6,t7⟩:=enter (w:=w') R A q g B (YY k.nx hnx) hwr (fun y h1 h2 h3 h4=>((k.told y (conv y h1 h2 h3 h4)).1).mono hnm hnx hle.none) ((k.dis.mono (fun y b=>(k.told y b).1) hnm).sub fun y ⟨h1,h2,h3,h4⟩=>conv y h1 h2 h3 h4) hs;refine⟨s2,by rw[Array.size_setIfInBounds];exact k.size,q,g,fun y b=>?_,A,t5,by rw[t2,DL];exact hdf,YY k.hZ hb.size,by rw[DM,hat];exact k.sz,k.le.trans hle k.nx,k.bel.trans hb,YY k.nx (YY hnx t4),?_,t6,t7,t1⟩
 .have K:y.i≠x.i:=fun e=>by
   have L:y∈all.filter fun x=>x.o.kind.cls==2:=by rw[<- R.ac,k.ac];simp[b]
   have M:=R.uniq y (Zk.1 L).1 x c e;have n:=R.row;rw[k.ac]at n;obtain⟨p,S,u⟩:=Ee (Ef pre n) b;rw[M]at u;have:=hm _ u;rw[k.und p S]at this;cases this
  rw[kO _ _ _ hi,if_neg K];exact k.und y (Ys _ b)
 .refine cO.step R (a:=a') (by rw[hat];exact k.slots) hle.more (hnm.trans t3) c hi fun d hd=>?_;obtain⟨h1,v,h2,h3⟩:=hdst d hd;exact⟨by rw[hat];exact YS h1 k.sz,v,t3 _ _ h2,h3⟩
theorem P6(hC:pE P C)(hR:mM P C)(hrnd:rnd=none\/∀f,ca.get f=none)(R:gi P N ops all acts){x:TX}(hx:lQ (all.filterMap fun x=>x.o.dst) tm (some r)=some (x,s')):
  ∀(n:Nat) (D:AN) (a:Act) (w:World) (ρ:zg) (pre l:LM) (s:DS),D.toList.count false<=n->kH P Z C ca N ops all acts tm ρ0 h0 w0 r D a w ρ pre l s->wpAnyIn (Fr rnd) 0 P .any ops (CR P Z ρ0 N ca h0 w0 x s') n D a w:=by
 intro n
 induction n with
 | zero =>
  intro D a w ρ pre l s hn k;have T:Region.ready .any ops D=[]:=by
   cases T:Region.ready .any ops D with
   | nil=>rfl
   | cons i m =>
    have h1:i∈Region.ready .any ops D:=by rw[T];exact Yp
    have:=(sk (mem_ready.1 h1).1).1;omega
  exact⟨T,k.fin R (Kt R k.size T) hx⟩
 | succ n V =>
  intro D a w ρ pre l s hn k;refine⟨fun T=>k.fin R (Kt R k.size T) hx,fun i hi=>?_⟩;obtain⟨cl,o,ho,_⟩:=mem_ready.1 hi;obtain⟨y,J,e⟩:=R.item i o ho;subst e;obtain⟨B,K⟩:=VS R k.closed J hi;have U:(D.setIfInBounds y.i true).toList.count false<=n:=by have:=PQ B;omega
  obtain⟨o',a9,j⟩:=R.op y J;rw[ho]at a9;injection a9 with e;subst e;obtain⟨tx,x1,x2,x3⟩:=k.slots.look R k.closed J B K;unfold wpOpIn;rw[ho];dsimp only;have ad:∀b,pB tm s.nm (yW all y).guard=some b->Region.wanted o (yielded ops a.tmps)=b:=fun b G=>ar j x1 (by rw[x3];exact G)
  by_cases O:y.o.kind.cls=2
  ·-- dG that acts
   have bb:y∈acts:=by rw[R.ac];exact Zk.2 ⟨J,by simp[O]⟩
   have bm:y∈l:=by
    rw[k.ac]at bb;rcases YM.1 bb with h1|h1
    .rw[k.done y h1]at B;cases B
    .exact h1
   cases l with
   | nil=>cases bm
   | cons z l =>
    have b3:y=z:=by
     rcases YA.1 bm with h1|h1
     .exact h1
     .have a7:=R.row;rw[k.ac]at a7;obtain⟨p,q,b4⟩:=Ee (Ef pre a7) h1;have:=K _ b4;rw[k.und p q]at this;cases this
    subst b3;have A:=k.tail;simp only[ri]at A
    cases h1:bG C ca tm (yW all y) s with
    | none=>rw[h1]at A;cases A
    | some r1 =>
     rw[h1]at A;unfold bG at h1
     split at h1
     .cases h1
     .rename_i hw;rw[ad _ hw];simp only[Zi,if_false];refine⟨fun _ _=>trivial,?_⟩
      cases q:dput s.df s.h (pJ s.nm (yW all y).dst (.tuple []))with
      | none=>rw[q]at h1;cases h1
      | some s1 =>
       rw[q]at h1;simp only[nP]at h1;injection h1 with h1;subst h1;obtain⟨nm,M,rfl⟩:=bM q;obtain⟨X,Y,a3⟩:=fa M;rw[<- j.dst];obtain⟨s2,k2⟩:=k.acted R K rfl A (.refl _ _) k.wr (.refl _ _) (Ym _) X k.df (v':=undef) fun d hd=>⟨j.lt d hd,_,(Y d hd).2,VR.undef ρ⟩
       exact V _ _ _ _ _ _ _ U k2
     .rename_i hw;rw[ad _ hw];simp only[if_true]
      split at h1
      .cases h1
      .rename_i vs hv
       cases ah:act C ca y.o.kind vs s.h with
       | none=>rw[show (yW all y).kind=y.o.kind from rfl,ah]at h1;cases h1
       | some tr =>
        rw[show (yW all y).kind=y.o.kind from rfl,ah]at h1;refine Fg hC hR hrnd k.wr k.hZ x1 k.df j (x2.trans hv) O ah (fun v h' e v' w' ρ' Q av G a0 a4=>?_) (fun v h' e v' w' ρ' Q av G a0 a4=>?_) (fun d e d' b5=>?_)
        .subst e;simp only[bH]at h1
         cases q:dput s.df h' (pJ s.nm (yW all y).dst v)with
         | none=>rw[q]at h1;cases h1
         | some s1 =>
          rw[q]at h1;simp only[nP]at h1;injection h1 with h1;subst h1;obtain⟨nm,M,rfl⟩:=bM q;obtain⟨X,Y,a3⟩:=fa M;rw[<- j.dst];obtain⟨s2,k2⟩:=k.acted R K rfl A Q av G a4 X (k.df.mono Q.more) (v':=v') fun d hd=>⟨j.lt d hd,_,(Y d hd).2,a0⟩
          exact V _ _ _ _ _ _ _ U k2
        .subst e;simp only[bH]at h1;injection h1 with h1;subst h1;dsimp only at A;injection A with A;subst A;simp only[lQ]at hx;injection hx with hx;injection hx with h1 h2;subst h1;subst h2;refine⟨ρ',k.le.trans Q k.nx,k.bel.trans G,YY k.nx a4,⟨v',rfl,a0⟩,av,fun t u B=>?_,k.sz,k.df.mono Q.more,YY k.hZ G.size⟩;obtain⟨g1,I⟩:=Hm _ _ t u B;obtain⟨u',b1,b2⟩:=k.slots.old t u I fun z hz _ hd=>g1 (zCM9.2 ⟨z,hz,hd⟩);exact⟨u',b1,b2.mono Q.more⟩
        .subst e;simp only[bH]at h1
         cases q:dput (d::s.df) s.h (pJ s.nm (yW all y).dst (.tuple []))with
         | none=>rw[q]at h1;cases h1
         | some s1 =>
          rw[q]at h1;simp only[nP]at h1;injection h1 with h1;subst h1;obtain⟨nm,M,rfl⟩:=bM q;obtain⟨X,Y,a3⟩:=fa M;rw[<- j.dst];obtain⟨s2,k2⟩:=k.acted R (a':={ a with defers:=d'::a.defers }) K rfl A (.refl _ _) k.wr (.refl _ _) (Ym _) X b5 (v':=undef) fun d hd=>⟨j.lt d hd,_,(Y d hd).2,VR.undef ρ⟩
          exact V _ _ _ _ _ _ _ U k2
  ·-- dG that does not
   have bw:pq acts y<=pre.length:=by
    rw[k.ac];refine IU fun z hz=>?_
    cases G:y.m.testBit z.i with
    | false=>rfl
    | true=>have h2:=K _ G;rw[k.und z hz]at h2;cases h2
   have bo:mP all acts D pre.length y:=⟨J,O,bw,B⟩
   obtain⟨⟨b,d,u,g1,I,g3,g4,g5⟩,bp⟩:=k.told y bo;rw[ad _ g1];have a8:∀v',VR ρ u v'->wpAnyIn (Fr rnd) 0 P .any ops (CR P Z ρ0 N ca h0 w0 x s') n (D.setIfInBounds y.i true) (a.put o.dst v') w:=fun v' b6=>by
    rw[<- j.dst];exact V _ _ _ _ _ _ _ U (k.next R J O B K I (j.lt d I) g3 (.refl _ _) b6 k.wr (.refl _ _) fun z hz _=>(k.told z hz).1)
   cases b with
   | false =>
    simp only[Zi,if_false];refine⟨fun _ _=>trivial,a8 _ ?_⟩;rw[g4 rfl];exact VR.undef ρ
   | true =>
    simp only[if_true];obtain⟨vs,hv,b7⟩:=g5 rfl;obtain⟨s1,s2⟩:=bp g1 vs d u hv I g3
    by_cases a5:y.o.kind.cls=0
    .exact JT k.wr x1 j (x2.trans hv) a5 (s1 a5) a8
    .have ab:y.o.kind.cls=1:=Decidable.byContradiction fun h1=>O (Gm a5 h1);obtain⟨c,c1,c0,c2,c3⟩:=b7 ab;obtain⟨z,yy,z1,z2,z3,z4⟩:=s2 ab c c1;have bx:=k.wr.set_none c3 z.o;refine Io bx k.hZ x1 j (x2.trans hv) ab c3 (by rw[TH.next_set];exact c2) z1 (by rw[TH.get_set _ _ _ _ c2,if_pos rfl]) fun v' w1 L S q1 q2 b0=>?_;rw[z2]at q2;have bs:=zg.add_more (loc:=⟨w.heap.size,L,S⟩) (c3 0);rw[<- j.dst];refine V _ _ _ _ _ _ _ U (k.next R J O B K I (j.lt d I) g3 ⟨bs,fun b G hn g=>?_⟩ q2 (q1.unset z3 z4) b0 fun x' a6 cb=>?_)
     .rw[zg.add_ne zo];exact hn g
     .obtain⟨b',d',u',M,e2,e3,e4,e5⟩:=(k.told x' a6).1;refine⟨b',d',u',M,e2,e3,e4,fun cc=>?_⟩;obtain⟨ch,e6,e7⟩:=e5 cc;refine⟨ch,e6,fun hk=>?_⟩;obtain⟨c',i1,i0,i2,i3⟩:=e7 hk;refine⟨c',i1,i0,i2,fun g=>?_⟩;have ck:c'≠c:=fun e=>by
       rw[e]at i1;refine k.dis y x' d d' u u' c bo a6 ab hk I e2 (fun ed=>?_) g3 e3 c1 i1;rw[<- ed]at e2;exact Mc R.tmps J a6.1 cb I e2
      rw[zg.add_ne ck];exact i3 g
end
theorem P7{C:wE}(hC:pE P C)(hR:mM P C){rnd:LB}{ca:LE}(hrnd:rnd=none\/∀f,ca.get f=none)(hmix:P.follows .mixedOrders=true){N:Nat}{id:Nat}{ops:LX}{os:List vl}(hts:uI (iE P N ops) ops.toList=some os){c:vw}(hc:su ops.toList os=some c)
  {s:St} {a:Act} (k:uW P Z ρ N ca s a w) {M:Nat} {trnd:LB} {x:TX} {s':St} (hs:vE C ca M trnd c s=some (x,s')):(Code.region id ops true).wpIn (Fr rnd) 0 P (CR P Z ρ N ca s.h w x s') a w:=by
 obtain⟨all,acts,R,rfl⟩:=P5 hts hc;simp only[vE]at hs;refine wpIn_region_any hmix ?_
 cases j:xV C ca s.tm (ap all acts 0 acts) ⟨.nil,s.df,s.h⟩with
 | none=>rw[j]at hs;cases hs
 | some r =>
  rw[j]at hs;have e:∀x∈all,(Array.replicate ops.size false).getD x.i true=false:=fun x d=>by
   have:=R.lt d
   simp_all
  have n:bu all (Array.replicate ops.size false):=fun x d hd=>by rw[e x d]at hd;cases hd
  have o:WR P Z ρ s.h w.drew:=k.wr.drew;obtain⟨q,t1,t2,t3,t4,t5,t6,t7⟩:=enter (C:=C) (ca:=ca) (tm:=s.tm) (pre:=[]) (l:=acts) (w:=w.drew) (s:=⟨.nil,s.df,s.h⟩) (m:=s.h.next) R n rfl (fun a u=>by cases u) (fun x d _ _=>e x d) (Ym _) o (fun x _ _ h=>by simp at h) (fun x x' _ _ _ _ _ g=>by simp at g) j;have p:∀y∈acts,y∈all:=fun y b=>by rw[R.ac]at b;exact(Zk.1 b).1
  refine P6 hC hR hrnd R hs ops.size _ a w.drew ρ [] acts q ?_ ⟨(by simp),rfl,fun y b=>(by cases b),fun y b=>e y (p y b),n,t5,(by rw[t2];exact k.df),k.hZ,k.sz,.refl _ _,⟨rfl,rfl,rfl,Ym _,fun _ _=>rfl⟩,t4,⟨fun t v z _=>k.tm t v z,fun y b hd=>(by rw[e y b]at hd;cases hd)⟩,t6,t7,t1⟩;exact YY (List.count_le_length) (by simp)
section
variable {F:Fence}{n:Nat}{Q:Exit->Act->World->Prop}{a:Act}
variable {b:Frame}{c:Code}{cs:List Frame}{k:List Go.Item}
theorem Lk:step P (lone (b.atR a (.code (.scope c)::k)) cs w)=.next (lone (b.atR a (.code c::.inScope c::k)) cs w) :=
 step_lone_go (by simp[stepG,stepG.exec,Frame.atR])
theorem Xt:step P (lone (b.atR a (.inScope c::k)) cs w)=.next (lone (b.atR a k) cs w) :=
 step_lone_go (by simp[stepG,stepG.exec,Frame.atR])
theorem GP(id:Nat)(c:Code)(k:List Go.Item):exitTo id (.inScope c::k)=exitTo id k:=by simp[exitTo]
theorem EE(J:Act->World->Prop)(l:Nat)(hf:(∀a w,¬J a w)\/∃rest,findLabel c l=some rest/\∀a w,J a w->rest.wpIn F n P (Exit.noGoto Q) a w)(first:c.wpIn F n P (Exit.jump l J Q) a w):(Code.scope c).wpIn F n P Q a w:=by
 intro b k cs r j o;have h0:(lone (b.atR a (.code (.scope c)::k)) cs w).fenced P F:=fenced_calm j o rfl;have t:∀{e:Exit} {g:Act} {h:World} {m:Machine},(∀l,e ≠ .goto l)->ArrivesIn (Machine.fenced P F) P m b (.inScope c::k) cs e g h->ArrivesIn (Machine.fenced P F) P m b k cs e g h:=fun{e g h m} f d=>by
  cases e with
  | normal=>exact StepsIn.trans d (.one (fenced_calm j o rfl) Xt)
  | exit id=>exact⟨fun k' p=>d.1 k' (by rw[GP];exact p),fun z p=>d.2 z (by rw[GP];exact p)⟩
  | goto i=>exact absurd rfl (f i)
  | ret=>exact d
  | panic G=>exact d
  | outgrown=>exact d
 obtain⟨e,g,h,u,d⟩:=first b (.inScope c::k) cs r j o
 by_cases v:∃i,e=.goto i
 .obtain⟨i,rfl⟩:=v;obtain⟨rfl,B⟩:=u;rcases hf with hf|⟨rest,hf,x⟩
  .grind
  .have A:gotoIn i (.inScope c::k)=some (.code rest::.inScope c::k):=by simp[gotoIn,hf]
   obtain⟨q,C,D,s,y⟩:=x g h B b (.inScope c::k) cs r j o;have f:∀l,q ≠ .goto l:=fun l e=>by subst e;exact s
   refine⟨q,C,D,?_,.of_steps (.head h0 Lk (d.1 _ A)) (t f y)⟩
   cases q<;>first|exact s|exact absurd rfl (f _)
 .have f:∀l,e ≠ .goto l:=fun l e=>v ⟨l,e⟩;refine⟨e,g,h,?_,.of_steps (.one h0 Lk) (t f d)⟩
  cases e<;>first|exact u|exact absurd rfl (f _)
end
def cN(ρ:zg):LB->LB->Prop
 | none,none=>True
 | some l,some r=>∃loc,ρ l 0=some loc/\loc.r=r
 | _,_=>False
variable {assign:Code}{bo:vw}{body:Code}{e:Exit}{l:Nat}{ps:Array Tmp}{s:St}{trnd:LB}{x:TX}
theorem cN.mono(hρ:∀b g loc,ρ b g=some loc->ρ' b g=some loc){t r:LB}(k:cN ρ t r):cN ρ' t r:=by
 cases t<;>cases r<;>first|exact k|skip
 obtain⟨loc,h1,h2⟩:=k;exact⟨loc,hρ _ _ _ h1,h2⟩
theorem BK{r:Nat}(hr:Z<=r)(o:Obj):Below Z w (w.putObj r o):=⟨rfl,rfl,rfl,by simp,fun k a=>World.putObj_heap_other zo⟩
theorem Wp{r:Loop}(hl:w.heap[l]?=some (.loop r))(fn:FuncId)(tmps:LO)(ps:Array Tmp)(assign body:Code):
  (Instr.enterLoop fn tmps ps assign body (some l)).run P w=.ok (w.heap.size,[]) (w.alloc (.loop { state:=.ready,pending:=none,fn,tmps,params:=ps,assign,body,defers:=r.defers })):=by
 unfold Instr.enterLoop;simp only[Sem.run_bind,run_getLoop hl,run_newObj_alloc,Result.andThen,Sem.run_pure]
theorem WR.none_at(k:WR P Z ρ h w)(g:Nat):ρ h.next g=none:=by
 cases a:ρ h.next g with
 | none=>rfl
 | some loc=>have:=(k.dom _ _ _ a).1;omega
theorem zg.le_add{b:Nat}(hb:n<=b)(hn:ρ b 0=none){loc:yE}:zg.le n ρ (ρ.add b 0 loc) :=
 ⟨zg.add_more hn,fun c a h g=>by rw[zg.add_ne zo];exact h g⟩
theorem Xs{rnd:LB}(k:uW P Z ρ N ca s a w)(kr:cN ρ trnd rnd){x:E0}(hx:rg trnd s=some x){aS:vw}(hps:∀p∈ps.toList,p<N)(has:ut P N n assign=some aS)(hbo:ut P N m body=some bo)(fn:FuncId):
  ∃lr mark w1 ρ1 loc,(Instr.enterLoop fn a.tmps ps assign body rnd).run P w=.ok (lr,mark) w1/\zg.le s.h.next ρ ρ1/\ρ1 x.l 0=some loc/\loc.r=lr/\WR P Z ρ1 (x.h.push (.loop .ready .norm s.tm ps.toList aS bo x.d)) w1/\Below Z w w1/\pa ρ1 ca x.df (mark++a.defers)/\s.h.next<=x.h.next:=by
 cases trnd with
 | none =>
  cases rnd with
  | some r=>exact kr.elim
  | none =>
   simp only[rg]at hx;injection hx with hx;subst hx;have B:WR P Z ρ (s.h.push (.dfr false)) w:=k.wr.push _;have e:=k.wr.none_at
   have v:=B.real (x:=.dfr false) (o:=.deferred (some [])) (L:=0) (S:=0) e (by rw[TH.nP];omega) k.hZ (by rw[TH.gP,if_pos rfl]) ⟨_,zg.aS _ _ _ _,World.alloc_heap_new _ _⟩;have g:=zg.le_add (ρ:=ρ) (loc:=⟨w.heap.size,0,0⟩) (Ym s.h.next) (e 0);have j:=v.push (.loop .ready .norm s.tm ps.toList aS bo s.h.next);have i:=v.none_at
   rw[TH.nP]at i;have c:=zg.le_add (ρ:=ρ.add s.h.next 0 ⟨w.heap.size,0,0⟩) (loc:=⟨(w.alloc (.deferred (some []))).heap.size,0,0⟩) (Nat.le_succ s.h.next) (i 0);have t:Z<=(w.alloc (.deferred (some []))).heap.size:=by have:=k.hZ;simp;omega
   have q:=j.real (x:=.loop .ready .norm s.tm ps.toList aS bo s.h.next) (b:=s.h.next+1) (L:=0) (S:=0) (o:=.loop { state:=.ready,pending:=none,fn,tmps:=a.tmps,params:=ps,assign,body,defers:=w.heap.size }) i (by rw[TH.nP,TH.nP];omega) t (by rw[TH.gP,TH.nP,if_pos rfl])
    ⟨_,_,⟨w.heap.size,0,0⟩,N,n,m,zg.aS _ _ _ _,c.more _ _ _ (zg.aS _ _ _ _),World.alloc_heap_new _ _,rfl,rfl,(k.tm.mono g.more).mono c.more,k.sz,rfl,hps,has,hbo,rfl⟩
   refine⟨_,_,_,_,_,run_enterLoop_outer fn a.tmps ps assign body,g.trans c (Ym _),zg.aS _ _ _ _,by simp,q,((Below.refl Z w).alloc k.hZ _).trans ((Below.refl Z _).alloc t _),?_,by dsimp only;rw[TH.nP];omega⟩;exact .mark (c.more _ _ _ (zg.aS _ _ _ _)) ((k.df.mono g.more).mono c.more)
 | some T =>
  cases rnd with
  | none=>exact kr.elim
  | some r =>
   obtain⟨J,u,rfl⟩:=kr;simp only[rg]at hx;obtain⟨o,C,z⟩:=k.wr.obj _ _ _ u;rw[C]at hx;dsimp only at hx
   cases o with
   | loop U V M O Q R d =>
    simp only[Gx]at hx;injection hx with hx;subst hx;obtain⟨K,A,y,X,Y,m',f,D,G,_,_,_,_,_,_,_,_,I⟩:=z;rw[u]at f;injection f with f;subst f;have e:=k.wr.none_at
    have j:=k.wr.push (.loop .ready .norm s.tm ps.toList aS bo d);have c:=zg.le_add (ρ:=ρ) (loc:=⟨w.heap.size,0,0⟩) (Ym s.h.next) (e 0);have q:=j.real (x:=.loop .ready .norm s.tm ps.toList aS bo d) (b:=s.h.next) (L:=0) (S:=0) (o:=.loop { state:=.ready,pending:=none,fn,tmps:=a.tmps,params:=ps,assign,body,defers:=A.defers }) e (by rw[TH.nP];omega) k.hZ (by rw[TH.gP,if_pos rfl])
     ⟨_,_,y,N,n,m,zg.aS _ _ _ _,c.more _ _ _ D,World.alloc_heap_new _ _,rfl,rfl,k.tm.mono c.more,k.sz,rfl,hps,has,hbo,I⟩
    exact⟨_,_,_,_,_,Wp G fn a.tmps ps assign body,c,zg.aS _ _ _ _,rfl,q,(Below.refl Z w).alloc k.hZ _,k.df.mono c.more,Ym _⟩
   | row=>cases hx
   | map=>cases hx
   | dfr=>cases hx
   | ro=>cases hx
theorem VF(hC:pE P C){rnd:LB}(k:uW P Z ρ N ca s a w)(kr:cN ρ trnd rnd){g:Operand}{gid:Nat}{cap:LK}(hg:VR ρ (.fn gid cap) (a.eval g)){aS:vw}(hps:∀p∈ps.toList,p<N)(has:ut P N n assign=some aS)(hbo:ut P N m body=some bo){s':St}(hs:Ag C trnd gid cap ps.toList aS bo s=some (x,s')):(Code.rangeFunc g ps assign body).wpIn (Fr rnd) 0 P (CR P Z ρ N ca s.h w x s') a w:=by
 unfold Ag at hs
 split at hs
 .cases hs
 .rename_i st hst
  cases q:C.fn gid (.yield st.l::cap) (st.h.push (.loop .ready .norm s.tm ps.toList aS bo st.d))with
  | none=>rw[q]at hs;cases hs
  | some a6 =>
   obtain⟨te,h1⟩:=a6;rw[q]at hs
   cases te with
   | panic v=>cases hs
   | ret v =>
    simp only[BE]at hs
    cases R:h1.get st.l with
    | none=>rw[R]at hs;cases hs
    | some o =>
     rw[R]at hs;dsimp only at hs;refine wpIn_rangeFunc fun fn b6=>?_;obtain⟨lr,mark,M,ρ1,loc,e1,e2,e3,e4,e5,X,e7,e8⟩:=Xs k kr hst hps has hbo fn;subst e4;have ab:=hg.mono e2.more;generalize a7:a.eval g=gv at ab
     cases ab with
     | fn a8 a9 =>
      rename_i G;obtain⟨a2,a1⟩:=hC gid _ _ _ h1 q Z ρ1 M (.func (.yield loc.r) #[] #[]::G) e5 (YY k.hZ X.size) (.cons (.yield e3) ⟨a8,a9⟩);refine⟨loc.r,mark,M,{ target:=.fn (.func gid) G.toArray,args:=#[.func (.yield loc.r) #[] #[]] },M,gid,(.func (.yield loc.r) #[] #[]::G).toArray,M,e1,?_,fun _ _=>trivial,?_,fun hd=>by simp[Fr,Fence.wide]at hd,?_⟩
      .have hy:a.eval (.const (.func (.yield loc.r) #[] #[]))=.func (.yield loc.r) #[] #[]:=rfl;simp[resolve,rangeCall,a7,Deferred.ofValue,hy]
      .have:(#[.func (.yield loc.r) #[] #[]]:LO)++G.toArray=(.func (.yield loc.r) #[] #[]::G).toArray:=by simp
       simp only[invoke,this];exact a2 M
      .refine CallsIn.mono (Pa.2 a1) ?_;rintro e B ⟨D,Y,y,g3,g4,v',rfl,g5⟩;have ad:zg.le s.h.next ρ D:=e2.trans Y (by rw[TH.nP];omega);have u:=Y.more _ _ _ e3;obtain⟨o',O,bb⟩:=y.obj _ _ _ u;rw[R]at O;injection O with O;subst O
       cases o with
       | row=>cases hs
       | map=>cases hs
       | dfr=>cases hs
       | ro=>cases hs
       | loop bm i I J K L d =>
        obtain⟨b5,j,a3,N',n',m',S,q2,q3,q4,b,q6,q7,q8,q9,bp,bs,bw⟩:=bb;rw[u]at S;injection S with S;subst S;have ah:j.state ≠ .busy:=fun hb=>by rw[q4]at hb;subst hb;cases hs
        have U:some (i,(⟨s.tm,st.df,h1.set st.l (.loop .exhausted i I J K L d)⟩:St))=some (x,s'):=by
         rw[<- hs]
         cases bm<;>first|rfl|(exact absurd q4 ah)
        injection U with U;injection U with bx b0;subst bx;subst b0;have V:∀t T,D st.l t=some T->Z<=T.r:=fun t T f=>y.own f R (fun cs h=>by cases h);have b1:=y.dom _ _ _ u;have b2:=V _ _ u;have a4:(B.putObj loc.r (.loop { j with state:=.exhausted })).heap[loc.r]?=some (.loop { j with state:=.exhausted }):=World.putObj_heap_same b1.2.2;have b3:∀c t z,c≠st.l->D c t=some z->z.r≠loc.r:=fun c t z q f e=>q (y.sep _ _ _ _ _ _ f u e zo);have k2:=y.change (ρ':=D) (x':=.loop .exhausted i I J K L d) (fun _ _ _ h=>h) (fun _ _ _=>rfl) u (w':=B.putObj loc.r (.loop { j with state:=.exhausted })) (by simp) (fun c t z q f=>World.putObj_heap_other (b3 c t z q f))
         ⟨loc,_,a3,N',n',m',u,q2,a4,rfl,b,q6,q7,q8,q9,bp,bs,bw⟩ (fun t z f=>by
          have b4:=y.dom _ _ _ f;exact⟨V _ _ f,by simp;exact b4.2.2⟩) (fun t z f c b7 cb q a5 e=>q (y.sep _ _ _ _ _ _ f a5 e (V _ _ f)).symm)
        have av:=BK (w:=B) b2 (.loop { j with state:=.exhausted });have Q:∀e,XR D i e->CR P Z ρ N ca s.h w i ⟨s.tm,st.df,h1.set st.l (.loop .exhausted i I J K L d)⟩ e { a with defers:=mark++a.defers } (B.putObj loc.r (.loop { j with state:=.exhausted })):=fun e he =>
         ⟨D,ad,(X.trans g3).trans av,by
          rw[TH.next_set];rw[TH.nP]at g4;omega,he,k2,k.tm.mono ad.more,k.sz,e7.mono Y.more,YY k.hZ ((X.trans g3).trans av).size⟩
        refine⟨j.pending,_,run_endLoop q3 ah,?_⟩
        suffices a0:∀A,A=j.pending->(match A with
         | none=>CR P Z ρ N ca s.h w i ⟨s.tm,st.df,h1.set st.l (.loop .exhausted i I J K L d)⟩ .normal { a with defers:=mark++a.defers } (B.putObj loc.r (.loop { j with state:=.exhausted }))
         | some c=>c.wpIn (Fr rnd) 0 P (CR P Z ρ N ca s.h w i ⟨s.tm,st.df,h1.set st.l (.loop .exhausted i I J K L d)⟩) { a with defers:=mark++a.defers } (B.putObj loc.r (.loop { j with state:=.exhausted }))) by grind
        intro A a0;rw[<- a0]at b
        cases i with
        | norm =>
         have b:A=none:=b;subst b;exact Q _ rfl
        | exit id =>
         have b:A=some (.exit id):=b;subst b;exact wpIn_exit (Q _ rfl)
        | goto l =>
         have b:A=some (.goto l):=b;subst b;exact wpIn_goto (Q _ rfl)
        | ret =>
         have b:A=some .ret:=b;subst b;exact wpIn_ret (Q _ rfl)
        | panic v=>exact b.elim
theorem CR.refl(k:uW P Z ρ N ca s a w)(hx:XR ρ x e):CR P Z ρ N ca s.h w x s e a w:=⟨ρ,.refl _ _,.refl _ _,Ym _,hx,k⟩
theorem XR.norm(hx:XR ρ x e)(h:e=.normal):x=.norm:=by
 cases x<;>simp only[XR]at hx<;>first|rfl|(subst hx;cases h)|(obtain⟨_,e,_⟩:=hx;rw[e]at h;cases h)
theorem XR.goto(hx:XR ρ x e)(h:e=.goto l):x=.goto l:=by
 cases x<;>simp only[XR]at hx<;>first|(subst hx;cases h;done)|(obtain⟨_,e,_⟩:=hx;rw[e]at h;cases h;done)|(subst hx;injection h with h;subst h;rfl)
theorem XR.exit(hx:XR ρ x e)(h:e=.exit l):x=.exit l:=by
 cases x<;>simp only[XR]at hx<;>first|(subst hx;cases h;done)|(obtain⟨_,e,_⟩:=hx;rw[e]at h;cases h;done)|(subst hx;injection h with h;subst h;rfl)
theorem B6(hC:pE P C)(hR:mM P C)(hmix:P.follows .mixedOrders=true){M:Nat}{rnd:LB}(hrnd:rnd=none\/∀f,ca.get f=none):
  ∀(n:Nat) (c:Code) (T:vw),ut P N n c=some T->∀(ρ:zg) (s:St) (a:Act) (w:World) (x:TX) (s':St),cN ρ trnd rnd->uW P Z ρ N ca s a w->vE C ca M trnd T s=some (x,s')->c.wpIn (Fr rnd) 0 P (CR P Z ρ N ca s.h w x s') a w:=by
 intro n
 induction n with
 | zero=>intro c T d;cases d
 | succ n V =>
  intro c T d ρ s a w x s' G k i
  cases c with
  | skip =>
   simp only[ut]at d;injection d with d;subst d;simp only[vE]at i;injection i with i;injection i with h1 h2;subst h1;subst h2;exact wpIn_skip (CR.refl k rfl)
  | label l =>
   simp only[ut]at d;injection d with d;subst d;simp only[vE]at i;injection i with i;injection i with h1 h2;subst h1;subst h2;exact wpIn_label (CR.refl k rfl)
  | region id ops a4 =>
   simp only[ut]at d
   split at d
   .cases d
   .rename_i os hos
    cases a4 with
    | false =>
     simp only[Zi,if_false]at d;injection d with d;subst d;exact VY hC hR hrnd hos k i
    | true =>
     simp only[if_true]at d;exact P7 hC hR hrnd hmix hos d k i
  | seq c1 c2 =>
   simp only[ut]at d
   split at d
   .rename_i t1 t2 h1 h2;injection d with d;subst d;simp only[vE]at i;refine wpIn_seq ?_
    cases q:vE C ca M trnd t1 s with
    | none=>rw[q]at i;cases i
    | some X =>
     obtain⟨u,v⟩:=X;rw[q]at i;refine wpIn_mono (V c1 t1 h1 ρ s a w u v G k q) ?_;intro e J K z;obtain⟨L,I,O,R,y,S⟩:=z
     by_cases A:e=.normal
     .have:=y.norm A;subst this;subst A;exact wpIn_mono (V c2 t2 h2 L v J K x s' (G.mono I.more) S i) fun e a2 w2 ab=>ab.trans I O R
     .have ad:u ≠ .norm:=fun U=>by subst U;exact A y
      have o:some (u,v)=some (x,s'):=by grind
      injection o with o;injection o with B D;subst B;subst D
      cases e<;>first|exact absurd rfl A|exact⟨L,I,O,R,y,S⟩
   .cases d
  | cond c c1 c2 =>
   simp only[ut]at d
   split at d
   .rename_i c' t1 t2 hc' h1 h2;injection d with d;subst d;simp only[vE]at i
    split at i
    .rename_i hb;have hv:=sA k.tm hc' hb;generalize a0:a.eval c=av at hv
     cases hv
     exact wpIn_cond_true a0 (V c1 t1 h1 ρ s a w x s' G k i)
    .rename_i hb;have hv:=sA k.tm hc' hb;generalize a0:a.eval c=av at hv
     cases hv
     exact wpIn_cond_false a0 (V c2 t2 h2 ρ s a w x s' G k i)
    .cases i
   .cases d
  | block id b =>
   simp only[ut]at d
   split at d
   .rename_i t ht;injection d with d;subst d;simp only[vE]at i;refine wpIn_block ?_
    cases q:vE C ca M trnd t s with
    | none=>rw[q]at i;cases i
    | some X =>
     obtain⟨u,v⟩:=X;rw[q]at i;refine wpIn_mono (V b t ht ρ s a w u v G k q) ?_;intro e J K z;obtain⟨L,I,O,R,y,S⟩:=z
     by_cases A:∃j,e=.exit j
     .obtain⟨j,rfl⟩:=A;have:=y.exit rfl;subst this;simp only[Exit.inBlock];dsimp only at i
      by_cases Y:j=id
      .subst Y;rw[show Nat.beq j j=true from Nat.beq_refl j]at i;simp only[cond_true]at i;injection i with i;injection i with B D;subst B;subst D;rw[if_pos rfl];exact⟨L,I,O,R,rfl,S⟩
      .rw[show Nat.beq j id=false from zCV9.2 fun h=>Y (Yo h)]at i;simp only[cond_false]at i;injection i with i;injection i with B D;subst B;subst D;rw[if_neg Y];exact⟨L,I,O,R,rfl,S⟩
     .have ad:∀j,u ≠ .exit j:=fun j U=>by subst U;exact A ⟨j,y⟩
      have o:some (u,v)=some (x,s'):=by grind
      injection o with o;injection o with B D;subst B;subst D
      cases e<;>first|exact absurd ⟨_,rfl⟩ A|exact⟨L,I,O,R,y,S⟩
   .cases d
  | loop b =>
   simp only[ut]at d
   split at d
   .rename_i t ht;injection d with d;subst d;simp only[vE]at i;refine wpIn_loop_rounds M ?_;have key:∀(m:Nat) (ρ:zg) (s:St) (a:Act) (w:World),cN ρ trnd rnd->uW P Z ρ N ca s a w->b9 (vE C ca M trnd t) m s=some (x,s')->∀Q:Exit->Act->World->Prop,(∀e a' w',CR P Z ρ N ca s.h w x s' e a' w'->Q e a' w')->Code.roundsIn (Fr rnd) 0 P b Q m a w:=by
     intro m
     induction m with
     | zero=>intro ρ s a w _ _ i;cases i
     | succ m a6 =>
      intro ρ s a w G k i Q hQ;simp only[b9]at i;rw[roundsIn_succ]
      cases q:vE C ca M trnd t s with
      | none=>rw[q]at i;cases i
      | some X =>
       obtain⟨u,v⟩:=X;rw[q]at i;refine wpIn_mono (V b t ht ρ s a w u v G k q) ?_;intro e J K z;obtain⟨L,I,O,R,y,S⟩:=z
       by_cases A:e=.normal
       .have:=y.norm A;subst this;subst A;exact a6 L v J K (G.mono I.more) S i Q fun e a2 w2 ab=>hQ _ _ _ (ab.trans I O R)
       .have ad:u ≠ .norm:=fun U=>by subst U;exact A y
        have o:some (u,v)=some (x,s'):=by grind
        injection o with o;injection o with B D;subst B;subst D;have:=hQ e J K ⟨L,I,O,R,y,S⟩
        cases e<;>first|exact absurd rfl A|exact this
    exact key M ρ s a w G k i _ fun _ _ _ h=>h
   .cases d
  | rangeFunc f ps c1 c2 =>
   simp only[ut]at d
   split at d
   .cases d
   .rename_i hps
    split at d
    .rename_i f' t1 t2 hf h1 h2;injection d with d;subst d;simp only[vE]at i
     split at i
     .rename_i g cap hg;exact VF hC k G (sA k.tm hf hg) (fun p hp=>by
       have:=YZ.1 (Bool.not_eq_false _ ▸ hps) p hp;simpa using this) h1 h2 i
     .cases i
    .cases d
  | exit id =>
   simp only[ut]at d;injection d with d;subst d;simp only[vE]at i;injection i with i;injection i with h1 h2;subst h1;subst h2;exact wpIn_exit (CR.refl k rfl)
  | goto l =>
   simp only[ut]at d;injection d with d;subst d;simp only[vE]at i;injection i with i;injection i with h1 h2;subst h1;subst h2;exact wpIn_goto (CR.refl k rfl)
  | ret =>
   simp only[ut]at d;injection d with d;subst d;simp only[vE]at i;injection i with i;injection i with h1 h2;subst h1;subst h2;exact wpIn_ret (CR.refl k rfl)
  | scope b =>
   simp only[ut]at d
   split at d
   .split at d
    .rename_i t ht;injection d with d;subst d;simp only[vE]at i
     cases q:vE C ca M trnd t s with
     | none=>rw[q]at i;cases i
     | some X =>
      obtain⟨u,v⟩:=X;rw[q]at i;refine EE (fun _ _=>False) 0 (.inl fun _ _ h=>h) ?_;refine wpIn_mono (V b t ht ρ s a w u v G k q) ?_;intro e J K z;have ad:∀j,u ≠ .goto j:=fun j U=>by subst U;cases i
      have o:some (u,v)=some (x,s'):=by grind
      injection o with o;injection o with B D;subst B;subst D
      cases e<;>first|exact z|(obtain⟨_,_,_,_,y,_⟩:=z;exact absurd (y.goto rfl) (ad _))
    .cases d
   .rename_i l hl
    split at d
    .cases d
    .rename_i r hfl
     split at d
     .rename_i t1 t2 h1 h2;injection d with d;subst d;simp only[vE]at i
      cases q:vE C ca M trnd t1 s with
      | none=>rw[q]at i;cases i
      | some X =>
       obtain⟨u,v⟩:=X;rw[q]at i
       by_cases hg:∃j,u=.goto j
       .obtain⟨j,rfl⟩:=hg;dsimp only at i;obtain⟨Y,ah⟩:=ve i;have Y:=Yo Y;subst Y
        cases a3:vE C ca M trnd t2 v with
        | none=>rw[a3]at ah;cases ah
        | some r2 =>
         obtain⟨x2,s2⟩:=r2;rw[a3]at ah;have a7:∀j,x2 ≠ .goto j:=fun j U=>by subst U;cases ah
         have o:some (x2,s2)=some (x,s'):=by grind
         injection o with o;injection o with B D;subst B;subst D;refine EE (fun J K=>CR P Z ρ N ca s.h w (.goto j) v (.goto j) J K) j (.inr ⟨r,hfl,fun J K z=>?_⟩) ?_
         .obtain⟨L,I,O,R,y,S⟩:=z;refine wpIn_mono (V r t2 h2 L v J K x2 s2 (G.mono I.more) S a3) ?_;intro e a2 w2 ab;have a5:=ab.trans I O R
          cases e<;>first|exact a5|(obtain⟨_,_,_,_,y,_⟩:=ab;exact absurd (y.goto rfl) (a7 _))
         .refine wpIn_mono (V b t1 h1 ρ s a w (.goto j) v G k q) ?_;intro e J K z;have A:e=.goto j:=by obtain⟨_,_,_,_,y,_⟩:=z;exact y
          subst A;exact⟨rfl,z⟩
       .have ad:∀j,u ≠ .goto j:=fun j U=>hg ⟨j,U⟩;have o:some (u,v)=some (x,s'):=by grind
        injection o with o;injection o with B D;subst B;subst D;refine EE (fun _ _=>False) 0 (.inl fun _ _ h=>h) ?_;refine wpIn_mono (V b t1 h1 ρ s a w u v G k q) ?_;intro e J K z
        cases e<;>first|exact z|(obtain⟨_,_,_,_,y,_⟩:=z;exact absurd (y.goto rfl) (ad _))
     .cases d
  | refuse=>cases d
end Tw
end Go.Proofs.YtkeknmgnoceogaaGreat
