/- part 1 of the proof of tree_reads. -/
import Derived.KernelRfl
import Derived.CallsIn
import Derived.RangeFuncLeaves
import Derived.OrdersIn
import Derived.Maps.AppendAt
import Derived.Below
import Derived.Laws.CopyOwn
import Derived.RangeFuncRecord
import Derived.Lib.Hide
import Derived.Laws.StructEq
import Derived.Laws.Tables
set_option linter.unusedSimpArgs false
set_option linter.unusedVariables false
set_option linter.defProp false
namespace Go.Proofs.YtfomlmhnmheenaaGreat
def zAA9:=@List.length_map
def zAB9:=@List.getElem?_eq_getElem
def zAC9:=@List.length_append
def zAD9:=@List.getElem?_eq_some_iff
def zAE9:=@List.length_cons
def zAF9:=@List.append_assoc
def zAG9:=@List.getElem?_map
def zAH9:=@List.length_nil
def zAI9:=@List.cons_append
def zAJ9:=@Nat.eq_of_beq_eq_true
def zAK9:=@List.mem_of_getElem?
def zAL9:=@List.nil_append
def zAM9:=@Nat.le_refl
def zAN9:=@Nat.zero_add
def zAO9:=@List.getElem?_append_right
def zAP9:=@List.mem_map
def zAQ9:=@List.getD_eq_getElem?_getD
def zAR9:=@Bool.and_eq_true
def zAS9:=@Nat.zero_le
def zAT9:=@List.mem_cons_of_mem
def zAU9:=@List.drop_eq_getElem_cons
def zAV9:=@List.mem_cons_self
def zAW9:=@List.getElem?_append_left
def zAX9:=@List.mem_cons
def zAY9:=@List.getElem?_cons_succ
def zAZ9:=@List.getElem?_set_ne
def zBA9:=@Nat.le_of_ble_eq_true
def zBB9:=@List.length_take
def zBC9:=@List.mem_flatMap
def zBD9:=@List.getElem?_take
def zBE9:=@Nat.lt_of_lt_of_le
def zBF9:=@List.mem_append
def zBG9:=@List.drop_length
def zBH9:=@List.getElem?_set_self
def zBI9:=@List.all_eq_true
def zBJ9:=@List.mem_iff_getElem
def zBK9:=@List.take_length
def zBL9:=@List.mem_singleton
def zBM9:=@List.take_add_one
def zBN9:=@Nat.le_trans
def zBO9:=@List.length_pos_iff
def zBP9:=@List.getElem_mem
def zBQ9:=@List.getElem?_eq_none
def zBR9:=@Array.getElem?_toList
def zBS9:=@List.flatMap_cons
def zBT9:=@Nat.lt_succ_self
def zBU9:=@Nat.mul_le_mul_right
def zBV9:=@List.set_append_right
def zBW9:=@Array.getElem?_eq_some_iff
def zBX9:=@List.map_nil
def zBY9:=@List.mem_of_mem_drop
def zBZ9:=@List.map_append
def zCA9:=@Bool.true_and
def zCB9:=@List.getElem?_drop
def zCC9:=@List.filter_cons
def zCD9:=@List.contains_cons
def zCE9:=@List.mem_of_mem_take
def zCF9:=@List.getLast?_eq_getElem?
def zCG9:=@List.eq_nil_of_length_eq_zero
def zCH9:=@List.map_cons
def zCI9:=@List.length_drop
def zCJ9:=@List.filter_nil
def zCK9:=@List.set_cons_succ
def zCL9:=@Array.getElem?_eq_getElem
def zCM9:=@List.contains_nil
def zCN9:=@Nat.add_mul
def zCO9:=@Nat.succ_pos
def zCP9:=@Nat.lt_or_ge
def zCQ9:=@List.map_drop
def zCR9:=@Array.getD_eq_getD_getElem?
def zCS9:=@List.length_set
def zCT9:=@List.flatMap_append
def zCU9:=@Int.toNat_natCast
def zCV9:=@List.getLast?_eq_none_iff
def zCW9:=@Bool.false_eq_true
def zCX9:=@List.set_cons_zero
def zCY9:=@List.mem_filter
def zCZ9:=@Bool.or_false
def zDA9:=@Nat.succ_mul
def zDB9:=@List.contains_iff_mem
def zDC9:=@List.mem_range
def zDD9:=@List.take_of_length_le
def zDE9:=@List.replicate_succ
def zDF9:=@Nat.add_assoc
def zDG9:=@List.not_mem_nil
def zDH9:=@Nat.add_zero
def zDI9:=@Nat.min_eq_left
def zDJ9:=@List.range_succ
def zDK9:=@List.getElem?_zip_eq_some
def zDL9:=@Nat.add_comm
def zDM9:=@List.map_map
def zDN9:=@List.map_take
def zDO9:=@List.mem_iff_getElem?
def zDP9:=@List.mem_append_right
def zDQ9:=@List.pairwise_iff_getElem
def zDR9:=@Array.getElem?_setIfInBounds_ne
def zDS9:=@List.getElem?_append
def zDT9:=@List.dropLast_concat
def zDU9:=@Bool.eq_iff_iff
def zDV9:=@List.size_toArray
def zDW9:=@List.take_append_of_le_length
def zDX9:=@List.length_eq_zero_iff
def zDY9:=@List.getLast?_cons_cons
def zDZ9:=@List.map_congr_left
def zEA9:=@Nat.mod_eq_of_lt
def zEB9:=@List.append_nil
def zEC9:=@Bool.not_eq_true'
def zED9:=@Nat.blt_eq
def zEE9:=@List.mem_append_left
def zEF9:=@List.getElem?_mapIdx
def zEG9:=@List.getLast?_concat
def zEH9:=@List.drop_drop
def zEI9:=@Bool.false_and
def zEJ9:=@Bool.not_eq_true
def zEK9:=@List.mem_reverse
def zEL9:=@List.getElem?_range
def zEM9:=@Bool.or_eq_true
def zEN9:=@List.mem_filterMap
def zEO9:=@List.drop_of_length_le
def zEP9:=@List.length_eq_one_iff
def zEQ9:=@List.drop_eq_nil_of_le
def zER9:=@List.reverse_cons
def zES9:=@List.ext_getElem?
def zET9:=@List.map_set
def zEU9:=@Option.getD_some
def zEV9:=@Array.toList_setIfInBounds
def zEW9:=@Array.getElem?_append_left
def zEX9:=@Int.toNat_of_nonneg
def zEY9:=@Nat.not_lt_zero
def zEZ9:=@List.nodup_cons
def zFA9:=@List.of_mem_zip
def zFB9:=@Int.natCast_nonneg
def zFC9:=@List.findIdx?_cons
def zFD9:=@List.eq_of_mem_replicate
def zFE9:=@Nat.add_sub_cancel
def zFF9:=@List.drop_take
def zFG9:=@List.drop_zero
def zFH9:=@List.take_take
def zFI9:=@List.getElem?_cons_zero
def zFJ9:=@Array.size_append
def zFK9:=@List.getElem?_set
def zFL9:=@Array.toList_map
def zFM9:=@List.getElem_map
def zFN9:=@List.getElem?_toArray
def zFO9:=@Array.getElem?_modify
def zFP9:=@List.length_filter_le
def zFQ9:=@List.take_append_drop
def zFR9:=@Nat.sub_zero
def zFS9:=@List.mem_of_getLast?
def zFT9:=@List.dropLast_subset
def zFU9:=@List.drop_append_of_le_length
def zFV9:=@Array.length_toList
def zFW9:=@List.take_succ_cons
def zFX9:=@List.take_zero
def zGB9:=@List.getElem_take
end Go.Proofs.YtfomlmhnmheenaaGreat
namespace Go.Proofs.YtfomlmhnmheenaaGreat
namespace Tw
inductive Tr (α:Type) where
 | nil
 | node (l:Tr α) (v:Option α) (r:Tr α)
def Tr.get {α:Type}:Tr α->Nat->Option α
 | .nil,_=>none
 | .node l v r,n=>bif Nat.beq n 0 then v else bif Nat.beq (n%2) 1 then l.get (n/2)else r.get (n/2-1)
def Tr.setN {α:Type}(x:Option α):Nat->Tr α->Nat->Tr α
 | 0,t,_=>t
 | d+1,.nil,n=>bif Nat.beq n 0 then .node .nil x .nil else bif Nat.beq (n%2) 1 then .node (Tr.setN x d .nil (n/2)) none .nil else .node .nil none (Tr.setN x d .nil (n/2-1))
 | d+1,.node l v r,n=>bif Nat.beq n 0 then .node l x r else bif Nat.beq (n%2) 1 then .node (Tr.setN x d l (n/2)) v r else .node l v (Tr.setN x d r (n/2-1))
def Tr.set {α:Type}(t:Tr α)(n:Nat)(x:Option α):Tr α:=Tr.setN x (n+1) t n
def Tr.putL {α:Type}:Tr α->Nat->List α->Tr α
 | t,_,[]=>t
 | t,n,x::l=>Tr.putL (t.set n (some x)) (n+1) l
def Tr.getL {α:Type}(t:Tr α):Nat->Nat->Option (List α)
 | _,0=>some []
 | i,n+1=>match t.get i with
  | none=>none
  | some x=>match Tr.getL t (i+1) n with
   | none=>none
   | some l=>some (x::l)
inductive TV where
 | bool (b:Bool)
 | int (k:IntKind) (n:Int)
 | str (s:List Nat)
 | nilptr
 | ptr (b g o e:Nat)
 | nilsl
 | sl (b g o n q z:Nat)
 | nilmap
 | map (b:Nat)
 | fn (f:Nat) (cap:List TV)
 | yield (l:Nat)
 | nilfn
 | iface (t:Nat) (v:TV)
 | niliface
 | agg (vs:List TV)
 | tuple (vs:List TV)
 deriving Inhabited
def TV.cells:TV->List TV
 | .agg l=>l
 | .tuple _=>[]
 | v=>[v]
inductive TOp where
 | tmp (t:Nat)
 | new (t:Nat)
 | const (v:TV)
 | fn (f:Nat)
inductive zT where
 | mov
 | pick
 | load (agg:Bool) (n:Nat)
 | nilchk
 | bin (op:BinOp)
 | eqnil (neg:Bool) (f:Nat)
 | eqB (neg:Bool)
 | cstr
 | eqagg (neg:Bool) (ks:List Nat)
 | un (op:UnOp)
 | conv (k:IntKind)
 | mkif (t:Nat)
 | mkfn (f:Nat)
 | slice (esz:Nat) (lo hi mx:Bool)
 | slstr (lo hi:Bool)
 | slarr (len esz:Nat) (lo hi:Bool)
 | faddr (off size:Nat)
 | fld (agg:Bool) (off size:Nat)
 | iaddr (esz:Nat)
 | iaddrA (len esz:Nat)
 | idxstr
 | idxagg (len:Nat) (agg:Bool) (esz:Nat)
 | look (kf:Nat) (zero:TV) (ok:Bool)
 | tassert (t:Nat) (zero:TV) (ok:Bool)
 | extr (i:Nat)
 | len (f:Nat)
 | maxI
 | minI
 | build (zero:List TV) (places:List (Nat×Nat))
 | box (e n:Nat)
 | alloc (e:Nat) (zero:List TV)
 | bslice (e esz len:Nat) (zero:List TV) (places:List (Nat×Nat))
 | mkslice (e esz bytes:Nat) (zero:List TV)
 | mkmap
 | store (n:Nat)
 | mupd (kf:Nat)
 | ment (kf:Nat) (zero:TV)
 | estore
 | append (e esz bytes:Nat)
 | copy (esz:Nat)
 | call
 | panic
 | defer
def zT.cls:zT->Nat
 | .box .. | .alloc .. | .bslice .. | .mkslice .. | .mkmap=>1
 | .store .. | .mupd .. | .ment .. | .estore | .append .. | .copy .. | .call | .panic | .defer=>2
 | _=>0
structure zY where
 dst:Option Nat
 kind:zT
 args:List TOp
 guard:Option (TOp×Bool)
structure zb7 where
 chk:List zY
 exe:List zY
 act:Option zY
inductive zbl where
 | skip
 | region (ops:List zY)
 | drawn (zcy:List zb7) (ds:List Nat)
 | seq (a b:zbl)
 | cond (c:TOp) (thn els:zbl)
 | block (id:Nat) (body:zbl)
 | loop (body:zbl)
 | rangef (f:TOp) (params:List Nat) (assign body:zbl)
 | exit (id:Nat)
 | scope (body:zbl) (l:Nat) (rest:zbl)
 | scope0 (body:zbl)
 | goto (l:Nat)
 | ret
inductive TX where
 | norm|exit (id:Nat)|goto (l:Nat)|ret|panic (v:TV)
inductive TD where
 | caught (p clear:TV)
 | mark (b:Nat)
structure zcf where
 k:TV
 v:TV
 n:Nat
inductive TO where
 | row (e G M len:Nat) (cells:Tr TV)
 | map (es:List zcf) (clock:Nat)
 | dfr (shut:Bool)
 | loop (st:LoopState) (pending:TX) (tm:Tr TV) (params:List Nat) (assign body:zbl) (df:Nat)
 | ro (cells:Tr TV)
structure TH where
 next:Nat
 objs:Tr TO
structure St where
 tm:Tr TV
 df:List TD
 h:TH
def TH.push (h:TH)(o:TO):TH:=⟨h.next+1,h.objs.set h.next (some o)⟩
def TH.get (h:TH)(b:Nat):Option TO:=bif Nat.blt b h.next then h.objs.get b else none
def TH.set (h:TH)(b:Nat)(o:TO):TH:=⟨h.next,h.objs.set b (some o)⟩
def St.put (s:St)(d:Option Nat)(v:TV):St:=match d with
 | none=>s
 | some d=>⟨s.tm.set d (some v),s.df,s.h⟩
def zgy:Int->Int->Bool
 | .ofNat a,.ofNat b=>Nat.beq a b
 | .negSucc a,.negSucc b=>Nat.beq a b
 | _,_=>false
def ile (a b:Int):Bool:=match b-a with
 | .ofNat _=>true
 | .negSucc _=>false
def kno:IntKind->Nat
 | .i8=>0 | .i16=>1 | .i32=>2 | .i64=>3 | .u8=>4 | .u16=>5 | .u32=>6 | .u64=>7
def zeK:List Nat->List Nat->Bool
 | [],[]=>true
 | a::l,b::m=>bif Nat.beq a b then zeK l m else false
 | _,_=>false
def zjQ (f:TV->TV->Bool):List TV->List TV->Bool
 | [],[]=>true
 | a::l,b::m=>bif f a b then zjQ f l m else false
 | _,_=>false
def zr4 (x:Bool):TV->Bool
 | .bool y=>bif x then y else bif y then false else true
 | _=>false
def zqt (k:IntKind)(x:Int):TV->Bool
 | .int k' y=>bif Nat.beq (kno k) (kno k')then zgy x y else false
 | _=>false
def zt4 (s:List Nat):TV->Bool
 | .str t=>zeK s t
 | _=>false
def zlA (b g o e:Nat):TV->Bool
 | .ptr b' g' o' e'=>bif Nat.beq b b' then bif Nat.beq g g' then bif Nat.beq o o' then Nat.beq e e' else false else false else false
 | _=>false
def zoM (b g o n q z:Nat):TV->Bool
 | .sl b' g' o' n' q' z'=>bif Nat.beq b b' then bif Nat.beq g g' then bif Nat.beq o o' then bif Nat.beq n n' then bif Nat.beq q q' then Nat.beq z z' else false else false else false else false else false
 | _=>false
def zt0 (b:Nat):TV->Bool
 | .map b'=>Nat.beq b b'
 | _=>false
def zqA (l:Nat):TV->Bool
 | .yield m=>Nat.beq l m
 | _=>false
def zsf (f:TV->TV->Bool)(g:Nat)(l:List TV):TV->Bool
 | .fn g' l'=>bif Nat.beq g g' then zjQ f l l' else false
 | _=>false
def zk1 (f:TV->TV->Bool)(t:Nat)(v:TV):TV->Bool
 | .iface t' v'=>bif Nat.beq t t' then f v v' else false
 | _=>false
def zuP (f:TV->TV->Bool)(l:List TV):TV->Bool
 | .agg l'=>zjQ f l l'
 | _=>false
def zpL (f:TV->TV->Bool)(l:List TV):TV->Bool
 | .tuple l'=>zjQ f l l'
 | _=>false
def zeW:TV->Nat
 | .nilptr=>1 | .nilsl=>2 | .nilmap=>3 | .nilfn=>4 | .niliface=>5|_=>0
def TV.beq:Nat->TV->TV->Bool
 | 0,_,_=>false
 | n+1,a,b=>match a with
  | .bool x=>zr4 x b
  | .int k x=>zqt k x b
  | .str s=>zt4 s b
  | .ptr c g o e=>zlA c g o e b
  | .sl c g o n q z=>zoM c g o n q z b
  | .map c=>zt0 c b
  | .fn f l=>zsf (TV.beq n) f l b
  | .iface t v=>zk1 (TV.beq n) t v b
  | .agg l=>zuP (TV.beq n) l b
  | .tuple l=>zpL (TV.beq n) l b
  | .yield l=>zqA l b
  | .nilptr=>Nat.beq (zeW b) 1
  | .nilsl=>Nat.beq (zeW b) 2
  | .nilmap=>Nat.beq (zeW b) 3
  | .nilfn=>Nat.beq (zeW b) 4
  | .niliface=>Nat.beq (zeW b) 5
def zeE (tm:Tr TV):TOp->Option TV
 | .tmp t=>tm.get t
 | .new _=>none
 | .const v=>some v
 | .fn f=>some (.fn f [])
def zdw (tm:Tr TV):List TOp->Option (List TV)
 | []=>some []
 | x::l=>match zeE tm x with
  | none=>none
  | some v=>match zdw tm l with
   | none=>none
   | some vs=>some (v::vs)
def zfA (tm nm:Tr TV):TOp->Option TV
 | .tmp t=>tm.get t
 | .new t=>nm.get t
 | .const v=>some v
 | .fn f=>some (.fn f [])
def zc1 (tm nm:Tr TV):List TOp->Option (List TV)
 | []=>some []
 | x::l=>match zfA tm nm x with
  | none=>none
  | some v=>match zc1 tm nm l with
   | none=>none
   | some vs=>some (v::vs)
def zgg (g o n:Nat):TO->Option (List TV)
 | .row _ G M _ cells=>bif Nat.ble M g then bif Nat.ble g G then cells.getL o n else none else none
 | .ro cells=>bif Nat.beq g 0 then cells.getL o n else none
 | _=>none
def zbs (h:TH)(b g o n:Nat):Option (List TV) :=
 match h.get b with
 | some x=>zgg g o n x
 | none=>none
def zg6:IntKind->Nat
 | .i8=>7 | .i16=>15 | .i32=>31 | .i64=>63 | .u8=>8 | .u16=>16 | .u32=>32 | .u64=>64
def zpY (f:Nat->Nat->Nat)(k:IntKind):Int->Int->Option TV
 | .ofNat a,.ofNat b=>bif Nat.blt a (2 ^ zg6 k)then bif Nat.blt b (2 ^ zg6 k)then some (.int k (.ofNat (f a b)))else none else none
 | _,_=>none
def zxR (k:IntKind)(a:Int):Int->Option TV
 | .ofNat n=>bif Nat.ble n 64 then some (.int k (k.wrap (a*2 ^ (min n k.bits))))else none
 | _=>none
def zxK (k:IntKind):Int->Int->Option TV
 | .ofNat a,.ofNat n=>bif Nat.ble n 64 then some (.int k (.ofNat (a/2 ^ (min n k.bits))))else none
 | _,_=>none
def zfl (op:BinOp)(k k':IntKind)(x y:Int):Option TV :=
 match op with
 | .shl=>zxR k x y
 | .shr=>zxK k x y
 | .add=>bif Nat.beq (kno k) (kno k')then some (.int k (k.wrap (x+y)))else none
 | .sub=>bif Nat.beq (kno k) (kno k')then some (.int k (k.wrap (x-y)))else none
 | .mul=>bif Nat.beq (kno k) (kno k')then some (.int k (k.wrap (x*y)))else none
 | .quo=>bif Nat.beq (kno k) (kno k')then(bif zgy y 0 then none else some (.int k (k.wrap (x.tdiv y))))else none
 | .rem=>bif Nat.beq (kno k) (kno k')then(bif zgy y 0 then none else some (.int k (x.tmod y)))else none
 | .and=>bif Nat.beq (kno k) (kno k')then zpY Nat.land k x y else none
 | .or=>bif Nat.beq (kno k) (kno k')then zpY Nat.lor k x y else none
 | .xor=>bif Nat.beq (kno k) (kno k')then zpY Nat.xor k x y else none
 | .eql=>bif Nat.beq (kno k) (kno k')then some (.bool (zgy x y))else none
 | .neq=>bif Nat.beq (kno k) (kno k')then some (.bool (not (zgy x y)))else none
 | .lss=>bif Nat.beq (kno k) (kno k')then some (.bool (not (ile y x)))else none
 | .leq=>bif Nat.beq (kno k) (kno k')then some (.bool (ile x y))else none
 | .gtr=>bif Nat.beq (kno k) (kno k')then some (.bool (not (ile x y)))else none
 | .geq=>bif Nat.beq (kno k) (kno k')then some (.bool (ile y x))else none
 | .andNot=>none
def zgb:List Nat->List Nat->Bool
 | _,[]=>false
 | [],_::_=>true
 | a::l,b::m=>bif Nat.blt a b then true else bif Nat.beq a b then zgb l m else false
def zvC (op:BinOp)(a b:List Nat):Option TV :=
 match op with
 | .eql=>some (.bool (zeK a b))
 | .neq=>some (.bool (not (zeK a b)))
 | .lss=>some (.bool (zgb a b))
 | .gtr=>some (.bool (zgb b a))
 | .leq=>some (.bool (not (zgb b a)))
 | .geq=>some (.bool (not (zgb a b)))
 | .add=>bif Nat.ble (a.length+b.length) 1000000 then some (.str (a++b))else none
 | _=>none
def zeI (op:BinOp)(k:IntKind)(x:Int):TV->Option TV
 | .int k' y=>zfl op k k' x y
 | _=>none
def zwB (op:BinOp)(a:List Nat):TV->Option TV
 | .str b=>zvC op a b
 | _=>none
def zcR (op:BinOp)(x y:TV):Option TV :=
 match x with
 | .int k a=>zeI op k a y
 | .str a=>zwB op a y
 | _=>none
def zp8:TV->Option Bool
 | .nilptr=>some true
 | .ptr ..=>some false
 | _=>none
def zqJ:TV->Option Bool
 | .nilsl=>some true
 | .sl ..=>some false
 | _=>none
def zqE:TV->Option Bool
 | .nilmap=>some true
 | .map _=>some false
 | _=>none
def za3:TV->Option Bool
 | .nilfn=>some true
 | .fn ..=>some false
 | _=>none
def zqD:TV->Option Bool
 | .niliface=>some true
 | .iface ..=>some false
 | _=>none
def zlX (f:Nat)(x:TV):Option Bool:=match f with
 | 1=>zp8 x
 | 2=>zqJ x
 | 3=>zqE x
 | 4=>za3 x
 | 5=>zqD x
 | _=>none
def zU:Option Bool->Option Bool->Option Bool
 | some a,some b=>bif a then some b else bif b then some false else none
 | _,_=>none
def zhq (f:Nat)(x y:TV):Option Bool:=zU (zlX f x) (zlX f y)
def zlD (k:Nat)(x y:TV):Option Bool :=
 match x with
 | .int j a=>bif Nat.beq k 1 then(match y with | .int j' b=>bif Nat.beq (kno j) (kno j')then some (zgy a b)else none|_=>none)else none
 | .bool a=>bif Nat.beq k 2 then(match y with | .bool b=>some (bif a then b else not b)|_=>none)else none
 | .str a=>bif Nat.beq k 3 then(match y with | .str b=>some (zeK a b)|_=>none)else none
 | _=>none
def zfd:List Nat->List TV->List TV->Option Bool
 | [],[],[]=>some true
 | k::ks,x::l,y::m=>match zlD k x y with
  | some true=>zfd ks l m
  | r=>r
 | _,_,_=>none
def zhw (x y:TV):Option Bool :=
 match x with
 | .int k a=>(match y with | .int k' b=>bif Nat.beq (kno k) (kno k')then some (zgy a b)else none|_=>none)
 | .str a=>(match y with | .str b=>some (zeK a b)|_=>none)
 | _=>none
def zcE (k:TV):List zcf->Nat->Option (Option (Nat×zcf))
 | [],_=>some none
 | e::l,i=>match zhw k e.k with
  | none=>none
  | some true=>some (some (i,e))
  | some false=>zcE k l (i+1)
def zhg:TV->Bool
 | .int ..=>true
 | _=>false
def zqH:TV->Bool
 | .str ..=>true
 | _=>false
def zeM (kf:Nat)(x:TV):Bool:=match kf with
 | 1=>zhg x
 | 2=>zqH x
 | _=>false
def zsq:Int->Option Nat
 | .ofNat n=>some n
 | _=>none
def zdX:TV->Option Nat
 | .int _ n=>zsq n
 | _=>none
def zcX (x:TV)(m:Nat):Option Nat :=
 match zdX x with
 | some n=>bif Nat.ble n m then some n else none
 | none=>none
def zht (cells:List TV):List (Nat×Nat)->List TV->Option (List TV)
 | [],[]=>some cells
 | (off,size)::ps,v::vs =>
  let cs:=v.cells
  bif Nat.beq cs.length size then bif Nat.ble (off+size) cells.length then zht (cells.take off++cs++cells.drop (off+size)) ps vs else none else none
 | _,_=>none
def zdI {α:Type}(l:List α):Nat->List α
 | 0=>[]
 | n+1=>l++zdI l n
def zb9 (vs:List TV)(f:TV->Option TV):Option TV:=match vs with
 | [x]=>f x
 | _=>none
def zb2 (vs:List TV)(f:TV->TV->Option TV):Option TV:=match vs with
 | [x,y]=>f x y
 | _=>none
def zss (vs:List TV):Option TV:=match vs with
 | [.bool c,a,b]=>some (bif c then a else b)
 | _=>none
def one (agg:Bool)(l:List TV):Option TV:=bif agg then some (.agg l)else match l with
 | [x]=>some x
 | _=>none
def zfD (agg:Bool)(n:Nat)(h:TH):TV->Option TV
 | .ptr b g o e=>bif Nat.ble n e then(match zbs h b g o n with|some l=>one agg l|none=>none)else none
 | _=>none
def zmS:TV->Option TV
 | .ptr b g o e=>some (.ptr b g o e)
 | .fn f c=>some (.fn f c)
 | _=>none
def zlB (neg:Bool):Option Bool->Option TV
 | some b=>some (.bool (bif neg then not b else b))
 | none=>none
def zlm (neg:Bool)(ks:List Nat)(x y:TV):Option TV:=match x with
 | .agg l=>(match y with | .agg m=>zlB neg (zfd ks l m)|_=>none)
 | _=>none
def znb (neg:Bool)(x y:TV):Option TV:=match x with
 | .bool a=>(match y with | .bool b=>some (.bool (bif neg then(bif a then not b else b)else bif a then b else not b))|_=>none)
 | _=>none
def zr8:TV->Option TV
 | .str s=>some (.str s)
 | _=>none
def zvH:TV->Option TV
 | .bool b=>some (.bool (not b))
 | _=>none
def zvx:TV->Option TV
 | .int k n=>some (.int k (k.wrap (0-n)))
 | _=>none
def pUn (op:UnOp)(x:TV):Option TV:=match op with
 | .not=>zvH x
 | .neg=>zvx x
 | _=>none
def zkb (k:IntKind):TV->Option TV
 | .int _ n=>some (.int k (k.wrap n))
 | _=>none
def zgv (b g o z:Nat)(x:TV)(h q:Nat):Option TV:=match zcX x h with
 | some l=>some (.sl b g (o+l*z) (h-l) (q-2*l) z)
 | none=>none
def zsJ (b g o q z:Nat)(x:TV):Option TV:=match zcX x (q/2)with
 | some h=>some (.sl b g o h q z)
 | none=>none
def zlC (b g o q z:Nat)(x y:TV):Option TV:=match zcX y (q/2)with
 | some h=>zgv b g o z x h q
 | none=>none
def zoK (b g o q z:Nat)(x y m:TV):Option TV:=match zcX m (q/2)with
 | some m=>(match zcX y m with|some h=>zgv b g o z x h (2*m+1)|none=>none)
 | none=>none
def zfb (lo hi mx:Bool)(b g o n q z:Nat)(bs:List TV):Option TV :=
 match bs with
 | []=>bif lo then none else bif hi then none else bif mx then none else some (.sl b g o n q z)
 | [x]=>bif mx then none else bif lo then(bif hi then none else zgv b g o z x n q)else bif hi then zsJ b g o q z x else none
 | [x,y]=>bif mx then none else bif lo then bif hi then zlC b g o q z x y else none else none
 | [x,y,m]=>bif lo then bif hi then bif mx then zoK b g o q z x y m else none else none else none
 | _=>none
def zjv (lo hi mx:Bool)(bs:List TV):Option TV:=bif mx then none else
 match bs with
 | []=>bif lo then none else bif hi then none else some .nilsl
 | [x]=>(match zcX x 0 with|some _=>bif lo then(bif hi then none else some .nilsl)else bif hi then some .nilsl else none|none=>none)
 | _=>none
def zdH (esz:Nat)(lo hi mx:Bool)(x:TV)(bs:List TV):Option TV:=match x with
 | .nilsl=>zjv lo hi mx bs
 | .sl b g o n q z=>bif Nat.beq esz z then zfb lo hi mx b g o n q z bs else none
 | _=>none
def zgZ (esz:Nat)(lo hi mx:Bool)(vs:List TV):Option TV:=match vs with
 | x::bs=>zdH esz lo hi mx x bs
 | []=>none
def zrQ (lo hi:Bool)(s:List Nat)(bs:List TV):Option TV:=match bs with
 | []=>bif lo then none else bif hi then none else some (.str s)
 | [x]=>bif lo then(bif hi then none else match zcX x s.length with|some l=>some (.str (s.drop l))|none=>none)else bif hi then(match zcX x s.length with|some l=>some (.str (s.take l))|none=>none)else none
 | [x,y]=>bif lo then bif hi then(match zcX y s.length with|some h=>(match zcX x h with|some l=>some (.str ((s.take h).drop l))|none=>none)|none=>none)else none else none
 | _=>none
def zjf (lo hi:Bool)(vs:List TV):Option TV:=match vs with
 | .str s::bs=>zrQ lo hi s bs
 | _=>none
def zmk (len esz:Nat)(lo hi:Bool)(vs:List TV):Option TV:=match vs with
 | [.ptr b g o e]=>bif lo then none else bif hi then none else bif Nat.ble (len*esz) e then some (.sl b g o len (2*len+1) esz)else none
 | _=>none
def zh3 (off size:Nat):TV->Option TV
 | .ptr b g o e=>bif Nat.ble (off+size) e then some (.ptr b g (o+off) size)else none
 | _=>none
def nth:List TV->Nat->Option TV
 | [],_=>none
 | x::l,n=>match n with
  | 0=>some x
  | n+1=>nth l n
def zj4 (agg:Bool)(off size:Nat)(l:List TV):Option TV :=
 bif agg then(bif Nat.ble (off+size) l.length then some (.agg ((l.drop off).take size))else none)else nth l off
def zvE (agg:Bool)(off size:Nat):TV->Option TV
 | .agg l=>zj4 agg off size l
 | _=>none
def zhX (esz:Nat)(x y:TV):Option TV:=match x with
 | .sl b g o n _ z=>bif Nat.beq esz z then(match zdX y with|some i=>bif Nat.blt i n then some (.ptr b g (o+i*z) z)else none|none=>none)else none
 | _=>none
def zgM (len esz:Nat)(x y:TV):Option TV:=match x with
 | .ptr b g o e=>(match zdX y with|some i=>bif Nat.blt i len then bif Nat.ble (len*esz) e then some (.ptr b g (o+i*esz) esz)else none else none|none=>none)
 | _=>none
def zpN:List Nat->Nat->Option Nat
 | [],_=>none
 | x::l,n=>match n with
  | 0=>some x
  | n+1=>zpN l n
def zkl (x y:TV):Option TV:=match x with
 | .str s=>(match zdX y with|some i=>(match zpN s i with|some c=>some (.int .u8 (.ofNat c))|none=>none)|none=>none)
 | _=>none
def zm2 (len:Nat)(agg:Bool)(esz:Nat)(x y:TV):Option TV:=match x with
 | .agg l=>(match zdX y with|some i=>bif Nat.blt i len then zj4 agg (i*esz) esz l else none|none=>none)
 | _=>none
def okT (ok:Bool)(v:TV)(b:Bool):TV:=bif ok then .tuple [v,.bool b]else v
def zoJ (zero:TV)(ok:Bool)(k:TV):TO->Option TV
 | .map es _=>(match zcE k es 0 with
  | some (some (_,e))=>some (okT ok e.v true)
  | some none=>some (okT ok zero false)
  | none=>none)
 | _=>none
def zgA (kf:Nat)(zero:TV)(ok:Bool)(h:TH)(x k:TV):Option TV:=bif zeM kf k then(match x with
 | .nilmap=>some (okT ok zero false)
 | .map b=>(match h.get b with|some o=>zoJ zero ok k o|none=>none)
 | _=>none)else none
def ziu (t:Nat)(zero:TV)(ok:Bool):TV->Option TV
 | .iface t' v=>bif Nat.beq t t' then some (okT ok v true)else bif ok then some (.tuple [zero,.bool false])else none
 | .niliface=>bif ok then some (.tuple [zero,.bool false])else none
 | _=>none
def zoL (i:Nat):TV->Option TV
 | .tuple l=>nth l i
 | _=>none
def zx3:TO->Option TV
 | .map es _=>some (.int .i64 (.ofNat es.length))
 | _=>none
def zwr:TV->Option TV
 | .nilsl=>some (.int .i64 (.ofNat 0))
 | .sl _ _ _ n _ _=>some (.int .i64 (.ofNat n))
 | _=>none
def zs2 (h:TH):TV->Option TV
 | .nilmap=>some (.int .i64 (.ofNat 0))
 | .map b=>(match h.get b with|some o=>zx3 o|none=>none)
 | _=>none
def zsZ:TV->Option TV
 | .str s=>some (.int .i64 (.ofNat s.length))
 | _=>none
def zmY (f:Nat)(h:TH)(x:TV):Option TV:=match f with
 | 1=>zwr x
 | 2=>zs2 h x
 | 3=>zsZ x
 | _=>none
def zhO (mx:Bool)(x y:TV):Option TV:=match x with
 | .int k a=>(match y with | .int k' b=>bif Nat.beq (kno k) (kno k')then some (.int k (bif mx then(bif ile b a then a else b)else(bif ile a b then a else b)))else none|_=>none)
 | _=>none
def zlV (zero:List TV)(places:List (Nat×Nat))(vs:List TV):Option TV:=match zht zero places vs with
 | some l=>some (.agg l)
 | none=>none
def pas (k:zT)(vs:List TV)(h:TH):Option TV :=
 match k with
 | .mov=>zb9 vs some
 | .pick=>zss vs
 | .load agg n=>zb9 vs (zfD agg n h)
 | .nilchk=>zb9 vs zmS
 | .bin op=>zb2 vs (zcR op)
 | .eqnil neg f=>zb2 vs fun x y=>zlB neg (zhq f x y)
 | .eqagg neg ks=>zb2 vs (zlm neg ks)
 | .eqB neg=>zb2 vs (znb neg)
 | .cstr=>zb9 vs zr8
 | .un op=>zb9 vs (pUn op)
 | .conv k=>zb9 vs (zkb k)
 | .mkif t=>zb9 vs fun x=>some (.iface t x)
 | .mkfn f=>some (.fn f vs)
 | .slice esz lo hi mx=>zgZ esz lo hi mx vs
 | .slstr lo hi=>zjf lo hi vs
 | .slarr len esz lo hi=>zmk len esz lo hi vs
 | .faddr off size=>zb9 vs (zh3 off size)
 | .fld agg off size=>zb9 vs (zvE agg off size)
 | .iaddr esz=>zb2 vs (zhX esz)
 | .iaddrA len esz=>zb2 vs (zgM len esz)
 | .idxstr=>zb2 vs zkl
 | .idxagg len agg esz=>zb2 vs (zm2 len agg esz)
 | .look kf zero ok=>zb2 vs (zgA kf zero ok h)
 | .tassert t zero ok=>zb9 vs (ziu t zero ok)
 | .extr i=>zb9 vs (zoL i)
 | .len f=>zb9 vs (zmY f h)
 | .maxI=>zb2 vs (zhO true)
 | .minI=>zb2 vs (zhO false)
 | .build zero places=>zlV zero places vs
 | _=>none
def zb8 (e:Nat)(l:List TV):TO:=.row e 0 0 l.length (Tr.putL .nil 0 l)
structure zde where
 o:TO
 v:TV
def zmQ (e n b:Nat)(vs:List TV):Option zde:=match vs with
 | [v]=>bif Nat.beq v.cells.length n then some ⟨zb8 e v.cells,.ptr b 0 0 n⟩else none
 | _=>none
def zje (e:Nat)(zero:List TV)(b:Nat)(vs:List TV):Option zde:=match vs with
 | []=>some ⟨zb8 e zero,.ptr b 0 0 zero.length⟩
 | _=>none
def zgQ (e esz len:Nat)(zero:List TV)(places:List (Nat×Nat))(b:Nat)(vs:List TV):Option zde :=
 bif Nat.ble (len*esz) 16777216 then(match zht (zdI zero len) places vs with
  | some l=>some ⟨zb8 e l,.sl b 0 0 len (2*len) esz⟩
  | none=>none)else none
def zfZ (e esz bytes:Nat)(zero:List TV)(b:Nat)(vs:List TV):Option zde:=match vs with
 | [x,y]=>(match zdX x,zdX y with
  | some n,some c=>bif Nat.ble n c then bif Nat.ble c 1000000 then bif Nat.ble (c*bytes) 140737488355328 then some ⟨zb8 e (zdI zero n),.sl b 0 0 n (2*n) esz⟩else none else none else none
  | _,_=>none)
 | _=>none
def zi9 (b:Nat)(vs:List TV):Option zde:=match vs with
 | []=>some ⟨.map [] 0,.map b⟩
 | [.int _ _]=>some ⟨.map [] 0,.map b⟩
 | _=>none
def lay (k:zT)(vs:List TV)(b:Nat):Option zde :=
 match k with
 | .box e n=>zmQ e n b vs
 | .alloc e zero=>zje e zero b vs
 | .bslice e esz len zero places=>zgQ e esz len zero places b vs
 | .mkslice e esz bytes zero=>zfZ e esz bytes zero b vs
 | .mkmap=>zi9 b vs
 | _=>none
inductive TE where
 | ret (v:TV)
 | panic (v:TV)
structure zbt where
 fn:Nat->List TV->TH->Option (TE×TH)
 rd:Nat->List TV->TH->Option (Bool×TH)
def zl4 (h:TH)(b g o:Nat)(l:List TV):TO->Option TH
 | .row e G _ len cells=>bif Nat.beq g G then bif Nat.ble (o+l.length) len then some (h.set b (.row e G G len (cells.putL o l)))else none else none
 | _=>none
def zdo (h:TH)(b g o:Nat)(l:List TV):Option TH :=
 match h.get b with
 | some x=>zl4 h b g o l x
 | none=>none
def zep (h:TH)(esz:Nat)(x:TV)(n:Nat):Option (List TV):=match x with
 | .nilsl=>some []
 | .sl b g o _ _ z=>bif Nat.beq esz z then zbs h b g o (n*z)else none
 | _=>none
def lenV:TV->Nat
 | .sl _ _ _ n _ _=>n
 | .str s=>s.length
 | _=>0
inductive TR where
 | ok (v:TV) (h:TH)
 | panic (v:TV) (h:TH)
 | dfr (d:TD)
def zjb (h:TH)(e esz bytes m:Nat)(news:List TV):Option TR :=
 bif Nat.ble (m*(bytes+1)) 140737488355328 then some (.ok (.sl h.next 0 0 m (2*m) esz) (h.push (zb8 e news)))else none
def zmi (h:TH)(e bytes b g n z m:Nat)(news:List TV):TO->Option TR
 | .row e' G M len cells =>
  bif Nat.beq e e' then bif Nat.beq g G then bif Nat.beq (n*z) len then bif Nat.ble ((n+m)*(bytes+1)) 140737488355328 then
   some (.ok (.sl b (G+1) 0 (n+m) (2*(n+m)) z) (h.set b (.row e' (G+1) M (len+news.length) (cells.putL len news))))
  else none else none else none else none
 | _=>none
def zs8 (h:TH)(e esz bytes:Nat)(s x:TV):Option TR :=
 match zep h esz x (lenV x)with
 | none=>none
 | some news =>
  match s with
  | .nilsl=>bif Nat.beq (lenV x) 0 then some (.ok .nilsl h)else zjb h e esz bytes (lenV x) news
  | .sl b g o n q z=>bif Nat.beq (lenV x) 0 then some (.ok (.sl b g o n q z) h)else
   bif Nat.beq o 0 then bif Nat.beq (q%2) 0 then bif Nat.beq esz z then(match h.get b with
   | some r=>zmi h e bytes b g n z (lenV x) news r
   | none=>none)else none else none else none
  | _=>none
def setE (i:Nat)(k v:TV)(es:List zcf):List zcf:=match es with
 | []=>[]
 | e::l=>match i with
  | 0=>⟨k,v,e.n⟩::l
  | i+1=>e::setE i k v l
def zlE (n:Nat)(v:TV):List zcf->Option (List zcf)
 | []=>none
 | e::l=>bif Nat.beq e.n n then some (⟨e.k,v,e.n⟩::l)else match zlE n v l with
  | none=>none
  | some l'=>some (e::l')
def zgm (n:Nat)(h:TH)(vs:List TV):Option TR:=match vs with
 | [.ptr b g o e,v]=>bif Nat.beq v.cells.length n then bif Nat.ble n e then(match zdo h b g o v.cells with
  | some h=>some (.ok (.tuple []) h)
  | none=>none)else none else none
 | _=>none
def zsQ (h:TH)(b:Nat)(k v:TV):TO->Option TR
 | .map es clock=>(match zcE k es 0 with
   | none=>none
   | some none=>some (.ok (.tuple []) (h.set b (.map (es++[⟨k,v,clock⟩]) (clock+1))))
   | some (some (i,_))=>some (.ok (.tuple []) (h.set b (.map (setE i k v es) clock))))
 | _=>none
def ziT (kf:Nat)(h:TH)(vs:List TV):Option TR:=match vs with
 | [.map b,k,v]=>bif zeM kf k then(match h.get b with|some o=>zsQ h b k v o|none=>none)else none
 | _=>none
def zsX (zero:TV)(h:TH)(b:Nat)(k:TV):TO->Option TR
 | .map es clock=>(match zcE k es 0 with
   | none=>none
   | some none=>some (.ok (.tuple [zero,.int .i64 (.ofNat clock)]) (h.set b (.map (es++[⟨k,zero,clock⟩]) (clock+1))))
   | some (some (_,e))=>some (.ok (.tuple [e.v,.int .i64 (.ofNat e.n)]) h))
 | _=>none
def zoG (kf:Nat)(zero:TV)(h:TH)(vs:List TV):Option TR:=match vs with
 | [.map b,k]=>bif zeM kf k then(match h.get b with|some o=>zsX zero h b k o|none=>none)else none
 | _=>none
def zvL (h:TH)(b n:Nat)(v:TV):TO->Option TR
 | .map es clock=>(match zlE n v es with
   | none=>none
   | some es=>some (.ok (.tuple []) (h.set b (.map es clock))))
 | _=>none
def zkk (h:TH)(vs:List TV):Option TR:=match vs with
 | [.map b,s,v]=>(match zdX s with|some n=>(match h.get b with|some o=>zvL h b n v o|none=>none)|none=>none)
 | _=>none
def ze9 (e esz bytes:Nat)(h:TH)(vs:List TV):Option TR:=match vs with
 | [s,x]=>zs8 h e esz bytes s x
 | _=>none
def zfB (esz:Nat)(h:TH)(vs:List TV):Option TR:=match vs with
 | [d,x]=>let m:=min (lenV x) (lenV d);(match zep h esz x m with
  | none=>none
  | some news=>match d with
   | .nilsl=>some (.ok (.int .i64 (.ofNat 0)) h)
   | .sl b g o _ _ z=>bif Nat.beq m 0 then some (.ok (.int .i64 (.ofNat 0)) h)else bif Nat.beq esz z then(match zdo h b g o news with
    | some h=>some (.ok (.int .i64 (.ofNat m)) h)
    | none=>none)else none
   | _=>none)
 | _=>none
def ziD:Option (TE×TH)->Option TR
 | some (.ret v,h)=>some (.ok v h)
 | some (.panic v,h)=>some (.panic v h)
 | none=>none
def zoZ:Option (Bool×TH)->Option TR
 | some (b,h)=>some (.ok (.bool b) h)
 | none=>none
def zlk (C:zbt)(h:TH)(vs:List TV):Option TR:=match vs with
 | .fn f cap::args=>ziD (C.fn f (args++cap) h)
 | .yield l::args=>zoZ (C.rd l args h)
 | _=>none
def ztz (h:TH)(vs:List TV):Option TR:=match vs with
 | [.iface t v]=>some (.panic (.iface t v) h)
 | _=>none
def zpg (caught:Tr Unit)(vs:List TV):Option TR:=match vs with
 | [.fn f [],p,c]=>(match caught.get f with
  | some _=>some (.dfr (.caught p c))
  | none=>none)
 | _=>none
def act (C:zbt)(caught:Tr Unit)(k:zT)(vs:List TV)(h:TH):Option TR :=
 match k with
 | .store n=>zgm n h vs
 | .mupd kf=>ziT kf h vs
 | .ment kf zero=>zoG kf zero h vs
 | .estore=>zkk h vs
 | .append e esz bytes=>ze9 e esz bytes h vs
 | .copy esz=>zfB esz h vs
 | .call=>zlk C h vs
 | .panic=>ztz h vs
 | .defer=>zpg caught vs
 | _=>none
def zgc (b:Bool):Option TV->Option Bool
 | some (.bool c)=>some (bif b then c else not c)
 | some _=>some false
 | none=>none
def zkS (tm:Tr TV):Option (TOp×Bool)->Option Bool
 | none=>some true
 | some (x,b)=>zgc b (zeE tm x)
def zd3 (tm nm:Tr TV):Option (TOp×Bool)->Option Bool
 | none=>some true
 | some (x,b)=>zgc b (zfA tm nm x)
inductive TS where
 | go (s:St)
 | panic (v:TV) (s:St)
def zmU (d:Option Nat)(s:St):Option TR->Option TS
 | some (.ok v h)=>some (.go ((⟨s.tm,s.df,h⟩:St).put d v))
 | some (.panic v h)=>some (.panic v ⟨s.tm,s.df,h⟩)
 | some (.dfr x)=>some (.go ((⟨s.tm,x::s.df,s.h⟩:St).put d (.tuple [])))
 | none=>none
def zx0 (d:Option Nat)(s:St):Option zde->Option TS
 | some x=>some (.go ((⟨s.tm,s.df,s.h.push x.o⟩:St).put d x.v))
 | none=>none
def zxL (d:Option Nat)(s:St):Option TV->Option TS
 | some v=>some (.go (s.put d v))
 | none=>none
def zit (C:zbt)(caught:Tr Unit)(o:zY)(s:St)(vs:List TV):Option TS :=
 match o.kind.cls with
 | 0=>zxL o.dst s (pas o.kind vs s.h)
 | 1=>zx0 o.dst s (lay o.kind vs s.h.next)
 | _=>zmU o.dst s (act C caught o.kind vs s.h)
def zfk (C:zbt)(caught:Tr Unit)(o:zY)(s:St):Option TS :=
 match zkS s.tm o.guard with
 | none=>none
 | some false=>some (.go (s.put o.dst (.tuple [])))
 | some true=>match zdw s.tm o.args with
  | none=>none
  | some vs=>zit C caught o s vs
def zbx (C:zbt)(caught:Tr Unit):List zY->St->Option TS
 | [],s=>some (.go s)
 | o::l,s=>match zfk C caught o s with
  | some (.go s')=>zbx C caught l s'
  | r=>r
def zkh:Nat->Nat->Tr TV->Tr TV->Bool
 | _,0,_,_=>true
 | i,n+1,a,b=>match a.get i,b.get i with
  | some x,some y=>bif TV.beq 4 x y then zkh (i+1) n a b else false
  | _,_=>false
def zno (a b:TO):Bool :=
 match a,b with
 | .row e G M n c,.row e' G' M' n' c'=>bif Nat.beq e e' then bif Nat.beq G G' then bif Nat.beq M M' then bif Nat.beq n n' then zkh 0 n c c' else false else false else false else false
 | .map [] c,.map [] c'=>Nat.beq c c'
 | _,_=>false
def zdL:TV->Option Nat
 | .ptr b _ _ _ | .sl b _ _ _ _ _ | .map b=>some b
 | _=>none
def zft (nm:Tr TV)(d:Option Nat)(v:TV):Option (Tr TV):=match d with
 | none=>some nm
 | some d=>match nm.get d with
  | none=>some (nm.set d (some v))
  | some _=>none
structure DS where
 nm:Tr TV
 df:List TD
 h:TH
def dput (df:List TD)(h:TH):Option (Tr TV)->Option DS
 | some nm=>some ⟨nm,df,h⟩
 | none=>none
def zoQ (h:TH)(k:zT)(vs:List TV)(u:TV):Bool:=match pas k vs h with
 | some v=>TV.beq 4 v u
 | none=>false
def zoS (h:TH)(k:zT)(vs:List TV)(u:TV):Bool:=match zdL u with
 | none=>false
 | some b=>match lay k vs b with
  | some x=>(match h.get b with
   | some y=>bif TV.beq 4 x.v u then zno x.o y else false
   | none=>false)
  | none=>false
def zoP (h:TH)(k:zT)(vs:List TV):Option TV->Bool
 | some u=>(match k.cls with
  | 0=>zoQ h k vs u
  | 1=>zoS h k vs u
  | _=>false)
 | none=>false
def zoN (tm:Tr TV)(s:DS)(o:zY):Bool:=match o.dst with
 | none=>false
 | some d=>match zc1 tm s.nm o.args with
  | some vs=>zoP s.h o.kind vs (s.nm.get d)
  | none=>false
def zge (tm:Tr TV)(s:DS)(o:zY):Bool:=match zd3 tm s.nm o.guard with
 | none=>false
 | some false=>true
 | some true=>zoN tm s o
def zfM (tm:Tr TV)(s:DS):List zY->Bool
 | []=>true
 | o::l=>bif zge tm s o then zfM tm s l else false
def zvB (s:DS)(d:Option Nat):Option TV->Option DS
 | some v=>dput s.df s.h (zft s.nm d v)
 | none=>none
def zvT (s:DS)(d:Option Nat):Option zde->Option DS
 | some x=>dput s.df (s.h.push x.o) (zft s.nm d x.v)
 | none=>none
def zpI (tm:Tr TV)(o:zY)(s:DS):Option DS:=match zc1 tm s.nm o.args with
 | none=>none
 | some vs=>match o.kind.cls with
  | 0=>zvB s o.dst (pas o.kind vs s.h)
  | 1=>zvT s o.dst (lay o.kind vs s.h.next)
  | _=>none
def zja (tm:Tr TV)(o:zY)(s:DS):Option DS:=match zd3 tm s.nm o.guard with
 | none=>none
 | some false=>dput s.df s.h (zft s.nm o.dst (.tuple []))
 | some true=>zpI tm o s
def zhR (tm:Tr TV):List zY->DS->Option DS
 | [],s=>some s
 | o::l,s=>match zja tm o s with
  | some s=>zhR tm l s
  | none=>none
inductive DR where
 | go (s:DS)
 | panic (v:TV) (df:List TD) (h:TH)
def dgo:Option DS->Option DR
 | some s=>some (.go s)
 | none=>none
def ziU (d:Option Nat)(s:DS):Option TR->Option DR
 | some (.ok v h)=>dgo (dput s.df h (zft s.nm d v))
 | some (.panic v h)=>some (.panic v s.df h)
 | some (.dfr x)=>dgo (dput (x::s.df) s.h (zft s.nm d (.tuple [])))
 | none=>none
def zi3 (C:zbt)(caught:Tr Unit)(tm:Tr TV)(o:zY)(s:DS):Option DR:=match zd3 tm s.nm o.guard with
 | none=>none
 | some false=>dgo (dput s.df s.h (zft s.nm o.dst (.tuple [])))
 | some true=>match zc1 tm s.nm o.args with
  | none=>none
  | some vs=>ziU o.dst s (act C caught o.kind vs s.h)
def zcy (C:zbt)(caught:Tr Unit)(tm:Tr TV):List zb7->DS->Option DR
 | [],s=>some (.go s)
 | g::l,s=>bif zfM tm s g.chk then(match zhR tm g.exe s with
  | some s=>match g.act with
   | none=>zcy C caught tm l s
   | some o=>match zi3 C caught tm o s with
    | some (.go s)=>zcy C caught tm l s
    | r=>r
  | none=>none)else none
def zir (nm:Tr TV):List Nat->Tr TV->Tr TV
 | [],tm=>tm
 | d::l,tm=>zir nm l (tm.set d (nm.get d))
def zfS:List Nat->Tr TV->Tr TV
 | [],tm=>tm
 | d::l,tm=>zfS l (tm.set d none)
def zhz (f:St->Option (TX×St)):Nat->St->Option (TX×St)
 | 0,_=>none
 | n+1,s=>match f s with
  | some (.norm,s')=>zhz f n s'
  | r=>r
def zlM (dsts:Tr TV->Tr TV):Option TS->Option (TX×St)
 | some (.go s)=>some (.norm,s)
 | some (.panic v s)=>some (.panic v,{ s with tm:=dsts s.tm })
 | none=>none
def zjD (ds:List Nat)(tm:Tr TV):Option DR->Option (TX×St)
 | some (.go s)=>some (.norm,⟨zir s.nm ds tm,s.df,s.h⟩)
 | some (.panic v df h)=>some (.panic v,⟨zfS ds tm,df,h⟩)
 | none=>none
def zdv:List zY->Tr TV->Tr TV
 | [],tm=>tm
 | o::l,tm=>zdv l (match o.dst with|some d=>tm.set d none|none=>tm)
structure zwv where
 h:TH
 df:List TD
 d:Nat
 l:Nat
def zwl:TO->Option Nat
 | .loop _ _ _ _ _ _ d=>some d
 | _=>none
def zjB (rnd:Option Nat)(s:St):Option zwv:=match rnd with
 | none=>some ⟨s.h.push (.dfr false),.mark s.h.next::s.df,s.h.next,s.h.next+1⟩
 | some l0=>match s.h.get l0 with
  | some o=>(match zwl o with
   | some d=>some ⟨s.h,s.df,d,s.h.next⟩
   | none=>none)
  | none=>none
def zwt (h:TH)(l:Nat)(tm:Tr TV)(df:List TD):TO->Option (TX×St)
 | .loop st pe tm' ps aS bo d=>(match st with
  | .busy=>none
  | _=>some (pe,⟨tm,df,h.set l (.loop .exhausted pe tm' ps aS bo d)⟩))
 | _=>none
def zqb (l:Nat)(tm:Tr TV)(df:List TD):Option (TE×TH)->Option (TX×St)
 | some (.ret _,h)=>(match h.get l with
  | some o=>zwt h l tm df o
  | none=>none)
 | _=>none
def zmx (C:zbt)(rnd:Option Nat)(g:Nat)(cap:List TV)(params:List Nat)(assign body:zbl)(s:St):Option (TX×St) :=
 match zjB rnd s with
 | none=>none
 | some x=>zqb x.l s.tm x.df (C.fn g (.yield x.l::cap) (x.h.push (.loop .ready .norm s.tm params assign body x.d)))
def zbc (C:zbt)(caught:Tr Unit)(N:Nat)(rnd:Option Nat):zbl->St->Option (TX×St)
 | .skip,s=>some (.norm,s)
 | .region ops,s=>zlM (zdv ops) (zbx C caught ops s)
 | .drawn gs ds,s=>zjD ds s.tm (zcy C caught s.tm gs ⟨.nil,s.df,s.h⟩)
 | .seq a b,s=>match zbc C caught N rnd a s with
  | some (.norm,s')=>zbc C caught N rnd b s'
  | r=>r
 | .cond c a b,s=>match zeE s.tm c with
  | some (.bool true)=>zbc C caught N rnd a s
  | some (.bool false)=>zbc C caught N rnd b s
  | _=>none
 | .block id b,s=>match zbc C caught N rnd b s with
  | some (.exit j,s')=>bif Nat.beq j id then some (.norm,s')else some (.exit j,s')
  | r=>r
 | .loop b,s=>zhz (zbc C caught N rnd b) N s
 | .exit id,s=>some (.exit id,s)
 | .goto l,s=>some (.goto l,s)
 | .ret,s=>some (.ret,s)
 | .scope b l rest,s=>match zbc C caught N rnd b s with
  | some (.goto j,s')=>bif Nat.beq j l then(match zbc C caught N rnd rest s' with
   | some (.goto _,_)=>none
   | r=>r)else none
  | r=>r
 | .scope0 b,s=>match zbc C caught N rnd b s with
  | some (.goto _,_)=>none
  | r=>r
 | .rangef f params assign body,s =>
  match zeE s.tm f with
  | some (.fn g cap)=>zmx C rnd g cap params assign body s
  | _=>none
inductive zkZ where
 | tmp (t:Nat)
 | cell (t:Nat) (agg:Bool) (n:Nat)
structure zC where
 body:zbl
 res:List zkZ
 N:Nat
structure Env where
 funcs:Tr zC
 spec:Nat->Option (List TV->TH->Option (TE×TH))
 caught:Tr Unit
 errno:Nat
 N:Nat
def zgW (tm:Tr TV)(h:TH):List zkZ->Option (List TV)
 | []=>some []
 | r::l=>match(match r with
   | .tmp t=>tm.get t
   | .cell t agg n=>match tm.get t with
    | some p=>pas (.load agg n) [p] h
    | none=>none)with
  | none=>none
  | some v=>match zgW tm h l with
   | none=>none
   | some vs=>some (v::vs)
def tup:List TV->TV
 | [v]=>v
 | l=>.tuple l
inductive TM where
 | returning
 | panicking (v:TV)
def zcw (E:Env)(C:zbt):List TD->TM->TH->Option (TM×TH)
 | [],m,h=>some (m,h)
 | .mark b::l,m,h=>match h.get b with
  | some (.dfr false)=>zcw E C l m (h.set b (.dfr true))
  | _=>none
 | .caught p c::l,m,h=>match m with
  | .returning=>zcw E C l m h
  | .panicking (.iface t (.int .i64 n))=>bif Nat.beq t E.errno then(match c with
   | .fn g cap=>match C.fn g cap h with
    | some (.ret (.tuple []),h)=>match p with
     | .ptr b g 0 _=>match zdo h b g 0 [.int .i64 n]with
      | some h=>zcw E C l .returning h
      | none=>none
     | _=>none
    | _=>none
   | _=>none)else none
  | _=>none
def zhr (E:Env)(F:zC)(tm:Tr TV):Option (TM×TH)->Option (TE×TH)
 | some (.returning,h)=>(match zgW tm h F.res with
  | some vs=>some (.ret (tup vs),h)
  | none=>none)
 | some (.panicking v,h)=>some (.panic v,h)
 | none=>none
def zu2 (E:Env)(C:zbt)(F:zC):Option (TX×St)->Option (TE×TH)
 | some (x,s)=>(match x with
  | .norm=>zhr E F s.tm (zcw E C s.df .returning s.h)
  | .ret=>zhr E F s.tm (zcw E C s.df .returning s.h)
  | .panic v=>zhr E F s.tm (zcw E C s.df (.panicking v) s.h)
  | _=>none)
 | none=>none
def zaZ (E:Env)(C:zbt)(f:Nat)(args:List TV)(h:TH):Option (TE×TH) :=
 match E.funcs.get f with
 | some F=>bif Nat.ble args.length F.N then zu2 E C F (zbc C E.caught E.N none F.body ⟨Tr.putL .nil 0 args,[],h⟩)else none
 | none=>match E.spec f with
  | some g=>g args h
  | none=>none
def zgG:List Nat->List TV->Tr TV->Tr TV
 | p::ps,v::vs,t=>zgG ps vs (t.set p (some v))
 | _,_,t=>t
def zsl (x:TX)(h:TH)(l:Nat):TO->Option (Bool×TH)
 | .loop _ _ tm ps aS bo d=>(match x with
  | .norm=>some (true,h.set l (.loop .ready .norm tm ps aS bo d))
  | .panic _=>none
  | x=>some (false,h.set l (.loop .done x tm ps aS bo d)))
 | _=>none
def zhd (l:Nat):Option (TX×St)->Option (Bool×TH)
 | some (x,s)=>(match s.df with
  | []=>(match s.h.get l with
   | some o=>zsl x s.h l o
   | none=>none)
  | _=>none)
 | none=>none
def zpA (E:Env)(C:zbt)(l:Nat)(bo:zbl)(s:St):TO->Option (Bool×TH)
 | .loop st pe tm ps aS bo' d=>(match st with
  | .ready=>zhd l (zbc C .nil E.N (some l) bo ⟨s.tm,s.df,s.h.set l (.loop .busy pe tm ps aS bo' d)⟩)
  | _=>none)
 | _=>none
def zvg (E:Env)(C:zbt)(l:Nat)(bo:zbl):Option (TX×St)->Option (Bool×TH)
 | some (x,s)=>(match x with
  | .norm=>(match s.h.get l with
   | some o=>zpA E C l bo s o
   | none=>none)
  | _=>none)
 | none=>none
def zqI (E:Env)(C:zbt)(l:Nat)(args:List TV)(h:TH):TO->Option (Bool×TH)
 | .loop _ _ tm ps aS bo _=>bif Nat.beq ps.length args.length then zvg E C l bo (zbc C .nil E.N (some l) aS ⟨zgG ps args tm,[],h⟩)else none
 | _=>none
def zmN (E:Env)(C:zbt)(l:Nat)(args:List TV)(h:TH):Option (Bool×TH) :=
 match h.get l with
 | some o=>zqI E C l args h o
 | none=>none
def zcK (E:Env):Nat->zbt
 | 0=>⟨fun _ _ _=>none,fun _ _ _=>none⟩
 | d+1=>⟨zaZ E (zcK E d),zmN E (zcK E d)⟩
def ziO:Value->Option TV
 | .bool b=>some (.bool b)
 | .int k n=>some (.int k n)
 | .string s=>some (.str (s.data.toList.map (·.toNat)))
 | .pointer none=>some .nilptr
 | .slice none 0 0=>some .nilsl
 | .map none=>some .nilmap
 | .nilFunc=>some .nilfn
 | .nilIface=>some .niliface
 | _=>none
def zct {α β:Type}(f:α->Option β):List α->Option (List β)
 | []=>some []
 | a::l=>match f a with
  | none=>none
  | some b=>match zct f l with
   | none=>none
   | some bs=>some (b::bs)
def zl3:Value->Option TV
 | .agg cs=>match zct ziO cs.toList with
  | some l=>some (.agg l)
  | none=>none
 | .tuple cs=>match zct ziO cs.toList with
  | some l=>some (.tuple l)
  | none=>none
 | .iface t v=>match ziO v with
  | some v=>some (.iface t v)
  | none=>none
 | v=>ziO v
def opT:Operand->Option TOp
 | .tmp t=>some (.tmp t)
 | .const v=>(zl3 v).map .const
 | .func f=>some (.fn f)
 | .global _=>none
section
variable (P:Program)
def zhG (t:TypeId):Option Bool:=match P.underlying t with
 | some (.struct _)|some (.array ..)=>some true
 | some _=>some false
 | none=>none
def zbS (t:TypeId):Option Nat:=match P.info? t with
 | some i=>if i.size=0 then none else some i.size
 | none=>none
def zh1 (t:TypeId):Option Nat:=(P.info? t).map (·.bytes)
def zc4 (t:TypeId):Option TV:=match P.info? t with
 | some i=>match i.zero with
  | some z=>zl3 z
  | none=>none
 | none=>none
def zh6 (t:TypeId)(f:Nat):Option (Nat×Bool×Nat):=match P.underlying t with
 | some (.struct fs)=>match fs[f]? with
  | some x=>match zhG P x.type,zbS P x.type with
   | some a,some n=>some (x.offset,a,n)
   | _,_=>none
  | none=>none
 | _=>none
def zj5 (t:TypeId):Option TypeId:=match P.underlying t with
 | some (.slice e)=>some e
 | _=>none
def ziF:List Field->Nat->Option (List Nat)
 | [],_=>some []
 | f :: l, n => if f.name = "_" then none else if f.offset ≠ n then none else match P.underlying f.type, ziF l (n + 1) with
  | some (.int _),some ks=>some (1::ks)
  | some .bool,some ks=>some (2::ks)
  | some .string,some ks=>some (3::ks)
  | _,_=>none
def zj3 (t:TypeId):Option (List Nat):=match P.underlying t with
 | some (.struct fs)=>if P.stoodInHeld t then none else if P.eqGuardType P.depth t then none else ziF P fs.toList 0
 | _=>none
def zwJ (fs:List Field):Option (List (Nat×Nat)):=fs.mapM fun f=>(P.info? f.type).map fun i=>(f.offset,i.size)
def znC (pl:List (Nat×Nat))(p:Nat×Operand):Option (Nat×Nat):=match pl[p.1]? with
 | some q=>if q.2=0 then none else some q
 | none=>none
def zmB (t:TypeId)(parts:List (Nat×Operand)):Option (List (Nat×Nat)):=match P.underlying t with
 | some (.struct fs)=>match zwJ P fs.toList with
  | some pl=>zct (znC pl) parts
  | none=>none
 | _=>none
def mk (k:zT)(xs:List Operand):Option (zT×List TOp):=match zct opT xs with
 | some l=>some (k,l)
 | none=>none
def zeZ:Operand->Bool
 | .const _=>true
 | _=>false
def opK (o:Op):Option (zT×List TOp) :=
 match o with
 | .move x | .assign x=>mk .mov [x]
 | .pick c a b=>mk .pick [c,a,b]
 | .load t a=>match zhG P t,zbS P t with
  | some g,some n=>mk (.load g n) [a]
  | _,_=>none
 | .store t a v=>match zbS P t with
  | some n=>mk (.store n) [a,v]
  | none=>none
 | .nilCheck x=>mk .nilchk [x]
 | .binOp op t x y _=>match op,P.underlying t with
  | .eql,some (.int _) | .eql,some .string=>mk (.bin .eql) [x,y]
  | .neq,some (.int _) | .neq,some .string=>mk (.bin .neq) [x,y]
  | .eql,some .bool=>mk (.eqB false) [x,y]
  | .neq,some .bool=>mk (.eqB true) [x,y]
  | .eql,some (.struct _)=>match zj3 P t with|some n=>mk (.eqagg false n) [x,y]|none=>none
  | .neq,some (.struct _)=>match zj3 P t with|some n=>mk (.eqagg true n) [x,y]|none=>none
  | .eql,some (.pointer _)=>mk (.eqnil false 1) [x,y]
  | .eql,some (.slice _)=>mk (.eqnil false 2) [x,y]
  | .eql,some (.map ..)=>mk (.eqnil false 3) [x,y]
  | .eql,some (.func ..)=>mk (.eqnil false 4) [x,y]
  | .eql,some (.interface _)=>if zeZ x||zeZ y then mk (.eqnil false 5) [x,y]else none
  | .neq,some (.pointer _)=>mk (.eqnil true 1) [x,y]
  | .neq,some (.slice _)=>mk (.eqnil true 2) [x,y]
  | .neq,some (.map ..)=>mk (.eqnil true 3) [x,y]
  | .neq,some (.func ..)=>mk (.eqnil true 4) [x,y]
  | .neq,some (.interface _)=>if zeZ x||zeZ y then mk (.eqnil true 5) [x,y]else none
  | .eql,_ | .neq,_=>none
  | op,_=>mk (.bin op) [x,y]
 | .unOp op _ x=>mk (.un op) [x]
 | .convert src dst x=>match P.underlying src,P.underlying dst with
  | some (.int _),some (.int k)=>mk (.conv k) [x]
  | some .string,some .string=>mk .cstr [x]
  | _,_=>none
 | .makeInterface t x=>match P.underlying t with
  | some (.interface _)|none=>none
  | _=>mk (.mkif t) [x]
 | .makeFunc (.func f) first captured=>if first.size=0 then mk (.mkfn f) captured.toList else none
 | .makeMap t r=>match P.underlying t,r with
  | some (.map ..),none=>mk .mkmap []
  | some (.map ..),some x=>mk .mkmap [x]
  | _,_=>none
 | .makeSlice t l c=>match zj5 P t with
  | some e=>match zbS P e,zh1 P e,zc4 P e with
   | some n,some b,some z=>if z.cells.length=n then mk (.mkslice e n b z.cells) [l,c]else none
   | _,_,_=>none
  | none=>none
 | .slice t x lo hi mx=>match P.underlying t with
  | some (.slice e)=>match zbS P e with
   | some n=>mk (.slice n lo.isSome hi.isSome mx.isSome) ([x]++lo.toList++hi.toList++mx.toList)
   | none=>none
  | some .string=>if mx.isSome then none else mk (.slstr lo.isSome hi.isSome) ([x]++lo.toList++hi.toList)
  | some (.array len e)=>if mx.isSome then none else match zbS P e with
   | some n=>if len<=1000000 then mk (.slarr len n lo.isSome hi.isSome) ([x]++lo.toList++hi.toList)else none
   | none=>none
  | _=>none
 | .fieldAddr t x f=>match zh6 P t f with
  | some (o,_,n)=>mk (.faddr o n) [x]
  | none=>none
 | .field t x f=>match zh6 P t f with
  | some (o,a,n)=>mk (.fld a o n) [x]
  | none=>none
 | .indexAddr t x i=>match P.underlying t with
  | some (.slice e)=>match zbS P e with
   | some n=>mk (.iaddr n) [x,i]
   | none=>none
  | some (.array len e)=>match zbS P e with
   | some n=>mk (.iaddrA len n) [x,i]
   | none=>none
  | _=>none
 | .index t x i=>match P.underlying t with
  | some .string=>mk .idxstr [x,i]
  | some (.array len e)=>match zhG P e,zbS P e with
   | some a,some n=>mk (.idxagg len a n) [x,i]
   | _,_=>none
  | _=>none
 | .lookup t m k ok=>match P.underlying t with
  | some (.map key e)=>match P.underlying key,zc4 P e with
   | some (.int _),some z=>mk (.look 1 z ok) [m,k]
   | some .string,some z=>mk (.look 2 z ok) [m,k]
   | _,_=>none
  | _=>none
 | .mapUpdate t m k v | .insert t m k v=>match P.underlying t with
  | some (.map key _)=>match P.underlying key with
   | some (.int _)=>mk (.mupd 1) [m,k,v]
   | some .string=>mk (.mupd 2) [m,k,v]
   | _=>none
  | _=>none
 | .mapEntry t m k=>match P.underlying t with
  | some (.map key e)=>match P.underlying key,zc4 P e with
   | some (.int _),some z=>mk (.ment 1 z) [m,k]
   | some .string,some z=>mk (.ment 2 z) [m,k]
   | _,_=>none
  | _=>none
 | .entryStore _ m s v=>mk .estore [m,s,v]
 | .typeAssert x _ t ok=>match P.underlying t,zc4 P t with
  | some (.interface _),_|none,_|_,none=>none
  | _,some z=>mk (.tassert t z ok) [x]
 | .extract t i=>mk (.extr i) [t]
 | .alloc e=>match zc4 P e,zbS P e with
  | some z,some n=>if z.cells.length=n then mk (.alloc e z.cells) []else none
  | _,_=>none
 | .box e v=>match zbS P e with
  | some n=>mk (.box e n) [v]
  | none=>none
 | .build t parts=>match P.underlying t,zc4 P t,zmB P t parts.toList with
  | some (.struct _),some (.agg z),some ps=>mk (.build z ps) (parts.toList.map (·.2))
  | _,_,_=>none
 | .buildSlice t len parts=>match zj5 P t with
  | some e=>match zbS P e,zc4 P e with
   | some n,some z=>if z.cells.length=n then mk (.bslice e n len z.cells (parts.toList.map fun p=>(p.1*n,n))) (parts.toList.map (·.2))else none
   | _,_=>none
  | none=>none
 | .panic x=>mk .panic [x]
 | .defer { callee:=.value f,args,.. }=>mk .defer (f::args.toList)
 | .call { callee:=.value f,args,.. }=>mk .call (f::args.toList)
 | .call { callee:=.builtin b,args,argTypes }=>match b,argTypes.toList with
  | .append,[t,u]=>match zj5 P t with
   | some e=>match zbS P e,zh1 P e,zc4 P e with
    | some n,some b,some z=>if z.cells.length=n then if u=t then mk (.append e n b) args.toList else none else none
    | _,_,_=>none
   | none=>none
  | .copy,[t,_]=>match zj5 P t with
   | some e=>match zbS P e with
    | some n=>mk (.copy n) args.toList
    | none=>none
   | none=>none
  | .len,[t]=>match P.underlying t with
   | some (.slice _)=>mk (.len 1) args.toList
   | some (.map ..)=>mk (.len 2) args.toList
   | some .string=>mk (.len 3) args.toList
   | _=>none
  | .max,_=>if args.size=2 then mk .maxI args.toList else none
  | .min,_=>if args.size=2 then mk .minI args.toList else none
  | .panic,_=>if args.size=1 then mk .panic args.toList else none
  | _,_=>none
 | _=>none
def zkf (N:Nat)(ops:Array Oper)(o:Oper):Option zY:=if(o.dst.all fun d=>decide (d<N))=false then none else match opK P o.op with
 | none=>none
 | some (k,args)=>match o.guard with
  | none=>some ⟨o.dst,k,args,none⟩
  | some (j,b)=>match(ops[j]?).bind (·.dst)with
   | some t=>some ⟨o.dst,k,args,some (.tmp t,b)⟩
   | none=>none
end
def zcm:List Oper->List Nat->List Nat
 | [],acc=>acc.reverse
 | o::l,acc =>
  let m:=o.after.toList.foldl (fun s e=>if Region.binds .any e then Nat.lor (Nat.lor s (2 ^ e.on)) (acc.reverse.getD e.on 0)else s) 0
  zcm l (m::acc)
structure Item where
 i:Nat
 o:zY
 m:Nat
def zfH:List zY->List Nat->Nat->List Item
 | o::l,m::ms,i=>⟨i,o,m⟩::zfH l ms (i+1)
 | _,_,_=>[]
def zjc:List Item->Bool
 | a::b::l=>b.m.testBit a.i&&zjc (b::l)
 | _=>true
def zeO (acts:List Item)(x:Item):Nat:=(acts.filter fun a=>x.m.testBit a.i).length
def zg2:TOp->Bool
 | .new _=>false
 | _=>true
def zoT:TOp->Option Nat
 | .tmp t=>some t
 | _=>none
def zjh (o:zY):List Nat:=(o.args++(match o.guard with|some (x,_)=>[x]|none=>[])).filterMap zoT
def zjY (all:List Item):Bool :=
  all.all fun x =>
    (match x.o.dst with
     | none=>x.o.kind.cls==2
     | some d=>all.all fun y=>y.i==x.i || !(y.o.dst==some d)) &&
    (x.o.args.all zg2&&(match x.o.guard with|some (p,_)=>zg2 p|none=>true)) &&
    (zjh x.o).all fun t=>all.all fun y=>!(y.o.dst==some t)||x.m.testBit y.i||y.m.testBit x.i
def zk3 (all:List Item)(x:Item):TOp->TOp
 | .tmp t=>if all.any fun y=>y.o.dst==some t&&x.m.testBit y.i then .new t else .tmp t
 | a=>a
def zcA (all:List Item)(x:Item):zY:=⟨x.o.dst,x.o.kind,x.o.args.map (zk3 all x),x.o.guard.map fun p=>(zk3 all x p.1,p.2)⟩
def zv9 (all acts:List Item)(s:Nat):List zY:=(all.filter fun x=>x.o.kind.cls != 2&&decide (zeO acts x<s)&&(acts.take s).all fun a=>!a.m.testBit x.i).map (zcA all)
def zpd (all acts:List Item)(s:Nat):List zY:=(all.filter fun x=>x.o.kind.cls != 2&&zeO acts x==s).map (zcA all)
def zef (all acts:List Item):Nat->List Item->List zb7
 | s,[]=>[⟨zv9 all acts s,zpd all acts s,none⟩]
 | s,a::l=>⟨zv9 all acts s,zpd all acts s,some (zcA all a)⟩::zef all acts (s+1) l
def zj6:List Oper->Nat->Bool
 | [],_=>true
 | o::l,i=>(o.after.all fun e=>!Region.binds .any e||decide (e.on<i))&&zj6 l (i+1)
def zmn (ops:List Oper)(os:List zY):Option zbl :=
 let all:=zfH os (zcm ops []) 0
 let acts:=all.filter fun x=>x.o.kind.cls==2
 if zj6 ops 0&&zjc acts&&zjY all then some (.drawn (zef all acts 0 acts) (all.filterMap fun x=>x.o.dst))else none
def zqG:Code->Option Nat
 | .label l=>some l
 | .seq a b=>match zqG a with
  | some l=>some l
  | none=>zqG b
 | _=>none
section
variable (P:Program)
def zbZ (N:Nat):Nat->Code->Option zbl
 | 0,_=>none
 | n+1,c=>match c with
  | .skip | .label _=>some .skip
  | .region _ ops draw=>match zct (zkf P N ops) ops.toList with
   | none=>none
   | some os=>if draw then zmn ops.toList os else some (.region os)
  | .seq a b=>match zbZ N n a,zbZ N n b with
   | some a,some b=>some (.seq a b)
   | _,_=>none
  | .cond c a b=>match opT c,zbZ N n a,zbZ N n b with
   | some c,some a,some b=>some (.cond c a b)
   | _,_,_=>none
  | .block id b=>match zbZ N n b with
   | some b=>some (.block id b)
   | none=>none
  | .loop b=>match zbZ N n b with
   | some b=>some (.loop b)
   | none=>none
  | .rangeFunc f ps a b=>if(ps.toList.all fun d=>decide (d<N))=false then none else match opT f,zbZ N n a,zbZ N n b with
   | some f,some a,some b=>some (.rangef f ps.toList a b)
   | _,_,_=>none
  | .exit id=>some (.exit id)
  | .goto l=>some (.goto l)
  | .ret=>some .ret
  | .scope b=>match zqG b with
   | none=>match zbZ N n b with
    | some b=>some (.scope0 b)
    | none=>none
   | some l=>match findLabel b l with
    | none=>none
    | some r=>match zbZ N n b,zbZ N n r with
     | some b,some r=>some (.scope b l r)
     | _,_=>none
  | .refuse _=>none
def zgS:ResultVar->Option zkZ
 | .tmp t=>some (.tmp t)
 | .cell t ty=>match zhG P ty,zbS P ty with
  | some a,some n=>some (.cell t a n)
  | _,_=>none
def zkm (F:Func):Option zC:=match F.body with
 | none=>none
 | some c=>match zbZ P F.ntmps 1000 c,zct (zgS P) F.results.toList with
  | some c,some r=>some ⟨c,r,F.ntmps⟩
  | _,_=>none
end
end Tw
end Go.Proofs.YtfomlmhnmheenaaGreat
namespace Go.Proofs.YtfomlmhnmheenaaGreat
open Go.RowKit
namespace Tw
section tries
variable {α:Type}
theorem Tr.get_setN (x:Option α):∀(d:Nat) (t:Tr α) (n m:Nat),n<d->(Tr.setN x d t n).get m=if m=n then x else t.get m
 | 0,_,_,_,h=>absurd h (zEY9 _)
 | d+1,.nil,n,m,h=>by
  have ih1:=Tr.get_setN x d .nil (n/2) (m/2);have ih2:=Tr.get_setN x d .nil (n/2-1) (m/2-1);unfold Tr.setN
  cases hn:Nat.beq n 0<;>simp only[cond_true,cond_false]
  ·have hn0:n≠0:=fun e=>by subst e;simp at hn
   cases hn2:Nat.beq (n%2) 1<;>simp only[cond_true,cond_false]
   ·have hne:n%2≠1:=fun e=>by rw[e]at hn2;simp at hn2
    unfold Tr.get
    cases hm:Nat.beq m 0<;>simp only[cond_true,cond_false]
    ·have hm0:m≠0:=fun e=>by subst e;simp at hm
     cases hm2:Nat.beq (m%2) 1<;>simp only[cond_true,cond_false]
     ·have hme:m%2≠1:=fun e=>by rw[e]at hm2;simp at hm2
      rw[ih2 (by omega)]
      by_cases e:m=n
      ·subst e;simp
      ·rw[if_neg e,if_neg (by omega)];rfl
     ·have hme:m%2=1:=zAJ9 hm2;rw[if_neg (by omega)];rfl
    ·have hm0:m=0:=zAJ9 hm;rw[if_neg (by omega)]
   ·have hne:n%2=1:=zAJ9 hn2;unfold Tr.get
    cases hm:Nat.beq m 0<;>simp only[cond_true,cond_false]
    ·have hm0:m≠0:=fun e=>by subst e;simp at hm
     cases hm2:Nat.beq (m%2) 1<;>simp only[cond_true,cond_false]
     ·have hme:m%2≠1:=fun e=>by rw[e]at hm2;simp at hm2
      rw[if_neg (by omega)];rfl
     ·have hme:m%2=1:=zAJ9 hm2;rw[ih1 (by omega)]
      by_cases e:m=n
      ·subst e;simp
      ·rw[if_neg e,if_neg (by omega)];rfl
    ·have hm0:m=0:=zAJ9 hm;rw[if_neg (by omega)]
  ·have hn0:n=0:=zAJ9 hn;subst hn0;unfold Tr.get
   cases hm:Nat.beq m 0<;>simp only[cond_true,cond_false]
   ·have hm0:m≠0:=fun e=>by subst e;simp at hm
    rw[if_neg hm0]
    cases Nat.beq (m%2) 1<;>rfl
   ·rw[if_pos (zAJ9 hm)]
 | d+1,.node l v r,n,m,h=>by
  have ih1:=Tr.get_setN x d l (n/2) (m/2);have ih2:=Tr.get_setN x d r (n/2-1) (m/2-1);unfold Tr.setN
  cases hn:Nat.beq n 0<;>simp only[cond_true,cond_false]
  ·have hn0:n≠0:=fun e=>by subst e;simp at hn
   cases hn2:Nat.beq (n%2) 1<;>simp only[cond_true,cond_false]
   ·have hne:n%2≠1:=fun e=>by rw[e]at hn2;simp at hn2
    unfold Tr.get
    cases hm:Nat.beq m 0<;>simp only[cond_true,cond_false]
    ·have hm0:m≠0:=fun e=>by subst e;simp at hm
     cases hm2:Nat.beq (m%2) 1<;>simp only[cond_true,cond_false]
     ·have hme:m%2≠1:=fun e=>by rw[e]at hm2;simp at hm2
      rw[ih2 (by omega)]
      by_cases e:m=n
      ·subst e;simp
      ·rw[if_neg e,if_neg (by omega)]
     ·have hme:m%2=1:=zAJ9 hm2;rw[if_neg (by omega)]
    ·have hm0:m=0:=zAJ9 hm;rw[if_neg (by omega)]
   ·have hne:n%2=1:=zAJ9 hn2;unfold Tr.get
    cases hm:Nat.beq m 0<;>simp only[cond_true,cond_false]
    ·have hm0:m≠0:=fun e=>by subst e;simp at hm
     cases hm2:Nat.beq (m%2) 1<;>simp only[cond_true,cond_false]
     ·have hme:m%2≠1:=fun e=>by rw[e]at hm2;simp at hm2
      rw[if_neg (by omega)]
     ·have hme:m%2=1:=zAJ9 hm2;rw[ih1 (by omega)]
      by_cases e:m=n
      ·subst e;simp
      ·rw[if_neg e,if_neg (by omega)]
    ·have hm0:m=0:=zAJ9 hm;rw[if_neg (by omega)]
  ·have hn0:n=0:=zAJ9 hn;subst hn0;unfold Tr.get
   cases hm:Nat.beq m 0<;>simp only[cond_true,cond_false]
   ·have hm0:m≠0:=fun e=>by subst e;simp at hm
    rw[if_neg hm0]
   ·rw[if_pos (zAJ9 hm)]
theorem Tr.get_set (t:Tr α)(n:Nat)(x:Option α)(m:Nat):(t.set n x).get m=if m=n then x else t.get m:=Tr.get_setN x (n+1) t n m (zBT9 _)
theorem Tr.get_nil (n:Nat):(Tr.nil:Tr α).get n=none:=rfl
theorem Tr.get_putL:∀(l:List α) (t:Tr α) (n m:Nat),(Tr.putL t n l).get m=if n<=m/\m<n+l.length then l[m-n]? else t.get m
 | [],t,n,m=>by simp only[Tr.putL,zAH9];rw[if_neg (by omega)]
 | x::l,t,n,m=>by
  rw[Tr.putL,Tr.get_putL l _ (n+1) m,Tr.get_set];simp only[zAE9]
  by_cases h:m=n
  ·subst h;rw[if_neg (by omega),if_pos rfl,if_pos (by omega)];simp
  ·rw[if_neg h]
   by_cases h2:n+1<=m/\m<n+1+l.length
   ·rw[if_pos h2,if_pos (by omega)];rw[show m-n=(m-(n+1))+1 by omega,zAY9]
   ·rw[if_neg h2,if_neg (by omega)]
theorem Tr.getL_some:∀{n i:Nat} {t:Tr α} {l:List α},Tr.getL t i n=some l->l.length=n/\∀j,j<n->l[j]?=t.get (i+j)
 | 0,i,t,l,h=>by simp[Tr.getL]at h;subst h;exact⟨rfl,fun j hj=>absurd hj (zEY9 _)⟩
 | n+1,i,t,l,h=>by
  unfold Tr.getL at h
  split at h
  ·cases h
  ·rename_i x hx
   split at h
   ·cases h
   ·rename_i l' hl';injection h with h;subst h;obtain⟨h1,h2⟩:=Tr.getL_some hl';refine⟨by simp[h1],fun j hj=>?_⟩
    cases j with
    | zero=>simp[hx]
    | succ j=>rw[zAY9,h2 j (by omega)];congr 1;omega
end tries
theorem zhD {a b:Nat}(h:a<b):Nat.blt a b=true:=zED9.mpr h
theorem zwD {a b:Nat}(h:¬a<b):Nat.blt a b=false:=by
 cases hb:Nat.blt a b
 ·rfl
 ·exact absurd (zED9.mp hb) h
theorem TH.get_push (h:TH)(o:TO)(b:Nat):(h.push o).get b=if b=h.next then some o else h.get b:=by
 unfold TH.get TH.push;dsimp only;rw[Tr.get_set]
 by_cases e:b=h.next
 ·subst e;rw[if_pos rfl,if_pos rfl,zhD (zBT9 _)];rfl
 ·rw[if_neg e,if_neg e]
  by_cases hlt:b<h.next
  ·rw[zhD hlt,zhD (Nat.lt_succ_of_lt hlt)]
  ·rw[zwD hlt,zwD (by omega)]
theorem TH.get_set (h:TH)(b:Nat)(o:TO)(c:Nat)(hb:b<h.next):(h.set b o).get c=if c=b then some o else h.get c:=by
 unfold TH.get TH.set;dsimp only;rw[Tr.get_set]
 by_cases e:c=b
 ·subst e;rw[if_pos rfl,if_pos rfl,zhD hb];rfl
 ·rw[if_neg e,if_neg e]
theorem TH.get_lt {h:TH}{b:Nat}{o:TO}(hg:h.get b=some o):b<h.next:=by
 unfold TH.get at hg
 cases hb:Nat.blt b h.next
 ·rw[hb]at hg;cases hg
 ·exact zED9.mp hb
theorem TH.next_push (h:TH)(o:TO):(h.push o).next=h.next+1:=rfl
theorem TH.next_set (h:TH)(b:Nat)(o:TO):(h.set b o).next=h.next:=rfl
structure Loc where
 r:Nat
 L:Nat
 S:Nat
abbrev Rho:=Nat->Nat->Option Loc
def TV.one:TV->Bool
 | .agg _ | .tuple _=>false
 | _=>true
inductive VR (ρ:Rho):TV->Value->Prop
 | bool (b:Bool):VR ρ (.bool b) (.bool b)
 | int (k:IntKind) (n:Int):VR ρ (.int k n) (.int k n)
 | str (s:ByteArray):VR ρ (.str (s.data.toList.map (·.toNat))) (.string s)
 | nilptr:VR ρ .nilptr (.pointer none)
 | ptr {b g o e:Nat} {loc:Loc} (h:ρ b g=some loc) (hc:o+e<=loc.L):VR ρ (.ptr b g o e) (.pointer (some ⟨loc.r,o,none⟩))
 | nilsl:VR ρ .nilsl (.slice none 0 0)
 | sl {b g o n q z o' c:Nat} {loc:Loc} (h:ρ b g=some loc) (hn:n<=q/2) (hq:q/2<=c) (hc:o+q/2*z<=loc.L) (ho:o'=o\/n=0/\c=0/\o≠0) (hs:q%2=0->o+c*z=loc.S) (hm:c<=maxLen) :
   VR ρ (.sl b g o n q z) (.slice (some ⟨loc.r,o',none⟩) n c)
 | nilmap:VR ρ .nilmap (.map none)
 | map {b:Nat} {loc:Loc} (h:ρ b 0=some loc):VR ρ (.map b) (.map (some loc.r))
 | fn {f:Nat} {l:List TV} {cs:List Value} (hl:l.length=cs.length) (h:∀(i:Nat) (x:TV) (y:Value),l[i]?=some x->cs[i]?=some y->VR ρ x y):VR ρ (.fn f l) (.func (.func f) #[] cs.toArray)
 | yield {l:Nat} {loc:Loc} (h:ρ l 0=some loc):VR ρ (.yield l) (.func (.yield loc.r) #[] #[])
 | nilfn:VR ρ .nilfn .nilFunc
 | iface {t:Nat} {v:TV} {v':Value} (h:VR ρ v v'):VR ρ (.iface t v) (.iface t v')
 | niliface:VR ρ .niliface .nilIface
 | agg {l:List TV} {cs:List Value} (hl:l.length=cs.length) (h1:∀x∈l,x.one=true) (h:∀(i:Nat) (x:TV) (y:Value),l[i]?=some x->cs[i]?=some y->VR ρ x y):VR ρ (.agg l) (.agg cs.toArray)
 | tuple {l:List TV} {cs:List Value} (hl:l.length=cs.length) (h:∀(i:Nat) (x:TV) (y:Value),l[i]?=some x->cs[i]?=some y->VR ρ x y):VR ρ (.tuple l) (.tuple cs.toArray)
def VL (ρ:Rho)(l:List TV)(cs:List Value):Prop:=l.length=cs.length/\∀(i:Nat) (x:TV) (y:Value),l[i]?=some x->cs[i]?=some y->VR ρ x y
theorem VL.nil (ρ:Rho):VL ρ [] []:=⟨rfl,fun i x y h=>by simp at h⟩
theorem VL.cons {ρ:Rho}{x:TV}{y:Value}{l:List TV}{cs:List Value}(h:VR ρ x y)(hl:VL ρ l cs):VL ρ (x::l) (y::cs) :=
 ⟨by simp[hl.1],fun i a b ha hb=>by
  cases i with
  | zero=>simp at ha hb;subst ha;subst hb;exact h
  | succ i=>simp at ha hb;exact hl.2 i a b ha hb⟩
theorem VL.of_cons {ρ:Rho}{x:TV}{l:List TV}{cs:List Value}(h:VL ρ (x::l) cs):∃y cs',cs=y::cs'/\VR ρ x y/\VL ρ l cs':=by
 cases cs with
 | nil=>have:=h.1;simp at this
 | cons y cs'=>exact⟨y,cs',rfl,h.2 0 x y rfl rfl,by have:=h.1;simpa using this,fun i a b ha hb=>h.2 (i+1) a b (by simpa using ha) (by simpa using hb)⟩
theorem VL.of_nil {ρ:Rho}{cs:List Value}(h:VL ρ [] cs):cs=[]:=by
 cases cs with
 | nil=>rfl
 | cons y cs'=>have:=h.1;simp at this
theorem VL.one {ρ:Rho}{x:TV}{y:Value}(h:VR ρ x y):VL ρ [x] [y]:=.cons h (.nil ρ)
theorem VL.app {ρ:Rho}{l m:List TV}{cs ds:List Value}(h:VL ρ l cs)(k:VL ρ m ds):VL ρ (l++m) (cs++ds):=by
 refine⟨by simp[h.1,k.1],fun i x y hx hy=>?_⟩;rw[zDS9]at hx hy;rw[h.1]at hx
 split at hx
 ·rename_i hi;rw[if_pos hi]at hy;exact h.2 i x y hx hy
 ·rename_i hi;rw[if_neg hi]at hy;exact k.2 _ x y hx hy
theorem VL.drop {ρ:Rho}{l:List TV}{cs:List Value}(h:VL ρ l cs)(k:Nat):VL ρ (l.drop k) (cs.drop k) :=
 ⟨by simp[h.1],fun i x y hx hy=>h.2 (k+i) x y (by simpa using hx) (by simpa using hy)⟩
theorem VL.take {ρ:Rho}{l:List TV}{cs:List Value}(h:VL ρ l cs)(k:Nat):VL ρ (l.take k) (cs.take k):=by
 refine⟨by simp[h.1],fun i x y hx hy=>?_⟩;rw[zBD9]at hx hy
 split at hx
 ·rename_i hi;rw[if_pos hi]at hy;exact h.2 i x y hx hy
 ·cases hx
theorem VL.at {ρ:Rho}{l:List TV}{cs:List Value}(h:VL ρ l cs){i:Nat}{x:TV}(hx:l[i]?=some x):∃y,cs[i]?=some y/\VR ρ x y:=by
 have hi:i<cs.length:=by rw[<- h.1];exact(zAD9.1 hx).1
 exact⟨cs[i],zAB9 hi,h.2 i x _ hx (zAB9 hi)⟩
theorem VR.aggL {ρ:Rho}{l:List TV}{cs:List Value}(h:VL ρ l cs)(h1:∀x∈l,x.one=true):VR ρ (.agg l) (.agg cs.toArray):=.agg h.1 h1 h.2
theorem VR.tupL {ρ:Rho}{l:List TV}{cs:List Value}(h:VL ρ l cs):VR ρ (.tuple l) (.tuple cs.toArray):=.tuple h.1 h.2
theorem VR.fnL {ρ:Rho}{f:Nat}{l:List TV}{cs:List Value}(h:VL ρ l cs):VR ρ (.fn f l) (.func (.func f) #[] cs.toArray):=.fn h.1 h.2
theorem VR.undef (ρ:Rho):VR ρ (.tuple []) Go.undef:=VR.tupL (VL.nil ρ)
structure Rho.le (n:Nat)(ρ ρ':Rho):Prop where
 more:∀b g loc,ρ b g=some loc->ρ' b g=some loc
 none:∀b,b<n->(∀g,ρ b g=none)->∀g,ρ' b g=none
theorem Rho.le.refl (n:Nat)(ρ:Rho):Rho.le n ρ ρ:=⟨fun _ _ _ h=>h,fun _ _ h=>h⟩
theorem Rho.le.trans {n m:Nat}{ρ ρ' ρ'':Rho}(h:Rho.le n ρ ρ')(k:Rho.le m ρ' ρ'')(hnm:n<=m):Rho.le n ρ ρ'' :=
 ⟨fun b g loc hb=>k.more b g loc (h.more b g loc hb),fun b hb hn=>k.none b (zBE9 hb hnm) (h.none b hb hn)⟩
theorem VR.mono {ρ ρ':Rho}(hρ:∀b g loc,ρ b g=some loc->ρ' b g=some loc){v:TV}{v':Value}(h:VR ρ v v'):VR ρ' v v':=by
 induction h with
 | bool b=>exact .bool b
 | int k n=>exact .int k n
 | str s=>exact .str s
 | nilptr=>exact .nilptr
 | ptr h hc=>exact .ptr (hρ _ _ _ h) hc
 | nilsl=>exact .nilsl
 | sl h hn hq hc ho hs hm=>exact .sl (hρ _ _ _ h) hn hq hc ho hs hm
 | nilmap=>exact .nilmap
 | map h=>exact .map (hρ _ _ _ h)
 | fn hl _ ih=>exact .fn hl ih
 | yield h=>exact .yield (hρ _ _ _ h)
 | nilfn=>exact .nilfn
 | iface _ ih=>exact .iface ih
 | niliface=>exact .niliface
 | agg hl h1 _ ih=>exact .agg hl h1 ih
 | tuple hl _ ih=>exact .tuple hl ih
theorem VL.mono {ρ ρ':Rho}(hρ:∀b g loc,ρ b g=some loc->ρ' b g=some loc){l:List TV}{cs:List Value}(h:VL ρ l cs):VL ρ' l cs:=⟨h.1,fun i x y hx hy=>(h.2 i x y hx hy).mono hρ⟩
theorem VR.oneCell {ρ:Rho}{v:TV}{v':Value}(h:VR ρ v v')(h1:v.one=true):v'.oneCell'=true:=by
 cases h<;>first|rfl|(simp[TV.one]at h1)
theorem VR.cells {ρ:Rho}{v:TV}{v':Value}(h:VR ρ v v')(hn:v.cells ≠ []\/∃l,v=.agg l):VL ρ v.cells v'.cells.toList/\(∀x∈v.cells,x.one=true):=by
 cases h with
 | agg hl h1 h=>exact⟨⟨by simpa[TV.cells,Value.cells]using hl,by simpa[TV.cells,Value.cells]using h⟩,h1⟩
 | tuple hl h=>rcases hn with hn|⟨l,hn⟩<;>simp[TV.cells]at hn
 | bool b=>exact⟨VL.one (.bool b),by simp[TV.cells,TV.one]⟩
 | int k n=>exact⟨VL.one (.int k n),by simp[TV.cells,TV.one]⟩
 | str s=>exact⟨VL.one (.str s),by simp[TV.cells,TV.one]⟩
 | nilptr=>exact⟨VL.one .nilptr,by simp[TV.cells,TV.one]⟩
 | ptr h hc=>exact⟨VL.one (.ptr h hc),by simp[TV.cells,TV.one]⟩
 | nilsl=>exact⟨VL.one .nilsl,by simp[TV.cells,TV.one]⟩
 | sl h hn' hq hc ho hs hm=>exact⟨VL.one (.sl h hn' hq hc ho hs hm),by simp[TV.cells,TV.one]⟩
 | nilmap=>exact⟨VL.one .nilmap,by simp[TV.cells,TV.one]⟩
 | map h=>exact⟨VL.one (.map h),by simp[TV.cells,TV.one]⟩
 | fn hl h=>exact⟨VL.one (.fn hl h),by simp[TV.cells,TV.one]⟩
 | yield h=>exact⟨VL.one (.yield h),by simp[TV.cells,TV.one]⟩
 | nilfn=>exact⟨VL.one .nilfn,by simp[TV.cells,TV.one]⟩
 | iface h=>exact⟨VL.one (.iface h),by simp[TV.cells,TV.one]⟩
 | niliface=>exact⟨VL.one .niliface,by simp[TV.cells,TV.one]⟩
def EsR (ρ:Rho)(es:List zcf)(es':List MapEntry):Prop:=es.length=es'.length/\∀(i:Nat) (e:zcf) (e':MapEntry),es[i]?=some e->es'[i]?=some e'->VR ρ e.k e'.key/\VR ρ e.v e'.val/\e'.born=e.n
def PeR:TX->Option Code->Prop
 | .norm,c=>c=none
 | .exit id,c=>c=some (.exit id)
 | .goto l,c=>c=some (.goto l)
 | .ret,c=>c=some .ret
 | .panic _,_=>False
def TmR (ρ:Rho)(tm:Tr TV)(tmps:Array Value):Prop:=∀t v,tm.get t=some v->∃v',tmps[t]?=some v'/\VR ρ v v'
def OR (P:Program)(ρ:Rho)(b:Nat)(w:World):TO->Prop
 | .row e G M len cells=>M<=G/\(∀g loc,ρ b g=some loc->g<=G)/\∀g,M<=g->g<=G->∃loc cur,ρ b g=some loc/\w.heap[loc.r]?=some (.cells cur e (0,0))/\(g=G->cur.size=loc.S)/\loc.L<=len/\loc.L<=cur.size/\(g=G->loc.L=len) /\
   ∀i,i<loc.L->∃x v,cells.get i=some x/\cur[i]?=some v/\x.one=true/\VR ρ x v
 | .map es ck=>∃loc es',ρ b 0=some loc/\w.heap[loc.r]?=some (.map es' ck)/\EsR ρ es es'.toList
 | .dfr shut=>∃loc,ρ b 0=some loc/\w.heap[loc.r]?=some (.deferred (if shut=true then none else some []))
 | .loop st pe tm ps aS bo d=>∃loc rec locd N n m,ρ b 0=some loc/\ρ d 0=some locd/\w.heap[loc.r]?=some (.loop rec)/\rec.state=st/\PeR pe rec.pending/\TmR ρ tm rec.tmps/\N<=rec.tmps.size /\
   rec.params.toList=ps/\(∀p∈ps,p<N)/\zbZ P N n rec.assign=some aS/\zbZ P N m rec.body=some bo/\rec.defers=locd.r
 | .ro cells=>∀g loc,ρ b g=some loc->g=0/\∀i x,cells.get i=some x->∃v,w.cell? ⟨loc.r,i,none⟩=some v/\x.one=true/\VR ρ x v
def RO (h:TH)(b:Nat):Prop:=∃cs,h.get b=some (.ro cs)
structure WR (P:Program)(Z:Nat)(ρ:Rho)(h:TH)(w:World):Prop where
 dom:∀b g loc,ρ b g=some loc->b<h.next/\(Z<=loc.r\/RO h b)/\loc.r<w.heap.size
 obj:∀b g loc,ρ b g=some loc->∃o,h.get b=some o/\OR P ρ b w o
 sep:∀b b' g g' loc loc',ρ b g=some loc->ρ b' g'=some loc'->loc.r=loc'.r->Z<=loc.r->b=b'
theorem EsR.mono {ρ ρ':Rho}(hρ:∀b g loc,ρ b g=some loc->ρ' b g=some loc){es es'}(h:EsR ρ es es'):EsR ρ' es es' :=
 ⟨h.1,fun i e e' he he'=>let ⟨a,b,c⟩:=h.2 i e e' he he';⟨a.mono hρ,b.mono hρ,c⟩⟩
theorem TmR.mono {ρ ρ':Rho}(hρ:∀b g loc,ρ b g=some loc->ρ' b g=some loc){tm tmps}(h:TmR ρ tm tmps):TmR ρ' tm tmps :=
 fun t v hv=>let ⟨v',h1,h2⟩:=h t v hv;⟨v',h1,h2.mono hρ⟩
theorem OR.move {P:Program}{ρ ρ':Rho}(hρ:∀b g loc,ρ b g=some loc->ρ' b g=some loc){b:Nat}{w w':World}{o:TO}(hsame:∀g,ρ' b g=ρ b g)(hb:∀g loc,ρ b g=some loc->w'.heap[loc.r]?=w.heap[loc.r]?)(h:OR P ρ b w o):OR P ρ' b w' o:=by
 cases o with
 | row e G M len cells =>
  refine⟨h.1,fun g loc hg=>h.2.1 g loc (by rw[<- hsame];exact hg),fun g h1 h2=>?_⟩;obtain⟨loc,cur,hl,hc,r1,r2,r3,r4,r5⟩:=h.2.2 g h1 h2;refine⟨loc,cur,hρ _ _ _ hl,(hb _ _ hl).trans hc,r1,r2,r3,r4,fun i hi=>?_⟩;obtain⟨x,v,c1,c2,c3,c4⟩:=r5 i hi;exact⟨x,v,c1,c2,c3,c4.mono hρ⟩
 | map es ck =>
  obtain⟨loc,es',hl,hc,he⟩:=h;exact⟨loc,es',hρ _ _ _ hl,(hb _ _ hl).trans hc,he.mono hρ⟩
 | dfr shut =>
  obtain⟨loc,hl,hc⟩:=h;exact⟨loc,hρ _ _ _ hl,(hb _ _ hl).trans hc⟩
 | loop st pe tm ps aS bo d =>
  obtain⟨loc,rec,locd,N,n,m,hl,hd,hc,r1,r2,r3,r4⟩:=h;exact⟨loc,rec,locd,N,n,m,hρ _ _ _ hl,hρ _ _ _ hd,(hb _ _ hl).trans hc,r1,r2,r3.mono hρ,r4⟩
 | ro cells =>
  intro g loc hl;rw[hsame]at hl;obtain⟨h1,h2⟩:=h g loc hl;refine⟨h1,fun i x hx=>?_⟩;obtain⟨v,v1,v2,v3⟩:=h2 i x hx;exact⟨v,by rw[World.cell?,hb _ _ hl];exact v1,v2,v3.mono hρ⟩
theorem WR.own {P:Program}{Z:Nat}{ρ:Rho}{h:TH}{w:World}(k:WR P Z ρ h w){b g:Nat}{loc:Loc}(hl:ρ b g=some loc){x:TO}(hx:h.get b=some x)(hn:∀cs,x ≠ .ro cs):Z<=loc.r:=by
 rcases(k.dom b g loc hl).2.1 with h1|⟨cs,h1⟩
 ·exact h1
 ·rw[hx]at h1;injection h1 with h1;exact absurd h1 (hn cs)
theorem WR.drew {P:Program}{Z:Nat}{ρ:Rho}{h:TH}{w:World}(k:WR P Z ρ h w):WR P Z ρ h w.drew :=
 ⟨k.dom,fun b g loc hl=>let ⟨o,ho,hr⟩:=k.obj b g loc hl;⟨o,ho,hr.move (fun _ _ _ h=>h) (fun _=>rfl) (fun _ _ _=>rfl)⟩,k.sep⟩
theorem WR.world {P:Program}{Z:Nat}{ρ:Rho}{h:TH}{w w':World}(k:WR P Z ρ h w)(hs:w.heap.size<=w'.heap.size)(hb:∀r,r<w.heap.size->w'.heap[r]?=w.heap[r]?):WR P Z ρ h w' :=
  ⟨fun b g loc hl=>let ⟨a,b,c⟩:=k.dom b g loc hl;⟨a,b,zBE9 c hs⟩,
   fun b g loc hl=>let ⟨o,ho,hr⟩:=k.obj b g loc hl;⟨o,ho,hr.move (fun _ _ _ h=>h) (fun _=>rfl) (fun g loc hg=>hb _ (k.dom b g loc hg).2.2)⟩,k.sep⟩
theorem WR.push {P:Program}{Z:Nat}{ρ:Rho}{h:TH}{w:World}(k:WR P Z ρ h w)(o:TO):WR P Z ρ (h.push o) w :=
  ⟨fun b g loc hl=>let ⟨a,b,c⟩:=k.dom b g loc hl;⟨Nat.lt_succ_of_lt a,b.imp id fun⟨cs,h⟩=>⟨cs,by rw[TH.get_push,if_neg (by omega)];exact h⟩,c⟩,
   fun b g loc hl=>by
    obtain⟨x,hx,hr⟩:=k.obj b g loc hl;have hlt:=(k.dom b g loc hl).1;exact⟨x,by rw[TH.get_push,if_neg (by omega)];exact hx,hr⟩,k.sep⟩
def Rho.add (ρ:Rho)(b:Nat)(g:Nat)(loc:Loc):Rho:=fun c k=>if c=b/\k=g then some loc else ρ c k
theorem Rho.add_same (ρ:Rho)(b g:Nat)(loc:Loc):ρ.add b g loc b g=some loc:=by simp[Rho.add]
theorem Rho.add_more {ρ:Rho}{b g:Nat}{loc:Loc}(hn:ρ b g=none):∀c k l,ρ c k=some l->ρ.add b g loc c k=some l:=fun c k l h=>by
 unfold Rho.add
 split
 ·rename_i e;obtain⟨rfl,rfl⟩:=e;rw[hn]at h;cases h
 ·exact h
theorem Rho.add_ne {ρ:Rho}{b g:Nat}{loc:Loc}{c:Nat}(hc:c≠b)(k:Nat):ρ.add b g loc c k=ρ c k:=by
 unfold Rho.add;rw[if_neg (fun e=>hc e.1)]
theorem Rho.add_inv {ρ:Rho}{b g:Nat}{loc:Loc}{c k:Nat}{l:Loc}(h:ρ.add b g loc c k=some l):(c=b/\k=g/\l=loc)\/ρ c k=some l:=by
 unfold Rho.add at h
 split at h
 ·rename_i e;injection h with h;exact .inl ⟨e.1,e.2,h.symm⟩
 ·exact .inr h
theorem WR.real {P:Program}{Z:Nat}{ρ:Rho}{h:TH}{w:World}(k:WR P Z ρ h w){b:Nat}(hn:∀g,ρ b g=none)(hb:b<h.next)(hZ:Z<=w.heap.size){x:TO}(hx:h.get b=some x){o:Obj}{L S:Nat}
  (hr:OR P (ρ.add b 0 ⟨w.heap.size,L,S⟩) b (w.alloc o) x):WR P Z (ρ.add b 0 ⟨w.heap.size,L,S⟩) h (w.alloc o):=by
 have hm:=Rho.add_more (loc:=⟨w.heap.size,L,S⟩) (hn 0);refine⟨fun c g loc hl=>?_,fun c g loc hl=>?_,fun c c' g g' loc loc' hl hl' e hZ1=>?_⟩
 ·rcases Rho.add_inv hl with⟨rfl,rfl,rfl⟩|hl
  ·exact⟨hb,.inl hZ,by simp⟩
  ·obtain⟨a,b,d⟩:=k.dom c g loc hl;exact⟨a,b,by simp;omega⟩
 ·by_cases hc:c=b
  ·subst hc;exact⟨x,hx,hr⟩
  ·have hl':ρ c g=some loc:=by rw[<- hl,Rho.add_ne hc]
   obtain⟨y,hy,hor⟩:=k.obj c g loc hl';refine⟨y,hy,hor.move hm (fun g=>Rho.add_ne hc g) fun g loc hg=>?_⟩;exact Below.heap_alloc w o _ (k.dom c g loc hg).2.2
 ·rcases Rho.add_inv hl with⟨h1,h2,h3⟩|ha
  ·rcases Rho.add_inv hl' with⟨h4,h5,h6⟩|ha'
   ·exact h1.trans h4.symm
   ·have:=(k.dom c' g' loc' ha').2.2;subst h3;dsimp only at e;omega
  ·rcases Rho.add_inv hl' with⟨h4,h5,h6⟩|ha'
   ·have:=(k.dom c g loc ha).2.2;subst h6;dsimp only at e;omega
   ·exact k.sep c c' g g' loc loc' ha ha' e hZ1
end Tw
end Go.Proofs.YtfomlmhnmheenaaGreat
namespace Go.Proofs.YtfomlmhnmheenaaGreat
open Go.RowKit
namespace Tw
variable {P:Program}{ρ:Rho}{Z:Nat}{h:TH}{w:World}
theorem zj0 {t:TypeId}{g:Bool}(hg:zhG P t=some g)(w:World):(isAgg t).run P w=.ok g w:=by
 unfold zhG at hg
 split at hg<;>first|(cases hg;done)|skip
 all_goals (injection hg with hg;subst hg)
 ·rename_i hu;simp[isAgg,run_underlying hu]
 ·rename_i hu;simp[isAgg,run_underlying hu]
 ·rename_i d _ _ hu
  cases d<;>simp_all [isAgg,run_underlying hu]
theorem zdQ {t:TypeId}{n:Nat}(hn:zbS P t=some n):n≠0/\∃i,P.info? t=some i/\i.size=n:=by
 unfold zbS at hn
 split at hn
 ·rename_i i hi
  split at hn
  ·cases hn
  ·injection hn with hn;subst hn;exact⟨by assumption,i,hi,rfl⟩
 ·cases hn
theorem zbJ {t:TypeId}{n:Nat}(hn:zbS P t=some n)(w:World):(sizeOf t).run P w=.ok n w:=by
 obtain⟨_,i,hi,rfl⟩:=zdQ hn;simp[sizeOf,typeInfo,hi]
theorem znW {t:TypeId}{n:Nat}(hn:zh1 P t=some n):∃i,P.info? t=some i/\i.bytes=n:=by
 unfold zh1 at hn
 cases hi:P.info? t with
 | none=>simp[hi]at hn
 | some i=>simp[hi]at hn;exact⟨i,rfl,hn⟩
theorem ziN {v:Value}{t:TV}(hv:ziO v=some t):VR ρ t v/\t.one=true:=by
 unfold ziO at hv
 split at hv<;>first|(cases hv;done)|(injection hv with hv;subst hv;exact⟨by constructor,rfl⟩)
theorem zh8 {α β:Type}{f:α->Option β}:∀{l:List α} {m:List β},zct f l=some m->m.length=l.length/\∀(i:Nat) a b,l[i]?=some a->m[i]?=some b->f a=some b
 | [],m,hm=>by simp[zct]at hm;subst hm;exact⟨rfl,fun i a b ha=>by simp at ha⟩
 | x::l,m,hm=>by
  unfold zct at hm
  split at hm
  ·cases hm
  ·rename_i b hb
   split at hm
   ·cases hm
   ·rename_i bs hbs;injection hm with hm;subst hm;obtain⟨h1,h2⟩:=zh8 hbs;refine⟨by simp[h1],fun i a c ha hc=>?_⟩
    cases i with
    | zero=>simp at ha hc;subst ha;subst hc;exact hb
    | succ i=>simp at ha hc;exact h2 i a c ha hc
theorem zof {l:List Value}{m:List TV}(hm:zct ziO l=some m):VL ρ m l/\∀x∈m,x.one=true:=by
 obtain⟨h1,h2⟩:=zh8 hm;refine⟨⟨h1,fun i x y hx hy=>(ziN (h2 i y x hy hx)).1⟩,fun x hx=>?_⟩;obtain⟨i,hi,rfl⟩:=zBJ9.1 hx;have hi':i<l.length:=by rw[<- h1];exact hi
 exact(ziN (ρ:=ρ) (h2 i l[i] m[i] (zAB9 hi') (zAB9 hi))).2
theorem znO {v:Value}{t:TV}(hv:zl3 v=some t):VR ρ t v:=by
 unfold zl3 at hv
 split at hv
 ·split at hv<;>first|(cases hv;done)|skip
  rename_i cs _ l hl;injection hv with hv;subst hv;have:=zof (ρ:=ρ) hl;have:=VR.aggL this.1 this.2;simpa using this
 ·split at hv<;>first|(cases hv;done)|skip
  rename_i cs _ l hl;injection hv with hv;subst hv;have:=zof (ρ:=ρ) hl;have:=VR.tupL this.1;simpa using this
 ·split at hv<;>first|(cases hv;done)|skip
  rename_i hl;injection hv with hv;subst hv;exact .iface (ziN hl).1
 ·exact(ziN hv).1
theorem zkQ {t:TypeId}{z:TV}(hz:zc4 P t=some z):∃i zv,P.info? t=some i/\i.zero=some zv/\∀ρ,VR ρ z zv:=by
 unfold zc4 at hz
 split at hz
 ·rename_i i hi
  split at hz
  ·rename_i zv hzv;exact⟨i,zv,hi,hzv,fun ρ=>znO hz⟩
  ·cases hz
 ·cases hz
theorem ze6 {t:TypeId}{z:TV}(hz:zc4 P t=some z)(w:World):∃zv,(zeroValue t).run P w=.ok zv w/\VR ρ z zv:=by
 obtain⟨i,zv,hi,hzv,hr⟩:=zkQ hz;exact⟨zv,by simp[zeroValue,typeInfo,hi,hzv],hr ρ⟩
theorem ziA {t e:TypeId}(he:zj5 P t=some e):P.underlying t=some (.slice e):=by
 unfold zj5 at he
 split at he
 ·injection he with he;subst he;assumption
 ·cases he
theorem zin {a:Act}{tm:Tr TV}(ht:TmR ρ tm a.tmps){x:Operand}{y:TOp}(hx:opT x=some y){v:TV}(hv:zeE tm y=some v):VR ρ v (a.eval x):=by
 cases x with
 | tmp t =>
  simp[opT]at hx;subst hx;obtain⟨v',h1,h2⟩:=ht t v hv;simpa[Act.eval,h1]using h2
 | const c =>
  simp[opT]at hx;obtain⟨u,hu,rfl⟩:=hx;simp[zeE]at hv;subst hv;exact znO hu
 | global g=>simp[opT]at hx
 | func f =>
  simp[opT]at hx;subst hx;simp[zeE]at hv;subst hv;exact VR.fnL (VL.nil ρ)
theorem zer {a:Act}{tm:Tr TV}(ht:TmR ρ tm a.tmps):∀{xs:List Operand} {ys:List TOp},zct opT xs=some ys->∀{vs:List TV},zdw tm ys=some vs->VL ρ vs (xs.map a.eval)
 | [],ys,hy,vs,hv=>by simp[zct]at hy;subst hy;simp[zdw]at hv;subst hv;exact VL.nil ρ
 | x::xs,ys,hy,vs,hv=>by
  unfold zct at hy
  split at hy
  ·cases hy
  ·rename_i b hb
   split at hy
   ·cases hy
   ·rename_i bs hbs;injection hy with hy;subst hy;unfold zdw at hv
    split at hv
    ·cases hv
    ·rename_i u hu
     split at hv
     ·cases hv
     ·rename_i us hus;injection hv with hv;subst hv;exact .cons (zin ht hb hu) (zer ht hbs hus)
theorem zlL (k:WR P Z ρ h w){b g o n:Nat}{l:List TV}{loc:Loc}(hl:zbs h b g o n=some l)(hρ:ρ b g=some loc)(hc:o+n<=loc.L) :
  ∃cs,VL ρ l cs/\cs.length=n/\(∀(j:Nat) v,cs[j]?=some v->w.cell? ⟨loc.r,o+j,none⟩=some v)/\∀x∈l,x.one=true:=by
 unfold zbs at hl
 split at hl
 ·rename_i x hx;obtain⟨y,hy,hr⟩:=k.obj b g loc hρ;rw[hx]at hy;injection hy with hy;subst hy;unfold zgg at hl
  split at hl
  ·rename_i e G M len cells;have h1:Nat.ble M g=true:=by cases hq:Nat.ble M g<;>simp[hq]at hl⊢
   have h2:Nat.ble g G=true:=by cases hq:Nat.ble g G<;>simp[h1,hq]at hl⊢
   simp only[h1,h2,cond_true]at hl;obtain⟨hlen,hget⟩:=Tr.getL_some hl;obtain⟨loc',cur,hρ',hheap,r1,r2,r3,r4,r5⟩:=hr.2.2 g (zBA9 h1) (zBA9 h2);rw[hρ]at hρ';injection hρ' with hρ';subst hρ';refine⟨(cur.toList.drop o).take n,⟨by simp[hlen];omega,fun i x y hx hy=>?_⟩,by simp;omega,fun j v hv=>?_,fun x hx=>?_⟩
   ·have hi:i<n:=by rw[<- hlen];exact(zAD9.1 hx).1
    rw[hget i hi]at hx;obtain⟨x',v',c1,c2,c3,c4⟩:=r5 (o+i) (by omega);rw[zBD9,if_pos hi,zCB9,zBR9]at hy;rw[hx]at c1;rw[hy]at c2;injection c1 with c1;injection c2 with c2;subst c1;subst c2;exact c4
   ·have hj:j<n:=by
     have:=(zAD9.1 hv).1;simp at this;omega
    rw[zBD9,if_pos hj,zCB9,zBR9]at hv;simp[World.cell?,hheap,hv]
   ·obtain⟨i,hi,rfl⟩:=zBJ9.1 hx;have hx':=zAB9 hi;rw[hget i (by omega)]at hx';obtain⟨x',v',c1,c2,c3,c4⟩:=r5 (o+i) (by omega);rw[hx']at c1;injection c1 with c1;rw[c1];exact c3
  ·rename_i cells;have h1:Nat.beq g 0=true:=by cases hq:Nat.beq g 0<;>simp[hq]at hl⊢
   rw[h1]at hl;simp only[cond_true]at hl;obtain⟨hlen,hget⟩:=Tr.getL_some hl;have hrow:=(hr g loc hρ).2;have hex:∀j,j<n->∃v,w.cell? ⟨loc.r,o+j,none⟩=some v/\∃x,l[j]?=some x/\x.one=true/\VR ρ x v:=fun j hj=>by
    have hx':=zAB9 (show j<l.length by omega);have h3:=hget j hj;rw[hx']at h3;obtain⟨v,v1,v2,v3⟩:=hrow _ _ h3.symm;exact⟨v,v1,_,hx',v2,v3⟩
   have hd:∀j,j<n->∃v,w.cell? ⟨loc.r,o+j,none⟩=some v:=fun j hj=>by obtain⟨v,v1,_⟩:=hex j hj;exact⟨v,v1⟩
   refine⟨(List.range n).map fun j=>(w.cell? ⟨loc.r,o+j,none⟩).getD undef,⟨by simp[hlen],fun i x y hx hy=>?_⟩,by simp,fun j v hv=>?_,fun x hx=>?_⟩
   ·have hi:i<n:=by rw[<- hlen];exact(zAD9.1 hx).1
    obtain⟨v,v1,x',v2,v3,v4⟩:=hex i hi;rw[hx]at v2;injection v2 with v2;subst v2;rw[zAG9,zEL9 hi]at hy;simp only[Option.map_some,v1,zEU9]at hy;injection hy with hy;subst hy;exact v4
   ·have hj:j<n:=by have:=(zAD9.1 hv).1;simpa using this
    obtain⟨v',v1⟩:=hd j hj;rw[zAG9,zEL9 hj]at hv;simp only[Option.map_some,v1,zEU9]at hv;injection hv with hv;subst hv;exact v1
   ·obtain⟨i,hi,rfl⟩:=zBJ9.1 hx;obtain⟨v,v1,x',v2,v3,v4⟩:=hex i (by omega);rw[zAB9 hi]at v2;injection v2 with v2;rw[v2];exact v3
  ·cases hl
 ·cases hl
theorem zmw {agg:Bool}{l:List TV}{v:TV}(hv:one agg l=some v):(agg=true/\v=.agg l)\/(agg=false/\l=[v]):=by
 unfold one at hv
 cases agg
 ·right
  simp only[cond_false]at hv
  split at hv
  ·injection hv with hv;subst hv;exact⟨rfl,rfl⟩
  ·cases hv
 ·left
  simp only[cond_true]at hv;injection hv with hv;exact⟨rfl,hv.symm⟩
theorem zdD (r o j:Nat):(⟨r,o,none⟩:Addr).add j=⟨r,o+j,none⟩:=by unfold Addr.add;split<;>simp_all
theorem zoX (k:WR P Z ρ h w){t:TypeId}{g:Bool}{n:Nat}(hg:zhG P t=some g)(hn:zbS P t=some n){p:TV}{p':Value}(hp:VR ρ p p'){v:TV}(hv:zfD g n h p=some v) :
  ∃v',(Instr.loadAt t p').run P w=.ok v' w/\VR ρ v v':=by
 unfold zfD at hv
 split at hv
 ·rename_i b g' o e
  cases hb:Nat.ble n e<;>simp only[hb,cond_true,cond_false]at hv
  ·cases hv
  ·have hne:=zBA9 hb
   split at hv
   ·rename_i l hl
    cases hp with
    | ptr hρ hc =>
     rename_i loc;obtain⟨cs,h1,h2,h3,h4⟩:=zlL k hl hρ (by omega);have hload:=run_loadCells_list (P:=P) w ⟨loc.r,o,none⟩ cs (fun j v hv=>by rw[zdD];exact h3 j v hv);rw[h2]at hload;rcases zmw hv with⟨rfl,rfl⟩|⟨rfl,rfl⟩
     ·refine⟨.agg cs.toArray,?_,VR.aggL h1 h4⟩;simp[Instr.loadAt,Instr.sureAddr,loadVar,zj0 hg,zbJ hn,hload]
     ·obtain⟨y,cs',rfl,hy,hr⟩:=h1.of_cons;obtain rfl:=hr.of_nil;have:=h3 0 y rfl;rw[zDH9]at this;exact⟨y,by simp[Instr.loadAt,Instr.sureAddr,loadVar,zj0 hg,load,Sem.run,this],hy⟩
   ·cases hv
 ·cases hv
theorem zgR {k k':IntKind}(h:Nat.beq (kno k) (kno k')=true):k=k':=by
 have:=zAJ9 h
 cases k<;>cases k'<;>first|rfl|(simp[kno]at this)
theorem zcD (a b:Int):zgy a b=(a==b):=by
 cases a<;>cases b<;>simp only[zgy]
 ·rename_i x y;show Nat.beq x y=_
  by_cases h:x=y
  ·subst h;simp
  ·have:Nat.beq x y=false:=by cases hb:Nat.beq x y;rfl;exact absurd (zAJ9 hb) h
   rw[this];simp;omega
 ·simp
 ·simp
 ·rename_i x y
  by_cases h:x=y
  ·subst h;simp
  ·have:Nat.beq x y=false:=by cases hb:Nat.beq x y;rfl;exact absurd (zAJ9 hb) h
   rw[this];simp[h]
theorem zd7 (a b:Int):ile a b=decide (a<=b):=by
 unfold ile
 split
 ·rename_i n hn;have:0<=b-a:=by rw[hn];exact zFB9 n
  simp;omega
 ·rename_i n hn;have:b-a<0:=by rw[hn];exact Int.negSucc_lt_zero n
  simp;omega
theorem zf0:∀(a b:List Nat),zeK a b=(a==b)
 | [],[]=>rfl
 | [],_::_=>rfl
 | _::_,[]=>rfl
 | a::l,b::m=>by
  unfold zeK;rw[zf0 l m]
  cases hb:Nat.beq a b
  ·have:a≠b:=fun e=>by subst e;simp at hb
   simp[this]
  ·have:=zAJ9 hb;subst this;simp
def bts (s:ByteArray):List Nat:=s.data.toList.map (·.toNat)
theorem zrO {s t:ByteArray}(h:bts s=bts t):s.toList=t.toList:=by
 rw[ByteArray.toList_eq,ByteArray.toList_eq];exact List.map_inj_right (f:=fun x:UInt8=>x.toNat) (fun x y=>UInt8.toNat_inj.1) |>.1 h
theorem zql (s t:ByteArray):(bts s==bts t)=(s.toList==t.toList):=by
 by_cases e:s.toList=t.toList
 ·have:bts s=bts t:=by unfold bts;rw[<- ByteArray.toList_eq,<- ByteArray.toList_eq,e]
  simp[e,this]
 ·have:bts s≠bts t:=fun h=>e (zrO h);rw[beq_eq_false_iff_ne.2 e,beq_eq_false_iff_ne.2 this]
theorem zlf:∀(a b:List UInt8),zgb (a.map (·.toNat)) (b.map (·.toNat))=Op.bytesLess a b
 | [],[]=>rfl
 | [],_::_=>rfl
 | _::_,[]=>by simp[zgb,Op.bytesLess]
 | a::l,b::m=>by
  simp only[zCH9,zgb,Op.bytesLess,zlf l m];have h1:Nat.blt a.toNat b.toNat=decide (a<b):=by
   by_cases h:a<b
   ·rw[zED9.mpr (UInt8.lt_iff_toNat_lt.1 h)];simp[h]
   ·cases hb:Nat.blt a.toNat b.toNat
    ·simp[h]
    ·exact absurd (UInt8.lt_iff_toNat_lt.2 (zED9.mp hb)) h
  have h2:Nat.beq a.toNat b.toNat=(a==b):=by
   cases hb:Nat.beq a.toNat b.toNat
   ·have:a≠b:=fun e=>by subst e;simp at hb
    simp[this]
   ·have:=UInt8.toNat_inj.1 (zAJ9 hb);simp[this]
  rw[h1,h2]
  cases decide (a<b)<;>cases (a==b)<;>simp
theorem zw2 {α:Type}{k k':IntKind}{x:Option α}{y:α}(h:(bif Nat.beq (kno k) (kno k')then x else none)=some y):k=k'/\x=some y:=by
 cases hb:Nat.beq (kno k) (kno k')<;>rw[hb]at h
 ·cases h
 ·exact⟨zgR hb,h⟩
theorem zI {α:Type}{b:Bool}{x:Option α}{y:α}(h:(bif b then x else none)=some y):b=true/\x=some y:=by
 cases b
 ·cases h
 ·exact⟨rfl,h⟩
theorem zlg {k:IntKind}{n:Nat}(h:n<2 ^ zg6 k):k.wrap (n:Int)=n:=by
 cases k<;>simp only[zg6]at h<;>simp[IntKind.wrap,IntKind.bits,IntKind.signed]<;>omega
theorem zf2 (k:IntKind):2 ^ zg6 k<=2 ^ k.bits:=Nat.pow_le_pow_right (by omega) (by cases k<;>simp[zg6,IntKind.bits])
theorem zqY (op:BinOp)(t:TypeId)(x y:Operand)(k k':IntKind)(a b:Int)(w:World):(eqGuard op t x y (.int k a) (.int k' b)).run P w=.ok () w:=by
 cases op<;>simp[eqGuard]
theorem zq1 (op:BinOp)(t:TypeId)(x y:Operand)(a b:ByteArray)(w:World):(eqGuard op t x y (.string a) (.string b)).run P w=.ok () w:=by
 cases op<;>simp[eqGuard]
theorem znc {f:Nat->Nat->Nat}{k:IntKind}{x y:Int}{v:TV}(hv:zpY f k x y=some v):∃a b:Nat,x=a/\y=b/\a<2 ^ zg6 k/\b<2 ^ zg6 k/\v=.int k (f a b:Nat):=by
 unfold zpY at hv
 split at hv
 ·rename_i a b;obtain⟨h1,hv⟩:=zI hv;obtain⟨h2,hv⟩:=zI hv;injection hv with hv;exact⟨a,b,rfl,rfl,zED9.mp h1,zED9.mp h2,hv.symm⟩
 ·cases hv
theorem zvq (a n:Nat):(a:Int).fdiv (2 ^ n)=((a/2 ^ n:Nat):Int):=by
 rw[Int.fdiv_eq_ediv_of_nonneg _ (by exact Int.pow_nonneg (by omega))];simp
theorem zxa {op:BinOp}{t:TypeId}{k k':IntKind}{a b:Int}{v:TV}(hv:zfl op k k' a b=some v)(w:World):∃v',(binOp op t (.int k a) (.int k' b)).run P w=.ok v' w/\VR ρ v v':=by
 cases op<;>simp only[zfl]at hv<;>try(obtain⟨hk,hv2⟩:=zw2 hv;clear hv;subst hk;have hv:=hv2;clear hv2)
 case add=>injection hv with hv;subst hv;exact⟨_,by simp[binOp,Op.intArith],.int _ _⟩
 case sub=>injection hv with hv;subst hv;exact⟨_,by simp[binOp,Op.intArith],.int _ _⟩
 case mul=>injection hv with hv;subst hv;exact⟨_,by simp[binOp,Op.intArith],.int _ _⟩
 case quo =>
  cases hb:zgy b 0<;>rw[hb]at hv
  ·injection hv with hv;subst hv;rw[zcD]at hb;exact⟨_,by simp[binOp,Op.intDiv,(by simpa using hb:b≠0)],.int _ _⟩
  ·cases hv
 case rem =>
  cases hb:zgy b 0<;>rw[hb]at hv
  ·injection hv with hv;subst hv;rw[zcD]at hb;exact⟨_,by simp[binOp,Op.intDiv,(by simpa using hb:b≠0)],.int _ _⟩
  ·cases hv
 case and =>
  obtain⟨x,y,rfl,rfl,hx,hy,rfl⟩:=znc hv;refine⟨.int k ((Nat.land x y:Nat):Int),?_,.int _ _⟩;have:Nat.land x y<2 ^ zg6 k:=Nat.and_lt_two_pow _ hy;have ex:x%2 ^ k.bits=x:=zEA9 (zBE9 hx (zf2 k));have ey:y%2 ^ k.bits=y:=zEA9 (zBE9 hy (zf2 k));simp[binOp,Op.intBits,BitVec.toNat_and,ex,ey];exact zlg this
 case or =>
  obtain⟨x,y,rfl,rfl,hx,hy,rfl⟩:=znc hv;refine⟨.int k ((Nat.lor x y:Nat):Int),?_,.int _ _⟩;have:Nat.lor x y<2 ^ zg6 k:=Nat.or_lt_two_pow hx hy;have ex:x%2 ^ k.bits=x:=zEA9 (zBE9 hx (zf2 k));have ey:y%2 ^ k.bits=y:=zEA9 (zBE9 hy (zf2 k));simp[binOp,Op.intBits,BitVec.toNat_or,ex,ey];exact zlg this
 case xor =>
  obtain⟨x,y,rfl,rfl,hx,hy,rfl⟩:=znc hv;refine⟨.int k ((Nat.xor x y:Nat):Int),?_,.int _ _⟩;have:Nat.xor x y<2 ^ zg6 k:=Nat.xor_lt_two_pow hx hy;have ex:x%2 ^ k.bits=x:=zEA9 (zBE9 hx (zf2 k));have ey:y%2 ^ k.bits=y:=zEA9 (zBE9 hy (zf2 k));simp[binOp,Op.intBits,BitVec.toNat_xor,ex,ey];exact zlg this
 case shl =>
  unfold zxR at hv
  split at hv
  ·rename_i n;obtain⟨_,hv⟩:=zI hv;injection hv with hv;subst hv;exact⟨_,by simp[binOp,Op.shift,Int.not_lt.2 (zFB9 n)],.int _ _⟩
  ·cases hv
 case shr =>
  unfold zxK at hv
  split at hv
  ·rename_i a n;obtain⟨_,hv⟩:=zI hv;injection hv with hv;subst hv;refine⟨_,?_,.int _ _⟩;simp[binOp,Op.shift,Int.not_lt.2 (zFB9 n)];exact zvq a _
  ·cases hv
 case andNot=>cases hv
 case eql=>injection hv with hv;subst hv;exact⟨_,by simp[binOp,Op.intCmp];rfl,by rw[zcD];exact .bool _⟩
 case neq=>injection hv with hv;subst hv;exact⟨_,by simp[binOp,Op.intCmp];rfl,by rw[zcD];exact .bool _⟩
 case lss =>
  injection hv with hv;subst hv;refine⟨.bool (decide (a<b)),by simp[binOp,Op.intCmp],?_⟩;have:(decide (a<b))=!(ile b a):=by rw[zd7];by_cases h:b<=a<;>simp[h]<;>omega
  rw[this];exact .bool _
 case leq=>injection hv with hv;subst hv;exact⟨.bool (decide (a<=b)),by simp[binOp,Op.intCmp],by rw[<- zd7];exact .bool _⟩
 case gtr =>
  injection hv with hv;subst hv;refine⟨.bool (decide (a>b)),by simp[binOp,Op.intCmp],?_⟩;have:(decide (a>b))=!(ile a b):=by rw[zd7];by_cases h:a<=b<;>simp[h]<;>omega
  rw[this];exact .bool _
 case geq=>injection hv with hv;subst hv;exact⟨.bool (decide (a ≥ b)),by simp[binOp,Op.intCmp],by rw[show decide (a ≥ b)=ile b a by rw[zd7]];exact .bool _⟩
theorem zr0 (a b:List UInt8):(Op.bytesLess a b||(a==b))=!(Op.bytesLess b a):=by
 induction a generalizing b with
 | nil=>cases b<;>simp[Op.bytesLess]
 | cons x l ih =>
  cases b with
  | nil=>simp[Op.bytesLess]
  | cons y m =>
   simp only[Op.bytesLess];have:=ih m
   by_cases h1:x<y
   ·have h2:¬y<x:=fun h=>by have:=UInt8.lt_trans h1 h;simp at this
    have h3:(y==x)=false:=by simp;rintro rfl;simp at h1
    simp[h1,h2,h3]
   ·by_cases h2:x=y
    ·subst h2;simp[this]
    ·have h3:y<x:=by
      have:¬x.toNat<y.toNat:=fun h=>h1 (UInt8.lt_iff_toNat_lt.2 h);have h4:x.toNat≠y.toNat:=fun e=>h2 (UInt8.toNat_inj.1 e);exact UInt8.lt_iff_toNat_lt.2 (by omega)
     simp[h1,h2,h3]
theorem zwH {op:BinOp}{t:TypeId}{a b:ByteArray}{v:TV}(hv:zvC op (bts a) (bts b)=some v)(w:World):∃v',(binOp op t (.string a) (.string b)).run P w=.ok v' w/\VR ρ v v':=by
 have h1:zeK (bts a) (bts b)=(a.toList==b.toList):=by rw[zf0,zql]
 have h2:zgb (bts a) (bts b)=Op.bytesLess a.toList b.toList:=by unfold bts;rw[zlf,ByteArray.toList_eq,ByteArray.toList_eq]
 have h3:zgb (bts b) (bts a)=Op.bytesLess b.toList a.toList:=by unfold bts;rw[zlf,ByteArray.toList_eq,ByteArray.toList_eq]
 cases op<;>simp only[zvC]at hv<;>first|(cases hv;done)|skip
 case eql=>injection hv with hv;subst hv;rw[h1];exact⟨_,by simp[binOp,Op.stringOp],.bool _⟩
 case neq=>injection hv with hv;subst hv;rw[h1];exact⟨_,by simp[binOp,Op.stringOp],.bool _⟩
 case lss=>injection hv with hv;subst hv;rw[h2];exact⟨_,by simp[binOp,Op.stringOp],.bool _⟩
 case leq=>injection hv with hv;subst hv;rw[h3];exact⟨.bool (!(Op.bytesLess b.toList a.toList)),by simp[binOp,Op.stringOp,zr0],.bool _⟩
 case gtr=>injection hv with hv;subst hv;rw[h3];exact⟨.bool (Op.bytesLess b.toList a.toList),by simp[binOp,Op.stringOp,zr0],.bool _⟩
 case geq=>injection hv with hv;subst hv;rw[h2];exact⟨_,by simp[binOp,Op.stringOp],.bool _⟩
 case add =>
  obtain⟨h0,hv⟩:=zI hv;injection hv with hv;subst hv;have hle:=zBA9 h0;have e1:(bts a).length=a.size:=by simp[bts]
  have e2:(bts b).length=b.size:=by simp[bts]
  refine⟨.string (a++b),?_,?_⟩
  ·have:¬(((a.size+b.size:Nat):Int)>IntKind.i64.max):=by simp[IntKind.max,IntKind.signed,IntKind.bits];omega
   simp only[binOp,Op.stringOp];rw[if_neg this];simp
  ·have:bts a++bts b=bts (a++b):=by simp[bts]
   rw[this];exact .str _
theorem zwW {op:BinOp}{t:TypeId}{X Y:Operand}{x y:TV}{x' y':Value}(hx:VR ρ x x')(hy:VR ρ y y'){v:TV}(hv:zcR op x y=some v)(w:World) :
  ∃v',(do eqGuard op t X Y x' y';binOp op t x' y':Sem Value).run P w=.ok v' w/\VR ρ v v':=by
 unfold zcR at hv
 split at hv
 ·unfold zeI at hv
  split at hv
  ·cases hx;cases hy
   obtain⟨v',h1,h2⟩:=zxa (P:=P) (ρ:=ρ) (t:=t) hv w;exact⟨v',by simp[zqY,h1],h2⟩
  ·cases hv
 ·unfold zwB at hv
  split at hv
  ·cases hx with
   | str a=>cases hy with
    | str b =>
     obtain⟨v',h1,h2⟩:=zwH (P:=P) (ρ:=ρ) (t:=t) hv w;exact⟨v',by simp[zq1,h1],h2⟩
  ·cases hv
 ·cases hv
theorem zpK {neg:Bool}{x:Option Bool}{v:TV}(hv:zlB neg x=some v):∃b,x=some b/\v=.bool (neg ^^ b):=by
 unfold zlB at hv
 split at hv
 ·rename_i b;injection hv with hv;exact⟨b,rfl,by rw[<- hv];cases neg<;>cases b<;>rfl⟩
 ·cases hv
theorem zfG {x y:Option Bool}{b:Bool}(hb:zU x y=some b):(x=some true/\y=some true/\b=true)\/(x=some true/\y=some false/\b=false)\/(x=some false/\y=some true/\b=false):=by
 cases x with
 | none=>cases hb
 | some x=>cases y with
  | none=>cases hb
  | some y=>cases x<;>cases y<;>simp[zU]at hb<;>simp[<- hb]
theorem zly {x:TV}(h:zp8 x=some true):x=.nilptr:=by cases x<;>simp[zp8]at h;rfl
theorem zt9 {x:TV}(h:zp8 x=some false):∃b g o e,x=.ptr b g o e:=by cases x<;>simp[zp8]at h;exact⟨_,_,_,_,rfl⟩
theorem zlx {x:TV}(h:zqJ x=some true):x=.nilsl:=by cases x<;>simp[zqJ]at h;rfl
theorem zus {x:TV}(h:zqJ x=some false):∃b g o n q z,x=.sl b g o n q z:=by cases x<;>simp[zqJ]at h;exact⟨_,_,_,_,_,_,rfl⟩
theorem zl9 {x:TV}(h:zqE x=some true):x=.nilmap:=by cases x<;>simp[zqE]at h;rfl
theorem ztV {x:TV}(h:zqE x=some false):∃b,x=.map b:=by cases x<;>simp[zqE]at h;exact⟨_,rfl⟩
theorem zlQ {x:TV}(h:za3 x=some true):x=.nilfn:=by cases x<;>simp[za3]at h;rfl
theorem zt2 {x:TV}(h:za3 x=some false):∃f l,x=.fn f l:=by cases x<;>simp[za3]at h;exact⟨_,_,rfl⟩
theorem zlJ {x:TV}(h:zqD x=some true):x=.niliface:=by cases x<;>simp[zqD]at h;rfl
theorem zto {x:TV}(h:zqD x=some false):∃t v,x=.iface t v:=by cases x<;>simp[zqD]at h;exact⟨_,_,rfl⟩
theorem zhk (t:TypeId)(x y:Value):Op.equal t x y=Op.equalIn (9999+1) t x y:=rfl
def zgt (P:Program)(t:TypeId)(X Y:Operand)(x y:Value)(b:Bool)(w:World):Prop :=
 (∀op,(eqGuard op t X Y x y).run P w=.ok () w)/\(binOp .eql t x y).run P w=.ok (.bool b) w/\(binOp .neq t x y).run P w=.ok (.bool (!b)) w
theorem zcc {t:TypeId}{X Y:Operand}{x y:Value}{b:Bool}(hg:∀op,(eqGuard op t X Y x y).run P w=.ok () w)(he:∀d,(Op.equalIn (d+1) t x y).run P w=.ok b w)
  (h1:binOp .eql t x y=(do pure (.bool (<- Op.equal t x y)))) (h2:binOp .neq t x y=(do pure (.bool (!(<- Op.equal t x y))))):zgt P t X Y x y b w :=
 ⟨hg,by rw[h1,zhk];simp[he 9999],by rw[h2,zhk];simp[he 9999]⟩
theorem znZ {t e:TypeId}(hu:P.underlying t=some (.pointer e)){X Y:Operand}{x y:TV}{x' y':Value}(hx:VR ρ x x')(hy:VR ρ y y'){b:Bool}(hb:zhq 1 x y=some b):zgt P t X Y x' y' b w:=by
 rcases zfG hb with⟨h1,h2,rfl⟩|⟨h1,h2,rfl⟩|⟨h1,h2,rfl⟩
 ·obtain rfl:=zly h1;obtain rfl:=zly h2
  cases hx;cases hy
  exact zcc (fun op=>by cases op<;>simp[eqGuard]) (fun d=>by simp[Op.equalIn,run_underlying hu]) rfl rfl
 ·obtain rfl:=zly h1;obtain⟨_,_,_,_,rfl⟩:=zt9 h2
  cases hx;cases hy
  exact zcc (fun op=>by cases op<;>simp[eqGuard]) (fun d=>by simp[Op.equalIn,run_underlying hu]) rfl rfl
 ·obtain⟨_,_,_,_,rfl⟩:=zt9 h1;obtain rfl:=zly h2
  cases hx;cases hy
  exact zcc (fun op=>by cases op<;>simp[eqGuard]) (fun d=>by simp[Op.equalIn,run_underlying hu]) rfl rfl
theorem znP {t e:TypeId}(hu:P.underlying t=some (.slice e)){X Y:Operand}{x y:TV}{x' y':Value}(hx:VR ρ x x')(hy:VR ρ y y'){b:Bool}(hb:zhq 2 x y=some b):zgt P t X Y x' y' b w:=by
 rcases zfG hb with⟨h1,h2,rfl⟩|⟨h1,h2,rfl⟩|⟨h1,h2,rfl⟩
 ·obtain rfl:=zlx h1;obtain rfl:=zlx h2
  cases hx;cases hy
  exact zcc (fun op=>by cases op<;>simp[eqGuard]) (fun d=>by simp[Op.equalIn,run_underlying hu]) rfl rfl
 ·obtain rfl:=zlx h1;obtain⟨_,_,_,_,_,_,rfl⟩:=zus h2
  cases hx;cases hy
  exact zcc (fun op=>by cases op<;>simp[eqGuard]) (fun d=>by simp[Op.equalIn,run_underlying hu]) rfl rfl
 ·obtain⟨_,_,_,_,_,_,rfl⟩:=zus h1;obtain rfl:=zlx h2
  cases hx;cases hy
  exact zcc (fun op=>by cases op<;>simp[eqGuard]) (fun d=>by simp[Op.equalIn,run_underlying hu]) rfl rfl
theorem zn7 {t e e':TypeId}(hu:P.underlying t=some (.map e e')){X Y:Operand}{x y:TV}{x' y':Value}(hx:VR ρ x x')(hy:VR ρ y y'){b:Bool}(hb:zhq 3 x y=some b):zgt P t X Y x' y' b w:=by
 rcases zfG hb with⟨h1,h2,rfl⟩|⟨h1,h2,rfl⟩|⟨h1,h2,rfl⟩
 ·obtain rfl:=zl9 h1;obtain rfl:=zl9 h2
  cases hx;cases hy
  exact zcc (fun op=>by cases op<;>simp[eqGuard]) (fun d=>by simp[Op.equalIn,run_underlying hu]) rfl rfl
 ·obtain rfl:=zl9 h1;obtain⟨_,rfl⟩:=ztV h2
  cases hx;cases hy
  exact zcc (fun op=>by cases op<;>simp[eqGuard]) (fun d=>by simp[Op.equalIn,run_underlying hu]) rfl rfl
 ·obtain⟨_,rfl⟩:=ztV h1;obtain rfl:=zl9 h2
  cases hx;cases hy
  exact zcc (fun op=>by cases op<;>simp[eqGuard]) (fun d=>by simp[Op.equalIn,run_underlying hu]) rfl rfl
theorem zot {t:TypeId}{ps rs:Array TypeId}{vr:Bool}(hu:P.underlying t=some (.func ps rs vr)){X Y:Operand}{x y:TV}{x' y':Value}(hx:VR ρ x x')(hy:VR ρ y y'){b:Bool}(hb:zhq 4 x y=some b):zgt P t X Y x' y' b w:=by
 rcases zfG hb with⟨h1,h2,rfl⟩|⟨h1,h2,rfl⟩|⟨h1,h2,rfl⟩
 ·obtain rfl:=zlQ h1;obtain rfl:=zlQ h2
  cases hx;cases hy
  exact zcc (fun op=>by cases op<;>simp[eqGuard]) (fun d=>by simp[Op.equalIn,run_underlying hu]) rfl rfl
 ·obtain rfl:=zlQ h1;obtain⟨_,_,rfl⟩:=zt2 h2
  cases hx;cases hy
  exact zcc (fun op=>by cases op<;>simp[eqGuard]) (fun d=>by simp[Op.equalIn,run_underlying hu]) rfl rfl
 ·obtain⟨_,_,rfl⟩:=zt2 h1;obtain rfl:=zlQ h2
  cases hx;cases hy
  exact zcc (fun op=>by cases op<;>simp[eqGuard]) (fun d=>by simp[Op.equalIn,run_underlying hu]) rfl rfl
theorem zok {t:TypeId}{ms:Array (String×TypeId)}(hu:P.underlying t=some (.interface ms)){X Y:Operand}(hXY:(zeZ X||zeZ Y)=true){x y:TV}{x' y':Value}(hx:VR ρ x x')(hy:VR ρ y y'){b:Bool}(hb:zhq 5 x y=some b):zgt P t X Y x' y' b w:=by
 rcases zfG hb with⟨h1,h2,rfl⟩|⟨h1,h2,rfl⟩|⟨h1,h2,rfl⟩
 ·obtain rfl:=zlJ h1;obtain rfl:=zlJ h2
  cases hx;cases hy
  refine zcc (fun op=>?_) (fun d=>by simp[Op.equalIn,run_underlying hu]) rfl rfl
  cases X<;>cases Y<;>simp[zeZ]at hXY<;>cases op<;>simp[eqGuard]
 ·obtain rfl:=zlJ h1;obtain⟨_,_,rfl⟩:=zto h2
  cases hx;cases hy
  exact zcc (fun op=>by cases op<;>simp[eqGuard]) (fun d=>by simp[Op.equalIn,run_underlying hu]) rfl rfl
 ·obtain⟨_,_,rfl⟩:=zto h1;obtain rfl:=zlJ h2
  cases hx;cases hy
  exact zcc (fun op=>by cases op<;>simp[eqGuard]) (fun d=>by simp[Op.equalIn,run_underlying hu]) rfl rfl
theorem ze8 {x:TV}{n:Nat}(hx:zdX x=some n){x':Value}(hr:VR ρ x x'):∃k,x=.int k (n:Nat)/\x'=.int k (n:Nat):=by
 cases x<;>simp[zdX]at hx
 rename_i k i
 cases i<;>simp[zsq]at hx
 subst hx
 cases hr
 exact⟨k,rfl,rfl⟩
theorem zcN {x:TV}{m l:Nat}(hx:zcX x m=some l){x':Value}(hr:VR ρ x x'):∃k,x'=.int k (l:Nat)/\l<=m:=by
 unfold zcX at hx
 split at hx
 ·rename_i n hn;obtain⟨h1,hx⟩:=zI hx;injection hx with hx;subst hx;obtain⟨k,_,rfl⟩:=ze8 hn hr;exact⟨k,rfl,zBA9 h1⟩
 ·cases hx
theorem zbR {k:IntKind}{l y:Nat}(hl:l<=y)(code:BoundsCode)(w:World):(Instr.sliceBound (.int k (l:Nat)) y code).run P w=.ok l w:=by
 simp[Instr.sliceBound,asIntOf,hl]
theorem zgp {b g o n q z o' c:Nat}{loc:Loc}(hρ:ρ b g=some loc)(hn:n<=q/2)(hq:q/2<=c)(hc:o+q/2*z<=loc.L)(ho:o'=o\/n=0/\c=0/\o≠0)(hs:q%2=0->o+c*z=loc.S)(hm:c<=maxLen)
  {l j m q':Nat} (hlj:l<=j) (hjm:j<=m) (hmc:m<=c) (hq1:j-l<=q'/2) (hq2:q'/2<=m-l) (hq3:l+q'/2<=q/2) (hq4:q'%2=0->m=c/\q%2=0) :
  VR ρ (.sl b g (o+l*z) (j-l) q' z) (.slice (if m=l then some ⟨loc.r,o',none⟩else some ((⟨loc.r,o',none⟩:Addr).add (l*z))) (j-l) (m-l)):=by
 have hcov:o+l*z+q'/2*z<=loc.L:=by
  have:(l+q'/2)*z<=q/2*z:=zBU9 z hq3;rw[zCN9]at this;omega
 by_cases e:m=l
 ·rw[if_pos e];have e1:j-l=0:=by omega
  have e2:m-l=0:=by omega
  rw[e1]at hq1⊢;rw[e2]at hq2⊢;refine .sl hρ hq1 hq2 hcov ?_ (fun h0=>?_) (zAS9 _)
  ·by_cases h0:o+l*z=0
   ·rcases ho with ho|⟨_,_,h1⟩
    ·left;omega
    ·exact absurd (by omega:o=0) h1
   ·exact .inr ⟨rfl,rfl,h0⟩
  ·obtain⟨h1,h2⟩:=hq4 h0;have:=hs h2;rw[<- h1,e]at this;omega
 ·rw[if_neg e,zdD];refine .sl hρ hq1 hq2 hcov ?_ (fun h0=>?_) (by omega)
  ·rcases ho with rfl|⟨_,h1,_⟩
   ·exact .inl rfl
   ·omega
  ·obtain⟨h1,h2⟩:=hq4 h0;have:=hs h2;rw[<- this,h1,zDF9,<- zCN9]
   congr 2;omega
theorem zk2 {α:Type}{b:Bool}{x:Option α}{y:α}(h:(bif b then none else x)=some y):b=false/\x=some y:=by
 cases b
 ·exact⟨rfl,h⟩
 ·cases h
theorem zur {t e:TypeId}(hu:P.underlying t=some (.slice e))(x:Value)(lo hi mx:Option Value)(w:World):(Instr.sliceAt t x lo hi mx).run P w=(Instr.slice t x lo hi mx).run P w:=by
 simp[Instr.sliceAt,run_underlying hu]
theorem zuk {t e:TypeId}{z:Nat}(hu:P.underlying t=some (.slice e))(hz:zbS P e=some z){lo hi mx:Option Value}{vs:List TV}{x':Value}(hv:VL ρ vs (x'::(lo.toList++hi.toList++mx.toList))){v:TV}(hp:zgZ z lo.isSome hi.isSome mx.isSome vs=some v)(w:World) :
  ∃v',(Instr.sliceAt t x' lo hi mx).run P w=.ok v' w/\VR ρ v v':=by
 rw[zur hu]
 cases vs with
 | nil=>cases hp
 | cons x bs =>
  obtain⟨_,cs',e,hx,hbs⟩:=hv.of_cons;injection e with e1 e2;subst e1;subst e2;simp only[zgZ,zdH]at hp
  cases x<;>simp only at hp<;>first|(cases hp;done)|skip
  case nilsl =>
   cases hx
   unfold zjv at hp;obtain⟨h0,hp⟩:=zk2 hp
   cases mx with
   | some m=>simp at h0
   | none =>
    cases lo with
    | none=>cases hi with
     | none =>
      cases bs with
      | nil=>simp at hp;subst hp;exact⟨_,by simp[Instr.slice,run_underlying hu,Instr.sliceBounds,zbJ hz],.nilsl⟩
      | cons _ _=>have:=hbs.1;simp at this
     | some hi =>
      cases bs with
      | nil=>have:=hbs.1;simp at this
      | cons y bs =>
       obtain⟨_,_,e,hy,hbs⟩:=hbs.of_cons;simp at e;obtain⟨rfl,rfl⟩:=e
       cases bs with
       | cons _ _=>have:=hbs.1;simp at this
       | nil =>
        simp only at hp
        split at hp
        ·rename_i l hl;obtain⟨k,rfl,hl0⟩:=zcN hl hy;simp at hp;subst hp;obtain rfl:l=0:=by omega
         exact⟨_,by simp[Instr.slice,run_underlying hu,Instr.sliceBounds,zbR,zbJ hz,Instr.sliceBound,asIntOf],.nilsl⟩
        ·cases hp
    | some lo=>cases hi with
     | none =>
      cases bs with
      | nil=>have:=hbs.1;simp at this
      | cons y bs =>
       obtain⟨_,_,e,hy,hbs⟩:=hbs.of_cons;simp at e;obtain⟨rfl,rfl⟩:=e
       cases bs with
       | cons _ _=>have:=hbs.1;simp at this
       | nil =>
        simp only at hp
        split at hp
        ·rename_i l hl;obtain⟨k,rfl,hl0⟩:=zcN hl hy;simp at hp;subst hp;obtain rfl:l=0:=by omega
         exact⟨_,by simp[Instr.slice,run_underlying hu,Instr.sliceBounds,zbJ hz,Instr.sliceBound,asIntOf],.nilsl⟩
        ·cases hp
     | some hi =>
      cases bs with
      | nil=>have:=hbs.1;simp at this
      | cons y bs=>cases bs with
       | nil=>have:=hbs.1;simp at this
       | cons _ _=>simp at hp
  case sl b g o n q z' =>
   obtain⟨hzz,hp⟩:=zI hp;obtain rfl:=zAJ9 hzz
   cases hx with
   | sl hρ hn hq hc ho hs hm =>
    rename_i o' c loc;unfold zfb at hp
    cases mx with
    | none =>
     cases lo with
     | none=>cases hi with
      | none =>
       cases bs with
       | cons _ _=>have:=hbs.1;simp at this
       | nil =>
        simp at hp;subst hp;have:=zgp hρ hn hq hc ho hs hm (l:=0) (j:=n) (m:=c) (q':=q) (zAS9 _) (by omega) (zAM9 _) (by omega) (by omega) (by omega) (fun h=>⟨rfl,h⟩);simp only[Nat.zero_mul,zDH9,zFR9]at this;exact⟨_,by simp[Instr.slice,run_underlying hu,Instr.sliceBounds,zbJ hz],this⟩
      | some hi =>
       cases bs with
       | nil=>have:=hbs.1;simp at this
       | cons y bs =>
        obtain⟨_,_,e,hy,hbs⟩:=hbs.of_cons;simp at e;obtain⟨rfl,rfl⟩:=e
        cases bs with
        | cons _ _=>have:=hbs.1;simp at this
        | nil =>
         simp[zsJ]at hp
         split at hp
         ·rename_i j hj;injection hp with hp;subst hp;obtain⟨k,rfl,hj0⟩:=zcN hj hy;have:=zgp hρ hn hq hc ho hs hm (l:=0) (j:=j) (m:=c) (q':=q) (zAS9 _) (by omega) (zAM9 _) (by omega) (by omega) (by omega) (fun h=>⟨rfl,h⟩);simp only[Nat.zero_mul,zDH9,zFR9]at this;exact⟨_,by simp[Instr.slice,run_underlying hu,Instr.sliceBounds,zbJ hz,zbR (show j<=c by omega)],this⟩
         ·cases hp
     | some lo=>cases hi with
      | none =>
       cases bs with
       | nil=>have:=hbs.1;simp at this
       | cons y bs =>
        obtain⟨_,_,e,hy,hbs⟩:=hbs.of_cons;simp at e;obtain⟨rfl,rfl⟩:=e
        cases bs with
        | cons _ _=>have:=hbs.1;simp at this
        | nil =>
         simp[zgv]at hp
         split at hp
         ·rename_i l hl;injection hp with hp;subst hp;obtain⟨k,rfl,hl0⟩:=zcN hl hy;have:=zgp hρ hn hq hc ho hs hm (l:=l) (j:=n) (m:=c) (q':=q-2*l) hl0 (by omega) (zAM9 _) (by omega) (by omega) (by omega) (fun h=>⟨rfl,by omega⟩);refine⟨_,?_,this⟩;simp[Instr.slice,run_underlying hu,Instr.sliceBounds,zbJ hz,zbR hl0]
         ·cases hp
      | some hi =>
       cases bs with
       | nil=>have:=hbs.1;simp at this
       | cons y bs =>
        obtain⟨_,_,e,hy,hbs⟩:=hbs.of_cons;simp at e;obtain⟨rfl,rfl⟩:=e
        cases bs with
        | nil=>have:=hbs.1;simp at this
        | cons y2 bs =>
         obtain⟨_,_,e,hy2,hbs⟩:=hbs.of_cons;simp at e;obtain⟨rfl,rfl⟩:=e
         cases bs with
         | cons _ _=>have:=hbs.1;simp at this
         | nil =>
          simp[zlC]at hp
          split at hp
          ·rename_i j hj;unfold zgv at hp
           split at hp
           ·rename_i l hl;injection hp with hp;subst hp;obtain⟨k,rfl,hl0⟩:=zcN hl hy;obtain⟨k2,rfl,hj0⟩:=zcN hj hy2;have:=zgp hρ hn hq hc ho hs hm (l:=l) (j:=j) (m:=c) (q':=q-2*l) hl0 (by omega) (zAM9 _) (by omega) (by omega) (by omega) (fun h=>⟨rfl,by omega⟩);refine⟨_,?_,this⟩;simp[Instr.slice,run_underlying hu,Instr.sliceBounds,zbJ hz,zbR (show j<=c by omega),zbR hl0]
           ·cases hp
          ·cases hp
    | some mx =>
     cases lo with
     | none=>cases hi with
      | none =>
       cases bs with
       | nil=>have:=hbs.1;simp at this
       | cons y bs=>cases bs with
        | nil=>simp at hp
        | cons _ _=>have:=hbs.1;simp at this
      | some hi =>
       cases bs with
       | nil=>have:=hbs.1;simp at this
       | cons y bs=>cases bs with
        | nil=>have:=hbs.1;simp at this
        | cons _ bs=>cases bs with
         | nil=>simp at hp
         | cons _ _=>have:=hbs.1;simp at this
     | some lo=>cases hi with
      | none =>
       cases bs with
       | nil=>have:=hbs.1;simp at this
       | cons y bs=>cases bs with
        | nil=>have:=hbs.1;simp at this
        | cons _ bs=>cases bs with
         | nil=>simp at hp
         | cons _ _=>have:=hbs.1;simp at this
      | some hi =>
       cases bs with
       | nil=>have:=hbs.1;simp at this
       | cons y bs =>
        obtain⟨_,_,e,hy,hbs⟩:=hbs.of_cons;simp at e;obtain⟨rfl,rfl⟩:=e
        cases bs with
        | nil=>have:=hbs.1;simp at this
        | cons y2 bs =>
         obtain⟨_,_,e,hy2,hbs⟩:=hbs.of_cons;simp at e;obtain⟨rfl,rfl⟩:=e
         cases bs with
         | nil=>have:=hbs.1;simp at this
         | cons y3 bs =>
          obtain⟨_,_,e,hy3,hbs⟩:=hbs.of_cons;simp at e;obtain⟨rfl,rfl⟩:=e
          cases bs with
          | cons _ _=>have:=hbs.1;simp at this
          | nil =>
           simp[zoK]at hp
           split at hp
           ·rename_i m hm'
            split at hp
            ·rename_i j hj;unfold zgv at hp
             split at hp
             ·rename_i l hl;injection hp with hp;subst hp;obtain⟨k,rfl,hl0⟩:=zcN hl hy;obtain⟨k2,rfl,hj0⟩:=zcN hj hy2;obtain⟨k3,rfl,hm0⟩:=zcN hm' hy3;have:=zgp hρ hn hq hc ho hs hm (l:=l) (j:=j) (m:=m) (q':=2*m+1-2*l) hl0 (by omega) (by omega) (by omega) (by omega) (by omega) (fun h=>by omega);refine⟨_,?_,this⟩;simp[Instr.slice,run_underlying hu,Instr.sliceBounds,zbJ hz,zbR (show m<=c by omega),zbR hj0,zbR hl0]
             ·cases hp
            ·cases hp
           ·cases hp
theorem zcI {vs:List TV}{f:TV->Option TV}{v:TV}(hv:zb9 vs f=some v):∃x,vs=[x]/\f x=some v:=by
 unfold zb9 at hv
 split at hv
 ·exact⟨_,rfl,hv⟩
 ·cases hv
theorem zcY {vs:List TV}{f:TV->TV->Option TV}{v:TV}(hv:zb2 vs f=some v):∃x y,vs=[x,y]/\f x y=some v:=by
 unfold zb2 at hv
 split at hv
 ·exact⟨_,_,rfl,hv⟩
 ·cases hv
theorem zhe:∀(l:List TV) (n:Nat),nth l n=l[n]?
 | [],_=>by simp[nth]
 | _::_,0=>rfl
 | _::l,n+1=>by simp only[nth,zAY9];exact zhe l n
theorem zrU:∀(l:List Nat) (n:Nat),zpN l n=l[n]?
 | [],_=>by simp[zpN]
 | _::_,0=>rfl
 | _::l,n+1=>by simp only[zpN,zAY9];exact zrU l n
theorem zpz {t:TypeId}{g:Bool}{n off:Nat}(hg:zhG P t=some g)(hn:zbS P t=some n){l:List TV}{cs:List Value}(hl:VL ρ l cs)(h1:∀x∈l,x.one=true){v:TV}(hv:zj4 g off n l=some v)(w:World) :
  ∃v',(part t cs.toArray off).run P w=.ok v' w/\VR ρ v v':=by
 unfold zj4 at hv
 cases g
 ·simp only[cond_false,zhe]at hv;obtain⟨y,hy,hr⟩:=hl.at hv;refine⟨y,?_,hr⟩;simp[part,zj0 hg,hy]
 ·simp only[cond_true]at hv;obtain⟨h0,hv⟩:=zI hv;injection hv with hv;subst hv;have hle:=zBA9 h0;refine⟨.agg ((cs.drop off).take n).toArray,?_,VR.aggL ((hl.drop off).take n) fun x hx=>h1 x (zBY9 (zCE9 hx))⟩;simp[part,zj0 hg,zbJ hn]
theorem zon {t:TypeId}{i off n:Nat}{g:Bool}(hf:zh6 P t i=some (off,g,n)):∃fs f,P.underlying t=some (.struct fs)/\fs[i]?=some f/\f.offset=off/\zhG P f.type=some g/\zbS P f.type=some n:=by
 unfold zh6 at hf
 split at hf<;>first|(cases hf;done)|skip
 split at hf<;>first|(cases hf;done)|skip
 split at hf<;>first|(cases hf;done)|skip
 rename_i fs hu _ f hfi _ _ a m ha hm;injection hf with hf;injection hf with h1 h2;injection h2 with h2 h3;subst h1;subst h2;subst h3;exact⟨fs,f,hu,hfi,rfl,ha,hm⟩
theorem zuc {t:TypeId}{i off n:Nat}{g:Bool}(hf:zh6 P t i=some (off,g,n)){x v:TV}{x':Value}(hx:VR ρ x x')(hv:zh3 off n x=some v)(w:World):∃v',(Instr.fieldAt t x' i).run P w=.ok v' w/\VR ρ v v':=by
 obtain⟨fs,f,hu,hfi,rfl,_,hm⟩:=zon hf;unfold zh3 at hv
 split at hv
 ·obtain⟨h0,hv⟩:=zI hv;injection hv with hv;subst hv;have hle:=zBA9 h0
  cases hx with
  | ptr hρ hc =>
   have:=(zdQ hm).1;exact⟨_,by simp[Instr.fieldAt,run_underlying hu,hfi,Instr.sureAddr,fieldPlace,zbJ hm,this,zdD],.ptr hρ (by omega)⟩
 ·cases hv
theorem zwY {t:TypeId}{i off n:Nat}{g:Bool}(hf:zh6 P t i=some (off,g,n)){x v:TV}{x':Value}(hx:VR ρ x x')(hv:zvE g off n x=some v)(w:World):∃v',(Instr.field t x' i).run P w=.ok v' w/\VR ρ v v':=by
 obtain⟨fs,f,hu,hfi,rfl,hg,hm⟩:=zon hf;unfold zvE at hv
 split at hv
 ·cases hx with
  | agg hl h1 hr =>
   obtain⟨v',h2,h3⟩:=zpz hg hm ⟨hl,hr⟩ h1 hv w;exact⟨v',by simp[Instr.field,run_underlying hu,hfi,asAgg,h2],h3⟩
 ·cases hv
theorem zuQ {t e:TypeId}{z:Nat}(hu:P.underlying t=some (.slice e))(hz:zbS P e=some z){x y v:TV}{x' y':Value}(hx:VR ρ x x')(hy:VR ρ y y')(hv:zhX z x y=some v)(w:World):∃v',(Instr.indexAt t x' y').run P w=.ok v' w/\VR ρ v v':=by
 unfold zhX at hv
 split at hv
 ·rename_i b g o n q zz;obtain⟨hzz,hv⟩:=zI hv;obtain rfl:=zAJ9 hzz
  split at hv
  ·rename_i i hi;obtain⟨h0,hv⟩:=zI hv;injection hv with hv;subst hv;have hlt:=zED9.mp h0;obtain⟨k,_,rfl⟩:=ze8 hi hy
   cases hx with
   | sl hρ hn hq hc ho hs hm =>
    rename_i o' c loc;have ho':o'=o:=by rcases ho with h|⟨h,_⟩;exact h;omega
    subst ho';refine⟨.pointer (some ⟨loc.r,o'+i*z,none⟩),?_,.ptr hρ ?_⟩
    ·simp[Instr.indexAt,asIntOf,run_underlying hu,zbJ hz,hlt,zdD]
    ·have:(i+1)*z<=q/2*z:=zBU9 z (by omega);rw[zCN9]at this;omega
  ·cases hv
 ·cases hv
theorem zsW {t e:TypeId}{len z:Nat}(hu:P.underlying t=some (.array len e))(hz:zbS P e=some z){x y v:TV}{x' y':Value}(hx:VR ρ x x')(hy:VR ρ y y')(hv:zgM len z x y=some v)(w:World):∃v',(Instr.indexAt t x' y').run P w=.ok v' w/\VR ρ v v':=by
 unfold zgM at hv
 split at hv
 ·rename_i b g o e
  split at hv
  ·rename_i i hi;obtain⟨h0,hv⟩:=zI hv;obtain⟨h1,hv⟩:=zI hv;injection hv with hv;subst hv;have hlt:=zED9.mp h0;have hle:=zBA9 h1;obtain⟨k,_,rfl⟩:=ze8 hi hy
   cases hx with
   | ptr hρ hc =>
    rename_i loc;refine⟨.pointer (some ⟨loc.r,o+i*z,none⟩),?_,.ptr hρ ?_⟩
    ·simp[Instr.indexAt,asIntOf,run_underlying hu,zbJ hz,hlt,zdD,Instr.sureAddr]
    ·have:(i+1)*z<=len*z:=zBU9 z (by omega);rw[zCN9]at this;omega
  ·cases hv
 ·cases hv
theorem zsc {t e:TypeId}{len z:Nat}{g:Bool}(hu:P.underlying t=some (.array len e))(hg:zhG P e=some g)(hz:zbS P e=some z){x y v:TV}{x' y':Value}(hx:VR ρ x x')(hy:VR ρ y y')(hv:zm2 len g z x y=some v)(w:World) :
  ∃v',(Instr.index t x' y').run P w=.ok v' w/\VR ρ v v':=by
 unfold zm2 at hv
 split at hv
 ·split at hv
  ·rename_i i hi;obtain⟨h0,hv⟩:=zI hv;have hlt:=zED9.mp h0;obtain⟨k,_,rfl⟩:=ze8 hi hy
   cases hx with
   | agg hl h1 hr =>
    obtain⟨v',h2,h3⟩:=zpz hg hz ⟨hl,hr⟩ h1 hv w;exact⟨v',by simp[Instr.index,asIntOf,run_underlying hu,zbJ hz,hlt,h2],h3⟩
  ·cases hv
 ·cases hv
theorem zs1 {t:TypeId}(hu:P.underlying t=some .string){x y v:TV}{x' y':Value}(hx:VR ρ x x')(hy:VR ρ y y')(hv:zkl x y=some v)(w:World):∃v',(Instr.index t x' y').run P w=.ok v' w/\VR ρ v v':=by
 unfold zkl at hv
 split at hv
 ·split at hv
  ·rename_i i hi
   split at hv
   ·rename_i c hc;injection hv with hv;subst hv;obtain⟨k,_,rfl⟩:=ze8 hi hy
    cases hx with
    | str s =>
     rw[zrU]at hc;simp at hc;obtain⟨u,hu',rfl⟩:=hc;have:s[i]?=some u:=by
      have hlt:=(zBW9.1 hu').1;have h2:=(zBW9.1 hu').2;have hs:i<s.size:=hlt;rw[getElem?_pos s i hs];exact congrArg some h2
     exact⟨.int .u8 ((u.toNat:Nat):Int),by simp[Instr.index,asIntOf,run_underlying hu,this],.int _ _⟩
   ·cases hv
  ·cases hv
 ·cases hv
theorem ztQ {t:TypeId}(hu:P.underlying t=some .string){lo hi:Option Value}{vs:List TV}{x':Value}(hv:VL ρ vs (x'::(lo.toList++hi.toList))){v:TV}(hp:zjf lo.isSome hi.isSome vs=some v)(w:World) :
  ∃v',(Instr.sliceAt t x' lo hi none).run P w=.ok v' w/\VR ρ v v':=by
 have hunf:(Instr.sliceAt t x' lo hi none).run P w=(Instr.slice t x' lo hi none).run P w:=by simp[Instr.sliceAt,run_underlying hu]
 rw[hunf];unfold zjf at hp
 split at hp
 ·rename_i s bs;obtain⟨_,cs',e,hx,hbs⟩:=hv.of_cons;injection e with e1 e2;subst e1;subst e2
  cases hx with
  | str s =>
   have hsz:(s.data.toList.map (·.toNat)).length=s.size:=by simp
   unfold zrQ at hp;have hex:∀l j,l<=j->j<=s.size->VR ρ (.str (((s.data.toList.map (·.toNat)).take j).drop l)) (.string (s.extract l j)):=fun l j h1 h2=>by
    have:((s.data.toList.map (·.toNat)).take j).drop l=(s.extract l j).data.toList.map (·.toNat):=by
     simp[ByteArray.data_extract,Array.toList_extract,List.extract_eq_take_drop,zDN9,zCQ9,zFF9]
    rw[this];exact .str _
   cases lo with
   | none=>cases hi with
    | none =>
     cases bs with
     | cons _ _=>have:=hbs.1;simp at this
     | nil =>
      simp at hp;subst hp;have:=hex 0 s.size (zAS9 _) (zAM9 _);rw[<- hsz,zBK9,zFG9,hsz]at this;exact⟨.string s,by simp[Instr.slice,run_underlying hu,Instr.sliceBounds],by simpa using this⟩
    | some hi =>
     cases bs with
     | nil=>have:=hbs.1;simp at this
     | cons y bs =>
      obtain⟨_,_,e,hy,hbs⟩:=hbs.of_cons;simp at e;obtain⟨rfl,rfl⟩:=e
      cases bs with
      | cons _ _=>have:=hbs.1;simp at this
      | nil =>
       simp at hp
       split at hp
       ·rename_i j hj;injection hp with hp;subst hp;obtain⟨k,rfl,hj0⟩:=zcN hj hy;have:=hex 0 j (zAS9 _) hj0;rw[zFG9]at this;exact⟨_,by simp[Instr.slice,run_underlying hu,Instr.sliceBounds,zbR hj0];rfl,by simpa using this⟩
       ·cases hp
   | some lo=>cases hi with
    | none =>
     cases bs with
     | nil=>have:=hbs.1;simp at this
     | cons y bs =>
      obtain⟨_,_,e,hy,hbs⟩:=hbs.of_cons;simp at e;obtain⟨rfl,rfl⟩:=e
      cases bs with
      | cons _ _=>have:=hbs.1;simp at this
      | nil =>
       simp at hp
       split at hp
       ·rename_i j hj;injection hp with hp;subst hp;obtain⟨k,rfl,hj0⟩:=zcN hj hy;have:=hex j s.size hj0 (zAM9 _);rw[<- hsz,zBK9,hsz]at this;exact⟨_,by simp[Instr.slice,run_underlying hu,Instr.sliceBounds,zbR hj0];rfl,by simpa using this⟩
       ·cases hp
    | some hi =>
     cases bs with
     | nil=>have:=hbs.1;simp at this
     | cons y bs =>
      obtain⟨_,_,e,hy,hbs⟩:=hbs.of_cons;simp at e;obtain⟨rfl,rfl⟩:=e
      cases bs with
      | nil=>have:=hbs.1;simp at this
      | cons y2 bs =>
       obtain⟨_,_,e,hy2,hbs⟩:=hbs.of_cons;simp at e;obtain⟨rfl,rfl⟩:=e
       cases bs with
       | cons _ _=>have:=hbs.1;simp at this
       | nil =>
        simp at hp
        split at hp
        ·rename_i j hj
         split at hp
         ·rename_i l hl;injection hp with hp;subst hp;obtain⟨k,rfl,hj0⟩:=zcN hj hy2;obtain⟨k2,rfl,hl0⟩:=zcN hl hy;have:=hex l j hl0 hj0;exact⟨_,by simp[Instr.slice,run_underlying hu,Instr.sliceBounds,zbR hj0,zbR hl0];rfl,by simpa using this⟩
         ·cases hp
        ·cases hp
 ·cases hp
theorem ztm {t e:TypeId}{len z:Nat}(hu:P.underlying t=some (.array len e))(hz:zbS P e=some z)(hlen:len<=1000000){lo hi:Option Value}{vs:List TV}{x':Value}(hv:VL ρ vs (x'::(lo.toList++hi.toList))){v:TV}(hp:zmk len z lo.isSome hi.isSome vs=some v)(w:World) :
  ∃v',(Instr.sliceAt t x' lo hi none).run P w=.ok v' w/\VR ρ v v':=by
 unfold zmk at hp
 split at hp
 ·obtain⟨h0,hp⟩:=zk2 hp;obtain⟨h1,hp⟩:=zk2 hp;obtain⟨h2,hp⟩:=zI hp;injection hp with hp;subst hp;have hle:=zBA9 h2
  cases lo with
  | some _=>simp at h0
  | none=>cases hi with
   | some _=>simp at h1
   | none =>
    obtain⟨_,cs',e,hx,hbs⟩:=hv.of_cons;injection e with e1 e2;subst e1;subst e2
    cases hx with
    | ptr hρ hc =>
     refine⟨_,?_,.sl hρ (c:=len) (by omega) (by omega) ?_ (.inl rfl) (fun h=>by omega) (by simp only[maxLen];omega)⟩
     ·simp[Instr.sliceAt,run_underlying hu,Instr.sliceBounds,Instr.sureAddr,zbJ hz,zdD]
     ·have:(2*len+1)/2=len:=by omega
      rw[this];omega
 ·cases hp
def zs9 (P:Program)(t:TypeId):Prop:=(∃k,P.underlying t=some (.int k))\/P.underlying t=some .string
theorem zg5 {key:TypeId}(hk:zs9 P key)(b:Bool)(n:Nat)(v:Value)(w:World):(Instr.checkKey b (n+1) key v).run P w=.ok () w:=by
 rcases hk with⟨k,hu⟩|hu<;>simp[Instr.checkKey,run_underlying hu]
theorem EsR.of_cons {e:zcf}{es:List zcf}{es':List MapEntry}(h:EsR ρ (e::es) es'):∃e' r,es'=e'::r/\VR ρ e.k e'.key/\VR ρ e.v e'.val/\e'.born=e.n/\EsR ρ es r:=by
 cases es' with
 | nil=>have:=h.1;simp at this
 | cons e' r =>
  obtain⟨a,b,c⟩:=h.2 0 e e' rfl rfl;exact⟨e',r,rfl,a,b,c,by have:=h.1;simpa using this,fun i x y hx hy=>h.2 (i+1) x y (by simpa using hx) (by simpa using hy)⟩
theorem zmc {key:TypeId}{d:TypeDesc}(hu:P.underlying key=some d)(hk:zs9 P key){x y:TV}{x' y':Value}(hx:VR ρ x x')(hy:VR ρ y y'){b:Bool}(he:zhw x y=some b)(hx1:(∃k,d=.int k)->∃j n,x=.int j n)(hx2:d=.string->∃s,x=.str s):Instr.sameNow d x' y'=some b:=by
 unfold zhw at he
 split at he
 ·split at he
  ·rename_i k a _ k' b';obtain⟨hk',he2⟩:=zI he;obtain rfl:=zgR hk';injection he2 with he2;subst he2
   cases hx;cases hy
   have:∃k,d=.int k:=by
    rcases hk with⟨j,hj⟩|hj
    ·rw[hu]at hj;injection hj with hj;exact⟨j,hj⟩
    ·rw[hu]at hj;injection hj with hj;obtain⟨s,hs⟩:=hx2 hj;cases hs
   obtain⟨j,rfl⟩:=this;simp[Instr.sameNow,zcD]
  ·cases he
 ·split at he
  ·injection he with he;subst he
   cases hx with
   | str a=>cases hy with
    | str c =>
     have:d=.string:=by
      rcases hk with⟨j,hj⟩|hj
      ·rw[hu]at hj;injection hj with hj;obtain⟨_,_,hs⟩:=hx1 ⟨j,hj⟩;cases hs
      ·rw[hu]at hj;injection hj
     subst this;have h1:zeK (bts a) (bts c)=(a==c):=by rw[zf0,zql,beq_toListBytes]
     simp only[Instr.sameNow];exact congrArg some h1.symm
  ·cases he
 ·cases he
def zx8 (d:TypeDesc)(x:TV):Prop:=((∃k,d=.int k)->∃j n,x=.int j n)/\(d=.string->∃s,x=.str s)
theorem ze4 {key:TypeId}{d:TypeDesc}(hu:P.underlying key=some d)(hk:zs9 P key){x:TV}{x':Value}(hx:VR ρ x x')(hkv:zx8 d x):∀{es:List zcf} {es':List MapEntry} {i:Nat} {r:Option (Nat×zcf)},EsR ρ es es'->zcE x es i=some r ->
  ∃r',Instr.findNow d x' es' i=some r'/\((r=none/\r'=none)\/∃j e e',r=some (i+j,e)/\r'=some (i+j,e'.val)/\es[j]?=some e/\es'[j]?=some e'/\zhw x e.k=some true)
 | [],es',i,r,he,hf=>by
  have:es'=[]:=by have:=he.1;cases es' with|nil=>rfl|cons _ _=>simp at this
  subst this;simp[zcE]at hf;subst hf;exact⟨none,rfl,.inl ⟨rfl,rfl⟩⟩
 | e::es,es',i,r,he,hf=>by
  obtain⟨e',rr,rfl,h1,h2,h3,h4⟩:=he.of_cons;unfold zcE at hf
  split at hf
  ·cases hf
  ·rename_i hq;injection hf with hf;subst hf;have:=zmc hu hk hx h1 hq hkv.1 hkv.2;refine⟨some (i,e'.val),by simp[Instr.findNow,this],.inr ⟨0,e,e',rfl,rfl,rfl,rfl,hq⟩⟩
  ·rename_i hq;have:=zmc hu hk hx h1 hq hkv.1 hkv.2;obtain⟨r',hr',hc⟩:=ze4 hu hk hx hkv h4 hf;refine⟨r',by simp[Instr.findNow,this,hr'],?_⟩;rcases hc with hc|⟨j,a,b,c1,c2,c3,c4,c5⟩
   ·exact .inl hc
   ·exact .inr ⟨j+1,a,b,by rw[c1];congr 2;omega,by rw[c2];congr 2;omega,by simpa using c3,by simpa using c4,c5⟩
def kfT (kf:Nat)(d:TypeDesc):Prop:=(kf=1/\∃k,d=.int k)\/(kf=2/\d=.string)
theorem zlc {kf:Nat}{d:TypeDesc}(hk:kfT kf d){x:TV}(h:zeM kf x=true):zx8 d x:=by
 rcases hk with⟨rfl,k,rfl⟩|⟨rfl,rfl⟩
 ·cases x<;>simp[zeM,zhg]at h
  exact⟨fun _=>⟨_,_,rfl⟩,fun h=>by cases h⟩
 ·cases x<;>simp[zeM,zqH]at h
  exact⟨fun h=>(by obtain⟨_,h⟩:=h;cases h),fun _=>⟨_,rfl⟩⟩
theorem znA {kf:Nat}{key:TypeId}{d:TypeDesc}(hu:P.underlying key=some d)(hk:kfT kf d):zs9 P key:=by
 rcases hk with⟨_,k,rfl⟩|⟨_,rfl⟩
 ·exact .inl ⟨k,hu⟩
 ·exact .inr hu
theorem zjz (k:WR P Z ρ h w){b:Nat}{loc:Loc}(hρ:ρ b 0=some loc){es:List zcf}{ck:Nat}(hb:h.get b=some (.map es ck)):∃es',w.heap[loc.r]?=some (.map es' ck)/\EsR ρ es es'.toList:=by
 obtain⟨o,ho,hr⟩:=k.obj b 0 loc hρ;rw[hb]at ho;injection ho with ho;subst ho;obtain⟨loc',es',h1,h2,h3⟩:=hr;rw[hρ]at h1;injection h1 with h1;subst h1;exact⟨es',h2,h3⟩
theorem zds {r:Nat}{es:Array MapEntry}{ck:Nat}(hh:w.heap[r]?=some (.map es ck)):(getObj r).run P w=.ok (.map es ck) w:=by
 simp[getObj,Sem.run,hh]
theorem zmu {ok:Bool}{v:TV}{v':Value}(h:VR ρ v v')(b:Bool):VR ρ (okT ok v b) (if ok=true then .tuple #[v',.bool b]else v'):=by
 cases ok
 ·exact h
 ·exact VR.tupL (.cons h (VL.one (.bool b)))
theorem zo8 (k:WR P Z ρ h w){t key e:TypeId}{kf:Nat}{d:TypeDesc}(hu:P.underlying t=some (.map key e))(hd:P.underlying key=some d)(hkf:kfT kf d){z:TV}(hz:zc4 P e=some z){ok:Bool}{x y v:TV}{x' y':Value}(hx:VR ρ x x')(hy:VR ρ y y')(hv:zgA kf z ok h x y=some v) :
  ∃v',(Instr.lookup t x' y' ok).run P w=.ok v' w/\VR ρ v v':=by
 have hkt:=znA hd hkf;obtain⟨zv,hzv,hzr⟩:=ze6 (ρ:=ρ) hz w;unfold zgA at hv;obtain⟨h0,hv⟩:=zI hv;have hkv:=zlc hkf h0;have hck:∀b,(Instr.checkKey b 10000 key y').run P w=.ok () w:=fun b=>zg5 hkt b 9999 y' w
 split at hv
 ·injection hv with hv;subst hv
  cases hx
  refine⟨_,?_,zmu hzr false⟩;simp[Instr.lookup,run_underlying hu,hck,Instr.findKey,run_underlying hd,Instr.findNow,hzv]
 ·split at hv
  ·rename_i o ho;unfold zoJ at hv
   split at hv
   ·rename_i es ck
    cases hx with
    | map hρ =>
     obtain⟨es',he,her⟩:=zjz k hρ ho
     split at hv
     ·rename_i j e hf;injection hv with hv;subst hv;obtain⟨r',hr',hc⟩:=ze4 hd hkt hy hkv her hf;rcases hc with⟨hc,_⟩|⟨j',a,b,c1,c2,c3,c4,c5⟩
      ·cases hc
      ·injection c1 with c1;injection c1 with _ c1;subst c1;subst c2;obtain⟨_,hvv,_⟩:=her.2 j' e b c3 c4;refine⟨_,?_,zmu hvv true⟩;simp[Instr.lookup,run_underlying hu,zds he,hck,Instr.findKey,run_underlying hd,hr']
     ·rename_i hf;injection hv with hv;subst hv;obtain⟨r',hr',hc⟩:=ze4 hd hkt hy hkv her hf;rcases hc with⟨_,rfl⟩|⟨j',a,b,c1,_⟩
      ·refine⟨_,?_,zmu hzr false⟩;simp[Instr.lookup,run_underlying hu,zds he,hck,Instr.findKey,run_underlying hd,hr',hzv]
      ·cases c1
     ·cases hv
   ·cases hv
  ·cases hv
 ·cases hv
theorem zrb {X:TypeId}{t:TypeId}{d:TypeDesc}(hu:P.underlying t=some d)(hd:∀ms,d ≠ .interface ms){z:TV}(hz:zc4 P t=some z){ok:Bool}{x v:TV}{x':Value}(hx:VR ρ x x')(hv:ziu t z ok x=some v)(w:World) :
  ∃v',(Instr.typeAssert x' X t ok).run P w=.ok v' w/\VR ρ v v':=by
 obtain⟨zv,hzv,hzr⟩:=ze6 (ρ:=ρ) hz w;unfold ziu at hv
 split at hv
 ·cases hx with
  | iface hr =>
   rename_i t' u u'
   cases hb:Nat.beq t t'<;>rw[hb]at hv
   ·have hne:t'≠t:=fun e=>by subst e;simp at hb
    simp only[cond_false]at hv;obtain⟨rfl,hv⟩:=zI hv;injection hv with hv;subst hv;refine⟨_,?_,VR.tupL (.cons hzr (VL.one (.bool false)))⟩
    cases d<;>first|(exact absurd rfl (hd _))|simp[Instr.typeAssert,run_underlying hu,hne,hzv]
   ·obtain rfl:=zAJ9 hb;simp only[cond_true]at hv;injection hv with hv;subst hv;refine⟨_,?_,zmu hr true⟩
    cases d<;>first|(exact absurd rfl (hd _))|simp[Instr.typeAssert,run_underlying hu]
 ·obtain⟨rfl,hv⟩:=zI hv;injection hv with hv;subst hv
  cases hx
  refine⟨_,?_,VR.tupL (.cons hzr (VL.one (.bool false)))⟩
  cases d<;>first|(exact absurd rfl (hd _))|simp[Instr.typeAssert,run_underlying hu,hzv]
 ·cases hv
theorem zoi (off:Nat):∀(cs:List Value) (k:Nat) (cells:Array Value),off+k+cs.length<=cells.size ->
  ((cs.zipIdx k).foldl (fun a (x:Value×Nat)=>a.setIfInBounds (off+x.2) x.1) cells).toList=cells.toList.take (off+k)++cs++cells.toList.drop (off+k+cs.length)
 | [],k,cells,_=>by simp
 | c::cs,k,cells,h=>by
  simp only[zAE9]at h;have hlt:off+k<cells.toList.length:=by simp;omega
  rw[List.zipIdx_cons,List.foldl_cons,zoi off cs (k+1) _ (by simp;omega)];have h1:(cells.setIfInBounds (off+k) c).toList.take (off+(k+1))=cells.toList.take (off+k)++[c]:=by
   rw[zEV9,show off+(k+1)=(off+k)+1 by omega,zBM9];rw[List.take_set_of_le (zAM9 _)];simp[zBH9 hlt]
  have h2:(cells.setIfInBounds (off+k) c).toList.drop (off+(k+1)+cs.length)=cells.toList.drop (off+k+(cs.length+1)):=by
   rw[zEV9,List.drop_set_of_lt (by omega)]
   congr 1;omega
  rw[h1,h2];simp
theorem zvQ (cells v:Array Value)(off:Nat)(h:off+v.size<=cells.size) :
  v.zipIdx.foldl (fun cs (x:Value×Nat)=>cs.setIfInBounds (off+x.2) x.1) cells=(cells.toList.take off++v.toList++cells.toList.drop (off+v.size)).toArray:=by
 apply Array.ext'
 have:=zoi off v.toList 0 cells (by simpa using h);simp only[zDH9,zFV9]at this;rw[<- this,<- Array.foldl_toList];simp
theorem zlh {place:Nat->Option (Nat×Nat)}:∀{parts:List (Nat×Value)} {places:List (Nat×Nat)} {vs:List TV} {cells:List TV} {cs:Array Value} {l:List TV},
  places.length=parts.length->(∀(i:Nat) p q,parts[i]?=some p->places[i]?=some q->place p.1=some q)->VL ρ vs (parts.map (·.2))->VL ρ cells cs.toList->(∀x∈cells,x.one=true)->(∀q∈places,q.2≠0)->zht cells places vs=some l ->
  ∃ds,Instr.fill place cs parts=some ds/\VL ρ l ds.toList/\(∀x∈l,x.one=true)/\l.length=cells.length
 | [],places,vs,cells,cs,l,hl,_,hv,hc,h1,_,hf=>by
  have:places=[]:=by cases places;rfl;simp at hl
  subst this;have:vs=[]:=by have:=hv.1;cases vs;rfl;simp at this
  subst this;simp[zht]at hf;subst hf;exact⟨cs,rfl,hc,h1,rfl⟩
 | (i,v)::parts,places,vs,cells,cs,l,hl,hp,hv,hc,h1,hz,hf=>by
  cases places with
  | nil=>simp at hl
  | cons q places =>
   cases vs with
   | nil=>have:=hv.1;simp at this
   | cons u vs =>
    obtain⟨_,_,e,hu,hvs⟩:=hv.of_cons;simp at e;obtain⟨rfl,rfl⟩:=e;obtain⟨off,size⟩:=q;simp only[zht]at hf;obtain⟨ha,hf⟩:=zI hf;obtain⟨hb,hf⟩:=zI hf;have hsz:=zAJ9 ha;have hle:=zBA9 hb;have hz0:size≠0:=hz (off,size) (by simp);obtain⟨hcl,hc1⟩:=hu.cells (.inl (by intro e;rw[e]at hsz;simp at hsz;omega));have hvsz:v.cells.size=size:=by have:=hcl.1;rw[hsz]at this;simpa using this.symm
    have hcsz:cs.size=cells.length:=by have:=hc.1;simpa using this.symm
    have hpl:=hp 0 (i,v) (off,size) rfl rfl;dsimp only at hpl;have hstep:=zvQ cs v.cells off (by omega);obtain⟨ds,hd,hd1,hd2,hd3⟩:=zlh (place:=place) (parts:=parts) (places:=places) (vs:=vs) (cs:=(cs.toList.take off++v.cells.toList++cs.toList.drop (off+v.cells.size)).toArray) (by simpa using hl) (fun j p q hj hq=>hp (j+1) p q (by simpa using hj) (by simpa using hq)) hvs
     (by rw[hvsz];exact((hc.take off).app hcl).app (hc.drop (off+size))) (fun x hx=>by
      rcases zBF9.1 hx with hx|hx
      ·rcases zBF9.1 hx with hx|hx
       ·exact h1 x (zCE9 hx)
       ·exact hc1 x hx
      ·exact h1 x (zBY9 hx)) (fun q hq=>hz q (zAT9 _ hq)) hf
    refine⟨ds,?_,hd1,hd2,by rw[hd3];simp[hsz];omega⟩;unfold Instr.fill;rw[hpl];simp only;rw[if_neg (by simp[hvsz];omega)];rw[<- hd]
    congr 1
theorem ztW {t:TypeId}{z:List TV}(hz:zc4 P t=some (.agg z)){ops:Array (Nat×Operand)}{ps:List (Nat×Nat)}(hps:zmB P t ops.toList=some ps){a:Act}{vs:List TV}(hv:VL ρ vs ((ops.toList.map (·.2)).map a.eval)){v:TV}(hp:zlV z ps vs=some v)(w:World) :
  ∃v',(Instr.build t (ops.map fun(i,x)=>(i,a.eval x))).run P w=.ok v' w/\VR ρ v v':=by
 obtain⟨i,zv,hi,hzi,hzr⟩:=zkQ hz;have hzr:=hzr ρ;unfold zlV at hp
 split at hp
 ·rename_i l hl;injection hp with hp;subst hp;unfold zmB at hps
  split at hps
  ·rename_i fs hu
   split at hps
   ·rename_i pl hpl;obtain⟨m1,m2⟩:=zh8 hps
    cases hzr with
    | agg hl0 h1 hr =>
     rename_i cs;obtain⟨ds,hd,hd1,hd2,_⟩:=zlh (place:=fun i=>pl[i]?) (parts:=(ops.map fun(i,x)=>(i,a.eval x)).toList) (places:=ps) (vs:=vs) (cells:=z) (cs:=cs.toArray) (by simp[m1]) (fun j p q hj hq=>by
       simp only[zFL9,zAG9]at hj
       cases ho:ops.toList[j]? with
       | none=>rw[ho]at hj;cases hj
       | some o =>
        rw[ho]at hj;simp at hj;have:=m2 j o q ho hq;unfold znC at this
        split at this
        ·split at this
         ·cases this
         ·injection this with this;subst this;rw[<- hj];assumption
        ·cases this) (by simpa[Function.comp_def]using hv) ⟨by simpa using hl0,by simpa using hr⟩ h1 (fun q hq=>by
       obtain⟨j,hj,rfl⟩:=zBJ9.1 hq;have hj':j<ops.toList.length:=by rw[<- m1];exact hj
       have:=m2 j ops.toList[j] ps[j] (zAB9 hj') (zAB9 hj);unfold znC at this
       split at this
       ·split at this
        ·cases this
        ·injection this with this;rw[<- this];assumption
       ·cases this) hl
     refine⟨.agg ds,?_,by have:=VR.aggL hd1 hd2;simpa using this⟩;simp only[zFL9]at hd;simp[Instr.build,run_underlying hu,typeInfo,zeroValue,hi,hzi,Array.mapM_eq_mapM_toList,run_places w _ _ hpl,Value.cells,hd]
   ·cases hps
  ·cases hps
 ·cases hp
theorem zo5 {f:Field}{k:Nat}(hk:(k=1/\∃j,P.underlying f.type=some (.int j))\/(k=2/\P.underlying f.type=some .bool)\/(k=3/\P.underlying f.type=some .string)){x y:TV}{x' y':Value}(hx:VR ρ x x')(hy:VR ρ y y'){b:Bool}(he:zlD k x y=some b)(d:Nat)(w:World) :
  (Op.equalIn (d+1) f.type x' y').run P w=.ok b w/\(isAgg f.type).run P w=.ok false w:=by
 unfold zlD at he
 split at he
 ·obtain⟨hk1,he1⟩:=zI he;have hk0:=zAJ9 hk1;clear he hk1;subst hk0;have he:=he1;clear he1;rcases hk with⟨_,j,hu⟩|⟨h,_⟩|⟨h,_⟩<;>first|omega|skip
  split at he
  ·obtain⟨hkk,he2⟩:=zI he;obtain rfl:=zgR hkk;injection he2 with he2;subst he2
   cases hx;cases hy
   exact⟨by rw[run_equalIn_int w d f.type _ j _ _ hu,zcD],by simp[isAgg,run_underlying hu]⟩
  ·cases he
 ·obtain⟨hk1,he1⟩:=zI he;have hk0:=zAJ9 hk1;clear he hk1;subst hk0;have he:=he1;clear he1;rcases hk with⟨h,_⟩|⟨_,hu⟩|⟨h,_⟩<;>first|omega|skip
  split at he
  ·injection he with he;subst he
   cases hx;cases hy
   have hbc:∀a c:Bool,(a==c)=(bif a then c else not c):=by decide
   exact⟨by rw[run_equalIn_bool' w d f.type _ _ hu,hbc],by simp[isAgg,run_underlying hu]⟩
  ·cases he
 ·obtain⟨hk1,he1⟩:=zI he;have hk0:=zAJ9 hk1;clear he hk1;subst hk0;have he:=he1;clear he1;rcases hk with⟨h,_⟩|⟨h,_⟩|⟨_,hu⟩<;>first|omega|skip
  split at he
  ·injection he with he;subst he
   cases hx with
   | str a=>cases hy with
    | str c =>
     refine⟨?_,by simp[isAgg,run_underlying hu]⟩;rw[run_equalIn_string w d f.type _ _ hu];have:zeK (bts a) (bts c)=(a.toList==c.toList):=by rw[zf0,zql]
     exact congrArg (fun b=>Result.ok b w) this.symm
  ·cases he
 ·cases he
theorem zpU:∀{fs:List Field} {n:Nat} {ks:List Nat},ziF P fs n=some ks->∀{l m:List TV} {cs ds:List Value},VL ρ l (cs.drop n)->VL ρ m (ds.drop n)->∀{b:Bool},zfd ks l m=some b->∀d w,(Op.eqFields (d+1) cs.toArray ds.toArray fs).run P w=.ok b w
 | [],n,ks,hf,l,m,cs,ds,hl,hm,b,he,d,w=>by
  simp[ziF]at hf;subst hf;unfold zfd at he
  split at he
  ·injection he with he;subst he;simp[Op.eqFields]
  ·rename_i h;cases h
  ·cases he
 | f::fs,n,ks,hf,l,m,cs,ds,hl,hm,b,he,d,w=>by
  unfold ziF at hf
  split at hf
  ·cases hf
  ·rename_i hname
   split at hf
   ·cases hf
   ·rename_i hoff;have hoff:f.offset=n:=Classical.not_not.1 hoff;have key:∃k ks',ks=k::ks'/\ziF P fs (n+1)=some ks'/\((k=1/\∃j,P.underlying f.type=some (.int j))\/(k=2/\P.underlying f.type=some .bool)\/(k=3/\P.underlying f.type=some .string)):=by
     split at hf
     ·rename_i j ks' h1 h2;injection hf with hf;exact⟨1,ks',hf.symm,h2,.inl ⟨rfl,j,h1⟩⟩
     ·rename_i ks' h1 h2;injection hf with hf;exact⟨2,ks',hf.symm,h2,.inr (.inl ⟨rfl,h1⟩)⟩
     ·rename_i ks' h1 h2;injection hf with hf;exact⟨3,ks',hf.symm,h2,.inr (.inr ⟨rfl,h1⟩)⟩
     ·cases hf
    obtain⟨k,ks',rfl,hks,hk⟩:=key;unfold zfd at he
    split at he
    ·rename_i h;cases h
    ·rename_i k0 ks0 x l y m0 hkk;injection hkk with hk1 hk2;subst hk1;subst hk2;obtain⟨x',cs',e1,hx,hl'⟩:=hl.of_cons;obtain⟨y',ds',e2,hy,hm'⟩:=hm.of_cons;have hc0:cs[n]?=some x':=by have:=congrArg (·[0]?) e1;simpa using this
     have hd0:ds[n]?=some y':=by have:=congrArg (·[0]?) e2;simpa using this
     have hc1:cs'=cs.drop (n+1):=by have:=congrArg (List.drop 1) e1;simpa[zDL9]using this.symm
     have hd1:ds'=ds.drop (n+1):=by have:=congrArg (List.drop 1) e2;simpa[zDL9]using this.symm
     subst hc1;subst hd1
     split at he
     ·rename_i hsc;obtain⟨r1,r2⟩:=zo5 hk hx hy hsc d w;have ih:=zpU hks hl' hm' he d w;simp[Op.eqFields,hname,part,r2,hoff,hc0,hd0,r1,ih]
     ·rename_i r hsc;have hb:b=false:=by
       cases hq:zlD k x y with
       | none=>rw[hq]at he;cases he
       | some c =>
        rw[hq]at he
        cases c
        ·injection he with he;exact he.symm
        ·exact absurd hq hsc
      subst hb;obtain⟨r1,r2⟩:=zo5 hk hx hy he d w;simp[Op.eqFields,hname,part,r2,hoff,hc0,hd0,r1]
    ·cases he
theorem zv5 {t:TypeId}{ks:List Nat}(hf:zj3 P t=some ks):∃fs,P.underlying t=some (.struct fs)/\P.stoodInHeld t=false/\P.eqGuardType P.depth t=false/\ziF P fs.toList 0=some ks:=by
 unfold zj3 at hf
 split at hf
 ·rename_i fs hu
  split at hf
  ·cases hf
  ·split at hf
   ·cases hf
   ·rename_i h1 h2;exact⟨fs,hu,by simpa using h1,by simpa using h2,hf⟩
 ·cases hf
theorem zuB {t:TypeId}{ks:List Nat}(hf:zj3 P t=some ks){neg:Bool}{x y v:TV}{x' y':Value}(hx:VR ρ x x')(hy:VR ρ y y')(hv:zlm neg ks x y=some v)(X Y:Operand)(w:World) :
  ∃v',(do eqGuard (if neg=true then .neq else .eql) t X Y x' y';binOp (if neg=true then .neq else .eql) t x' y':Sem Value).run P w=.ok v' w/\VR ρ v v':=by
 obtain⟨fs,hu,hs,hg,hfl⟩:=zv5 hf;unfold zlm at hv
 split at hv
 ·split at hv
  ·obtain⟨b,hb,rfl⟩:=zpK hv
   cases hx with
   | agg hl h1 hr =>
    cases hy with
    | agg hm h2 hq =>
     rename_i cs ds;have hfo:P.fieldsOf t=fs:=by simp[Program.fieldsOf,hu]
     have heq:∀w,(Op.equalIn 10000 t (.agg cs.toArray) (.agg ds.toArray)).run P w=.ok b w:=fun w=>by
      have:=run_equalIn_struct (P:=P) w 9999 t cs.toArray ds.toArray (by rw[hfo];exact hu) hs;rw[show (10000:Nat)=9999+1 from rfl,this,hfo];exact zpU hfl (cs:=cs) (ds:=ds) (by simpa using⟨hl,hr⟩) (by simpa using⟨hm,hq⟩) hb 9998 w
     have hgr:∀op,(eqGuard op t X Y (.agg cs.toArray) (.agg ds.toArray)).run P w=.ok () w:=fun op=>run_eqGuard_agg w op t X Y _ _ hg
     cases neg
     ·refine⟨.bool b,?_,by simpa using VR.bool (ρ:=ρ) b⟩;have h4:=run_eql_struct (P:=P) w t cs.toArray ds.toArray;rw[heq]at h4;simp only[zCW9,if_false,Sem.run_bind,hgr,Result.andThen_ok];exact h4
     ·refine⟨.bool (!b),?_,by simpa using VR.bool (ρ:=ρ) (!b)⟩;have h4:=run_neq_struct (P:=P) w t cs.toArray ds.toArray;rw[heq]at h4;simp only[if_true,Sem.run_bind,hgr,Result.andThen_ok];exact h4
  ·cases hv
 ·cases hv
theorem ziI {k:zT}{xs:List Operand}{kd:zT}{args:List TOp}(hm:mk k xs=some (kd,args)):kd=k/\zct opT xs=some args:=by
 unfold mk at hm
 split at hm
 ·rename_i l hl;injection hm with hm;injection hm with h1 h2;subst h2;exact⟨h1.symm,hl⟩
 ·cases hm
theorem zeN {s:Sem Value}{v:Value}{w':World}(hs:s.run P w=.ok v w'):(do pure (Next.value (<- s)):Sem Next).run P w=.ok (.value v) w':=by simp[hs]
theorem VL.two {l:List TV}{a b:Value}(h:VL ρ l [a,b]){x y:TV}(e:l=[x,y]):VR ρ x a/\VR ρ y b:=by
 subst e;exact⟨h.2 0 x a rfl rfl,h.2 1 y b rfl rfl⟩
theorem VL.uno {l:List TV}{a:Value}(h:VL ρ l [a]){x:TV}(e:l=[x]):VR ρ x a:=by
 subst e;exact h.2 0 x a rfl rfl
theorem toV {k:WR P Z ρ h w}{op:BinOp}{t:TypeId}{x y:Operand}{x' y':Value}{b neg:Bool}(hc:zgt P t x y x' y' b w)(hop:op=if neg=true then .neq else .eql) :
  (do eqGuard op t x y x' y';binOp op t x' y':Sem Value).run P w=.ok (.bool (neg ^^ b)) w:=by
 subst hop;obtain⟨h1,h2,h3⟩:=hc
 cases neg
 ·simp[h1,h2]
 ·simp[h1,h3]
theorem zxc {t:TypeId}(hu:P.underlying t=some .bool){neg:Bool}{x y v:TV}{x' y':Value}(hx:VR ρ x x')(hy:VR ρ y y')(hv:znb neg x y=some v)(X Y:Operand)(w:World) :
  ∃v',(do eqGuard (if neg=true then .neq else .eql) t X Y x' y';binOp (if neg=true then .neq else .eql) t x' y':Sem Value).run P w=.ok v' w/\VR ρ v v':=by
 unfold znb at hv
 split at hv
 ·rename_i a
  split at hv
  ·rename_i c;injection hv with hv;subst hv
   cases hx with
   | bool _=>cases hy with
    | bool _ =>
     have he:=run_equalIn_bool' (P:=P) w 9999 t a c hu;have hbc:∀a c:Bool,(a==c)=(bif a then c else not c):=by decide
     have hbd:∀a c:Bool,(!(a==c))=(bif a then not c else c):=by decide
     cases neg
     ·refine⟨.bool (a==c),?_,by rw[hbc];exact .bool _⟩;have:binOp .eql t (.bool a) (.bool c)=(do pure (.bool (<- Op.equal t (.bool a) (.bool c)))):=rfl;simp[this,zhk,he,eqGuard]
     ·refine⟨.bool (!(a==c)),?_,by rw[hbd];exact .bool _⟩;have:binOp .neq t (.bool a) (.bool c)=(do pure (.bool (!(<- Op.equal t (.bool a) (.bool c))))):=rfl;simp[this,zhk,he,eqGuard]
  ·cases hv
 ·cases hv
theorem zx2 {op:UnOp}{x v:TV}{x':Value}(hx:VR ρ x x')(hv:pUn op x=some v)(w:World):∃v',(Op.unary op x').run P w=.ok v' w/\VR ρ v v':=by
 unfold pUn at hv
 split at hv
 ·unfold zvH at hv
  split at hv
  ·injection hv with hv;subst hv;cases hx
   exact⟨_,by simp[Op.unary],.bool _⟩
  ·cases hv
 ·unfold zvx at hv
  split at hv
  ·injection hv with hv;subst hv;cases hx
   exact⟨_,by simp[Op.unary,Op.intArith],.int _ _⟩
  ·cases hv
 ·cases hv
theorem zxn (k:WR P Z ρ h w){t:TypeId}{d:TypeDesc}(hu:P.underlying t=some d){f:Nat}(hd:(f=1/\∃e,d=.slice e)\/(f=2/\∃a b,d=.map a b)\/(f=3/\d=.string)){x v:TV}{x':Value}(hx:VR ρ x x')(hv:zmY f h x=some v)(ty:TypeId) :
  ∃v',(Builtin.len_ #[t] ty #[x']).run P w=.ok v' w/\VR ρ v v':=by
 rcases hd with⟨rfl,e,rfl⟩|⟨rfl,a,b,rfl⟩|⟨rfl,rfl⟩
 ·simp only[zmY]at hv
  cases x<;>simp[zwr]at hv
  ·subst hv;cases hx
   exact⟨_,by simp[Builtin.len_,run_underlying hu,goInt],.int _ _⟩
  ·subst hv;cases hx
   exact⟨_,by simp[Builtin.len_,run_underlying hu,goInt],.int _ _⟩
 ·simp only[zmY]at hv;unfold zs2 at hv
  split at hv
  ·injection hv with hv;subst hv;cases hx
   exact⟨_,by simp[Builtin.len_,run_underlying hu,goInt],.int _ _⟩
  ·split at hv
   ·rename_i o ho;unfold zx3 at hv
    split at hv
    ·rename_i es ck;injection hv with hv;subst hv
     cases hx with
     | map hρ =>
      obtain⟨es',he,her⟩:=zjz k hρ ho;have:es.length=es'.size:=by have:=her.1;simpa using this
      refine⟨.int .i64 (es'.size:Nat),by simp[Builtin.len_,run_underlying hu,zds he,goInt],?_⟩;rw[this];exact .int _ _
    ·cases hv
   ·cases hv
  ·cases hv
 ·simp only[zmY]at hv;unfold zsZ at hv
  split at hv
  ·injection hv with hv;subst hv
   cases hx with
   | str s=>exact⟨_,by simp[Builtin.len_,run_underlying hu,goInt];rfl,by simpa using VR.int (ρ:=ρ) .i64 (s.size:Nat)⟩
  ·cases hv
theorem zrD {mx:Bool}{x y v:TV}{x' y':Value}(hx:VR ρ x x')(hy:VR ρ y y')(hv:zhO mx x y=some v)(ts:Array TypeId)(ty:TypeId)(w:World) :
  ∃v',(if mx=true then Builtin.max_ ts ty #[x',y']else Builtin.min_ ts ty #[x',y']).run P w=.ok v' w/\VR ρ v v':=by
 unfold zhO at hv
 split at hv
 ·split at hv
  ·rename_i k a _ k' b;obtain⟨hk,hv1⟩:=zI hv;have hkk:=zgR hk;subst hkk;injection hv1 with hv1;subst hv1
   cases hx;cases hy
   cases mx
   ·refine⟨.int k (if b<a then b else a),by simp[Builtin.min_,Builtin.min2],?_⟩;have:(if b<a then b else a)=(bif ile a b then a else b):=by
     rw[zd7];by_cases h:a<=b
     ·rw[if_neg (by omega)];simp[h]
     ·rw[if_pos (by omega)];simp[h]
    rw[this];exact .int _ _
   ·refine⟨.int k (if b>a then b else a),by simp[Builtin.max_,Builtin.max2],?_⟩;have:(if b>a then b else a)=(bif ile b a then a else b):=by
     rw[zd7];by_cases h:b<=a
     ·rw[if_neg (by omega)];simp[h]
     ·rw[if_pos (by omega)];simp[h]
    rw[this];exact .int _ _
  ·cases hv
 ·cases hv
theorem zuX {vs:List TV}{c a b:Value}(h:VL ρ vs [c,a,b]){v:TV}(hv:zss vs=some v)(w:World):∃v',(do pure (if <- asBool c then a else b):Sem Value).run P w=.ok v' w/\VR ρ v v':=by
 unfold zss at hv
 split at hv
 ·injection hv with hv;subst hv;rename_i c0 a0 b0;have h0:=h.2 0 _ _ rfl rfl;have h1:=h.2 1 _ _ rfl rfl;have h2:=h.2 2 _ _ rfl rfl
  cases h0
  cases c0
  ·exact⟨b,by simp[asBool],h2⟩
  ·exact⟨a,by simp[asBool],h1⟩
 ·cases hv
theorem zcJ (f:Operand->Value)(b:Builtin)(args:Array Operand)(ts:Array TypeId)(ty:TypeId)(w:World):(do let d <- resolve f { callee:=.builtin b,args:=args,argTypes:=ts } ty;invoke d.target d.args:Sem Next).run P w=(builtin b ts ty (args.map fun | .const _=>true|_=>false) (args.map f)).run P w:=by
 simp only[resolve,invoke,Sem.run_bind,Sem.run_pure,Result.andThen_ok];rfl
def zhp (P:Program)(ρ:Rho)(w:World)(s:Sem Next)(v:TV):Prop:=∃v',s.run P w=.ok (.value v') w/\VR ρ v v'
theorem zhp.of {s:Sem Value}{v:TV}(hs:∃v',s.run P w=.ok v' w/\VR ρ v v'):zhp P ρ w (do pure (.value (<- s))) v :=
 let ⟨v',h1,h2⟩:=hs;⟨v',zeN h1,h2⟩
set_option maxHeartbeats 4000000 in
theorem zmd (k:WR P Z ρ h w){o:Oper}{kd:zT}{args:List TOp}(ho:opK P o.op=some (kd,args))(hc:kd.cls=0){a:Act}{tm:Tr TV}(ht:TmR ρ tm a.tmps){vs:List TV}(hv:zdw tm args=some vs){v:TV}(hp:pas kd vs h=some v) :
  zhp P ρ w (execOp a.eval o) v:=by
 have key:∀{k0:zT} {xs:List Operand},mk k0 xs=some (kd,args)->kd=k0/\VL ρ vs (xs.map a.eval):=fun hm=>by
  obtain⟨h1,h2⟩:=ziI hm;exact⟨h1,zer ht h2 hv⟩
 obtain⟨dst,op,ty,pos,after,guard⟩:=o
 cases op with
 | move x =>
  obtain⟨rfl,hl⟩:=key ho;obtain⟨y,rfl,hp⟩:=zcI hp;injection hp with hp;subst hp;exact⟨a.eval x,by simp[execOp],hl.uno rfl⟩
 | assign x =>
  obtain⟨rfl,hl⟩:=key ho;obtain⟨y,rfl,hp⟩:=zcI hp;injection hp with hp;subst hp;exact⟨a.eval x,by simp[execOp],hl.uno rfl⟩
 | pick c x y =>
  obtain⟨rfl,hl⟩:=key ho;obtain⟨v',h1,h2⟩:=zuX (P:=P) hl hp w;exact⟨v',by simpa[execOp]using zeN h1,h2⟩
 | alloc e=>simp only[opK]at ho;split at ho<;>first|(cases ho;done)|skip;split at ho<;>first|(cases ho;done)|skip;obtain⟨rfl,_⟩:=key ho;cases hc
 | box e x=>simp only[opK]at ho;split at ho<;>first|(cases ho;done)|skip;obtain⟨rfl,_⟩:=key ho;cases hc
 | build t parts =>
  simp only[opK]at ho
  split at ho
  ·rename_i hu hz hps;obtain⟨rfl,hl⟩:=key ho;exact .of (ztW hz hps hl hp w)
  ·cases ho
 | buildSlice t len parts =>
  simp only[opK]at ho
  split at ho<;>first|(cases ho;done)|skip
  split at ho<;>first|(cases ho;done)|skip
  split at ho<;>first|(cases ho;done)|skip
  obtain⟨rfl,_⟩:=key ho;cases hc
 | insert t m x y =>
  simp only[opK]at ho
  split at ho<;>first|(cases ho;done)|skip
  split at ho<;>first|(cases ho;done)|skip
  all_goals (obtain⟨rfl,_⟩:=key ho;cases hc)
 | load t x =>
  simp only[opK]at ho
  split at ho<;>first|(cases ho;done)|skip
  rename_i hg hn;obtain⟨rfl,hl⟩:=key ho;obtain⟨y,rfl,hp⟩:=zcI hp;exact .of (zoX k hg hn (hl.uno rfl) hp)
 | store t x y=>simp only[opK]at ho;split at ho<;>first|(cases ho;done)|skip;obtain⟨rfl,_⟩:=key ho;cases hc
 | ready g=>cases ho
 | waits g=>cases ho
 | nilCheck x =>
  obtain⟨rfl,hl⟩:=key ho;obtain⟨y,rfl,hp⟩:=zcI hp;have hx:=hl.uno rfl;change zmS y=some v at hp;unfold zmS at hp
  split at hp
  ·injection hp with hp;subst hp;generalize hax:a.eval x=x' at hx
   cases hx with
   | ptr hρ hb=>exact⟨_,by simp[execOp,hax],.ptr hρ hb⟩
  ·injection hp with hp;subst hp;generalize hax:a.eval x=x' at hx
   cases hx with
   | fn hl h=>exact⟨_,by simp[execOp,hax],.fn hl h⟩
  ·cases hp
 | binOp op t x y yt =>
  simp only[opK]at ho;have hnil:∀(neg:Bool) (f:Nat),(∀{x' y':Value} {u v:TV},VR ρ u x'->VR ρ v y'->∀{b:Bool},zhq f u v=some b->zgt P t x y x' y' b w)->op=(if neg=true then .neq else .eql)->kd=.eqnil neg f->VL ρ vs [a.eval x,a.eval y] ->
    zhp P ρ w (execOp a.eval ⟨dst,.binOp op t x y yt,ty,pos,after,guard⟩) v:=fun neg f hcmp hop hkd hl=>by
   subst hkd;obtain⟨u,v0,rfl,hp⟩:=zcY hp;obtain⟨hu,hv0⟩:=hl.two rfl;obtain⟨b,hb,rfl⟩:=zpK hp;exact .of ⟨_,toV (k:=k) (hcmp hu hv0 hb) hop,.bool _⟩
  have hbin:∀op',op=op'->kd=.bin op'->VL ρ vs [a.eval x,a.eval y]->zhp P ρ w (execOp a.eval ⟨dst,.binOp op t x y yt,ty,pos,after,guard⟩) v:=fun op' hop hkd hl=>by
   subst hkd;subst hop;obtain⟨u,v0,rfl,hp⟩:=zcY hp;obtain⟨hu,hv0⟩:=hl.two rfl;exact .of (zwW hu hv0 hp w)
  have hagg:∀(neg:Bool) ks,zj3 P t=some ks->op=(if neg=true then .neq else .eql)->kd=.eqagg neg ks->VL ρ vs [a.eval x,a.eval y]->zhp P ρ w (execOp a.eval ⟨dst,.binOp op t x y yt,ty,pos,after,guard⟩) v:=fun neg ks hf hop hkd hl=>by
   subst hkd;subst hop;obtain⟨u,v0,rfl,hp⟩:=zcY hp;obtain⟨hu,hv0⟩:=hl.two rfl;exact .of (zuB hf hu hv0 hp x y w)
  have hB:∀(neg:Bool),P.underlying t=some .bool->op=(if neg=true then .neq else .eql)->kd=.eqB neg->VL ρ vs [a.eval x,a.eval y]->zhp P ρ w (execOp a.eval ⟨dst,.binOp op t x y yt,ty,pos,after,guard⟩) v:=fun neg hu0 hop hkd hl=>by
   subst hkd;subst hop;obtain⟨u,v0,rfl,hp⟩:=zcY hp;obtain⟨hu,hv0⟩:=hl.two rfl;exact .of (zxc hu0 hu hv0 hp x y w)
  clear hp
  split at ho
  ·obtain⟨h1,h2⟩:=key ho;exact hbin _ rfl h1 h2
  ·obtain⟨h1,h2⟩:=key ho;exact hbin _ rfl h1 h2
  ·obtain⟨h1,h2⟩:=key ho;exact hbin _ rfl h1 h2
  ·obtain⟨h1,h2⟩:=key ho;exact hbin _ rfl h1 h2
  ·rename_i hu;obtain⟨h1,h2⟩:=key ho;exact hB false hu rfl h1 h2
  ·rename_i hu;obtain⟨h1,h2⟩:=key ho;exact hB true hu rfl h1 h2
  ·split at ho
   ·rename_i hf;obtain⟨h1,h2⟩:=key ho;exact hagg false _ hf rfl h1 h2
   ·cases ho
  ·split at ho
   ·rename_i hf;obtain⟨h1,h2⟩:=key ho;exact hagg true _ hf rfl h1 h2
   ·cases ho
  ·rename_i hu;obtain⟨h1,h2⟩:=key ho;exact hnil false 1 (fun hx hy _ hb=>znZ hu hx hy hb) rfl h1 h2
  ·rename_i hu;obtain⟨h1,h2⟩:=key ho;exact hnil false 2 (fun hx hy _ hb=>znP hu hx hy hb) rfl h1 h2
  ·rename_i hu;obtain⟨h1,h2⟩:=key ho;exact hnil false 3 (fun hx hy _ hb=>zn7 hu hx hy hb) rfl h1 h2
  ·rename_i hu;obtain⟨h1,h2⟩:=key ho;exact hnil false 4 (fun hx hy _ hb=>zot hu hx hy hb) rfl h1 h2
  ·rename_i hu
   split at ho
   ·rename_i hXY;obtain⟨h1,h2⟩:=key ho;exact hnil false 5 (fun hx hy _ hb=>zok hu hXY hx hy hb) rfl h1 h2
   ·cases ho
  ·rename_i hu;obtain⟨h1,h2⟩:=key ho;exact hnil true 1 (fun hx hy _ hb=>znZ hu hx hy hb) rfl h1 h2
  ·rename_i hu;obtain⟨h1,h2⟩:=key ho;exact hnil true 2 (fun hx hy _ hb=>znP hu hx hy hb) rfl h1 h2
  ·rename_i hu;obtain⟨h1,h2⟩:=key ho;exact hnil true 3 (fun hx hy _ hb=>zn7 hu hx hy hb) rfl h1 h2
  ·rename_i hu;obtain⟨h1,h2⟩:=key ho;exact hnil true 4 (fun hx hy _ hb=>zot hu hx hy hb) rfl h1 h2
  ·rename_i hu
   split at ho
   ·rename_i hXY;obtain⟨h1,h2⟩:=key ho;exact hnil true 5 (fun hx hy _ hb=>zok hu hXY hx hy hb) rfl h1 h2
   ·cases ho
  ·cases ho
  ·cases ho
  ·obtain⟨h1,h2⟩:=key ho;exact hbin _ rfl h1 h2
 | unOp op t x =>
  obtain⟨rfl,hl⟩:=key ho;obtain⟨y,rfl,hp⟩:=zcI hp;exact .of (zx2 (hl.uno rfl) hp w)
 | convert src dst' x =>
  simp only[opK]at ho
  split at ho
  ·rename_i hs hd;obtain⟨rfl,hl⟩:=key ho;obtain⟨y,rfl,hp⟩:=zcI hp;have hx:=hl.uno rfl;change zkb _ y=some v at hp;unfold zkb at hp
   split at hp
   ·injection hp with hp;subst hp;generalize hax:a.eval x=x' at hx
    cases hx
    refine .of (s:=convert src dst' (a.eval x)) ⟨_,?_,.int _ _⟩;rw[hax];simp[convert,run_underlying hs,run_underlying hd,Conv.intToInt]
   ·cases hp
  ·rename_i hs hd;obtain⟨rfl,hl⟩:=key ho;obtain⟨y,rfl,hp⟩:=zcI hp;have hx:=hl.uno rfl;change zr8 y=some v at hp;unfold zr8 at hp
   split at hp
   ·injection hp with hp;subst hp;generalize hax:a.eval x=x' at hx
    cases hx with
    | str s =>
     refine .of (s:=convert src dst' (a.eval x)) ⟨_,?_,.str s⟩;rw[hax];simp[convert,run_underlying hs,run_underlying hd]
   ·cases hp
  ·cases ho
 | sliceToArrayPointer t x=>cases ho
 | makeInterface t x =>
  simp only[opK]at ho
  split at ho
  ·cases ho
  ·cases ho
  ·rename_i d hu hni;obtain⟨rfl,hl⟩:=key ho;obtain⟨y,rfl,hp⟩:=zcI hp;injection hp with hp;subst hp;refine .of (s:=Instr.makeInterface t (a.eval x)) ⟨_,?_,.iface (hl.uno rfl)⟩
   cases hd:P.underlying t with
   | none=>exact absurd hd hni
   | some d=>cases d<;>first|(exact absurd hd (hu _))|simp[Instr.makeInterface,run_underlying hd]
 | makeFunc fn first captured =>
  cases fn<;>simp only[opK]at ho<;>first|(cases ho;done)|skip
  split at ho
  ·rename_i f hf;obtain⟨rfl,hl⟩:=key ho;simp[pas]at hp;subst hp;have h0:first=#[]:=Array.eq_empty_of_size_eq_zero hf;subst h0;refine .of (s:=Instr.makeFunc (.func f) ((#[]:Array Operand).map a.eval) (captured.map a.eval)) ⟨_,?_,VR.fnL hl⟩;simp[Instr.makeFunc];obtain⟨c⟩:=captured;simp
  ·cases ho
 | makeMap t r =>
  simp only[opK]at ho
  split at ho<;>first|(cases ho;done)|skip
  all_goals (obtain⟨rfl,_⟩:=key ho;cases hc)
 | makeChan t s=>cases ho
 | makeSlice t l c =>
  simp only[opK]at ho
  split at ho<;>first|(cases ho;done)|skip
  split at ho<;>first|(cases ho;done)|skip
  split at ho<;>first|(cases ho;done)|skip
  obtain⟨rfl,_⟩:=key ho;cases hc
 | slice t x lo hi mx =>
  simp only[opK]at ho
  split at ho
  ·rename_i hu
   split at ho
   ·rename_i hz;obtain⟨rfl,hl⟩:=key ho;have h1:=zuk hu hz (lo:=lo.map a.eval) (hi:=hi.map a.eval) (mx:=mx.map a.eval) (x':=a.eval x) (vs:=vs) (by cases lo<;>cases hi<;>cases mx<;>simpa using hl) (v:=v) (by have hp2:zgZ _ _ _ _ vs=some v:=hp;simpa using hp2) w;exact .of h1
   ·cases ho
  ·rename_i hu
   split at ho
   ·cases ho
   ·rename_i hmx;have:mx=none:=by cases mx<;>simp at hmx;rfl
    subst this;obtain⟨rfl,hl⟩:=key ho;have h1:=ztQ hu (lo:=lo.map a.eval) (hi:=hi.map a.eval) (x':=a.eval x) (vs:=vs) (by cases lo<;>cases hi<;>simpa using hl) (v:=v) (by have hp2:zjf _ _ vs=some v:=hp;simpa using hp2) w;exact .of h1
  ·rename_i len e hu
   split at ho
   ·cases ho
   ·rename_i hmx;have:mx=none:=by cases mx<;>simp at hmx;rfl
    subst this
    split at ho
    ·rename_i hz
     split at ho
     ·rename_i hlen;obtain⟨rfl,hl⟩:=key ho;have h1:=ztm hu hz hlen (lo:=lo.map a.eval) (hi:=hi.map a.eval) (x':=a.eval x) (vs:=vs) (by cases lo<;>cases hi<;>simpa using hl) (v:=v) (by have hp2:zmk _ _ _ _ vs=some v:=hp;simpa using hp2) w;exact .of h1
     ·cases ho
    ·cases ho
  ·cases ho
 | fieldAddr t x f =>
  simp only[opK]at ho
  split at ho
  ·rename_i hf;obtain⟨rfl,hl⟩:=key ho;obtain⟨y,rfl,hp⟩:=zcI hp;exact .of (zuc hf (hl.uno rfl) hp w)
  ·cases ho
 | field t x f =>
  simp only[opK]at ho
  split at ho
  ·rename_i hf;obtain⟨rfl,hl⟩:=key ho;obtain⟨y,rfl,hp⟩:=zcI hp;exact .of (zwY hf (hl.uno rfl) hp w)
  ·cases ho
 | indexAddr t x i =>
  simp only[opK]at ho
  split at ho
  ·rename_i hu
   split at ho
   ·rename_i hz;obtain⟨rfl,hl⟩:=key ho;obtain⟨y,j,rfl,hp⟩:=zcY hp;obtain⟨h1,h2⟩:=hl.two rfl;exact .of (zuQ hu hz h1 h2 hp w)
   ·cases ho
  ·rename_i hu
   split at ho
   ·rename_i hz;obtain⟨rfl,hl⟩:=key ho;obtain⟨y,j,rfl,hp⟩:=zcY hp;obtain⟨h1,h2⟩:=hl.two rfl;exact .of (zsW hu hz h1 h2 hp w)
   ·cases ho
  ·cases ho
 | index t x i =>
  simp only[opK]at ho
  split at ho
  ·rename_i hu;obtain⟨rfl,hl⟩:=key ho;obtain⟨y,j,rfl,hp⟩:=zcY hp;obtain⟨h1,h2⟩:=hl.two rfl;exact .of (zs1 hu h1 h2 hp w)
  ·rename_i hu
   split at ho
   ·rename_i hg hz;obtain⟨rfl,hl⟩:=key ho;obtain⟨y,j,rfl,hp⟩:=zcY hp;obtain⟨h1,h2⟩:=hl.two rfl;exact .of (zsc hu hg hz h1 h2 hp w)
   ·cases ho
  ·cases ho
 | lookup t m x ok =>
  simp only[opK]at ho
  split at ho
  ·rename_i hu
   split at ho
   ·rename_i hd hz;obtain⟨rfl,hl⟩:=key ho;obtain⟨y,j,rfl,hp⟩:=zcY hp;obtain⟨h1,h2⟩:=hl.two rfl;exact .of (zo8 k hu hd (.inl ⟨rfl,_,rfl⟩) hz h1 h2 hp)
   ·rename_i hd hz;obtain⟨rfl,hl⟩:=key ho;obtain⟨y,j,rfl,hp⟩:=zcY hp;obtain⟨h1,h2⟩:=hl.two rfl;exact .of (zo8 k hu hd (.inr ⟨rfl,rfl⟩) hz h1 h2 hp)
   ·cases ho
  ·cases ho
 | mapUpdate t m x y =>
  simp only[opK]at ho
  split at ho<;>first|(cases ho;done)|skip
  split at ho<;>first|(cases ho;done)|skip
  all_goals (obtain⟨rfl,_⟩:=key ho;cases hc)
 | mapEntry t m x =>
  simp only[opK]at ho
  split at ho<;>first|(cases ho;done)|skip
  split at ho<;>first|(cases ho;done)|skip
  all_goals (obtain⟨rfl,_⟩:=key ho;cases hc)
 | entryStore t m s x=>obtain⟨rfl,_⟩:=key ho;cases hc
 | range t x=>cases ho
 | next i b=>cases ho
 | entry i=>cases ho
 | typeAssert x xt t ok =>
  simp only[opK]at ho
  split at ho
  ·cases ho
  ·cases ho
  ·cases ho
  ·rename_i z hz hni hnn;obtain⟨rfl,hl⟩:=key ho;obtain⟨y,rfl,hp⟩:=zcI hp
   cases hd:P.underlying t with
   | none=>exact absurd hd hnn
   | some d=>exact .of (zrb hd (fun ms e=>by subst e;exact hni _ hd) hz (hl.uno rfl) hp w)
 | extract x i =>
  obtain⟨rfl,hl⟩:=key ho;obtain⟨y,rfl,hp⟩:=zcI hp;have hx:=hl.uno rfl;change zoL i y=some v at hp;unfold zoL at hp
  split at hp
  ·generalize hax:a.eval x=x' at hx
   cases hx with
   | tuple hl0 hr =>
    rename_i cs;rw[zhe]at hp;obtain⟨u,hu,hur⟩:=VL.at (ρ:=ρ) (l:=_) (cs:=cs) ⟨hl0,hr⟩ hp;refine .of (s:=Instr.extract (a.eval x) i) ⟨u,?_,hur⟩;rw[hax];simp[Instr.extract,hu]
  ·cases hp
 | call c =>
  obtain⟨callee,cargs,ts⟩:=c
  cases callee with
  | value f=>obtain⟨rfl,_⟩:=key ho;cases hc
  | invoke r m=>cases ho
  | builtin b =>
   simp only[opK]at ho
   split at ho
   ·split at ho<;>first|(cases ho;done)|skip
    split at ho<;>first|(cases ho;done)|skip
    split at ho<;>first|(cases ho;done)|skip
    split at ho<;>first|(cases ho;done)|skip
    obtain⟨rfl,_⟩:=key ho;cases hc
   ·split at ho<;>first|(cases ho;done)|skip
    split at ho<;>first|(cases ho;done)|skip
    obtain⟨rfl,_⟩:=key ho;cases hc
   ·rename_i t hts;have hlen:∀(f:Nat) {d:TypeDesc},P.underlying t=some d->((f=1/\∃e,d=.slice e)\/(f=2/\∃a b,d=.map a b)\/(f=3/\d=.string))->kd=.len f->VL ρ vs (cargs.toList.map a.eval)->zhp P ρ w (execOp a.eval ⟨dst,.call { callee:=.builtin .len,args:=cargs,argTypes:=ts },ty,pos,after,guard⟩) v:=fun f d hu hd hkd hl=>by
     subst hkd;obtain⟨y,rfl,hp⟩:=zcI hp;obtain⟨xs⟩:=cargs;obtain⟨ts⟩:=ts;simp at hts;subst hts
     cases xs with
     | nil=>have:=hl.1;simp at this
     | cons x r=>cases r with
      | cons _ _=>have:=hl.1;simp at this
      | nil =>
       obtain⟨v',h1,h2⟩:=zxn k hu hd (hl.uno rfl) hp ty;refine⟨v',?_,h2⟩;simp only[execOp,zcJ];simpa[builtin]using zeN h1
    split at ho
    ·rename_i hu;obtain⟨h1,h2⟩:=key ho;exact hlen 1 hu (.inl ⟨rfl,_,rfl⟩) h1 h2
    ·rename_i hu;obtain⟨h1,h2⟩:=key ho;exact hlen 2 hu (.inr (.inl ⟨rfl,_,_,rfl⟩)) h1 h2
    ·rename_i hu;obtain⟨h1,h2⟩:=key ho;exact hlen 3 hu (.inr (.inr ⟨rfl,rfl⟩)) h1 h2
    ·cases ho
   ·split at ho
    ·rename_i hsz;obtain⟨rfl,hl⟩:=key ho;obtain⟨y,j,rfl,hp⟩:=zcY hp;obtain⟨xs⟩:=cargs
     match xs,hsz with
     | [x0,x1],_ =>
      obtain⟨h1,h2⟩:=hl.two rfl;obtain⟨v',h3,h4⟩:=zrD (P:=P) (mx:=true) h1 h2 hp ts ty w;refine⟨v',?_,h4⟩;simp only[execOp,zcJ];simpa[builtin]using zeN h3
    ·cases ho
   ·split at ho
    ·rename_i hsz;obtain⟨rfl,hl⟩:=key ho;obtain⟨y,j,rfl,hp⟩:=zcY hp;obtain⟨xs⟩:=cargs
     match xs,hsz with
     | [x0,x1],_ =>
      obtain⟨h1,h2⟩:=hl.two rfl;obtain⟨v',h3,h4⟩:=zrD (P:=P) (mx:=false) h1 h2 hp ts ty w;refine⟨v',?_,h4⟩;simp only[execOp,zcJ];simpa[builtin]using zeN h3
    ·cases ho
   ·split at ho
    ·obtain⟨rfl,_⟩:=key ho;cases hc
    ·cases ho
   ·cases ho
 | go c=>cases ho
 | defer c =>
  obtain⟨callee,cargs,ts⟩:=c
  cases callee<;>first|(cases ho;done)|(obtain⟨rfl,_⟩:=key ho;cases hc)
 | panic x=>obtain⟨rfl,_⟩:=key ho;cases hc
 | send c x=>cases ho
 | recv t c b=>cases ho
 | select cs b=>cases ho
theorem zg9 (k:WR P Z ρ h w){b:Nat}(hn:∀g,ρ b g=none)(hb:b<h.next)(hZ:Z<=w.heap.size){e:Nat}{l:List TV}(hx:h.get b=some (zb8 e l)){cs:Array Value}(hl:l.length<=cs.size)
  (hr:∀(i:Nat) x y,l[i]?=some x->cs[i]?=some y->VR ρ x y) (h1:∀x∈l,x.one=true):WR P Z (ρ.add b 0 ⟨w.heap.size,l.length,cs.size⟩) h (w.alloc (.cells cs e)):=by
 have hm:=Rho.add_more (loc:=⟨w.heap.size,l.length,cs.size⟩) (hn 0);refine k.real hn hb hZ hx ⟨zAM9 _,fun g loc hg=>?_,fun g hg1 hg2=>?_⟩
 ·rcases Rho.add_inv hg with⟨_,rfl,_⟩|hg
  ·exact zAM9 _
  ·rw[hn]at hg;cases hg
 ·obtain rfl:g=0:=by omega
  refine⟨_,cs,Rho.add_same _ _ _ _,World.alloc_heap_new w _,fun _=>rfl,zAM9 _,hl,fun _=>rfl,fun i hi=>?_⟩;dsimp only at hi;have hi':i<cs.size:=by omega
  refine⟨l[i],cs[i],?_,zCL9 hi',h1 _ (zBP9 hi),(hr i _ _ (zAB9 hi) (zCL9 hi')).mono hm⟩;rw[Tr.get_putL,if_pos (by omega),zFR9,zAB9 hi]
theorem zg0 {α:Type}(l:List α):∀n,(zdI l n).length=n*l.length
 | 0=>by simp[zdI]
 | n+1=>by rw[zdI,zAC9,zg0 l n,zDA9,zDL9]
theorem zpZ {α:Type}(l:List α):∀(n i:Nat),i<n*l.length->(zdI l n)[i]?=l[i%l.length]?
 | 0,i,h=>by simp at h
 | n+1,i,h=>by
  rw[zdI,zDS9]
  split
  ·rename_i hi;rw[zEA9 hi]
  ·rename_i hi;rw[zDA9]at h;rw[zpZ l n (i-l.length) (by omega)]
   congr 1
   rw[Nat.mod_eq_sub_mod (show i ≥ l.length by omega)]
theorem zk0 {α:Type}{l:List α}:∀{n:Nat} {x:α},x∈zdI l n->x∈l
 | 0,x,h=>by simp[zdI]at h
 | n+1,x,h=>by
  rw[zdI,zBF9]at h;exact h.elim id zk0
theorem zqe {z:TV}{zv:Value}(hz:VR ρ z zv)(hc:z.cells ≠ [])(n m:Nat)(hnm:n<=m):∀(i:Nat) x y,(zdI z.cells n)[i]?=some x->(((Array.range (m*zv.cells.size)).map (fun j=>zv.cells[j%zv.cells.size]!)))[i]?=some y->VR ρ x y:=fun i x y hx hy=>by
 obtain⟨⟨hl,hr⟩,_⟩:=hz.cells (.inl hc);have hi:i<n*z.cells.length:=by rw[<- zg0];exact(zAD9.1 hx).1
 rw[zpZ _ _ _ hi]at hx;have hsz:zv.cells.size=z.cells.length:=by simpa using hl.symm
 have hpos:0<z.cells.length:=zBO9.2 hc;simp only[Array.getElem?_map]at hy;rw[Array.getElem?_range]at hy
 split at hy
 ·simp at hy;refine hr (i%z.cells.length) x y hx ?_;rw[<- hy,hsz];have hlt:i%z.cells.length<zv.cells.size:=by rw[hsz];exact Nat.mod_lt _ hpos
  rw[zBR9,getElem!_pos zv.cells _ hlt,zCL9 hlt]
 ·cases hy
def zhl (P:Program)(Z:Nat)(ρ:Rho)(h:TH)(w:World)(b:Nat)(s:Sem Next)(v:TV):Prop :=
 ∃v' o L S,s.run P w=.ok (.value v') (w.alloc o)/\WR P Z (ρ.add b 0 ⟨w.heap.size,L,S⟩) h (w.alloc o)/\VR (ρ.add b 0 ⟨w.heap.size,L,S⟩) v v'
theorem zhl.of {b:Nat}{s:Sem Value}{v:TV}{v':Value}{o:Obj}(L S:Nat)(hs:s.run P w=.ok v' (w.alloc o))(hw:WR P Z (ρ.add b 0 ⟨w.heap.size,L,S⟩) h (w.alloc o))(hv:VR (ρ.add b 0 ⟨w.heap.size,L,S⟩) v v'):zhl P Z ρ h w b (do pure (.value (<- s))) v :=
 ⟨v',o,L,S,zeN hs,hw,hv⟩
theorem zeC (e:TypeId)(cs:Array Value):(newRow e cs).run P w=.ok ⟨w.heap.size,0,none⟩ (w.alloc (.cells cs e)):=by
 simp[newRow,run_newObj_alloc]
theorem zxj (k:WR P Z ρ h w){b:Nat}(hn:∀g,ρ b g=none)(hb:b<h.next)(hZ:Z<=w.heap.size){e:TypeId}{n:Nat}(hs:zbS P e=some n){vs:List TV}{x':Value}(hv:VL ρ vs [x']){x:zde}(hl:zmQ e n b vs=some x)(hx:h.get b=some x.o) :
  zhl P Z ρ h w b (do pure (.value (<- Instr.box e x'))) x.v:=by
 unfold zmQ at hl
 split at hl
 ·rename_i v;obtain⟨h0,hl⟩:=zI hl;injection hl with hl;subst hl;have hlen:=zAJ9 h0;have hv0:=hv.uno rfl;have hn0:=(zdQ hs).1;obtain⟨hc,h1⟩:=hv0.cells (.inl (by intro e;rw[e]at hlen;simp at hlen;omega));have hsz:x'.cells.size=n:=by have:=hc.1;rw[hlen]at this;simpa using this.symm
  refine .of v.cells.length x'.cells.size (v':=.pointer (some ⟨w.heap.size,0,none⟩)) (o:=.cells x'.cells e) (by simp[Instr.box,newVar,zeC]) (zg9 k hn hb hZ hx (by omega) (fun i x y hx hy=>hc.2 i x y hx (by simpa using hy)) h1) ?_;exact .ptr (loc:=⟨w.heap.size,v.cells.length,x'.cells.size⟩) (Rho.add_same _ _ _ _) (by simp[hlen])
 ·cases hl
theorem zui (k:WR P Z ρ h w){b:Nat}(hn:∀g,ρ b g=none)(hb:b<h.next)(hZ:Z<=w.heap.size){e:TypeId}{n:Nat}(hs:zbS P e=some n){z:TV}(hz:zc4 P e=some z)(hzl:z.cells.length=n){vs:List TV}{x:zde}(hl:zje e z.cells b vs=some x)(hx:h.get b=some x.o) :
  zhl P Z ρ h w b (do pure (.value (<- Instr.alloc e true (.tuple #[])))) x.v:=by
 unfold zje at hl
 split at hl
 ·injection hl with hl;subst hl;obtain⟨zv,hzv,hzr⟩:=ze6 (ρ:=ρ) hz w;have hn0:=(zdQ hs).1;obtain⟨hc,h1⟩:=hzr.cells (.inl (by intro e;rw[e]at hzl;simp at hzl;omega));have hsz:zv.cells.size=n:=by have:=hc.1;rw[hzl]at this;simpa using this.symm
  refine .of z.cells.length zv.cells.size (v':=.pointer (some ⟨w.heap.size,0,none⟩)) (o:=.cells zv.cells e) (by simp[Instr.alloc,newVar,zeC,hzv]) (zg9 k hn hb hZ hx (by omega) (fun i x y hx hy=>hc.2 i x y hx (by simpa using hy)) h1) ?_;exact .ptr (loc:=⟨w.heap.size,z.cells.length,zv.cells.size⟩) (Rho.add_same _ _ _ _) (by simp)
 ·cases hl
theorem zsa (k:WR P Z ρ h w){b:Nat}(hn:∀g,ρ b g=none)(hb:b<h.next)(hZ:Z<=w.heap.size){t e:TypeId}{n len:Nat}(hu:P.underlying t=some (.slice e))(hs:zbS P e=some n){z:TV}(hz:zc4 P e=some z)(hzl:z.cells.length=n){ops:Array (Nat×Operand)}{a:Act}{vs:List TV}(hv:VL ρ vs ((ops.toList.map (·.2)).map a.eval)){x:zde}
  (hl:zgQ e n len z.cells (ops.toList.map fun p=>(p.1*n,n)) b vs=some x) (hx:h.get b=some x.o) :
  zhl P Z ρ h w b (do pure (.value (<- Instr.buildSlice t len (ops.map fun(i,x)=>(i,a.eval x))))) x.v:=by
 unfold zgQ at hl;obtain⟨h0,hl⟩:=zI hl;have hle:=zBA9 h0
 split at hl
 ·rename_i l hf;injection hl with hl;subst hl;obtain⟨zv,hzv,hzr⟩:=ze6 (ρ:=ρ) hz w;have hn0:=(zdQ hs).1;have hcn:z.cells ≠ []:=by intro e;rw[e]at hzl;simp at hzl;omega
  obtain⟨hc,h1⟩:=hzr.cells (.inl hcn);have hsz:zv.cells.size=n:=by have:=hc.1;rw[hzl]at this;simpa using this.symm
  obtain⟨ds,hd,hd1,hd2,hd3⟩:=zlh (place:=fun i=>some (i*n,n)) (parts:=(ops.map fun(i,x)=>(i,a.eval x)).toList) (places:=ops.toList.map fun p=>(p.1*n,n)) (vs:=vs) (cells:=zdI z.cells len) (cs:=(Array.range (len*n)).map (fun j=>zv.cells[j%zv.cells.size]!)) (by simp) (fun j p q hj hq=>by
    simp only[zFL9,zAG9]at hj hq
    cases ho:ops.toList[j]? with
    | none=>rw[ho]at hj;cases hj
    | some o=>rw[ho]at hj hq;simp at hj hq;subst hj;subst hq;rfl) (by simpa[Function.comp_def]using hv) ⟨by rw[zg0];simp[hzl],fun i x y hx hy=>by
     have:=zqe hzr hcn len len (zAM9 _) i x y hx;rw[hsz]at this;rw[hsz]at hy;rw[zBR9]at hy;exact this hy⟩ (fun x hx=>h1 x (zk0 hx)) (fun q hq=>by obtain⟨p,_,rfl⟩:=zAP9.1 hq;exact hn0) hf
  have hlen:l.length=len*n:=by rw[hd3,zg0,hzl]
  have hdsz:ds.size=len*n:=by have:=hd1.1;rw[hlen]at this;simpa using this.symm
  refine .of l.length ds.size (v':=.slice (some ⟨w.heap.size,0,none⟩) len len) (o:=.cells ds e) ?_ (zg9 k hn hb hZ hx (by omega) (fun i x y hx hy=>hd1.2 i x y hx (by simpa using hy)) hd2) ?_
  ·simp only[zFL9]at hd;have hgt:¬(16777216<len*n):=by omega
   by_cases h00:len*n=0
   ·have hz0:(Array.range (len*n)).map (fun j=>zv.cells[j%zv.cells.size]!)=(Array.range (len*n)).map (fun j=>(#[]:Array Value)[j%(#[]:Array Value).size]!):=by rw[h00];simp
    rw[hz0]at hd;simp[Instr.buildSlice,run_underlying hu,zbJ hs,h00]at hd⊢;simp[hd,zeC]
   ·simp[Instr.buildSlice,run_underlying hu,zbJ hs,hgt,h00,hzv,hd,zeC]
  ·refine .sl (loc:=⟨w.heap.size,l.length,ds.size⟩) (Rho.add_same _ _ _ _) (by omega) (by omega) ?_ (.inl rfl) (fun _=>?_) ?_
   ·have:2*len/2=len:=by omega
    simp only[this,hlen];omega
   ·simp[hdsz]
   ·have:len*1<=len*n:=Nat.mul_le_mul_left len (by omega);simp only[maxLen];omega
 ·cases hl
theorem zqX (k:WR P Z ρ h w){b:Nat}(hn:∀g,ρ b g=none)(hb:b<h.next)(hZ:Z<=w.heap.size){t e:TypeId}{n by_:Nat}(hu:P.underlying t=some (.slice e))(hs:zbS P e=some n)(hby:zh1 P e=some by_){z:TV}(hz:zc4 P e=some z)(hzl:z.cells.length=n){vs:List TV}{x' y':Value}(hv:VL ρ vs [x',y']){x:zde}
  (hl:zfZ e n by_ z.cells b vs=some x) (hx:h.get b=some x.o):zhl P Z ρ h w b (do pure (.value (<- Instr.makeSlice t x' y'))) x.v:=by
 unfold zfZ at hl
 split at hl
 ·rename_i u v
  split at hl
  ·rename_i m c hm hc0;obtain⟨h0,hl⟩:=zI hl;obtain⟨h1,hl⟩:=zI hl;obtain⟨h2,hl⟩:=zI hl;injection hl with hl;subst hl;have hmc:=zBA9 h0;have hc1:=zBA9 h1;have hc2:=zBA9 h2;obtain⟨ru,rv⟩:=hv.two rfl;obtain⟨k1,_,rfl⟩:=ze8 hm ru;obtain⟨k2,_,rfl⟩:=ze8 hc0 rv;obtain⟨zv,hzv,hzr⟩:=ze6 (ρ:=ρ) hz w;obtain⟨i,hi,hib⟩:=znW hby;have hn0:=(zdQ hs).1;have hcn:z.cells ≠ []:=by intro e;rw[e]at hzl;simp at hzl;omega
   obtain⟨hc,h1'⟩:=hzr.cells (.inl hcn);have hsz:zv.cells.size=n:=by have:=hc.1;rw[hzl]at this;simpa using this.symm
   have hlen:(zdI z.cells m).length=m*n:=by rw[zg0,hzl]
   have hmn:m*n<=c*n:=zBU9 n hmc;refine .of (zdI z.cells m).length (c*n) (v':=.slice (some ⟨w.heap.size,0,none⟩) m c) (o:=.cells ((Array.range (c*n)).map (fun j=>zv.cells[j%zv.cells.size]!)) e) ?_ ?_ ?_
   ·have w1:IntKind.i64.wrap (m:Int)=m:=by simp[IntKind.wrap,IntKind.bits,IntKind.signed];omega
    have w2:IntKind.i64.wrap (c:Int)=c:=by simp[IntKind.wrap,IntKind.bits,IntKind.signed];omega
    have hbc:¬((by_:Int)*(c:Int)>2 ^ 48):=by
     have:((by_*c:Nat):Int)<=140737488355328:=by rw[Nat.mul_comm];omega
     rw[Int.natCast_mul]at this;omega
    have hbm:¬((c:Int)<(m:Int)):=by omega
    have hask:∀(x:Nat) (w:World),(askRoom x).run P w=.ok () w:=fun x w=>by unfold askRoom;split<;>simp[mark,Sem.run]
    by_cases h00:c*n=0
    ·have hz0:(Array.range (c*n)).map (fun j=>zv.cells[j%zv.cells.size]!)=(Array.range (c*n)).map (fun j=>(#[]:Array Value)[j%(#[]:Array Value).size]!):=by rw[h00];simp
     rw[hz0];simp[Instr.makeSlice,run_underlying hu,asInt,asIntOf,typeInfo,hi,hib,w1,w2,hbm,zbJ hs,h00,hask,zeC];omega
    ·simp[Instr.makeSlice,run_underlying hu,asInt,asIntOf,typeInfo,hi,hib,w1,w2,hbm,zbJ hs,h00,hzv,hask,zeC];omega
   ·have:=zg9 k hn hb hZ hx (cs:=(Array.range (c*n)).map (fun j=>zv.cells[j%zv.cells.size]!)) (by simp[hlen];omega) (fun i x y hx hy=>by
     have:=zqe hzr hcn m c hmc i x y hx;rw[hsz]at this hy;exact this hy) (fun x hx=>h1' x (zk0 hx))
    simpa using this
   ·refine .sl (loc:=⟨w.heap.size,(zdI z.cells m).length,c*n⟩) (Rho.add_same _ _ _ _) (by omega) (by omega) ?_ (.inl rfl) (fun _=>?_) ?_
    ·have:2*m/2=m:=by omega
     simp only[this,hlen];omega
    ·simp
    ·simp only[maxLen];omega
  ·cases hl
 ·cases hl
theorem zou (k:WR P Z ρ h w){b:Nat}(hn:∀g,ρ b g=none)(hb:b<h.next)(hZ:Z<=w.heap.size){t a1 a2:TypeId}(hu:P.underlying t=some (.map a1 a2)){r:Option Value}{vs:List TV}(hv:VL ρ vs r.toList){x:zde}(hl:zi9 b vs=some x)(hx:h.get b=some x.o) :
  zhl P Z ρ h w b (do pure (.value (<- Instr.makeMap t r))) x.v:=by
 have hm:=Rho.add_more (loc:=⟨w.heap.size,0,0⟩) (hn 0);have hw:∀{x:zde},x=⟨.map [] 0,.map b⟩->h.get b=some x.o->WR P Z (ρ.add b 0 ⟨w.heap.size,0,0⟩) h (w.alloc (.map #[] 0)):=fun e hx=>by
  subst e;exact k.real hn hb hZ hx ⟨_,#[],Rho.add_same _ _ _ _,World.alloc_heap_new w _,rfl,fun i e e' he=>by simp at he⟩
 have hvr:VR (ρ.add b 0 ⟨w.heap.size,0,0⟩) (.map b) (.map (some w.heap.size)):=.map (loc:=⟨w.heap.size,0,0⟩) (Rho.add_same _ _ _ _);unfold zi9 at hl
 split at hl
 ·injection hl with hl;subst hl
  cases r with
  | some _=>have:=hv.1;simp at this
  | none=>exact .of 0 0 (o:=.map #[] 0) (by simp[Instr.makeMap,run_newObj_alloc]) (hw rfl hx) hvr
 ·injection hl with hl;subst hl
  cases r with
  | none=>have:=hv.1;simp at this
  | some y =>
   have:=hv.uno rfl
   cases this
   exact .of 0 0 (o:=.map #[] 0) (by simp[Instr.makeMap,run_underlying hu,asInt,asIntOf,run_newObj_alloc]) (hw rfl hx) hvr
 ·cases hl
end Tw
end Go.Proofs.YtfomlmhnmheenaaGreat
namespace Go.Proofs.YtfomlmhnmheenaaGreat
open Go.RowKit
namespace Tw
variable {P:Program}{ρ ρ':Rho}{Z:Nat}{h:TH}{w:World}
theorem WR.change (k:WR P Z ρ h w){b:Nat}{x':TO}(hm:∀c g loc,ρ c g=some loc->ρ' c g=some loc)(hsame:∀c,c≠b->∀g,ρ' c g=ρ c g){g0:Nat}{loc0:Loc}(hex:ρ b g0=some loc0){w':World}(hs:w.heap.size<=w'.heap.size)
  (hb:∀c g loc,c≠b->ρ c g=some loc->w'.heap[loc.r]?=w.heap[loc.r]?) (hr:OR P ρ' b w' x') (hdom:∀g loc,ρ' b g=some loc->Z<=loc.r/\loc.r<w'.heap.size) (hsep:∀g loc,ρ' b g=some loc->∀c g' loc',c≠b->ρ c g'=some loc'->loc.r≠loc'.r):WR P Z ρ' (h.set b x') w':=by
 have hlt:=(k.dom b g0 loc0 hex).1;refine⟨fun c g loc hl=>?_,fun c g loc hl=>?_,fun c c' g g' loc loc' hl hl' e hZ1=>?_⟩
 ·by_cases hc:c=b
  ·subst hc;exact⟨hlt,.inl (hdom g loc hl).1,(hdom g loc hl).2⟩
  ·rw[hsame c hc]at hl;obtain⟨a1,a2,a3⟩:=k.dom c g loc hl;exact⟨a1,a2.imp id fun⟨cs,h1⟩=>⟨cs,by rw[TH.get_set _ _ _ _ hlt,if_neg hc];exact h1⟩,by omega⟩
 ·by_cases hc:c=b
  ·subst hc;exact⟨x',by rw[TH.get_set _ _ _ _ hlt,if_pos rfl],hr⟩
  ·rw[hsame c hc]at hl;obtain⟨o,ho,hor⟩:=k.obj c g loc hl;exact⟨o,by rw[TH.get_set _ _ _ _ hlt,if_neg hc];exact ho,hor.move hm (hsame c hc) fun g loc hg=>hb c g loc hc hg⟩
 ·by_cases hc:c=b<;>by_cases hc':c'=b
  ·rw[hc,hc']
  ·subst hc;rw[hsame c' hc']at hl';exact absurd e (hsep g loc hl c' g' loc' hc' hl')
  ·subst hc';rw[hsame c hc]at hl;exact absurd e.symm (hsep g' loc' hl' c g loc hc hl)
  ·rw[hsame c hc]at hl;rw[hsame c' hc']at hl';exact k.sep c c' g g' loc loc' hl hl' e hZ1
theorem zn1 {g:Nat}(hg:Z<=g)(cs:Array Value):Below Z w (w.setRow g cs):=⟨rfl,rfl,rfl,by simp,fun k hk=>setRow_other w g k cs (by omega)⟩
theorem zrG {α:Type}(l m:List α)(o i:Nat)(h:o+m.length<=l.length):(l.take o++m++l.drop (o+m.length))[i]?=if o<=i/\i<o+m.length then m[i-o]? else l[i]?:=by
 rw[zAF9,zDS9];have h1:(l.take o).length=o:=by simp;omega
 rw[h1]
 split
 ·rename_i hi;rw[if_neg (by omega),zBD9,if_pos hi]
 ·rename_i hi;rw[zDS9]
  split
  ·rename_i h2;rw[if_pos (by omega)]
  ·rename_i h2;rw[if_neg (by omega),zCB9]
   congr 1;omega
theorem ziL (k:WR P Z ρ h w){b g o:Nat}{loc:Loc}(hρ:ρ b g=some loc){l:List TV}{cs:List Value}(hl:VL ρ l cs)(h1:∀x∈l,x.one=true){h':TH}(hw:zdo h b g o l=some h') :
  ∃w',(storeCells ⟨loc.r,o,none⟩ cs).run P w=.ok () w'/\WR P Z ρ h' w'/\Below Z w w'/\h'.next=h.next:=by
 unfold zdo at hw
 split at hw
 ·rename_i x hx;unfold zl4 at hw
  split at hw
  ·rename_i e G M len cells;obtain⟨ha,hw⟩:=zI hw;obtain⟨hb,hw⟩:=zI hw;injection hw with hw;obtain rfl:=zAJ9 ha;have hfit:=zBA9 hb;obtain⟨y,hy,hr⟩:=k.obj b g loc hρ;rw[hx]at hy;injection hy with hy;subst hy;obtain⟨hM,hg0,hr⟩:=hr
   ·obtain⟨loc',cur,hρ',hheap,r1,r2,r3,r4,r5⟩:=hr g hM (zAM9 _);rw[hρ]at hρ';injection hρ' with hρ';subst hρ';have hL:=r4 rfl;have hcl:cs.length=l.length:=hl.1.symm;have hfit':o+cs.length<=cur.size:=by omega
    have hst:=run_storeCells_at P loc.r o e cs 0 cur w hheap (by simpa using hfit') (fun v hv=>by
     obtain⟨i,hi,rfl⟩:=zBJ9.1 hv;have hi':i<l.length:=by rw[hl.1];exact hi
     exact(hl.2 i l[i] cs[i] (zAB9 hi') (zAB9 hi)).oneCell (h1 _ (zBP9 hi')))
    simp only[zDH9]at hst;have hnew:=setRow_heap w loc.r cur (cur.toList.take o++cs++cur.toList.drop (o+cs.length)).toArray e (0,0) hheap;have hZo:∀g' loc',ρ b g'=some loc'->Z<=loc'.r:=fun g' loc' hl'=>k.own hl' hx (fun cs h=>by cases h);have hZr:=hZo g loc hρ;refine⟨_,hst,?_,zn1 hZr _,by rw[<- hw];rfl⟩;rw[<- hw];refine k.change (fun _ _ _ h=>h) (fun _ _ _=>rfl) hρ (by simp) (fun c g' loc' hc hl'=>setRow_other w loc.r loc'.r _ (fun e=>hc (k.sep c b g' g loc' loc hl' hρ e (by omega)))) ⟨zAM9 _,hg0,fun g' h1' h2'=>?_⟩ (fun g' loc' hl'=>⟨hZo g' loc' hl',by have:=(k.dom b g' loc' hl').2.2;simpa using this⟩) (fun g' loc' hl' c g'' loc'' hc hl'' e=>hc ((k.sep b c g' g'' loc' loc'' hl' hl'' e (hZo g' loc' hl')).symm));obtain rfl:g'=g:=by omega
    refine⟨loc,_,hρ,hnew,fun _=>?_,r2,?_,fun _=>hL,fun i hi=>?_⟩
    ·have:=r1 rfl;simp;omega
    ·simp;omega
    ·have hil:i<cur.size:=by omega
     have e1:((cur.toList.take o++cs++cur.toList.drop (o+cs.length)).toArray)[i]?=if o<=i/\i<o+cs.length then cs[i-o]? else cur[i]?:=by
      rw[zFN9,zrG _ _ _ _ (by simpa using hfit'),zBR9 (xs:=cur)]
     rw[e1,Tr.get_putL,hcl]
     by_cases hio:o<=i/\i<o+l.length
     ·rw[if_pos hio,if_pos hio];have hi1:i-o<l.length:=by omega
      have hi2:i-o<cs.length:=by omega
      exact⟨_,_,zAB9 hi1,zAB9 hi2,h1 _ (zBP9 hi1),hl.2 (i-o) _ _ (zAB9 hi1) (zAB9 hi2)⟩
     ·rw[if_neg hio,if_neg hio];exact r5 i hi
  ·cases hw
 ·cases hw
end Tw
end Go.Proofs.YtfomlmhnmheenaaGreat
namespace Go.Proofs.YtfomlmhnmheenaaGreat
open Go.RowKit
namespace Tw
variable {P:Program}{ρ ρ':Rho}{Z:Nat}{h h':TH}{w:World}
def zgI (P:Program)(Z:Nat)(ρ:Rho)(h h':TH)(w:World)(s:Sem Next)(v:TV):Prop :=
 ∃n v' w' ρ',s.run P w=.ok n w'/\(n=.value v'\/(n=.skip/\v'=undef))/\Rho.le h.next ρ ρ'/\WR P Z ρ' h' w'/\Below Z w w'/\VR ρ' v v'/\h.next<=h'.next
theorem zgI.val {s:Sem Value}{v:TV}{v':Value}{w':World}(hs:s.run P w=.ok v' w')(hle:Rho.le h.next ρ ρ')(hw:WR P Z ρ' h' w')(hb:Below Z w w')(hv:VR ρ' v v')(hn:h.next<=h'.next):zgI P Z ρ h h' w (do pure (.value (<- s))) v :=
 ⟨_,v',w',ρ',zeN hs,.inl rfl,hle,hw,hb,hv,hn⟩
theorem zgI.skip {s:Sem Unit}{w':World}(hs:s.run P w=.ok () w')(hle:Rho.le h.next ρ ρ')(hw:WR P Z ρ' h' w')(hb:Below Z w w')(hn:h.next<=h'.next):zgI P Z ρ h h' w (do s;pure .skip) (.tuple []) :=
 ⟨_,undef,w',ρ',by simp[hs],.inr ⟨rfl,rfl⟩,hle,hw,hb,VR.undef _,hn⟩
theorem ztX (k:WR P Z ρ h w){t:TypeId}{n:Nat}(hs:zbS P t=some n){vs:List TV}{p' v':Value}(hv:VL ρ vs [p',v']){v:TV}(ha:zgm n h vs=some (.ok v h')):v=.tuple []/\zgI P Z ρ h h' w (do Instr.storeAt t p' v';pure .skip) v:=by
 unfold zgm at ha
 split at ha
 ·rename_i b g o e u;obtain⟨h0,ha⟩:=zI ha;obtain⟨h1,ha⟩:=zI ha;have hlen:=zAJ9 h0;have hle:=zBA9 h1
  split at ha
  ·rename_i h2 hw;injection ha with ha;injection ha with ha1 ha2;subst ha1;subst ha2;obtain⟨hp,hu⟩:=hv.two rfl;have hn0:=(zdQ hs).1;obtain⟨hc,hone⟩:=hu.cells (.inl (by intro e;rw[e]at hlen;simp at hlen;omega))
   cases hp with
   | ptr hρ hcov =>
    rename_i loc;obtain⟨w',hst,hw',hb,hnx⟩:=ziL k hρ hc hone hw;have hsz:v'.cells.size=n:=by have:=hc.1;rw[hlen]at this;simpa using this.symm
    exact⟨rfl,.skip (by simp[Instr.storeAt,Instr.sureAddr,storeVar,zbJ hs,hsz,hst]) (Rho.le.refl _ _) hw' hb (by rw[hnx];exact zAM9 _)⟩
  ·cases ha
 ·cases ha
theorem zqu {x y:TV}(h:zhw x y=some true):x=y:=by
 unfold zhw at h
 split at h
 ·split at h
  ·rename_i k a _ k' b;obtain⟨hk,h1⟩:=zI h;have:=zgR hk;subst this;injection h1 with h1;rw[zcD]at h1;have:=beq_iff_eq.1 h1;subst this;rfl
  ·cases h
 ·split at h
  ·rename_i a _ b;injection h with h;rw[zf0]at h;have:=beq_iff_eq.1 h;subst this;rfl
  ·cases h
 ·cases h
theorem VR.str_inv {l:List Nat}{v:Value}(h:VR ρ (.str l) v):∃s,v=.string s/\bts s=l:=by
 cases h with
 | str s=>exact⟨s,rfl,rfl⟩
theorem zjO {x:TV}{a b:Value}(ha:VR ρ x a)(hb:VR ρ x b){d:TypeDesc}{kf:Nat}(hk:zeM kf x=true)(w:World):(Instr.keyThatStays a b).run P w=.ok b w:=by
 have:Instr.sameBits 10000 a b=true:=by
  match kf,hk with
  | 1,hk =>
   cases x<;>simp[zeM,zhg]at hk
   cases ha;cases hb
   simp[Instr.sameBits]
  | 2,hk =>
   cases x<;>simp[zeM,zqH]at hk
   obtain⟨s1,rfl,e1⟩:=ha.str_inv;obtain⟨s2,rfl,e2⟩:=hb.str_inv;have h1:=zrO (s:=s1) (t:=s2) (e1.trans e2.symm);have h2:(s1==s2)=true:=by rw[beq_toListBytes,h1];simp
   simp only[Instr.sameBits];exact h2
 simp[Instr.keyThatStays,this]
theorem EsR.push {es:List zcf}{es':List MapEntry}(h:EsR ρ es es'){e:zcf}{e':MapEntry}(hk:VR ρ e.k e'.key)(hv:VR ρ e.v e'.val)(hb:e'.born=e.n):EsR ρ (es++[e]) (es'++[e']):=by
 refine⟨by simp[h.1],fun i x y hx hy=>?_⟩;rw[zDS9]at hx hy;rw[h.1]at hx
 split at hx
 ·rename_i hi;rw[if_pos hi]at hy;exact h.2 i x y hx hy
 ·rename_i hi;rw[if_neg hi]at hy;have:i-es'.length=0:=by have:=(zAD9.1 hx).1;simp at this;omega
  rw[this]at hx hy;simp at hx hy;subst hx;subst hy;exact⟨hk,hv,hb⟩
theorem zqw:∀(es:List zcf) (i:Nat) (k v:TV) (j:Nat),(setE i k v es)[j]?=if j=i then(es[j]?).map (fun e=>⟨k,v,e.n⟩)else es[j]?
 | [],i,k,v,j=>by simp[setE]
 | e::es,0,k,v,j=>by cases j<;>simp[setE]
 | e::es,i+1,k,v,j=>by
  cases j with
  | zero=>simp[setE]
  | succ j=>simp only[setE,zAY9];rw[zqw es i k v j];simp
theorem zqr:∀(es:List zcf) (i:Nat) (k v:TV),(setE i k v es).length=es.length
 | [],i,k,v=>by simp[setE]
 | e::es,0,k,v=>by simp[setE]
 | e::es,i+1,k,v=>by simp[setE,zqr es i k v]
theorem EsR.setE {es:List zcf}{es':Array MapEntry}(h:EsR ρ es es'.toList){i:Nat}{k v:TV}{f:MapEntry->MapEntry}(hf:∀e e',es[i]?=some e->es'[i]?=some e'->VR ρ k (f e').key/\VR ρ v (f e').val/\(f e').born=e'.born):EsR ρ (setE i k v es) (es'.modify i f).toList:=by
 refine⟨by rw[zqr];simpa using h.1,fun j x y hx hy=>?_⟩;rw[zqw]at hx;rw[zBR9,zFO9]at hy
 by_cases hj:j=i
 ·subst hj;rw[if_pos rfl]at hx hy
  cases he:es[j]? with
  | none=>rw[he]at hx;cases hx
  | some e =>
   cases he':es'[j]? with
   | none=>rw[he']at hy;cases hy
   | some e' =>
    rw[he]at hx;rw[he']at hy;simp at hx hy;subst hx;subst hy;obtain⟨a,b,c⟩:=hf e e' he he';exact⟨a,b,c.trans (h.2 j e e' he (by simpa using he')).2.2⟩
 ·rw[if_neg hj]at hx;rw[if_neg (fun e=>hj e.symm)]at hy;exact h.2 j x y hx (by simpa using hy)
theorem zfu {r:Nat}{es:Array MapEntry}{ck:Nat}(hh:w.heap[r]?=some (.map es ck))(o:Obj):(setObj r o).run P w=.ok () (w.putObj r o):=by
 simp[setObj,Sem.run,hh,World.putObj]
theorem WR.setMap (k:WR P Z ρ h w){b:Nat}{loc:Loc}(hρ:ρ b 0=some loc){es:List zcf}{ck:Nat}{es':Array MapEntry}(hh:∃es0 ck0,w.heap[loc.r]?=some (.map es0 ck0))(he:EsR ρ es es'.toList){x0:TO}(hx0:h.get b=some x0)(hn0:∀cs,x0 ≠ .ro cs):WR P Z ρ (h.set b (.map es ck)) (w.putObj loc.r (.map es' ck))/\Below Z w (w.putObj loc.r (.map es' ck)):=by
 have hZo:∀g' loc',ρ b g'=some loc'->Z<=loc'.r:=fun g' loc' hl'=>k.own hl' hx0 hn0;obtain⟨es0,ck0,hh⟩:=hh;have hlt:loc.r<w.heap.size:=(zBW9.1 hh).1;have hZ:=hZo 0 loc hρ;refine⟨k.change (fun _ _ _ h=>h) (fun _ _ _=>rfl) hρ (by simp[World.putObj]) (fun c g' loc' hc hl'=>World.putObj_heap_other (fun e=>hc (k.sep c b g' 0 loc' loc hl' hρ e (by omega)))) ⟨loc,es',hρ,World.putObj_heap_same hlt,he⟩
  (fun g' loc' hl'=>⟨hZo g' loc' hl',by have:=(k.dom b g' loc' hl').2.2;simpa[World.putObj]using this⟩) (fun g' loc' hl' c g'' loc'' hc hl'' e=>hc ((k.sep b c g' g'' loc' loc'' hl' hl'' e (hZo g' loc' hl')).symm)),?_⟩
 exact⟨rfl,rfl,rfl,by simp[World.putObj],fun j hj=>World.putObj_heap_other (by omega)⟩
theorem VL.three {l:List TV}{a b c:Value}(h:VL ρ l [a,b,c]){x y z:TV}(e:l=[x,y,z]):VR ρ x a/\VR ρ y b/\VR ρ z c:=by
 subst e;exact⟨h.2 0 x a rfl rfl,h.2 1 y b rfl rfl,h.2 2 z c rfl rfl⟩
theorem ziJ (k:WR P Z ρ h w){t key e:TypeId}{kf:Nat}{d:TypeDesc}(hu:P.underlying t=some (.map key e))(hd:P.underlying key=some d)(hkf:kfT kf d){vs:List TV}{m' x' y':Value}(hv:VL ρ vs [m',x',y']){v:TV}(ha:ziT kf h vs=some (.ok v h')) :
  v=.tuple []/\zgI P Z ρ h h' w (do Instr.mapUpdate t m' x' y';pure .skip) v:=by
 have hkt:=znA hd hkf;unfold ziT at ha
 split at ha
 ·rename_i b x y;obtain⟨h0,ha⟩:=zI ha;have hkv:=zlc hkf h0;obtain⟨hm,hx,hy⟩:=hv.three rfl;have hck:∀b,(Instr.checkKey b 10000 key x').run P w=.ok () w:=fun b=>zg5 hkt b 9999 x' w
  split at ha
  ·rename_i o ho;unfold zsQ at ha
   split at ha
   ·rename_i es ck
    cases hm with
    | map hρ =>
     rename_i loc;obtain⟨es',he,her⟩:=zjz k hρ ho
     split at ha
     ·cases ha
     ·rename_i hf;injection ha with ha;injection ha with ha1 ha2;subst ha1;subst ha2;obtain⟨r',hr',hc⟩:=ze4 hd hkt hx hkv her hf;rcases hc with⟨_,rfl⟩|⟨j',a,b,c1,_⟩
      ·obtain⟨hw,hb⟩:=k.setMap hρ ⟨_,_,he⟩ (es:=es++[⟨x,y,ck⟩]) (ck:=ck+1) (es':=es'.push { key:=x',val:=y',born:=ck }) (by simpa using her.push hx hy rfl) ho (fun cs h=>by cases h);exact⟨rfl,.skip (by simp[Instr.mapUpdate,run_underlying hu,zds he,hck,Instr.findKey,run_underlying hd,hr',zfu he]) (Rho.le.refl _ _) hw hb (zAM9 _)⟩
      ·cases c1
     ·rename_i j e0 hf;injection ha with ha;injection ha with ha1 ha2;subst ha1;subst ha2;obtain⟨r',hr',hc⟩:=ze4 hd hkt hx hkv her hf;rcases hc with⟨hc,_⟩|⟨j',a,b,c1,c2,c3,c4,c5⟩
      ·cases hc
      ·injection c1 with c1;injection c1 with c1 c1';subst c1';simp at c1;subst c1;simp at c2;subst c2;have hxe:=zqu c5;obtain⟨hek,_,_⟩:=her.2 j e0 b c3 c4;rw[<- hxe]at hek;have c4':es'[j]?=some b:=by simpa using c4
       have hks:=zjO (P:=P) hek hx (d:=d) h0 w;obtain⟨hw,hb⟩:=k.setMap hρ ⟨_,_,he⟩ (es:=setE j x y es) (ck:=ck) (es':=es'.modify j fun e=>{ e with key:=x',val:=y' }) (her.setE fun e e' _ _=>⟨hx,hy,rfl⟩) ho (fun cs h=>by cases h);exact⟨rfl,.skip (by simp[Instr.mapUpdate,run_underlying hu,zds he,hck,Instr.findKey,run_underlying hd,hr',zfu he,c4',hks]) (Rho.le.refl _ _) hw hb (zAM9 _)⟩
   ·cases ha
  ·cases ha
 ·cases ha
theorem zpa (k:WR P Z ρ h w){t key e:TypeId}{kf:Nat}{d:TypeDesc}(hu:P.underlying t=some (.map key e))(hd:P.underlying key=some d)(hkf:kfT kf d){z:TV}(hz:zc4 P e=some z){vs:List TV}{m' x':Value}(hv:VL ρ vs [m',x']){v:TV}(ha:zoG kf z h vs=some (.ok v h')) :
  zgI P Z ρ h h' w (do pure (.value (<- Instr.mapEntry t m' x'))) v:=by
 have hkt:=znA hd hkf;obtain⟨zv,hzv,hzr⟩:=ze6 (ρ:=ρ) hz w;unfold zoG at ha
 split at ha
 ·rename_i b x;obtain⟨h0,ha⟩:=zI ha;have hkv:=zlc hkf h0;obtain⟨hm,hx⟩:=hv.two rfl;have hck:∀b,(Instr.checkKey b 10000 key x').run P w=.ok () w:=fun b=>zg5 hkt b 9999 x' w
  split at ha
  ·rename_i o ho;unfold zsX at ha
   split at ha
   ·rename_i es ck
    cases hm with
    | map hρ =>
     rename_i loc;obtain⟨es',he,her⟩:=zjz k hρ ho
     split at ha
     ·cases ha
     ·rename_i hf;injection ha with ha;injection ha with ha1 ha2;subst ha1;subst ha2;obtain⟨r',hr',hc⟩:=ze4 hd hkt hx hkv her hf;rcases hc with⟨_,rfl⟩|⟨j',a,b,c1,_⟩
      ·obtain⟨hw,hb⟩:=k.setMap hρ ⟨_,_,he⟩ (es:=es++[⟨x,z,ck⟩]) (ck:=ck+1) (es':=es'.push { key:=x',val:=zv,born:=ck }) (by simpa using her.push hx hzr rfl) ho (fun cs h=>by cases h);exact .val (v':=.tuple #[zv,.int .i64 (ck:Nat)]) (by simp[Instr.mapEntry,run_underlying hu,zds he,hck,Instr.findKey,run_underlying hd,hr',zfu he,hzv,goInt]) (Rho.le.refl _ _) hw hb (VR.tupL (.cons hzr (VL.one (.int _ _)))) (zAM9 _)
      ·cases c1
     ·rename_i j e0 hf;injection ha with ha;injection ha with ha1 ha2;subst ha1;subst ha2;obtain⟨r',hr',hc⟩:=ze4 hd hkt hx hkv her hf;rcases hc with⟨hc,_⟩|⟨j',a,b,c1,c2,c3,c4,c5⟩
      ·cases hc
      ·injection c1 with c1;injection c1 with c1 c1';subst c1';simp at c1;subst c1;simp at c2;subst c2;have hxe:=zqu c5;obtain⟨hek,hev,hen⟩:=her.2 j e0 b c3 c4;rw[<- hxe]at hek;have c4':es'[j]?=some b:=by simpa using c4
       have hks:=zjO (P:=P) hek hx (d:=d) h0 w;have hsame:EsR ρ es (es'.modify j fun e=>{ e with key:=x' }).toList:=by
        refine⟨by simpa using her.1,fun i p q hp hq=>?_⟩;rw[zBR9,zFO9]at hq
        split at hq
        ·rename_i hji;subst hji;rw[c4']at hq;simp at hq;subst hq;rw[c3]at hp;injection hp with hp;subst hp;exact⟨by rw[<- hxe];exact hx,hev,hen⟩
        ·exact her.2 i p q hp (by simpa using hq)
       obtain⟨hw,hb⟩:=k.setMap hρ ⟨_,_,he⟩ (es:=es) (ck:=ck) (es':=es'.modify j fun e=>{ e with key:=x' }) hsame ho (fun cs h=>by cases h);have hh:WR P Z ρ h (w.putObj loc.r (.map (es'.modify j fun e=>{ e with key:=x' }) ck)):=by
        refine⟨fun c g l hl=>?_,fun c g l hl=>?_,hw.sep⟩
        ·obtain⟨a1,a2,a3⟩:=hw.dom c g l hl;refine⟨a1,a2.imp id fun⟨cs,h1⟩=>?_,a3⟩;rw[TH.get_set _ _ _ _ (TH.get_lt ho)]at h1
         split at h1
         ·cases h1
         ·exact⟨cs,h1⟩
        obtain⟨o',ho',hor⟩:=hw.obj c g l hl;rw[TH.get_set _ _ _ _ (TH.get_lt ho)]at ho'
        split at ho'
        ·rename_i hcb;subst hcb;injection ho' with ho';subst ho';exact⟨_,ho,hor⟩
        ·exact⟨o',ho',hor⟩
       refine .val (v':=.tuple #[b.val,.int .i64 (e0.n:Nat)]) ?_ (Rho.le.refl _ _) hh hb (VR.tupL (.cons hev (VL.one (.int _ _)))) (zAM9 _);simp[Instr.mapEntry,run_underlying hu,zds he,hck,Instr.findKey,run_underlying hd,hr',zfu he,c4',hks,goInt,hen]
   ·cases ha
  ·cases ha
 ·cases ha
theorem zoq {n:Nat}{v:TV}{v':Value}(hv:VR ρ v v'):∀{es:List zcf} {es':List MapEntry} {r:List zcf},EsR ρ es es'->zlE n v es=some r->∃i,es'.findIdx? (fun e=>(e.born:Int)==(n:Int))=some i/\EsR ρ r (es'.modify i fun e=>{ e with val:=v' })
 | [],_,_,_,hs=>by cases hs
 | e::es,es',r,he,hs=>by
  obtain⟨e',rr,rfl,h1,h2,h3,h4⟩:=he.of_cons;simp only[zlE]at hs
  cases hb:Nat.beq e.n n<;>rw[hb]at hs
  ·simp only[cond_false]at hs
   split at hs
   ·cases hs
   ·rename_i l hl;injection hs with hs;subst hs;obtain⟨i,hi,her⟩:=zoq hv h4 hl;have hne:¬((e'.born:Int)==(n:Int))=true:=by
     rw[h3];intro hh;have:=beq_iff_eq.1 hh;have:e.n=n:=by omega
     rw[this]at hb;simp at hb
    refine⟨i+1,by rw[zFC9];simp only[hne,if_false,zCW9];rw[hi];rfl,?_⟩;refine⟨by have:=her.1;simpa using this,fun j p q hp hq=>?_⟩
    cases j with
    | zero=>simp at hp hq;subst hp;subst hq;exact⟨h1,h2,h3⟩
    | succ j=>simp at hp hq;exact her.2 j p q hp (by simpa using hq)
  ·simp only[cond_true]at hs;injection hs with hs;subst hs;have hen:=zAJ9 hb;refine⟨0,by rw[zFC9];simp[h3,hen],?_⟩;refine⟨by have:=h4.1;simpa using this,fun j p q hp hq=>?_⟩
   cases j with
   | zero=>simp at hp hq;subst hp;subst hq;exact⟨h1,hv,h3⟩
   | succ j=>simp at hp hq;exact h4.2 j p q hp hq
theorem zs5 (k:WR P Z ρ h w){t:TypeId}{vs:List TV}{m' s' y':Value}(hv:VL ρ vs [m',s',y']){v:TV}(ha:zkk h vs=some (.ok v h')):v=.tuple []/\zgI P Z ρ h h' w (do Instr.entryStore t m' s' y';pure .skip) v:=by
 unfold zkk at ha
 split at ha
 ·rename_i b s y;obtain⟨hm,hs,hy⟩:=hv.three rfl
  split at ha
  ·rename_i n hn;obtain⟨kk,_,rfl⟩:=ze8 hn hs
   split at ha
   ·rename_i o ho;unfold zvL at ha
    split at ha
    ·rename_i es ck
     split at ha
     ·cases ha
     ·rename_i es2 hst;injection ha with ha;injection ha with ha1 ha2;subst ha1;subst ha2
      cases hm with
      | map hρ =>
       rename_i loc;obtain⟨es',he,her⟩:=zjz k hρ ho;obtain⟨i,hi,hr⟩:=zoq hy her hst;obtain⟨hw,hb⟩:=k.setMap hρ ⟨_,_,he⟩ (es:=es2) (ck:=ck) (es':=es'.modify i fun e=>{ e with val:=y' }) (by rw[Array.toList_modify];exact hr) ho (fun cs h=>by cases h);have hi':es'.findIdx? (fun e=>(e.born:Int)==(n:Int))=some i:=by obtain⟨l⟩:=es';rw[List.findIdx?_toArray];exact hi
       exact⟨rfl,.skip (by simp[Instr.entryStore,zds he,asInt,asIntOf,hi',zfu he]) (Rho.le.refl _ _) hw hb (zAM9 _)⟩
    ·cases ha
   ·cases ha
  ·cases ha
 ·cases ha
theorem zhP (k:WR P Z ρ h w){esz n:Nat}{x:TV}{x':Value}(hx:VR ρ x x'){l:List TV}(hl:zep h esz x n=some l)(hn:n<=lenV x) :
  ∃A m c cs,x'=.slice A m c/\m=lenV x/\VL ρ l cs/\cs.length=n*esz/\(∀y∈l,y.one=true)/\(n≠0->∃a,A=some a/\∀(j:Nat) v,cs[j]?=some v->w.cell? (a.add j)=some v):=by
 unfold zep at hl
 split at hl
 ·injection hl with hl;subst hl
  cases hx
  have:n=0:=by simp[lenV]at hn;exact hn
  subst this;exact⟨none,0,0,[],rfl,rfl,VL.nil ρ,by simp,fun y hy=>(by cases hy),fun h=>absurd rfl h⟩
 ·rename_i b g o n0 q z;obtain⟨hz,hl⟩:=zI hl;obtain rfl:=zAJ9 hz
  cases hx with
  | sl hρ h1 h2 h3 h4 h5 h6 =>
   rename_i o' c loc;have hn':n<=n0:=hn;have:n*esz<=q/2*esz:=zBU9 esz (by omega);obtain⟨cs,c1,c2,c3,c4⟩:=zlL k hl hρ (by omega);refine⟨_,n0,c,cs,rfl,rfl,c1,c2,c4,fun hne=>⟨_,rfl,fun j v hj=>?_⟩⟩;have ho:o'=o:=by rcases h4 with h|⟨h,_⟩;exact h;omega
   rw[zdD,ho];exact c3 j v hj
 ·cases hl
theorem zi2 {t ty e:TypeId}(ht:P.underlying t=some (.slice e)){z:Nat}(hz:zbS P e=some z){base A:Option Addr}{n c m c2:Nat}(hn:n<=c)(hm:m=0):(Builtin.append_ #[t,t] ty #[.slice base n c,.slice A m c2]).run P w=.ok (.slice base n c) w:=by
 subst hm;obtain⟨_,i,hi,rfl⟩:=zdQ hz
 cases A<;>cases base<;>simp[Builtin.append_,run_underlying ht,sizeOf,typeInfo,hi,Builtin.lenOf,Builtin.firstCells,hn,loadCells,loadCellsFrom,storeCells]
theorem zxh (k:WR P Z ρ h w)(hZ:Z<=w.heap.size){t e ty:TypeId}{esz by_:Nat}(ht:P.underlying t=some (.slice e))(hs:zbS P e=some esz)(hby:zh1 P e=some by_){zt:TV}(hzt:zc4 P e=some zt)(hzl:zt.cells.length=esz){vs:List TV}{s' x':Value}(hv:VL ρ vs [s',x']){v:TV}
  (ha:ze9 e esz by_ h vs=some (.ok v h')):∃v' w' ρ',(Builtin.append_ #[t,t] ty #[s',x']).run P w=.ok v' w'/\Rho.le h.next ρ ρ'/\WR P Z ρ' h' w'/\Below Z w w'/\VR ρ' v v'/\h.next<=h'.next:=by
 obtain⟨hn0,i,hi,hisz⟩:=zdQ hs;obtain⟨i2,hi2,hib⟩:=znW hby;rw[hi]at hi2;injection hi2 with hi2;subst hi2;obtain⟨i3,zv,hi3,hzv,hzr⟩:=zkQ hzt;rw[hi]at hi3;injection hi3 with hi3;subst hi3;have hzr:=hzr ρ;have hzvs:zv.cells.size=esz:=by
  obtain⟨hc,_⟩:=hzr.cells (.inl (by intro e;rw[e]at hzl;simp at hzl;omega));have:=hc.1;rw[hzl]at this;simpa using this.symm
 unfold ze9 at ha
 split at ha
 ·rename_i s x;obtain⟨hsr,hxr⟩:=hv.two rfl;unfold zs8 at ha
  split at ha
  ·cases ha
  ·rename_i news hnews;obtain⟨A,m,c,cs,rfl,hm,hcs,hcl,hone,hmem⟩:=zhP k hxr hnews (zAM9 _);have hcl':cs.length=m*i.size:=by rw[hcl,hm,hisz]
   have hnl:news.length=m*esz:=by rw[hcs.1,hcl,hm]
   have hone':∀u∈cs,u.oneCell'=true:=fun u hu=>by
    obtain⟨j,hj,rfl⟩:=zBJ9.1 hu;have hj':j<news.length:=by rw[hcs.1];exact hj
    exact(hcs.2 j news[j] cs[j] (zAB9 hj') (zAB9 hj)).oneCell (hone _ (zBP9 hj'))
   rw[<- hm]at ha
   cases s<;>simp only at ha<;>first|(cases ha;done)|skip
   case nilsl =>
    cases hsr
    cases hm0:Nat.beq m 0<;>rw[hm0]at ha
    ·-- a new block
     have hmne:m≠0:=fun e=>by subst e;simp at hm0
     simp only[cond_false]at ha;unfold zjb at ha;obtain⟨hfit,ha⟩:=zI ha;injection ha with ha;injection ha with ha1 ha2;subst ha1;subst ha2;have hfit:=zBA9 hfit;rw[Nat.mul_add]at hfit;obtain⟨a,hA,hmem2⟩:=hmem (by omega);subst hA;have hr:=run_append_nil (P:=P) w t ty e i zv ht hi hzv a m c cs hcl' hmem2 (by omega) (by omega) (by rw[hib];omega);have hcap:=grownCap_ge w m 0 e;have hcap2:=grownCap_le_maxLen w m 0 e (by simp only[maxLen];omega);have hnone:∀g,ρ h.next g=none:=fun g=>by
      cases hg:ρ h.next g with
      | none=>rfl
      | some loc=>have:=(k.dom _ _ _ hg).1;omega
     have hbsz:(cs.toArray++Builtin.zeroCells zv.cells (grownCap w m 0 e-m)).size=grownCap w m 0 e*esz:=by
      simp only[zFJ9,zDV9,size_zeroCells,hzvs,hcl',hisz,<- zCN9]
      congr 1;omega
     have hwr:=zg9 (k.drew.push (zb8 e news)) (b:=h.next) hnone (by rw[TH.next_push];omega) (by exact hZ) (by rw[TH.get_push,if_pos rfl]) (cs:=cs.toArray++Builtin.zeroCells zv.cells (grownCap w m 0 e-m)) (by rw[hbsz,hnl];exact zBU9 _ hcap) (fun j x y hx hy=>by
      have hj:j<cs.length:=by rw[<- hcs.1];exact(zAD9.1 hx).1
      rw[zEW9 (by simpa using hj)]at hy;exact hcs.2 j x y hx (by simpa using hy)) hone
     refine⟨_,_,_,hr,⟨Rho.add_more (hnone 0),fun c hc hn g=>by rw[Rho.add_ne (by omega)];exact hn g⟩,hwr,?_,?_,by rw[TH.next_push];omega⟩
     ·exact⟨rfl,rfl,rfl,by simp,fun j hj=>Below.heap_alloc w.drew _ j (by show j<w.heap.size;omega)⟩
     ·refine .sl (Rho.add_same _ _ _ _) (by omega) (by omega) ?_ (.inl rfl) (fun _=>?_) hcap2
      ·show 0+2*m/2*esz<=news.length;have:2*m/2=m:=by omega
       rw[this,hnl];omega
      ·exact(zAN9 _).trans hbsz.symm
    ·have hm0':=zAJ9 hm0;simp only[cond_true]at ha;injection ha with ha;injection ha with ha1 ha2;subst ha1;subst ha2;exact⟨_,_,ρ,zi2 ht hs (zAM9 _) hm0',Rho.le.refl _ _,k,Below.refl _ _,.nilsl,zAM9 _⟩
   case sl b g o n q z =>
    cases hm0:Nat.beq m 0<;>rw[hm0]at ha
    ·have hmne:m≠0:=fun e=>by subst e;simp at hm0
     simp only[cond_false]at ha;obtain⟨hoz,hb1⟩:=zI ha;clear ha;obtain⟨hq2,hb2⟩:=zI hb1;clear hb1;obtain⟨hzz,ha⟩:=zI hb2;clear hb2;have hoz':=zAJ9 hoz;have hq2':=zAJ9 hq2;have hzz':=zAJ9 hzz;clear hoz hq2 hzz;have hq2:=hq2';clear hq2';subst hoz';subst hzz'
     split at ha
     ·rename_i r hr0;unfold zmi at ha
      split at ha
      ·rename_i e' G M len cells;obtain⟨he,hb1⟩:=zI ha;clear ha;obtain⟨hg,hb2⟩:=zI hb1;clear hb1;obtain⟨hlen,hb3⟩:=zI hb2;clear hb2;obtain⟨hfit,ha⟩:=zI hb3;clear hb3;injection ha with ha;injection ha with ha1 ha2;subst ha1;subst ha2;have he':=zAJ9 he;have hg':=zAJ9 hg;have hlen':=zAJ9 hlen;have hfit':=zBA9 hfit;rw[Nat.mul_add]at hfit';clear he hg hlen hfit;have hlen:=hlen';have hfit:=hfit';clear hlen' hfit';subst he';subst hg';obtain⟨a,hA,hmem2⟩:=hmem (by omega);subst hA
       cases hsr with
       | sl hρ s1 s2 s3 s4 s5 s6 =>
        rename_i o' cc loc;have ho':o'=0:=by rcases s4 with h|⟨_,_,h⟩;exact h;exact absurd rfl h
        subst ho';obtain⟨y,hy,hr⟩:=k.obj b g loc hρ;rw[hr0]at hy;injection hy with hy;subst hy;obtain⟨hMG,hg0,hrow⟩:=hr;obtain⟨loc',cur,hρ',hheap,r1,r2,r3,r4,r5⟩:=hrow g hMG (zAM9 _);rw[hρ]at hρ';injection hρ' with hρ';subst hρ';have hS:=s5 hq2;have hcur:cur.size=cc*esz:=by rw[r1 rfl,<- hS];omega
        have hL:loc.L=len:=r4 rfl;have hnone:ρ b (g+1)=none:=by
         cases hq:ρ b (g+1)with
         | none=>rfl
         | some l=>have:=hg0 _ _ hq;omega
        have hZo:∀g' loc',ρ b g'=some loc'->Z<=loc'.r:=fun g' loc' hl'=>k.own hl' hr0 (fun cs h=>by cases h);have hZr:=hZo g loc hρ;have hrlt:=(k.dom b g loc hρ).2.2
        by_cases hroom:n+m<=cc
        ·-- in place
         have hfits:n*i.size+cs.length<=cur.size:=by rw[hcl',hcur,hisz,<- zCN9];exact zBU9 _ hroom
         have hrun:=run_append_room (P:=P) w t ty e i ht hi loc.r n cc cur hheap a m c cs hcl' hmem2 hone' hroom hfits;have hnew:=setRow_heap w loc.r cur (cur.toList.take (n*i.size)++cs++cur.toList.drop (n*i.size+cs.length)).toArray e (0,0) hheap;have hnsz:((cur.toList.take (n*i.size)++cs++cur.toList.drop (n*i.size+cs.length)).toArray).size=cur.size:=by simp;omega
         have hget:∀j,((cur.toList.take (n*i.size)++cs++cur.toList.drop (n*i.size+cs.length)).toArray)[j]?=if n*i.size<=j/\j<n*i.size+cs.length then cs[j-n*i.size]? else cur[j]?:=fun j=>by
          rw[zFN9,zrG _ _ _ _ (by simpa using hfits),zBR9 (xs:=cur)]
         have hm:=Rho.add_more (loc:=⟨loc.r,len+news.length,loc.S⟩) hnone;refine⟨_,_,ρ.add b (g+1) ⟨loc.r,len+news.length,loc.S⟩,hrun,⟨hm,fun c' hc' hn' g'=>?_⟩,?_,zn1 hZr _,?_,zAM9 _⟩
         ·have:c'≠b:=fun e=>by subst e;rw[hn']at hρ;cases hρ
          rw[Rho.add_ne this];exact hn' g'
         ·refine k.change hm (fun c' hc' g'=>Rho.add_ne hc' g') hρ (by simp) (fun c' g' loc' hc' hl'=>setRow_other w loc.r loc'.r _ (fun e=>hc' (k.sep c' b g' g loc' loc hl' hρ e (by omega)))) ⟨by omega,fun g' l hl=>?_,fun g' h1' h2'=>?_⟩ (fun g' l hl=>?_) (fun g' l hl c' g'' loc'' hc' hl'' e=>?_)
          ·rcases Rho.add_inv hl with⟨_,rfl,_⟩|hl
           ·exact zAM9 _
           ·have:=hg0 _ _ hl;omega
          ·by_cases hgg:g'=g+1
           ·subst hgg;refine⟨_,_,Rho.add_same _ _ _ _,hnew,fun _=>by rw[hnsz];exact r1 rfl,zAM9 _,by dsimp only;rw[hnsz,hnl];rw[hcl',hisz]at hfits;omega,fun _=>rfl,fun j hj=>?_⟩;dsimp only at hj;rw[hget,Tr.get_putL];have e1:len=n*i.size:=by rw[hisz,hlen]
            by_cases hjn:len<=j/\j<len+news.length
            ·rw[if_pos hjn,if_pos (by rw[<- e1,<- hcs.1];exact hjn)];have hi1:j-len<news.length:=by omega
             have hi2:j-n*i.size<cs.length:=by rw[<- e1,<- hcs.1];exact hi1
             rw[<- e1]at hi2⊢;exact⟨_,_,zAB9 hi1,zAB9 hi2,hone _ (zBP9 hi1),(hcs.2 (j-len) _ _ (zAB9 hi1) (zAB9 hi2)).mono hm⟩
            ·rw[if_neg hjn,if_neg (by rw[<- e1,<- hcs.1];exact hjn)];obtain⟨x,u,q1,q2,q3,q4⟩:=r5 j (by omega);exact⟨x,u,q1,q2,q3,q4.mono hm⟩
           ·obtain⟨l,cu,p1,p2,p3,p4,p5,p6,p7⟩:=hrow g' h1' (by omega)
            by_cases hlr:l.r=loc.r
            ·rw[hlr]at p2;rw[hheap]at p2;injection p2 with p2;injection p2 with p2;subst p2;refine⟨l,_,hm _ _ _ p1,by rw[hlr];exact hnew,fun h=>absurd h hgg,by omega,by rw[hnsz];exact p5,fun h=>absurd h hgg,fun j hj=>?_⟩;obtain⟨x,u,q1,q2,q3,q4⟩:=p7 j hj;have e1:len=n*i.size:=by rw[hisz,hlen]
             exact⟨x,u,by rw[Tr.get_putL,if_neg (by omega)];exact q1,by rw[hget,if_neg (by omega)];exact q2,q3,q4.mono hm⟩
            ·refine⟨l,cu,hm _ _ _ p1,by rw[setRow_other w loc.r l.r _ hlr];exact p2,fun h=>absurd h hgg,by omega,p5,fun h=>absurd h hgg,fun j hj=>?_⟩;obtain⟨x,u,q1,q2,q3,q4⟩:=p7 j hj;exact⟨x,u,by rw[Tr.get_putL,if_neg (by omega)];exact q1,q2,q3,q4.mono hm⟩
          ·rcases Rho.add_inv hl with⟨_,_,rfl⟩|hl
           ·exact⟨hZr,by simpa using hrlt⟩
           ·exact⟨hZo _ _ hl,by have:=(k.dom _ _ _ hl).2.2;simpa using this⟩
          ·rcases Rho.add_inv hl with⟨_,_,rfl⟩|hl
           ·exact hc' (k.sep _ _ _ _ _ _ hl'' hρ e.symm (by dsimp only at e;omega))
           ·exact hc' (k.sep _ _ _ _ _ _ hl'' hl e.symm (by have:=hZo _ _ hl;omega))
         ·refine .sl (loc:=⟨loc.r,len+news.length,loc.S⟩) (Rho.add_same _ _ _ _) (by omega) (by omega) ?_ (.inl rfl) (fun _=>?_) s6
          ·show 0+2*(n+m)/2*esz<=len+news.length;have:2*(n+m)/2=n+m:=by omega
           rw[this,zAN9,zCN9,hnl,hlen];exact zAM9 _
          ·exact hS
        ·-- moved
         have hxl:(cur.toList.take (n*esz)).length=n*i.size:=by
          have:n*esz<=cur.size:=by rw[hcur];exact zBU9 _ (by omega)
          simp[hisz];omega
         have hrun:=run_append_grow (P:=P) w t ty e i zv ht hi hzv ⟨loc.r,0,none⟩ n cc (cur.toList.take (n*esz)) hxl (fun j u hj=>by
          rw[zdD,zAN9];have hjn:j<n*esz:=by have:=(zAD9.1 hj).1;simp at this;omega
          rw[zBD9,if_pos hjn,zBR9]at hj;simp[World.cell?,hheap,hj]) a m c cs hcl' hmem2 (by omega) (by omega) (growslice_fits (by omega) (by rw[hib];omega))
         have hcap:=grownCap_ge w (n+m) cc e;have hcap2:=grownCap_le_maxLen w (n+m) cc e (by simp only[maxLen];omega);obtain⟨bl,hbl⟩:∃bl,bl=(cur.toList.take (n*esz)).toArray++cs.toArray++Builtin.zeroCells zv.cells (grownCap w (n+m) cc e-(n+m)):=⟨_,rfl⟩
         rw[<- hbl]at hrun;have hbsz:bl.size=grownCap w (n+m) cc e*esz:=by
          rw[hbl];simp only[zFJ9,zDV9,size_zeroCells,hzvs,hcl',hxl,hisz,<- zCN9]
          congr 1;omega
         have hget:∀j,j<len+news.length->bl[j]?=if j<len then cur[j]? else cs[j-len]?:=fun j hj=>by
          rw[hbl,zEW9 (by simp only[zFJ9,zDV9,hxl,hcl',hisz];rw[hlen,<- hnl];exact hj)];rw[List.append_toArray,zFN9,zDS9,hxl,hisz,hlen]
          by_cases hjl:j<len
          ·rw[if_pos hjl,if_pos hjl,zBD9,if_pos hjl,zBR9]
          ·rw[if_neg hjl,if_neg hjl]
         have hm:=Rho.add_more (loc:=⟨w.heap.size,len+news.length,bl.size⟩) hnone;have hnew:(w.drew.alloc (.cells bl e)).heap[w.heap.size]?=some (.cells bl e):=World.alloc_heap_new w.drew _;have hold:∀r,r<w.heap.size->(w.drew.alloc (.cells bl e)).heap[r]?=w.heap[r]?:=fun r hr=>Below.heap_alloc w.drew _ r hr;refine⟨_,_,ρ.add b (g+1) ⟨w.heap.size,len+news.length,bl.size⟩,hrun,⟨hm,fun c' hc' hn' g'=>?_⟩,?_,?_,?_,zAM9 _⟩
         ·have:c'≠b:=fun e=>by subst e;rw[hn']at hρ;cases hρ
          rw[Rho.add_ne this];exact hn' g'
         ·refine k.change hm (fun c' hc' g'=>Rho.add_ne hc' g') hρ (by simp) (fun c' g' loc' hc' hl'=>hold _ (k.dom _ _ _ hl').2.2) ⟨by omega,fun g' l hl=>?_,fun g' h1' h2'=>?_⟩ (fun g' l hl=>?_) (fun g' l hl c' g'' loc'' hc' hl'' e=>?_)
          ·rcases Rho.add_inv hl with⟨_,rfl,_⟩|hl
           ·exact zAM9 _
           ·have:=hg0 _ _ hl;omega
          ·by_cases hgg:g'=g+1
           ·subst hgg;have hle:len+news.length<=bl.size:=by
             rw[hbsz,hnl,<- hlen,<- zCN9];exact zBU9 _ hcap
            refine⟨_,_,Rho.add_same _ _ _ _,hnew,fun _=>rfl,zAM9 _,hle,fun _=>rfl,fun j hj=>?_⟩;dsimp only at hj;rw[hget j hj,Tr.get_putL]
            by_cases hjn:len<=j/\j<len+news.length
            ·rw[if_pos hjn,if_neg (by omega)];have hi1:j-len<news.length:=by omega
             have hi2:j-len<cs.length:=by rw[<- hcs.1];exact hi1
             exact⟨_,_,zAB9 hi1,zAB9 hi2,hone _ (zBP9 hi1),(hcs.2 (j-len) _ _ (zAB9 hi1) (zAB9 hi2)).mono hm⟩
            ·rw[if_neg hjn,if_pos (by omega)];obtain⟨x,u,q1,q2,q3,q4⟩:=r5 j (by omega);exact⟨x,u,q1,q2,q3,q4.mono hm⟩
           ·obtain⟨l,cu,p1,p2,p3,p4,p5,p6,p7⟩:=hrow g' h1' (by omega);refine⟨l,cu,hm _ _ _ p1,by rw[hold _ (k.dom _ _ _ p1).2.2];exact p2,fun h=>absurd h hgg,by omega,p5,fun h=>absurd h hgg,fun j hj=>?_⟩;obtain⟨x,u,q1,q2,q3,q4⟩:=p7 j hj;exact⟨x,u,by rw[Tr.get_putL,if_neg (by omega)];exact q1,q2,q3,q4.mono hm⟩
          ·rcases Rho.add_inv hl with⟨_,_,rfl⟩|hl
           ·exact⟨hZ,by simp⟩
           ·exact⟨hZo _ _ hl,by have:=(k.dom _ _ _ hl).2.2;simp;omega⟩
          ·rcases Rho.add_inv hl with⟨_,_,rfl⟩|hl
           ·have:=(k.dom _ _ _ hl'').2.2;dsimp only at e;omega
           ·exact hc' (k.sep _ _ _ _ _ _ hl'' hl e.symm (by have:=hZo _ _ hl;omega))
         ·exact⟨rfl,rfl,rfl,by simp,fun j hj=>hold j (by omega)⟩
         ·refine .sl (Rho.add_same _ _ _ _) (by omega) (by omega) ?_ (.inl rfl) (fun _=>?_) hcap2
          ·show 0+2*(n+m)/2*esz<=len+news.length;have:2*(n+m)/2=n+m:=by omega
           rw[this,zAN9,zCN9,hnl,hlen];exact zAM9 _
          ·exact(zAN9 _).trans hbsz.symm
      ·cases ha
     ·cases ha
    ·have hm0':=zAJ9 hm0;simp only[cond_true]at ha;injection ha with ha;injection ha with ha1 ha2;subst ha1;subst ha2
     cases hsr with
     | sl hρ s1 s2 s3 s4 s5 s6=>exact⟨_,_,ρ,zi2 ht hs (by omega) hm0',Rho.le.refl _ _,k,Below.refl _ _,.sl hρ s1 s2 s3 s4 s5 s6,zAM9 _⟩
 ·cases ha
theorem zvD (k:WR P Z ρ h w){dT sT e ty:TypeId}{esz:Nat}(ht:P.underlying dT=some (.slice e))(hs:zbS P e=some esz){vs:List TV}{d' x':Value}(hv:VL ρ vs [d',x']){v:TV}
  (ha:zfB esz h vs=some (.ok v h')):∃v' w',(Builtin.copy_ #[dT,sT] ty #[d',x']).run P w=.ok v' w'/\WR P Z ρ h' w'/\Below Z w w'/\VR ρ v v'/\h.next<=h'.next:=by
 unfold zfB at ha
 split at ha
 ·rename_i d x;obtain⟨hdr,hxr⟩:=hv.two rfl;dsimp only at ha
  split at ha
  ·cases ha
  ·rename_i news hnews;obtain⟨A,m,c,cs,hx',hm,hcs,hcl,hone,hmem⟩:=zhP k hxr hnews (Nat.min_le_left _ _);subst hx'
   split at ha
   ·injection ha with ha;injection ha with ha1 ha2;subst ha1;subst ha2
    cases hdr
    refine⟨goInt 0,w,?_,k,Below.refl _ _,.int _ _,zAM9 _⟩
    cases A<;>simp[Builtin.copy_,run_underlying ht,Builtin.lenOf,Builtin.firstCells,zbJ hs,loadCells,loadCellsFrom]
   ·rename_i b g o n q z
    cases hdr with
    | sl hρ s1 s2 s3 s4 s5 s6 =>
     rename_i o' cc loc;have hmin:Nat.min m n=min (lenV x) (lenV (.sl b g o n q z)):=by rw[hm];rfl
     cases hm0:Nat.beq (min (lenV x) (lenV (.sl b g o n q z))) 0<;>rw[hm0]at ha
     ·simp only[cond_false]at ha;have hne:min (lenV x) (lenV (.sl b g o n q z))≠0:=fun e=>by rw[e]at hm0;simp at hm0
      obtain⟨hz,ha2⟩:=zI ha;have hz':=zAJ9 hz;clear ha hz;subst hz'
      split at ha2
      ·rename_i h2 hw;injection ha2 with ha2;injection ha2 with ha1 ha3;subst ha1;subst ha3;obtain⟨a,hA,hmem2⟩:=hmem hne;subst hA;have ho:o'=o:=by
        rcases s4 with hh|⟨hh,_⟩
        ·exact hh
        ·subst hh;simp[lenV]at hne
       subst ho;obtain⟨w',hst,hw',hb,hnx⟩:=ziL k hρ hcs hone hw;have hl:=run_loadCells_list (P:=P) w a cs hmem2;refine⟨.int .i64 (Int.ofNat (min (lenV x) (lenV (.sl b g o' n q esz)))),w',?_,hw',hb,.int _ _,by rw[hnx];exact zAM9 _⟩;rw[hcl,<- hmin]at hl;rw[<- hmin];simp[Builtin.copy_,run_underlying ht,Builtin.lenOf,Builtin.firstCells,zbJ hs,hl,hst,goInt]
      ·cases ha2
     ·simp only[cond_true]at ha;injection ha with ha;injection ha with ha1 ha2;subst ha1;subst ha2;have he:=zAJ9 hm0;rw[<- hmin]at he;refine⟨goInt 0,w,?_,k,Below.refl _ _,.int _ _,zAM9 _⟩;have hz0:∀a:Addr,(storeCells a [] 0).run P w=.ok () w:=fun a=>by simp[storeCells]
      cases A<;>simp[Builtin.copy_,run_underlying ht,Builtin.lenOf,Builtin.firstCells,zbJ hs,he,loadCells,loadCellsFrom,hz0]
   ·cases ha
 ·cases ha
theorem zlj (k:WR P Z ρ h w)(hZ:Z<=w.heap.size){o:Oper}{kd:zT}{args:List TOp}(ho:opK P o.op=some (kd,args))(hc:kd.cls=2)(hn:kd ≠ .call/\kd ≠ .panic/\kd ≠ .defer){a:Act}{tm:Tr TV}(ht:TmR ρ tm a.tmps){vs:List TV}(hv:zdw tm args=some vs){C:zbt}{ca:Tr Unit}{v:TV}(hp:act C ca kd vs h=some (.ok v h')) :
  zgI P Z ρ h h' w (execOp a.eval o) v:=by
 have key:∀{k0:zT} {xs:List Operand},mk k0 xs=some (kd,args)->kd=k0/\VL ρ vs (xs.map a.eval):=fun hm=>by
  obtain⟨h1,h2⟩:=ziI hm;exact⟨h1,zer ht h2 hv⟩
 obtain⟨dst,op,ty,pos,after,guard⟩:=o
 cases op with
 | move x=>obtain⟨rfl,_⟩:=key ho;cases hc
 | assign x=>obtain⟨rfl,_⟩:=key ho;cases hc
 | pick c x y=>obtain⟨rfl,_⟩:=key ho;cases hc
 | alloc e=>simp only[opK]at ho;split at ho<;>first|(cases ho;done)|skip;split at ho<;>first|(cases ho;done)|skip;obtain⟨rfl,_⟩:=key ho;cases hc
 | box e x=>simp only[opK]at ho;split at ho<;>first|(cases ho;done)|skip;obtain⟨rfl,_⟩:=key ho;cases hc
 | build t parts=>simp only[opK]at ho;split at ho<;>first|(cases ho;done)|skip;obtain⟨rfl,_⟩:=key ho;cases hc
 | buildSlice t len parts =>
  simp only[opK]at ho
  split at ho<;>first|(cases ho;done)|skip
  split at ho<;>first|(cases ho;done)|skip
  split at ho<;>first|(cases ho;done)|skip
  obtain⟨rfl,_⟩:=key ho;cases hc
 | insert t m x y =>
  simp only[opK]at ho
  split at ho<;>first|(cases ho;done)|skip
  rename_i hu
  split at ho<;>first|(cases ho;done)|skip
  all_goals
   rename_i hd;obtain⟨rfl,hl⟩:=key ho
  ·obtain⟨rfl,h1⟩:=ziJ k hu hd (.inl ⟨rfl,_,rfl⟩) hl hp;exact h1
  ·obtain⟨rfl,h1⟩:=ziJ k hu hd (.inr ⟨rfl,rfl⟩) hl hp;exact h1
 | load t x=>simp only[opK]at ho;split at ho<;>first|(cases ho;done)|skip;obtain⟨rfl,_⟩:=key ho;cases hc
 | store t x y =>
  simp only[opK]at ho
  split at ho<;>first|(cases ho;done)|skip
  rename_i hs;obtain⟨rfl,hl⟩:=key ho;obtain⟨rfl,h1⟩:=ztX k hs hl hp;exact h1
 | ready g=>cases ho
 | waits g=>cases ho
 | nilCheck x=>obtain⟨rfl,_⟩:=key ho;cases hc
 | binOp op t x y yt =>
  simp only[opK]at ho
  repeat' (split at ho)
  all_goals first|(cases ho;done)|(obtain⟨rfl,_⟩:=key ho;cases hc)
 | unOp op t x=>obtain⟨rfl,_⟩:=key ho;cases hc
 | convert src dst' x=>simp only[opK]at ho;split at ho<;>first|(cases ho;done)|(obtain⟨rfl,_⟩:=key ho;cases hc)
 | sliceToArrayPointer t x=>cases ho
 | makeInterface t x=>simp only[opK]at ho;split at ho<;>first|(cases ho;done)|(obtain⟨rfl,_⟩:=key ho;cases hc)
 | makeFunc fn first captured =>
  cases fn<;>simp only[opK]at ho<;>first|(cases ho;done)|skip
  split at ho
  ·obtain⟨rfl,_⟩:=key ho;cases hc
  ·cases ho
 | makeMap t r=>simp only[opK]at ho;split at ho<;>first|(cases ho;done)|(obtain⟨rfl,_⟩:=key ho;cases hc)
 | makeChan t s=>cases ho
 | makeSlice t l c =>
  simp only[opK]at ho
  repeat' (split at ho)
  all_goals first|(cases ho;done)|(obtain⟨rfl,_⟩:=key ho;cases hc)
 | slice t x lo hi mx =>
  simp only[opK]at ho
  repeat' (split at ho)
  all_goals first|(cases ho;done)|(obtain⟨rfl,_⟩:=key ho;cases hc)
 | fieldAddr t x f=>simp only[opK]at ho;split at ho<;>first|(cases ho;done)|(obtain⟨rfl,_⟩:=key ho;cases hc)
 | field t x f=>simp only[opK]at ho;split at ho<;>first|(cases ho;done)|(obtain⟨rfl,_⟩:=key ho;cases hc)
 | indexAddr t x i =>
  simp only[opK]at ho
  repeat' (split at ho)
  all_goals first|(cases ho;done)|(obtain⟨rfl,_⟩:=key ho;cases hc)
 | index t x i =>
  simp only[opK]at ho
  repeat' (split at ho)
  all_goals first|(cases ho;done)|(obtain⟨rfl,_⟩:=key ho;cases hc)
 | lookup t m x ok =>
  simp only[opK]at ho
  repeat' (split at ho)
  all_goals first|(cases ho;done)|(obtain⟨rfl,_⟩:=key ho;cases hc)
 | mapUpdate t m x y =>
  simp only[opK]at ho
  split at ho<;>first|(cases ho;done)|skip
  rename_i hu
  split at ho<;>first|(cases ho;done)|skip
  all_goals
   rename_i hd;obtain⟨rfl,hl⟩:=key ho
  ·obtain⟨rfl,h1⟩:=ziJ k hu hd (.inl ⟨rfl,_,rfl⟩) hl hp;exact h1
  ·obtain⟨rfl,h1⟩:=ziJ k hu hd (.inr ⟨rfl,rfl⟩) hl hp;exact h1
 | mapEntry t m x =>
  simp only[opK]at ho
  split at ho<;>first|(cases ho;done)|skip
  rename_i hu
  split at ho<;>first|(cases ho;done)|skip
  all_goals
   rename_i hd hz;obtain⟨rfl,hl⟩:=key ho
  ·exact zpa k hu hd (.inl ⟨rfl,_,rfl⟩) hz hl hp
  ·exact zpa k hu hd (.inr ⟨rfl,rfl⟩) hz hl hp
 | entryStore t m s x =>
  obtain⟨rfl,hl⟩:=key ho;obtain⟨rfl,h1⟩:=zs5 (t:=t) k hl hp;exact h1
 | range t x=>cases ho
 | next i b=>cases ho
 | entry i=>cases ho
 | typeAssert x xt t ok=>simp only[opK]at ho;split at ho<;>first|(cases ho;done)|(obtain⟨rfl,_⟩:=key ho;cases hc)
 | extract x i=>obtain⟨rfl,_⟩:=key ho;cases hc
 | call c =>
  obtain⟨callee,cargs,ts⟩:=c
  cases callee with
  | value f=>obtain⟨rfl,_⟩:=key ho;exact absurd rfl hn.1
  | invoke r m=>cases ho
  | builtin b =>
   simp only[opK]at ho
   split at ho
   ·rename_i t u hts
    split at ho<;>first|(cases ho;done)|skip
    rename_i e he
    split at ho<;>first|(cases ho;done)|skip
    rename_i n by_ z hs hby hz
    split at ho<;>first|(cases ho;done)|skip
    rename_i hzl
    split at ho<;>first|(cases ho;done)|skip
    rename_i hut;subst hut;obtain⟨rfl,hl⟩:=key ho;obtain⟨xs⟩:=cargs;obtain⟨ts⟩:=ts;simp at hts;subst hts;have hlen:xs.length=2:=by
     have h1:=hl.1;change ze9 _ _ _ h vs=_ at hp;unfold ze9 at hp
     split at hp
     ·simpa using h1.symm
     ·cases hp
    match xs,hlen with
    | [x0,x1],_ =>
     obtain⟨v',w',ρ',h1,h2,h3,h4,h5,h6⟩:=zxh (ty:=ty) k hZ (ziA he) hs hby hz hzl hl hp;refine⟨_,v',w',ρ',?_,.inl rfl,h2,h3,h4,h5,h6⟩;simp only[execOp,zcJ];simpa[builtin]using zeN h1
   ·rename_i t u hts
    split at ho<;>first|(cases ho;done)|skip
    rename_i e he
    split at ho<;>first|(cases ho;done)|skip
    rename_i n hs;obtain⟨rfl,hl⟩:=key ho;obtain⟨xs⟩:=cargs;obtain⟨ts⟩:=ts;simp at hts;subst hts;have hlen:xs.length=2:=by
     have h1:=hl.1;change zfB _ h vs=_ at hp;unfold zfB at hp
     split at hp
     ·simpa using h1.symm
     ·cases hp
    match xs,hlen with
    | [x0,x1],_ =>
     obtain⟨v',w',h1,h3,h4,h5,h6⟩:=zvD (ty:=ty) (sT:=u) k (ziA he) hs hl hp;refine⟨_,v',w',ρ,?_,.inl rfl,Rho.le.refl _ _,h3,h4,h5,h6⟩;simp only[execOp,zcJ];simpa[builtin]using zeN h1
   ·repeat' (split at ho)
    all_goals first|(cases ho;done)|(obtain⟨rfl,_⟩:=key ho;cases hc)
   ·split at ho<;>first|(cases ho;done)|(obtain⟨rfl,_⟩:=key ho;cases hc)
   ·split at ho<;>first|(cases ho;done)|(obtain⟨rfl,_⟩:=key ho;cases hc)
   ·split at ho
    ·obtain⟨rfl,_⟩:=key ho;exact absurd rfl hn.2.1
    ·cases ho
   ·cases ho
 | go c=>cases ho
 | defer c =>
  obtain⟨callee,cargs,ts⟩:=c
  cases callee<;>first|(cases ho;done)|(obtain⟨rfl,_⟩:=key ho;exact absurd rfl hn.2.2)
 | panic x=>obtain⟨rfl,_⟩:=key ho;exact absurd rfl hn.2.1
 | send c x=>cases ho
 | recv t c b=>cases ho
 | select cs b=>cases ho
theorem zlO (k:WR P Z ρ h w){b:Nat}(hnone:∀g,ρ b g=none)(hb:b<h.next)(hZ:Z<=w.heap.size){o:Oper}{kd:zT}{args:List TOp}(ho:opK P o.op=some (kd,args))(hc:kd.cls=1){a:Act}{tm:Tr TV}(ht:TmR ρ tm a.tmps){vs:List TV}(hv:zdw tm args=some vs){x:zde}(hp:lay kd vs b=some x)(hx:h.get b=some x.o) :
  zhl P Z ρ h w b (execOp a.eval o) x.v:=by
 have key:∀{k0:zT} {xs:List Operand},mk k0 xs=some (kd,args)->kd=k0/\VL ρ vs (xs.map a.eval):=fun hm=>by
  obtain⟨h1,h2⟩:=ziI hm;exact⟨h1,zer ht h2 hv⟩
 obtain⟨dst,op,ty,pos,after,guard⟩:=o
 cases op with
 | alloc e =>
  simp only[opK]at ho
  split at ho<;>first|(cases ho;done)|skip
  rename_i hz hs
  split at ho<;>first|(cases ho;done)|skip
  rename_i hzl;obtain⟨rfl,hl⟩:=key ho;exact zui k hnone hb hZ hs hz hzl hp hx
 | box e y =>
  simp only[opK]at ho
  split at ho<;>first|(cases ho;done)|skip
  rename_i hs;obtain⟨rfl,hl⟩:=key ho;exact zxj k hnone hb hZ hs hl hp hx
 | buildSlice t len parts =>
  simp only[opK]at ho
  split at ho<;>first|(cases ho;done)|skip
  rename_i e he
  split at ho<;>first|(cases ho;done)|skip
  rename_i hs hz
  split at ho<;>first|(cases ho;done)|skip
  rename_i hzl;obtain⟨rfl,hl⟩:=key ho;exact zsa k hnone hb hZ (ziA he) hs hz hzl hl hp hx
 | makeSlice t l c =>
  simp only[opK]at ho
  split at ho<;>first|(cases ho;done)|skip
  rename_i e he
  split at ho<;>first|(cases ho;done)|skip
  rename_i hs hby hz
  split at ho<;>first|(cases ho;done)|skip
  rename_i hzl;obtain⟨rfl,hl⟩:=key ho;exact zqX k hnone hb hZ (ziA he) hs hby hz hzl hl hp hx
 | makeMap t r =>
  simp only[opK]at ho
  split at ho<;>first|(cases ho;done)|skip
  ·rename_i hu;obtain⟨rfl,hl⟩:=key ho;exact zou k hnone hb hZ hu (r:=none) hl hp hx
  ·rename_i y hu;obtain⟨rfl,hl⟩:=key ho;exact zou k hnone hb hZ hu (r:=some (a.eval y)) hl hp hx
 | move x=>obtain⟨rfl,_⟩:=key ho;cases hc
 | assign x=>obtain⟨rfl,_⟩:=key ho;cases hc
 | pick c x y=>obtain⟨rfl,_⟩:=key ho;cases hc
 | build t parts=>simp only[opK]at ho;split at ho<;>first|(cases ho;done)|skip;obtain⟨rfl,_⟩:=key ho;cases hc
 | insert t m x y=>simp only[opK]at ho;(repeat' (split at ho))<;>first|(cases ho;done)|(obtain⟨rfl,_⟩:=key ho;cases hc)
 | load t x=>simp only[opK]at ho;split at ho<;>first|(cases ho;done)|skip;obtain⟨rfl,_⟩:=key ho;cases hc
 | store t x y=>simp only[opK]at ho;split at ho<;>first|(cases ho;done)|skip;obtain⟨rfl,_⟩:=key ho;cases hc
 | ready g=>cases ho
 | waits g=>cases ho
 | nilCheck x=>obtain⟨rfl,_⟩:=key ho;cases hc
 | binOp op t x y yt=>simp only[opK]at ho;(repeat' (split at ho))<;>first|(cases ho;done)|(obtain⟨rfl,_⟩:=key ho;cases hc)
 | unOp op t x=>obtain⟨rfl,_⟩:=key ho;cases hc
 | convert src dst' x=>simp only[opK]at ho;split at ho<;>first|(cases ho;done)|(obtain⟨rfl,_⟩:=key ho;cases hc)
 | sliceToArrayPointer t x=>cases ho
 | makeInterface t x=>simp only[opK]at ho;split at ho<;>first|(cases ho;done)|(obtain⟨rfl,_⟩:=key ho;cases hc)
 | makeFunc fn first captured =>
  cases fn<;>simp only[opK]at ho<;>first|(cases ho;done)|skip
  split at ho
  ·obtain⟨rfl,_⟩:=key ho;cases hc
  ·cases ho
 | makeChan t s=>cases ho
 | slice t x lo hi mx=>simp only[opK]at ho;(repeat' (split at ho))<;>first|(cases ho;done)|(obtain⟨rfl,_⟩:=key ho;cases hc)
 | fieldAddr t x f=>simp only[opK]at ho;split at ho<;>first|(cases ho;done)|(obtain⟨rfl,_⟩:=key ho;cases hc)
 | field t x f=>simp only[opK]at ho;split at ho<;>first|(cases ho;done)|(obtain⟨rfl,_⟩:=key ho;cases hc)
 | indexAddr t x i=>simp only[opK]at ho;(repeat' (split at ho))<;>first|(cases ho;done)|(obtain⟨rfl,_⟩:=key ho;cases hc)
 | index t x i=>simp only[opK]at ho;(repeat' (split at ho))<;>first|(cases ho;done)|(obtain⟨rfl,_⟩:=key ho;cases hc)
 | lookup t m x ok=>simp only[opK]at ho;(repeat' (split at ho))<;>first|(cases ho;done)|(obtain⟨rfl,_⟩:=key ho;cases hc)
 | mapUpdate t m x y=>simp only[opK]at ho;(repeat' (split at ho))<;>first|(cases ho;done)|(obtain⟨rfl,_⟩:=key ho;cases hc)
 | mapEntry t m x=>simp only[opK]at ho;(repeat' (split at ho))<;>first|(cases ho;done)|(obtain⟨rfl,_⟩:=key ho;cases hc)
 | entryStore t m s x=>obtain⟨rfl,_⟩:=key ho;cases hc
 | range t x=>cases ho
 | next i b=>cases ho
 | entry i=>cases ho
 | typeAssert x xt t ok=>simp only[opK]at ho;split at ho<;>first|(cases ho;done)|(obtain⟨rfl,_⟩:=key ho;cases hc)
 | extract x i=>obtain⟨rfl,_⟩:=key ho;cases hc
 | call c =>
  obtain⟨callee,cargs,ts⟩:=c
  cases callee with
  | value f=>obtain⟨rfl,_⟩:=key ho;cases hc
  | invoke r m=>cases ho
  | builtin b=>simp only[opK]at ho;(repeat' (split at ho))<;>first|(cases ho;done)|(obtain⟨rfl,_⟩:=key ho;cases hc)
 | go c=>cases ho
 | defer c =>
  obtain⟨callee,cargs,ts⟩:=c
  cases callee<;>first|(cases ho;done)|(obtain⟨rfl,_⟩:=key ho;cases hc)
 | panic x=>obtain⟨rfl,_⟩:=key ho;cases hc
 | send c x=>cases ho
 | recv t c b=>cases ho
 | select cs b=>cases ho
def Fr (r:Option Nat):Fence:={ Fence.wide with round:=r }
theorem zsR {r:Option Nat}{n:Nat}{f:FuncId}{args:Array Value}{w:World}{R:Ending->World->Prop}:CallsIn (Fr r) n P f args w R↔CallsIn (Fr none) n P f args w R:=Iff.rfl
theorem ztc {r:Option Nat}{n l f:Nat}{tmps:Array Value}{assign body:Code}{w:World}{R:Ending->World->Prop}:RoundIn (Fr r) n P l f tmps assign body w R↔RoundIn (Fr none) n P l f tmps assign body w R:=Iff.rfl
def zhS (P:Program)(Z:Nat)(ρ:Rho)(h h':TH)(w:World)(r:TE)(e:Ending)(w':World):Prop :=
 ∃ρ',Rho.le h.next ρ ρ'/\WR P Z ρ' h' w'/\Below Z w w'/\h.next<=h'.next/\match r with
  | .ret v=>∃v',e=.returned v'/\VR ρ' v v'
  | .panic v=>∃v',e=.panicked [{ v:=v',recovered:=false }]/\VR ρ' v v'
def zfF (P:Program)(C:zbt):Prop:=∀f args h r h',C.fn f args h=some (r,h')->∀(Z:Nat) ρ w (args':List Value),WR P Z ρ h w->Z<=w.heap.size->VL ρ args args' ->
 (∀w,(callFunc f args'.toArray).run P w=.ok (.enter f args'.toArray) w)/\CallsIn (Fr none) 0 P f args'.toArray w (zhS P Z ρ h h' w r)
def zhb (P:Program)(C:zbt):Prop:=∀l args h b h',C.rd l args h=some (b,h')->∀(Z:Nat) ρ w (args':List Value) loc,WR P Z ρ h w->Z<=w.heap.size->ρ l 0=some loc->VL ρ args args' ->
 ∃fn tmps assign body,(Instr.yield loc.r args'.toArray).run P w=.ok (.round loc.r fn tmps assign body) w/\RoundIn (Fr none) 0 P loc.r fn tmps assign body w (zhS P Z ρ h h' w (.ret (.bool b)))
inductive DfR (ρ:Rho)(ca:Tr Unit):List TD->List Deferred->Prop
 | nil:DfR ρ ca [] []
 | mark {b:Nat} {loc:Loc} {l:List TD} {ds:List Deferred} (h:ρ b 0=some loc) (hl:DfR ρ ca l ds):DfR ρ ca (.mark b::l) ({ target:=.collected loc.r,args:=#[] }::ds)
 | caught {f:Nat} {p c:TV} {p' c':Value} {l:List TD} {ds:List Deferred} (h:ca.get f=some ()) (hp:VR ρ p p') (hc:VR ρ c c') (hl:DfR ρ ca l ds):DfR ρ ca (.caught p c::l) ({ target:=.fn (.func f) #[],args:=#[p',c'] }::ds)
theorem DfR.mono {ca:Tr Unit}(hρ:∀b g loc,ρ b g=some loc->ρ' b g=some loc){l:List TD}{ds:List Deferred}(k:DfR ρ ca l ds):DfR ρ' ca l ds:=by
 induction k with
 | nil=>exact .nil
 | mark h _ ih=>exact .mark (hρ _ _ _ h) ih
 | caught h hp hc _ ih=>exact .caught h (hp.mono hρ) (hc.mono hρ) ih
structure StR (P:Program)(Z:Nat)(ρ:Rho)(N:Nat)(ca:Tr Unit)(s:St)(a:Act)(w:World):Prop where
 wr:WR P Z ρ s.h w
 tm:TmR ρ s.tm a.tmps
 sz:N<=a.tmps.size
 df:DfR ρ ca s.df a.defers
 hZ:Z<=w.heap.size
theorem TmR.put {tm:Tr TV}{a:Act}(k:TmR ρ tm a.tmps){d:Option Nat}{v:TV}{v':Value}(hv:VR ρ v v')(hd:∀t,d=some t->t<a.tmps.size):TmR ρ (match d with|none=>tm|some d=>tm.set d (some v)) (a.put d v').tmps:=by
 cases d with
 | none=>exact k
 | some d =>
  intro t u hu;have hlt:=hd d rfl;simp only[Tr.get_set]at hu;simp only[Act.put]
  by_cases ht:t=d
  ·subst ht;rw[if_pos rfl]at hu;injection hu with hu;subst hu;exact⟨v',by simp[hlt],hv⟩
  ·rw[if_neg ht]at hu;obtain⟨u',h1,h2⟩:=k t u hu;exact⟨u',by rw[zDR9 (fun e=>ht e.symm)];exact h1,h2⟩
theorem zbO (a:Act)(d:Option Nat)(v:Value):(a.put d v).tmps.size=a.tmps.size:=by cases d<;>simp[Act.put]
theorem zhF (a:Act)(d:Option Nat)(v:Value):(a.put d v).defers=a.defers:=by cases d<;>rfl
theorem St.put_df (s:St)(d:Option Nat)(v:TV):(s.put d v).df=s.df:=by cases d<;>rfl
theorem St.put_h (s:St)(d:Option Nat)(v:TV):(s.put d v).h=s.h:=by cases d<;>rfl
theorem StR.put {N:Nat}{ca:Tr Unit}{s:St}{a:Act}(k:StR P Z ρ N ca s a w){d:Option Nat}{v:TV}{v':Value}(hv:VR ρ v v')(hd:∀t,d=some t->t<N):StR P Z ρ N ca (s.put d v) (a.put d v') w :=
 ⟨by rw[St.put_h];exact k.wr,by have:=k.tm.put (d:=d) hv (fun t ht=>zBE9 (hd t ht) k.sz);cases d<;>exact this,by rw[zbO];exact k.sz,by rw[St.put_df,zhF];exact k.df,k.hZ⟩
structure OpR (P:Program)(N:Nat)(ops:Array Oper)(o:Oper)(t:zY):Prop where
 op:opK P o.op=some (t.kind,t.args)
 dst:t.dst=o.dst
 lt:∀d,t.dst=some d->d<N
 guard:(o.guard=none/\t.guard=none)\/∃j b d,o.guard=some (j,b)/\(ops[j]?).bind (·.dst)=some d/\t.guard=some (.tmp d,b)
theorem zpC {N:Nat}{ops:Array Oper}{o:Oper}{t:zY}(ht:zkf P N ops o=some t):OpR P N ops o t:=by
 unfold zkf at ht
 split at ht
 ·cases ht
 ·rename_i hb;have hlt:∀d,o.dst=some d->d<N:=fun d hd=>by
   simp[hd]at hb;exact hb
  split at ht
  ·cases ht
  ·rename_i kd args hk
   split at ht
   ·rename_i hg;injection ht with ht;subst ht;exact⟨hk,rfl,hlt,.inl ⟨hg,rfl⟩⟩
   ·rename_i j b hg
    split at ht
    ·rename_i d hd;injection ht with ht;subst ht;exact⟨hk,rfl,hlt,.inr ⟨j,b,d,hg,hd,rfl⟩⟩
    ·cases ht
def zqB:Option Value->Option Bool
 | some (.bool b)=>some b
 | _=>none
theorem zsK (ops:Array Oper)(tmps:Array Value)(j:Nat):yielded ops tmps j=zqB (((ops[j]?).bind (·.dst)).bind (tmps[·]?)):=by
 unfold yielded zqB
 split<;>simp_all
theorem zvW {x:Option TV}{c b:Bool}(hw:zgc c x=some b){y:Option Value}(hxy:∀v,x=some v->∃v',y=some v'/\VR ρ v v'):(zqB y==some c)=b:=by
 unfold zgc at hw
 split at hw
 ·rename_i u;injection hw with hw;subst hw;obtain⟨v',e1,e2⟩:=hxy _ rfl
  cases e2
  rw[e1]
  cases c<;>cases u<;>rfl
 ·rename_i v hv;injection hw with hw;subst hw;obtain⟨v',e1,e2⟩:=hxy _ rfl;rw[e1]
  cases e2<;>first|rfl|(exact absurd rfl (hv _))
 ·cases hw
theorem zeA {N:Nat}{ops:Array Oper}{o:Oper}{t:zY}(k:OpR P N ops o t){tm:Tr TV}{tmps:Array Value}(ht:TmR ρ tm tmps){b:Bool}(hw:zkS tm t.guard=some b):Region.wanted o (yielded ops tmps)=b:=by
 rcases k.guard with⟨h1,h2⟩|⟨j,c,d,h1,h2,h3⟩
 ·rw[h2]at hw;injection hw with hw;subst hw;simp[Region.wanted,h1]
 ·rw[h3]at hw;simp only[zkS,zeE]at hw;simp only[Region.wanted,h1];have:=zvW (ρ:=ρ) hw (y:=tmps[d]?) (fun v hv=>ht d v hv);rw[zsK,h2];exact this
def TSR (P:Program)(Z:Nat)(ρ:Rho)(N:Nat)(ca:Tr Unit)(h0:TH)(w0:World)(r:TS)(e:Exit)(a':Act)(w':World):Prop :=
 ∃ρ',Rho.le h0.next ρ ρ'/\Below Z w0 w'/\match r with
  | .go s=>h0.next<=s.h.next/\e=.normal/\StR P Z ρ' N ca s a' w'
  | .panic v s=>h0.next<=s.h.next/\∃v',e=.panic [{ v:=v',recovered:=false }]/\VR ρ' v v'/\StR P Z ρ' N ca s a' w'
theorem zdV {r:Option Nat}{o:Oper}{a:Act}{K:Act->World->Prop}{Q:Exit->Act->World->Prop}(hd:∀c,o.op=.defer c->r=none)(h1:o.uponIn (Fr r) 0 P a K Q ((execOp a.eval o).run P w)):o.wpIn (Fr r) 0 P a w K Q:=by
 refine⟨fun _ _=>trivial,?_⟩;have:o.semAt (Fr r).round a.eval=execOp a.eval o:=by
  unfold Oper.semAt
  split
  ·rename_i l c hr ho;have:=hd c ho;simp[Fr,this]at hr
  ·rfl
 rw[this];exact h1
inductive zl0 (args:List TOp):zT->Op->Prop
 | call {f:Operand} {xs:Array Operand} {ts:Array TypeId} (hm:zct opT (f::xs.toList)=some args):zl0 args .call (.call { callee:=.value f,args:=xs,argTypes:=ts })
 | panic {x:Operand} (hm:zct opT [x]=some args):zl0 args .panic (.panic x)
 | panicB {x:Operand} {ts:Array TypeId} (hm:zct opT [x]=some args):zl0 args .panic (.call { callee:=.builtin .panic,args:=#[x],argTypes:=ts })
 | defer {f:Operand} {xs:Array Operand} {ts:Array TypeId} (hm:zct opT (f::xs.toList)=some args):zl0 args .defer (.defer { callee:=.value f,args:=xs,argTypes:=ts })
theorem znu {op:Op}{kd:zT}{args:List TOp}(ho:opK P op=some (kd,args))(hk:kd=.call\/kd=.panic\/kd=.defer):zl0 args kd op:=by
 have key:∀{k0:zT} {xs:List Operand},mk k0 xs=some (kd,args)->kd=k0/\zct opT xs=some args:=fun hm=>ziI hm;have no:∀{α:Prop} {k0:zT} {xs:List Operand},mk k0 xs=some (kd,args)->k0 ≠ .call->k0 ≠ .panic->k0 ≠ .defer->α:=fun hm h1 h2 h3=>by
  obtain⟨e,_⟩:=key hm;subst e;rcases hk with h|h|h<;>contradiction
 cases op with
 | move x=>exact no ho (by simp) (by simp) (by simp)
 | assign x=>exact no ho (by simp) (by simp) (by simp)
 | pick c x y=>exact no ho (by simp) (by simp) (by simp)
 | alloc e=>simp only[opK]at ho;(repeat' (split at ho))<;>first|(cases ho;done)|(exact no ho (by simp) (by simp) (by simp))
 | box e x=>simp only[opK]at ho;(repeat' (split at ho))<;>first|(cases ho;done)|(exact no ho (by simp) (by simp) (by simp))
 | build t parts=>simp only[opK]at ho;(repeat' (split at ho))<;>first|(cases ho;done)|(exact no ho (by simp) (by simp) (by simp))
 | buildSlice t len parts=>simp only[opK]at ho;(repeat' (split at ho))<;>first|(cases ho;done)|(exact no ho (by simp) (by simp) (by simp))
 | insert t m x y=>simp only[opK]at ho;(repeat' (split at ho))<;>first|(cases ho;done)|(exact no ho (by simp) (by simp) (by simp))
 | load t x=>simp only[opK]at ho;(repeat' (split at ho))<;>first|(cases ho;done)|(exact no ho (by simp) (by simp) (by simp))
 | store t x y=>simp only[opK]at ho;(repeat' (split at ho))<;>first|(cases ho;done)|(exact no ho (by simp) (by simp) (by simp))
 | ready g=>cases ho
 | waits g=>cases ho
 | nilCheck x=>exact no ho (by simp) (by simp) (by simp)
 | binOp op t x y yt=>simp only[opK]at ho;(repeat' (split at ho))<;>first|(cases ho;done)|(exact no ho (by simp) (by simp) (by simp))
 | unOp op t x=>exact no ho (by simp) (by simp) (by simp)
 | convert src dst' x=>simp only[opK]at ho;(repeat' (split at ho))<;>first|(cases ho;done)|(exact no ho (by simp) (by simp) (by simp))
 | sliceToArrayPointer t x=>cases ho
 | makeInterface t x=>simp only[opK]at ho;(repeat' (split at ho))<;>first|(cases ho;done)|(exact no ho (by simp) (by simp) (by simp))
 | makeFunc fn first captured =>
  cases fn<;>simp only[opK]at ho<;>first|(cases ho;done)|skip
  split at ho
  ·exact no ho (by simp) (by simp) (by simp)
  ·cases ho
 | makeMap t r=>simp only[opK]at ho;(repeat' (split at ho))<;>first|(cases ho;done)|(exact no ho (by simp) (by simp) (by simp))
 | makeChan t s=>cases ho
 | makeSlice t l c=>simp only[opK]at ho;(repeat' (split at ho))<;>first|(cases ho;done)|(exact no ho (by simp) (by simp) (by simp))
 | slice t x lo hi mx=>simp only[opK]at ho;(repeat' (split at ho))<;>first|(cases ho;done)|(exact no ho (by simp) (by simp) (by simp))
 | fieldAddr t x f=>simp only[opK]at ho;(repeat' (split at ho))<;>first|(cases ho;done)|(exact no ho (by simp) (by simp) (by simp))
 | field t x f=>simp only[opK]at ho;(repeat' (split at ho))<;>first|(cases ho;done)|(exact no ho (by simp) (by simp) (by simp))
 | indexAddr t x i=>simp only[opK]at ho;(repeat' (split at ho))<;>first|(cases ho;done)|(exact no ho (by simp) (by simp) (by simp))
 | index t x i=>simp only[opK]at ho;(repeat' (split at ho))<;>first|(cases ho;done)|(exact no ho (by simp) (by simp) (by simp))
 | lookup t m x ok=>simp only[opK]at ho;(repeat' (split at ho))<;>first|(cases ho;done)|(exact no ho (by simp) (by simp) (by simp))
 | mapUpdate t m x y=>simp only[opK]at ho;(repeat' (split at ho))<;>first|(cases ho;done)|(exact no ho (by simp) (by simp) (by simp))
 | mapEntry t m x=>simp only[opK]at ho;(repeat' (split at ho))<;>first|(cases ho;done)|(exact no ho (by simp) (by simp) (by simp))
 | entryStore t m s x=>exact no ho (by simp) (by simp) (by simp)
 | range t x=>cases ho
 | next i b=>cases ho
 | entry i=>cases ho
 | typeAssert x xt t ok=>simp only[opK]at ho;(repeat' (split at ho))<;>first|(cases ho;done)|(exact no ho (by simp) (by simp) (by simp))
 | extract x i=>exact no ho (by simp) (by simp) (by simp)
 | call c =>
  obtain⟨callee,cargs,ts⟩:=c
  cases callee with
  | value f=>obtain⟨rfl,hm⟩:=key ho;exact .call hm
  | invoke r m=>cases ho
  | builtin b =>
   simp only[opK]at ho
   split at ho
   ·(repeat' (split at ho))<;>first|(cases ho;done)|(exact no ho (by simp) (by simp) (by simp))
   ·(repeat' (split at ho))<;>first|(cases ho;done)|(exact no ho (by simp) (by simp) (by simp))
   ·(repeat' (split at ho))<;>first|(cases ho;done)|(exact no ho (by simp) (by simp) (by simp))
   ·(repeat' (split at ho))<;>first|(cases ho;done)|(exact no ho (by simp) (by simp) (by simp))
   ·(repeat' (split at ho))<;>first|(cases ho;done)|(exact no ho (by simp) (by simp) (by simp))
   ·split at ho
    ·rename_i hsz;obtain⟨rfl,hm⟩:=key ho;obtain⟨xs⟩:=cargs
     match xs,hsz with
     | [x],_=>exact .panicB hm
    ·cases ho
   ·cases ho
 | go c=>cases ho
 | defer c =>
  obtain⟨callee,cargs,ts⟩:=c
  cases callee with
  | value f=>obtain⟨rfl,hm⟩:=key ho;exact .defer hm
  | invoke r m=>cases ho
  | builtin b=>cases ho
 | panic x=>obtain⟨rfl,hm⟩:=key ho;exact .panic hm
 | send c x=>cases ho
 | recv t c b=>cases ho
 | select cs b=>cases ho
theorem zol {C:zbt}{ca:Tr Unit}{kd:zT}(hn:kd ≠ .call/\kd ≠ .panic/\kd ≠ .defer){vs:List TV}{h:TH}{r:TR}(ha:act C ca kd vs h=some r):∃v h',r=.ok v h':=by
 have orr:∀{b:Bool} {x y:Option TR},(bif b then x else y)=some r->x=some r\/y=some r:=fun{b} _ _ e=>by cases b;exact .inr e;exact .inl e
 have fin:∀{v h'} {r:TR},some (TR.ok v h')=some r->∃v h',r=.ok v h':=fun e=>by injection e with e;exact⟨_,_,e.symm⟩
 cases kd<;>simp only[act]at ha<;>first|(cases ha;done)|(exact absurd rfl hn.1)|(exact absurd rfl hn.2.1)|(exact absurd rfl hn.2.2)|skip
 case store n =>
  unfold zgm at ha
  split at ha
  ·obtain⟨_,ha1⟩:=zI ha;obtain⟨_,ha2⟩:=zI ha1
   split at ha2
   ·exact fin ha2
   ·cases ha2
  ·cases ha
 case mupd kf =>
  unfold ziT at ha
  split at ha
  ·obtain⟨_,ha1⟩:=zI ha
   split at ha1
   ·unfold zsQ at ha1
    split at ha1
    ·split at ha1
     ·cases ha1
     ·exact fin ha1
     ·exact fin ha1
    ·cases ha1
   ·cases ha1
  ·cases ha
 case ment kf z =>
  unfold zoG at ha
  split at ha
  ·obtain⟨_,ha1⟩:=zI ha
   split at ha1
   ·unfold zsX at ha1
    split at ha1
    ·split at ha1
     ·cases ha1
     ·exact fin ha1
     ·exact fin ha1
    ·cases ha1
   ·cases ha1
  ·cases ha
 case estore =>
  unfold zkk at ha
  split at ha
  ·split at ha
   ·split at ha
    ·unfold zvL at ha
     split at ha
     ·split at ha
      ·cases ha
      ·exact fin ha
     ·cases ha
    ·cases ha
   ·cases ha
  ·cases ha
 case append e n b =>
  unfold ze9 at ha
  split at ha
  ·unfold zs8 at ha
   split at ha
   ·cases ha
   ·split at ha
    ·rcases orr ha with ha|ha
     ·exact fin ha
     ·simp only[zjb]at ha;obtain⟨_,ha1⟩:=zI ha;exact fin ha1
    ·rcases orr ha with ha|ha
     ·exact fin ha
     ·obtain⟨_,ha1⟩:=zI ha;obtain⟨_,ha2⟩:=zI ha1;obtain⟨_,ha3⟩:=zI ha2
      split at ha3
      ·unfold zmi at ha3
       split at ha3
       ·obtain⟨_,ha4⟩:=zI ha3;obtain⟨_,ha5⟩:=zI ha4;obtain⟨_,ha6⟩:=zI ha5;obtain⟨_,ha7⟩:=zI ha6;exact fin ha7
       ·cases ha3
      ·cases ha3
    ·cases ha
  ·cases ha
 case copy n =>
  unfold zfB at ha
  split at ha
  ·dsimp only at ha
   split at ha
   ·cases ha
   ·split at ha
    ·exact fin ha
    ·rcases orr ha with ha|ha
     ·exact fin ha
     ·obtain⟨_,ha1⟩:=zI ha
      split at ha1
      ·exact fin ha1
      ·cases ha1
    ·cases ha
  ·cases ha
theorem zvr {k:zT}(h0:k.cls≠0)(h1:k.cls≠1):k.cls=2:=by cases k<;>simp[zT.cls]at h0 h1⊢
theorem zuz {r:Option Nat}{o:Oper}{a:Act}{K:Act->World->Prop}{Q:Exit->Act->World->Prop}{f:FuncId}{args:Array Value}(h:CallsIn (Fr none) 0 P f args w fun
  | .returned v,w''=>K (a.put o.dst v) w''
  | .panicked chain,w''=>Q (.panic chain) a w''
  | .outgrown,_=>LetsOut Q):o.uponIn (Fr r) 0 P a K Q (.ok (.enter f args) w):=⟨fun h=>by simp[Fr,Fence.wide]at h,h⟩
theorem StR.world {N:Nat}{ca:Tr Unit}{s:St}{a:Act}(k:StR P Z ρ N ca s a w){n:Nat}{h':TH}{w':World}(hle:Rho.le n ρ ρ')(hw:WR P Z ρ' h' w')(hb:Below Z w w'):StR P Z ρ' N ca ⟨s.tm,s.df,h'⟩ a w' :=
 ⟨hw,k.tm.mono hle.more,k.sz,k.df.mono hle.more,zBN9 k.hZ hb.size⟩
theorem zru {rnd:Option Nat}{N:Nat}{ops:Array Oper}{tm:Tr TV}{a:Act}(k:WR P Z ρ h w)(ktm:TmR ρ tm a.tmps){o:Oper}{t:zY}(ko:OpR P N ops o t){vs:List TV}(hv:zdw tm t.args=some vs)(h0:t.kind.cls=0){v:TV}(hp:pas t.kind vs h=some v)
  {K:Act->World->Prop} {Q:Exit->Act->World->Prop} (hK:∀v',VR ρ v v'->K (a.put o.dst v') w):o.wpIn (Fr rnd) 0 P a w K Q:=by
 obtain⟨v',h1,h2⟩:=zmd k ko.op h0 ktm hv hp;refine zdV (fun c hc=>?_) ?_
 ·exfalso
  have hk:=ko.op;rw[hc]at hk;obtain⟨callee,xs,ts⟩:=c
  cases callee<;>first|(cases hk;done)|(obtain⟨e,_⟩:=ziI hk;rw[e]at h0;cases h0)
 ·rw[h1,Oper.uponIn_value];exact hK v' h2
theorem zrz {rnd:Option Nat}{N:Nat}{ops:Array Oper}{tm:Tr TV}{a:Act}(k:WR P Z ρ h w)(hZ:Z<=w.heap.size)(ktm:TmR ρ tm a.tmps){o:Oper}{t:zY}(ko:OpR P N ops o t){vs:List TV}(hv:zdw tm t.args=some vs)(h1:t.kind.cls=1){b:Nat}(hnone:∀g,ρ b g=none)(hb:b<h.next){x:zde}(hp:lay t.kind vs b=some x)(hx:h.get b=some x.o)
  {K:Act->World->Prop} {Q:Exit->Act->World->Prop} (hK:∀v' ob L S,WR P Z (ρ.add b 0 ⟨w.heap.size,L,S⟩) h (w.alloc ob)->VR (ρ.add b 0 ⟨w.heap.size,L,S⟩) x.v v'->K (a.put o.dst v') (w.alloc ob)):o.wpIn (Fr rnd) 0 P a w K Q:=by
 obtain⟨v',ob,L,S,g1,g2,g3⟩:=zlO k hnone hb hZ ko.op h1 ktm hv hp hx;refine zdV (fun c hc=>?_) ?_
 ·exfalso
  have hk:=ko.op;rw[hc]at hk;obtain⟨callee,xs,ts⟩:=c
  cases callee<;>first|(cases hk;done)|(obtain⟨e,_⟩:=ziI hk;rw[e]at h1;cases h1)
 ·rw[g1,Oper.uponIn_value];exact hK v' ob L S g2 g3
theorem zrX {C:zbt}(hC:zfF P C)(hR:zhb P C){rnd:Option Nat}{ca:Tr Unit}(hrnd:rnd=none\/∀f,ca.get f=none){N:Nat}{ops:Array Oper}{tm:Tr TV}{df:List TD}{a:Act}(k:WR P Z ρ h w)(hZ:Z<=w.heap.size)(ktm:TmR ρ tm a.tmps)(kdf:DfR ρ ca df a.defers){o:Oper}{t:zY}(ko:OpR P N ops o t){vs:List TV}(hv:zdw tm t.args=some vs)(h2:t.kind.cls=2){r:TR}(hd:act C ca t.kind vs h=some r)
  {K:Act->World->Prop} {Q:Exit->Act->World->Prop} (hOk:∀v h',r=.ok v h'->∀v' w' ρ',Rho.le h.next ρ ρ'->WR P Z ρ' h' w'->Below Z w w'->VR ρ' v v'->h.next<=h'.next->K (a.put o.dst v') w')
  (hPan:∀v h',r=.panic v h'->∀v' w' ρ',Rho.le h.next ρ ρ'->WR P Z ρ' h' w'->Below Z w w'->VR ρ' v v'->h.next<=h'.next->Q (.panic [{ v:=v',recovered:=false }]) a w')
  (hDfr:∀d,r=.dfr d->∀d',DfR ρ ca (d::df) (d'::a.defers)->K ({ a with defers:=d'::a.defers }.put o.dst undef) w):o.wpIn (Fr rnd) 0 P a w K Q:=by
 by_cases hcall:t.kind=.call
 ·-- a call
  have hop:=znu ko.op (.inl hcall);rw[hcall]at hop hd;generalize hoo:o.op=op at hop
  cases hop with
  | call hm =>
   rename_i f xs ts;have hl:=zer ktm hm hv;simp only[zCH9]at hl;simp only[act]at hd;unfold zlk at hd
   split at hd
   ·rename_i g cap args;obtain⟨f',cs',e1,hf,hargs⟩:=hl.of_cons;injection e1 with e1 e2;subst e1;subst e2;generalize hfv:a.eval f=fv at hf
    cases hf with
    | fn hcl hcr =>
     rename_i caps
     cases hcr0:C.fn g (args++cap) h with
     | none=>rw[hcr0]at hd;cases hd
     | some res =>
      obtain⟨te,h'⟩:=res;rw[hcr0]at hd;obtain⟨hent,hcalls⟩:=hC g _ _ te h' hcr0 Z ρ w (xs.toList.map a.eval++caps) k hZ (hargs.app ⟨hcl,hcr⟩);have hrun:(execOp a.eval o).run P w=.ok (.enter g (xs.toList.map a.eval++caps).toArray) w:=by
       have hargsA:xs.map a.eval++caps.toArray=(xs.toList.map a.eval++caps).toArray:=by
        obtain⟨xs⟩:=xs;simp
       simp only[execOp,hoo,resolve,hfv,Deferred.ofValue,Sem.run_bind,Sem.run_pure,Result.andThen_ok,invoke,Array.empty_append,hargsA];exact hent w
      refine zdV (fun c hc=>by rw[hoo]at hc;cases hc) ?_;rw[hrun];refine zuz (hcalls.mono ?_);rintro e w' ⟨ρ',hle,hwr,hb,hn,he⟩
      cases te with
      | ret v =>
       obtain⟨v',rfl,hvr⟩:=he;simp only[ziD]at hd;injection hd with hd;subst hd;exact hOk v h' rfl v' w' ρ' hle hwr hb hvr hn
      | panic v =>
       obtain⟨v',rfl,hvr⟩:=he;simp only[ziD]at hd;injection hd with hd;subst hd;exact hPan v h' rfl v' w' ρ' hle hwr hb hvr hn
   ·rename_i l args;obtain⟨f',cs',e1,hf,hargs⟩:=hl.of_cons;injection e1 with e1 e2;subst e1;subst e2;generalize hfv:a.eval f=fv at hf
    cases hf with
    | yield hloc =>
     rename_i loc
     cases hcr0:C.rd l args h with
     | none=>rw[hcr0]at hd;cases hd
     | some res =>
      obtain⟨b,h'⟩:=res;rw[hcr0]at hd;simp only[zoZ]at hd;injection hd with hd;subst hd;obtain⟨fn,tmps,assign,body,hy,hrd⟩:=hR l _ _ b h' hcr0 Z ρ w (xs.toList.map a.eval) loc k hZ hloc hargs;have hrun:(execOp a.eval o).run P w=.ok (.round loc.r fn tmps assign body) w:=by
       have hargsA:xs.map a.eval=(xs.toList.map a.eval).toArray:=by
        obtain⟨xs⟩:=xs;simp
       simp only[execOp,hoo,resolve,hfv,Deferred.ofValue,Sem.run_bind,Sem.run_pure,Result.andThen_ok,invoke,Array.empty_append,hargsA];exact hy
      refine zdV (fun c hc=>by rw[hoo]at hc;cases hc) ?_;rw[hrun,Oper.uponIn_round];refine⟨fun h=>by simp[Fr,Fence.wide]at h,ztc.2 (hrd.mono ?_)⟩;rintro e w' ⟨ρ',hle,hwr,hb,hn,v',rfl,hvr⟩;exact hOk _ h' rfl v' w' ρ' hle hwr hb hvr hn
   ·cases hd
 ·by_cases hpan:t.kind=.panic
  ·have hop:=znu ko.op (.inr (.inl hpan));rw[hpan]at hop hd;simp only[act]at hd;unfold ztz at hd
   split at hd
   ·rename_i ty u;injection hd with hd;subst hd;have fin:∀x:Operand,zct opT [x]=some t.args->(execOp a.eval o).run P w=.halt (.panic (a.eval x)) w->(∀c,o.op ≠ .defer c)->o.wpIn (Fr rnd) 0 P a w K Q:=fun x hm hrun hnd=>by
     have hl:=zer ktm hm hv;have hx:=hl.uno rfl;refine zdV (fun c hc=>absurd hc (hnd c)) ?_;rw[hrun,Oper.uponIn_panic];exact hPan _ _ rfl _ w ρ (Rho.le.refl _ _) k (Below.refl _ _) hx (zAM9 _)
    have hpr:∀x:Operand,zct opT [x]=some t.args->(Instr.panic (a.eval x)).run P w=.halt (.panic (a.eval x)) w:=fun x hm=>by
     have hl:=zer ktm hm hv;have hx:=hl.uno rfl;generalize a.eval x=xv at hx
     cases hx
     simp[Instr.panic,goPanic,Sem.run]
    generalize hoo:o.op=op at hop
    cases hop with
    | panic hm =>
     refine fin _ hm ?_ (fun c hc=>by rw[hoo]at hc;cases hc);simp only[execOp,hoo,Sem.run_bind,hpr _ hm];rfl
    | panicB hm =>
     refine fin _ hm ?_ (fun c hc=>by rw[hoo]at hc;cases hc);simp only[execOp,hoo,zcJ];simp[builtin,hpr _ hm]
   ·cases hd
  ·by_cases hdef:t.kind=.defer
   ·have hop:=znu ko.op (.inr (.inr hdef));rw[hdef]at hop hd;simp only[act]at hd;unfold zpg at hd
    split at hd
    ·rename_i g p c
     split at hd
     ·rename_i u hca;injection hd with hd;subst hd;generalize hoo:o.op=op at hop
      cases hop with
      | defer hm =>
       rename_i f xs ts;have hl:=zer ktm hm hv;simp only[zCH9]at hl;obtain⟨f',cs',e1,hf,hargs⟩:=hl.of_cons;injection e1 with e1 e2;subst e1;obtain⟨p',cs2,e3,hp,hargs⟩:=hargs.of_cons;obtain⟨c',cs3,e4,hc,hargs⟩:=hargs.of_cons;obtain rfl:=hargs.of_nil;subst e4;subst e3;have hrn:rnd=none:=by
        rcases hrnd with h|h
        ·exact h
        ·rw[h]at hca;cases hca
       generalize hfv:a.eval f=fv at hf
       cases hf with
       | fn hcl hcr =>
        rename_i caps;have hcaps:caps=[]:=by cases caps;rfl;simp at hcl
        subst hcaps;have hrun:(execOp a.eval o).run P w=.ok (.defer { target:=.fn (.func g) #[],args:=#[p',c'] }) w:=by
         have hargsA:xs.map a.eval=#[p',c']:=by
          obtain⟨xs⟩:=xs;simpa using e2
         simp only[execOp,hoo,resolve,hfv,Deferred.ofValue,Sem.run_bind,Sem.run_pure,Result.andThen_ok,hargsA];rfl
        refine zdV (fun _ _=>hrn) ?_;rw[hrun,Oper.uponIn_defer];exact hDfr _ rfl _ (.caught hca hp hc kdf)
     ·cases hd
    ·cases hd
   ·-- what calls nothing
    cases r with
    | ok v h' =>
     obtain⟨n,v',w',ρ',g1,g2,g3,g4,g5,g6,g7⟩:=zlj k hZ ko.op h2 ⟨hcall,hpan,hdef⟩ ktm hv hd;refine zdV (fun c hc=>?_) ?_
     ·exfalso
      have hk:=ko.op;rw[hc]at hk;obtain⟨callee,xs,ts⟩:=c
      cases callee<;>first|(cases hk;done)|(obtain⟨e,_⟩:=ziI hk;exact hdef e)
     ·have hfin:K (a.put o.dst v') w':=hOk _ _ rfl v' w' ρ' g3 g4 g5 g6 g7;rcases g2 with rfl|⟨rfl,rfl⟩
      ·rw[g1,Oper.uponIn_value];exact hfin
      ·rw[g1,Oper.uponIn_skip];exact hfin
    | panic v h'=>obtain⟨_,_,e⟩:=zol ⟨hcall,hpan,hdef⟩ hd;cases e
    | dfr d=>obtain⟨_,_,e⟩:=zol ⟨hcall,hpan,hdef⟩ hd;cases e
theorem zxz {C:zbt}(hC:zfF P C)(hR:zhb P C){rnd:Option Nat}{ca:Tr Unit}(hrnd:rnd=none\/∀f,ca.get f=none){N:Nat}{ops:Array Oper}{s:St}{a:Act}(k:StR P Z ρ N ca s a w){o:Oper}{t:zY}(ko:OpR P N ops o t){vs:List TV}(hv:zdw s.tm t.args=some vs){r:TS}(hd:zit C ca t s vs=some r)
  {K:Act->World->Prop} {Q:Exit->Act->World->Prop} (hK:∀a' w',TSR P Z ρ N ca s.h w r .normal a' w'->K a' w') (hQ:∀ch a' w',TSR P Z ρ N ca s.h w r (.panic ch) a' w'->Q (.panic ch) a' w'):o.wpIn (Fr rnd) 0 P a w K Q:=by
 have hdst:∀{ρ':Rho} {s':St} {a:Act} {w':World} {v:TV} {v':Value},StR P Z ρ' N ca s' a w'->VR ρ' v v'->StR P Z ρ' N ca (s'.put t.dst v) (a.put o.dst v') w':=fun k' hv'=>by
  rw[<- ko.dst];exact k'.put hv' ko.lt
 unfold zit at hd
 by_cases h0:t.kind.cls=0
 ·rw[h0]at hd;simp only[zxL]at hd
  split at hd
  ·rename_i v hp;injection hd with hd;subst hd;exact zru k.wr k.tm ko hv h0 hp fun v' h2=>hK _ _ ⟨ρ,Rho.le.refl _ _,Below.refl _ _,by rw[St.put_h];exact zAM9 _,rfl,hdst k h2⟩
  ·cases hd
 ·by_cases h1:t.kind.cls=1
  ·rw[h1]at hd;simp only[zx0]at hd
   split at hd
   ·rename_i x hp;injection hd with hd;subst hd;have hnone:∀g,ρ s.h.next g=none:=fun g=>by
     cases hg:ρ s.h.next g with
     | none=>rfl
     | some loc=>have:=(k.wr.dom _ _ _ hg).1;omega
    refine zrz (k.wr.push x.o) k.hZ k.tm ko hv h1 hnone (by rw[TH.next_push];omega) hp (by rw[TH.get_push,if_pos rfl]) fun v' ob L S g2 g3=>?_;have hm:=Rho.add_more (loc:=⟨w.heap.size,L,S⟩) (hnone 0);have hle:Rho.le s.h.next ρ (ρ.add s.h.next 0 ⟨w.heap.size,L,S⟩):=⟨hm,fun c hc hn g=>by rw[Rho.add_ne (by omega)];exact hn g⟩
    have hbl:Below Z w (w.alloc ob):=((Below.refl Z w).alloc k.hZ ob)
    exact hK _ _ ⟨_,hle,hbl,by rw[St.put_h,TH.next_push];omega,rfl,hdst (k.world hle g2 hbl) g3⟩
   ·cases hd
  ·have h2:=zvr h0 h1;rw[h2]at hd;change zmU t.dst s (act C ca t.kind vs s.h)=some r at hd
   cases hact:act C ca t.kind vs s.h with
   | none=>rw[hact]at hd;cases hd
   | some tr =>
    rw[hact]at hd;refine zrX hC hR hrnd k.wr k.hZ k.tm k.df ko hv h2 hact (fun v h' e v' w' ρ' hle hwr hb hvr hn=>?_) (fun v h' e v' w' ρ' hle hwr hb hvr hn=>?_) (fun d e d' hdf=>?_)
    ·subst e;simp only[zmU]at hd;injection hd with hd;subst hd;exact hK _ _ ⟨ρ',hle,hb,by rw[St.put_h];exact hn,rfl,hdst (k.world hle hwr hb) hvr⟩
    ·subst e;simp only[zmU]at hd;injection hd with hd;subst hd;exact hQ _ _ _ ⟨ρ',hle,hb,hn,v',rfl,hvr,k.world hle hwr hb⟩
    ·subst e;simp only[zmU]at hd;injection hd with hd;subst hd;have k2:StR P Z ρ N ca ⟨s.tm,d::s.df,s.h⟩ { a with defers:=d'::a.defers } w:=⟨k.wr,k.tm,k.sz,hdf,k.hZ⟩
     exact hK _ _ ⟨ρ,Rho.le.refl _ _,Below.refl _ _,by rw[St.put_h];exact zAM9 _,rfl,hdst k2 (VR.undef ρ)⟩
theorem TSR.trans {N:Nat}{ca:Tr Unit}{h0 h1:TH}{w0 w1:World}(hle:Rho.le h0.next ρ ρ')(hb:Below Z w0 w1)(hn:h0.next<=h1.next){r:TS}{e:Exit}{a':Act}{w':World}(k:TSR P Z ρ' N ca h1 w1 r e a' w'):TSR P Z ρ N ca h0 w0 r e a' w':=by
 obtain⟨ρ2,h1,h2,h3⟩:=k;refine⟨ρ2,hle.trans h1 hn,hb.trans h2,?_⟩
 cases r with
 | go s=>exact⟨zBN9 hn h3.1,h3.2⟩
 | panic v s=>exact⟨zBN9 hn h3.1,h3.2⟩
theorem zoY {C:zbt}(hC:zfF P C)(hR:zhb P C){rnd:Option Nat}{ca:Tr Unit}(hrnd:rnd=none\/∀f,ca.get f=none){N:Nat}{ops:Array Oper}{s:St}{a:Act}(k:StR P Z ρ N ca s a w){o:Oper}{t:zY}(ko:OpR P N ops o t){r:TS}(hs:zfk C ca t s=some r)
  {K:Act->World->Prop} {Q:Exit->Act->World->Prop} (hK:∀a' w',TSR P Z ρ N ca s.h w r .normal a' w'->K a' w') (hQ:∀ch a' w',TSR P Z ρ N ca s.h w r (.panic ch) a' w'->Q (.panic ch) a' w') :
  (if Region.wanted o (yielded ops a.tmps)then o.wpIn (Fr rnd) 0 P a w K Q else(∀f,o.about P w a.eval=some f->(Fr rnd).fn f)/\K (a.put o.dst undef) w):=by
 unfold zfk at hs
 split at hs
 ·cases hs
 ·rename_i hw;injection hs with hs;subst hs;rw[zeA ko k.tm hw];simp only[zCW9,if_false];refine⟨fun _ _=>trivial,hK _ _ ⟨ρ,Rho.le.refl _ _,Below.refl _ _,by rw[St.put_h];exact zAM9 _,rfl,?_⟩⟩;rw[<- ko.dst];exact k.put (VR.undef ρ) ko.lt
 ·rename_i hw;rw[zeA ko k.tm hw];simp only[if_true]
  split at hs
  ·cases hs
  ·rename_i vs hv;exact zxz hC hR hrnd k ko hv hs hK hQ
theorem zo1 {C:zbt}(hC:zfF P C)(hR:zhb P C){rnd:Option Nat}{ca:Tr Unit}(hrnd:rnd=none\/∀f,ca.get f=none){N:Nat}{ops:Array Oper}{Q:Exit->Act->World->Prop}:∀(ts:List zY) (is:List Nat) (s:St) (a:Act) (w:World) (ρ:Rho) (r:TS),
  is.length=ts.length->(∀(j:Nat) t,ts[j]?=some t->∃i o,is[j]?=some i/\ops[i]?=some o/\OpR P N ops o t)->StR P Z ρ N ca s a w->zbx C ca ts s=some r->(∀e a' w',TSR P Z ρ N ca s.h w r e a' w'->Q e a' w')->wpOpsIn (Fr rnd) 0 P ops Q is a w
 | [],is,s,a,w,ρ,r,hl,_,k,hs,hQ=>by
  have:is=[]:=by cases is;rfl;simp at hl
  subst this;simp only[zbx]at hs;injection hs with hs;subst hs;exact hQ _ _ _ ⟨ρ,Rho.le.refl _ _,Below.refl _ _,zAM9 _,rfl,k⟩
 | t::ts,is,s,a,w,ρ,r,hl,hop,k,hs,hQ=>by
  cases is with
  | nil=>simp at hl
  | cons i is =>
   obtain⟨i',o,hi,ho,ko⟩:=hop 0 t rfl;simp at hi;subst hi;rw[wpOpsIn_cons];unfold wpOpIn;rw[ho];simp only[zbx]at hs;have hop':∀(j:Nat) t,ts[j]?=some t->∃i o,is[j]?=some i/\ops[i]?=some o/\OpR P N ops o t:=fun j t' ht=>hop (j+1) t' (by simpa using ht)
   split at hs
   ·rename_i s' hs1;refine zoY hC hR hrnd k ko hs1 (fun a' w' hr=>?_) (fun ch a' w' hr=>?_)
    ·obtain⟨ρ',hle,hb,hn,_,k'⟩:=hr;exact zo1 hC hR hrnd ts is s' a' w' ρ' r (by simpa using hl) hop' k' hs fun e a2 w2 hr2=>hQ e a2 w2 (hr2.trans hle hb hn)
    ·obtain⟨_,_,_,_,e,_⟩:=hr
     cases e
   ·rename_i hs1;refine zoY (r:=r) hC hR hrnd k ko hs (fun a' w' hr=>?_) (fun ch a' w' hr=>hQ _ _ _ hr)
    cases r with
    | go s'=>exact absurd hs (hs1 s')
    | panic v s'=>obtain⟨_,_,_,_,_,e,_⟩:=hr;cases e
def XR (ρ:Rho)(x:TX)(e:Exit):Prop:=match x with
 | .norm=>e=.normal
 | .exit id=>e=.exit id
 | .goto l=>e=.goto l
 | .ret=>e=.ret
 | .panic v=>∃v',e=.panic [{ v:=v',recovered:=false }]/\VR ρ v v'
def CR (P:Program)(Z:Nat)(ρ:Rho)(N:Nat)(ca:Tr Unit)(h0:TH)(w0:World)(x:TX)(s:St)(e:Exit)(a':Act)(w':World):Prop :=
 ∃ρ',Rho.le h0.next ρ ρ'/\Below Z w0 w'/\h0.next<=s.h.next/\XR ρ' x e/\StR P Z ρ' N ca s a' w'
theorem CR.trans {N:Nat}{ca:Tr Unit}{h0 h1:TH}{w0 w1:World}(hle:Rho.le h0.next ρ ρ')(hb:Below Z w0 w1)(hn:h0.next<=h1.next){x:TX}{s:St}{e:Exit}{a':Act}{w':World}(k:CR P Z ρ' N ca h1 w1 x s e a' w'):CR P Z ρ N ca h0 w0 x s e a' w':=by
 obtain⟨ρ2,h1,h2,h3,h4,h5⟩:=k;exact⟨ρ2,hle.trans h1 hn,hb.trans h2,zBN9 hn h3,h4,h5⟩
theorem ziW:∀(ts:List zY) (tm:Tr TV) (t:Nat) v,(zdv ts tm).get t=some v->tm.get t=some v
 | [],tm,t,v,h=>h
 | o::ts,tm,t,v,h=>by
  simp only[zdv]at h;have:=ziW ts _ t v h
  split at this
  ·rw[Tr.get_set]at this
   split at this
   ·cases this
   ·exact this
  ·exact this
theorem StR.forget {N:Nat}{ca:Tr Unit}{s:St}{a:Act}(k:StR P Z ρ N ca s a w){tm:Tr TV}(ht:∀t v,tm.get t=some v->s.tm.get t=some v):StR P Z ρ N ca ⟨tm,s.df,s.h⟩ a w :=
 ⟨k.wr,fun t v hv=>k.tm t v (ht t v hv),k.sz,k.df,k.hZ⟩
theorem zuN {C:zbt}(hC:zfF P C)(hR:zhb P C){rnd:Option Nat}{ca:Tr Unit}(hrnd:rnd=none\/∀f,ca.get f=none){N:Nat}{id:Nat}{ops:Array Oper}{ts:List zY}(hts:zct (zkf P N ops) ops.toList=some ts){s:St}{a:Act}(k:StR P Z ρ N ca s a w){x:TX}{s':St}(hs:zlM (zdv ts) (zbx C ca ts s)=some (x,s')) :
  (Code.region id ops false).wpIn (Fr rnd) 0 P (CR P Z ρ N ca s.h w x s') a w:=by
 obtain⟨h1,h2⟩:=zh8 hts;refine wpIn_region ?_
 cases hst:zbx C ca ts s with
 | none=>rw[hst]at hs;cases hs
 | some r =>
  rw[hst]at hs;refine zo1 hC hR hrnd ts _ s a w ρ r (by simp[h1]) (fun j t ht=>?_) k hst fun e a' w' hr=>?_
  ·have hj:j<ops.size:=by have:=(zAD9.1 ht).1;rw[h1]at this;simpa using this
   refine⟨j,ops[j],by simp[hj],zCL9 hj,zpC (h2 j ops[j] t (by simp[hj]) ht)⟩
  ·obtain⟨ρ',hle,hb,hr⟩:=hr
   cases r with
   | go s2 =>
    obtain⟨hn,rfl,k'⟩:=hr;simp only[zlM]at hs;injection hs with hs;injection hs with hs1 hs2;subst hs1;subst hs2;exact⟨ρ',hle,hb,hn,rfl,k'⟩
   | panic v s2 =>
    obtain⟨hn,v',rfl,hv,k'⟩:=hr;simp only[zlM]at hs;injection hs with hs;injection hs with hs1 hs2;subst hs1;subst hs2;exact⟨ρ',hle,hb,hn,⟨v',rfl,hv⟩,k'.forget fun t u hu=>ziW ts _ t u hu⟩
theorem zgH {f:TV->TV->Bool}(hf:∀a b,f a b=true->a=b):∀{l m:List TV},zjQ f l m=true->l=m
 | [],[],_=>rfl
 | a::l,b::m,h=>by
  simp only[zjQ]at h
  cases hab:f a b
  ·rw[hab]at h;cases h
  ·rw[hab]at h;rw[hf a b hab,zgH hf h]
 | [],_::_,h=>by cases h
 | _::_,[],h=>by cases h
theorem zg8 {b:TV}{n:Nat}(h:Nat.beq (zeW b) n=true):zeW b=n:=zAJ9 h
theorem bnd {a b:Bool}(h:(bif a then b else false)=true):a=true/\b=true:=by cases a<;>simp_all
theorem TV.beq_sound:∀(n:Nat) (a b:TV),TV.beq n a b=true->a=b
 | 0,_,_,h=>by cases h
 | n+1,a,b,h=>by
  have ih:=TV.beq_sound n
  cases a with
  | bool x =>
   cases b<;>simp only[TV.beq,zr4]at h<;>try cases h
   rename_i y
   cases x<;>cases y<;>simp_all
  | int k x =>
   cases b<;>simp only[TV.beq,zqt]at h<;>try cases h
   obtain⟨h1,h2⟩:=bnd h;rw[zcD]at h2;rw[zgR h1,eq_of_beq h2]
  | str s =>
   cases b<;>simp only[TV.beq,zt4]at h<;>try cases h
   rw[zf0]at h;rw[eq_of_beq h]
  | ptr c g o e =>
   cases b<;>simp only[TV.beq,zlA]at h<;>try cases h
   obtain⟨h1,h⟩:=bnd h;obtain⟨h2,h⟩:=bnd h;obtain⟨h3,h⟩:=bnd h;rw[zAJ9 h1,zAJ9 h2,zAJ9 h3,zAJ9 h]
  | sl c g o m q z =>
   cases b<;>simp only[TV.beq,zoM]at h<;>try cases h
   obtain⟨h1,h⟩:=bnd h;obtain⟨h2,h⟩:=bnd h;obtain⟨h3,h⟩:=bnd h;obtain⟨h4,h⟩:=bnd h;obtain⟨h5,h⟩:=bnd h;rw[zAJ9 h1,zAJ9 h2,zAJ9 h3,zAJ9 h4,zAJ9 h5,zAJ9 h]
  | map c =>
   cases b<;>simp only[TV.beq,zt0]at h<;>try cases h
   rw[zAJ9 h]
  | yield c =>
   cases b<;>simp only[TV.beq,zqA]at h<;>try cases h
   rw[zAJ9 h]
  | fn f l =>
   cases b<;>simp only[TV.beq,zsf]at h<;>try cases h
   obtain⟨h1,h⟩:=bnd h;rw[zAJ9 h1,zgH ih h]
  | iface t v =>
   cases b<;>simp only[TV.beq,zk1]at h<;>try cases h
   obtain⟨h1,h⟩:=bnd h;rw[zAJ9 h1,ih _ _ h]
  | agg l =>
   cases b<;>simp only[TV.beq,zuP]at h<;>try cases h
   rw[zgH ih h]
  | tuple l =>
   cases b<;>simp only[TV.beq,zpL]at h<;>try cases h
   rw[zgH ih h]
  | nilptr=>have:=zg8 (by simpa only[TV.beq]using h);cases b<;>simp[zeW]at this;rfl
  | nilsl=>have:=zg8 (by simpa only[TV.beq]using h);cases b<;>simp[zeW]at this;rfl
  | nilmap=>have:=zg8 (by simpa only[TV.beq]using h);cases b<;>simp[zeW]at this;rfl
  | nilfn=>have:=zg8 (by simpa only[TV.beq]using h);cases b<;>simp[zeW]at this;rfl
  | niliface=>have:=zg8 (by simpa only[TV.beq]using h);cases b<;>simp[zeW]at this;rfl
theorem zks:∀{n i:Nat} {a b:Tr TV},zkh i n a b=true->∀j,i<=j->j<i+n->∃x,a.get j=some x/\b.get j=some x
 | 0,i,a,b,_,j,h1,h2=>by omega
 | n+1,i,a,b,h,j,h1,h2=>by
  unfold zkh at h
  split at h
  ·rename_i x y hx hy;obtain⟨e1,e2⟩:=bnd h;have e:=TV.beq_sound _ _ _ e1
   by_cases hj:j=i
   ·subst hj;exact⟨x,hx,by rw[hy,e]⟩
   ·exact zks e2 j (by omega) (by omega)
  ·cases h
def OEq (a b:TO):Prop:=(∀cs,a ≠ .ro cs)/\∀(P:Program) (ρ:Rho) (c:Nat) (w:World),OR P ρ c w a->OR P ρ c w b
theorem OEq.refl (a:TO)(hn:∀cs,a ≠ .ro cs):OEq a a:=⟨hn,fun _ _ _ _ h=>h⟩
theorem zsU {a b:TO}(h:zno a b=true):OEq a b:=by
 unfold zno at h
 split at h
 ·rename_i e G M n c e' G' M' n' c';obtain⟨h1,hA⟩:=bnd h;obtain⟨h2,hB⟩:=bnd hA;obtain⟨h3,hC⟩:=bnd hB;obtain⟨h4,hD⟩:=bnd hC;have e1:=zAJ9 h1;have e2:=zAJ9 h2;have e3:=zAJ9 h3;have e4:=zAJ9 h4;subst e1;subst e2;subst e3;subst e4;refine⟨fun cs h=>(by cases h),?_⟩;intro P ρ b w k;refine⟨k.1,k.2.1,fun g g1 g2=>?_⟩;obtain⟨loc,cur,r1,r2,r3,r4,r5,r6,r7⟩:=k.2.2 g g1 g2;refine⟨loc,cur,r1,r2,r3,r4,r5,r6,fun i hi=>?_⟩;obtain⟨x,v,c1,c2,c3,c4⟩:=r7 i hi;obtain⟨y,y1,y2⟩:=zks hD i (zAS9 _) (by omega);rw[c1]at y1;injection y1 with y1;subst y1;exact⟨_,v,y2,c2,c3,c4⟩
 ·rename_i c c';have e:=zAJ9 h;subst e;exact .refl _ (fun cs h=>by cases h)
 ·cases h
theorem zwe {k:zT}{vs:List TV}{b:Nat}{x:zde}(hx:lay k vs b=some x):∀cs,x.o ≠ .ro cs:=by
 have h1:∀(e:Nat) (l:List TV) cs,zb8 e l ≠ .ro cs:=fun e l cs h=>by cases h
 intro cs h
 cases k<;>simp only[lay]at hx<;>try cases hx
 case box e n =>
  unfold zmQ at hx
  split at hx
  ·obtain⟨_,hx⟩:=zI hx;injection hx with hx;subst hx;cases h
  ·cases hx
 case alloc e z =>
  unfold zje at hx
  split at hx
  ·injection hx with hx;subst hx;cases h
  ·cases hx
 case bslice e esz len z p =>
  unfold zgQ at hx;obtain⟨_,hx⟩:=zI hx
  split at hx
  ·injection hx with hx;subst hx;cases h
  ·cases hx
 case mkslice e esz by_ z =>
  unfold zfZ at hx
  split at hx
  ·split at hx
   ·obtain⟨_,hx⟩:=zI hx;obtain⟨_,hx⟩:=zI hx;obtain⟨_,hx⟩:=zI hx;injection hx with hx;subst hx;cases h
   ·cases hx
  ·cases hx
 case mkmap =>
  unfold zi9 at hx
  split at hx
  ·injection hx with hx;subst hx;cases h
  ·injection hx with hx;subst hx;cases h
  ·cases hx
theorem zun {k:zT}{vs:List TV}{b:Nat}{x:zde}(hx:lay k vs b=some x):zdL x.v=some b:=by
 cases k<;>simp only[lay]at hx<;>try cases hx
 case box e n =>
  unfold zmQ at hx
  split at hx
  ·obtain⟨_,hx⟩:=zI hx;injection hx with hx;subst hx;rfl
  ·cases hx
 case alloc e z =>
  unfold zje at hx
  split at hx
  ·injection hx with hx;subst hx;rfl
  ·cases hx
 case bslice e n l z p =>
  unfold zgQ at hx;obtain⟨_,hx⟩:=zI hx
  split at hx
  ·injection hx with hx;subst hx;rfl
  ·cases hx
 case mkslice e n b z =>
  unfold zfZ at hx
  split at hx
  ·split at hx
   ·obtain⟨_,hx⟩:=zI hx;obtain⟨_,hx⟩:=zI hx;obtain⟨_,hx⟩:=zI hx;injection hx with hx;subst hx;rfl
   ·cases hx
  ·cases hx
 case mkmap =>
  unfold zi9 at hx
  split at hx
  ·injection hx with hx;subst hx;rfl
  ·injection hx with hx;subst hx;rfl
  ·cases hx
def TH.sub (h h':TH):Prop:=∀b o,h.get b=some o->h'.get b=some o
theorem TH.sub.refl (h:TH):h.sub h:=fun _ _ k=>k
theorem TH.sub.trans {h1 h2 h3:TH}(k:h1.sub h2)(l:h2.sub h3):h1.sub h3:=fun b o hb=>l b o (k b o hb)
theorem TH.sub_push (h:TH)(o:TO):h.sub (h.push o):=fun b x hb=>by rw[TH.get_push,if_neg (by have:=TH.get_lt hb;omega)];exact hb
theorem zp0 (k:h.sub h'){b g o n:Nat}{l:List TV}(hl:zbs h b g o n=some l):zbs h' b g o n=some l:=by
 unfold zbs at hl⊢
 split at hl
 ·rename_i x hx;rw[k _ _ hx];exact hl
 ·cases hl
theorem zmb {vs:List TV}{f g:TV->Option TV}(hfg:∀x v,f x=some v->g x=some v){v:TV}(hv:zb9 vs f=some v):zb9 vs g=some v:=by
 unfold zb9 at *
 split at hv
 ·exact hfg _ _ hv
 ·cases hv
theorem zr9 {vs:List TV}{f g:TV->TV->Option TV}(hfg:∀x y v,f x y=some v->g x y=some v){v:TV}(hv:zb2 vs f=some v):zb2 vs g=some v:=by
 unfold zb2 at *
 split at hv
 ·exact hfg _ _ _ hv
 ·cases hv
theorem zu8 (k:h.sub h'){kd:zT}{vs:List TV}{v:TV}(hv:pas kd vs h=some v):pas kd vs h'=some v:=by
 cases kd<;>first|exact hv|skip
 case load agg n =>
  refine zmb (fun x v hv=>?_) hv;unfold zfD at hv⊢
  split at hv
  ·obtain⟨h1,hv⟩:=zI hv
   split at hv
   ·rename_i l hl;rw[h1,zp0 k hl];exact hv
   ·cases hv
  ·cases hv
 case look kf z ok =>
  refine zr9 (fun x y v hv=>?_) hv;unfold zgA at hv⊢;obtain⟨h1,hv⟩:=zI hv;rw[h1];simp only[cond_true]
  split at hv
  ·exact hv
  ·split at hv
   ·rename_i o ho;rw[k _ _ ho];exact hv
   ·cases hv
  ·cases hv
 case len f =>
  refine zmb (fun x v hv=>?_) hv;unfold zmY at hv⊢
  split at hv
  ·exact hv
  ·unfold zs2 at hv⊢
   split at hv
   ·exact hv
   ·split at hv
    ·rename_i o ho;rw[k _ _ ho];exact hv
    ·cases hv
   ·cases hv
  ·exact hv
  ·cases hv
def Tr.sub (a b:Tr TV):Prop:=∀t v,a.get t=some v->b.get t=some v
theorem Tr.sub.refl (a:Tr TV):a.sub a:=fun _ _ k=>k
theorem Tr.sub.trans {a b c:Tr TV}(k:a.sub b)(l:b.sub c):a.sub c:=fun t v h=>l t v (k t v h)
theorem zgO {nm nm':Tr TV}{d:Option Nat}{v:TV}(hd:zft nm d v=some nm'):nm.sub nm'/\(∀t,d=some t->nm.get t=none/\nm'.get t=some v)/\∀t,d≠some t->nm'.get t=nm.get t:=by
 unfold zft at hd
 split at hd
 ·injection hd with hd;subst hd;exact⟨.refl _,fun t h=>(by cases h),fun t _=>rfl⟩
 ·rename_i d
  split at hd
  ·rename_i hn;injection hd with hd;subst hd;refine⟨fun t u hu=>?_,fun t h=>?_,fun t h=>?_⟩
   ·rw[Tr.get_set]
    split
    ·rename_i e;subst e;rw[hn]at hu;cases hu
    ·exact hu
   ·injection h with h;subst h;exact⟨hn,by rw[Tr.get_set,if_pos rfl]⟩
   ·rw[Tr.get_set,if_neg (fun e=>h (by rw[e]))]
  ·cases hd
theorem zgN {df:List TD}{h:TH}{x:Option (Tr TV)}{s:DS}(hd:dput df h x=some s):∃nm,x=some nm/\s=⟨nm,df,h⟩:=by
 cases x with
 | none=>cases hd
 | some nm=>simp only[dput]at hd;injection hd with hd;exact⟨nm,rfl,hd.symm⟩
theorem zmt {tm nm nm':Tr TV}(k:nm.sub nm'){x:TOp}{v:TV}(hv:zfA tm nm x=some v):zfA tm nm' x=some v:=by
 cases x<;>first|exact hv|exact k _ _ hv
theorem zdA {tm nm nm':Tr TV}(k:nm.sub nm'):∀{xs:List TOp} {vs:List TV},zc1 tm nm xs=some vs->zc1 tm nm' xs=some vs
 | [],vs,hv=>hv
 | x::xs,vs,hv=>by
  unfold zc1 at hv⊢
  split at hv
  ·cases hv
  ·rename_i v h1
   split at hv
   ·cases hv
   ·rename_i us h2;rw[zmt k h1,zdA k h2];exact hv
theorem zeB {tm nm nm':Tr TV}(k:nm.sub nm'){g:Option (TOp×Bool)}{b:Bool}(hv:zd3 tm nm g=some b):zd3 tm nm' g=some b:=by
 unfold zd3 at hv⊢
 split at hv
 ·exact hv
 ·rename_i x c
  cases hx:zfA tm nm x with
  | none=>rw[hx]at hv;cases hv
  | some v=>rw[hx]at hv;rw[zmt k hx];exact hv
theorem zlZ (f:Nat->Option TV):∀(l:List Nat),∃tx:Tr TV,(∀t∈l,tx.get t=f t)/\∀t v,tx.get t=some v->t∈l/\f t=some v
 | []=>⟨.nil,fun t h=>by simp at h,fun t v h=>by simp[Tr.get_nil]at h⟩
 | t::l=>by
  obtain⟨tx,h1,h2⟩:=zlZ f l;refine⟨tx.set t (f t),fun u hu=>?_,fun u v hu=>?_⟩
  ·rw[Tr.get_set]
   split
   ·rename_i e;rw[e]
   ·rename_i e;rcases zAX9.1 hu with h|h
    ·exact absurd h e
    ·exact h1 u h
  ·rw[Tr.get_set]at hu
   split at hu
   ·rename_i e;subst e;exact⟨zAV9,hu⟩
   ·obtain⟨a,b⟩:=h2 u v hu;exact⟨zAT9 _ a,b⟩
def zlG (all:List Item)(x:Item)(tm nm:Tr TV)(t:Nat):Option TV:=zfA tm nm (zk3 all x (.tmp t))
theorem zkv {all:List Item}{x:Item}{tm nm tx:Tr TV}{y:TOp}(hy:zg2 y=true)(ht:∀t,zoT y=some t->tx.get t=zlG all x tm nm t):zeE tx y=zfA tm nm (zk3 all x y):=by
 cases y with
 | tmp t=>exact ht t rfl
 | new t=>cases hy
 | const v=>rfl
 | fn f=>rfl
theorem zkG {all:List Item}{x:Item}{tm nm tx:Tr TV}:∀{ys:List TOp},ys.all zg2=true->(∀y∈ys,∀t,zoT y=some t->tx.get t=zlG all x tm nm t)->zdw tx ys=zc1 tm nm (ys.map (zk3 all x))
 | [],_,_=>rfl
 | y::ys,hy,ht=>by
  simp only[List.all_cons,zAR9]at hy;simp only[zdw,zc1,zCH9];rw[zkv hy.1 (ht y zAV9),zkG hy.2 fun z hz=>ht z (zAT9 _ hz)]
theorem zsn {all:List Item}{x:Item}{tm nm tx:Tr TV}{g:Option (TOp×Bool)}(hy:∀p b,g=some (p,b)->zg2 p=true)(ht:∀p b t,g=some (p,b)->zoT p=some t->tx.get t=zlG all x tm nm t):zkS tx g=zd3 tm nm (g.map fun p=>(zk3 all x p.1,p.2)):=by
 cases g with
 | none=>rfl
 | some p =>
  obtain⟨p,b⟩:=p;simp only[zkS,zd3,Option.map_some];rw[zkv (hy p b rfl) fun t h=>ht p b t rfl h]
theorem WR.set_none (k:WR P Z ρ h w){b:Nat}(hn:∀g,ρ b g=none)(x:TO):WR P Z ρ (h.set b x) w :=
 ⟨fun c g loc hl=>by
  obtain⟨a1,a2,a3⟩:=k.dom c g loc hl;have hcb:c≠b:=fun e=>by rw[e,hn g]at hl;cases hl
  refine⟨a1,a2.imp id fun⟨cs,h1⟩=>⟨cs,?_⟩,a3⟩;unfold TH.get TH.set at *
  dsimp only at *
  rw[Tr.get_set,if_neg hcb];exact h1,fun c g loc hl=>by
  obtain⟨o,ho,hr⟩:=k.obj c g loc hl;have hcb:c≠b:=fun e=>by rw[e,hn g]at hl;cases hl
  refine⟨o,?_,hr⟩;unfold TH.get TH.set at *
  dsimp only at *
  rw[Tr.get_set,if_neg hcb];exact ho,k.sep⟩
theorem WR.unset {b:Nat}{x y:TO}(k:WR P Z ρ (h.set b x) w)(hy:h.get b=some y)(he:OEq x y):WR P Z ρ h w :=
 ⟨fun c g loc hl=>by
  obtain⟨a1,a2,a3⟩:=k.dom c g loc hl;refine⟨a1,a2.imp id fun⟨cs,h1⟩=>?_,a3⟩;rw[TH.get_set _ _ _ _ (TH.get_lt hy)]at h1
  split at h1
  ·rename_i e;subst e;injection h1 with h1;exact absurd h1 (he.1 cs)
  ·exact⟨cs,h1⟩,fun c g loc hl=>by
  obtain⟨o,ho,hr⟩:=k.obj c g loc hl;rw[TH.get_set _ _ _ _ (TH.get_lt hy)]at ho
  split at ho
  ·rename_i e;subst e;injection ho with ho;subst ho;exact⟨y,hy,he.2 _ _ _ _ hr⟩
  ·exact⟨o,ho,hr⟩,k.sep⟩
end Tw
end Go.Proofs.YtfomlmhnmheenaaGreat
