/- part 1 of the proof of tree_takes. -/
import Derived.KernelRfl
import Derived.CallsIn
import Derived.RangeFuncLeaves
import Derived.OrdersIn
import Derived.Maps.AppendAt
import Derived.Below
import Derived.Laws.CopyOwn
import Derived.RangeFuncRecord
import Derived.Lib.Hide
import Derived.Laws.StructEq
import Derived.Laws.Tables
set_option linter.unusedSimpArgs false
set_option linter.unusedVariables false
set_option linter.defProp false
namespace Go.Proofs.YtfomlmhnmheenaaGreat
def zAB9:=@List.getElem?_eq_getElem
def zAC9:=@List.getElem?_eq_some_iff
def zAD9:=@List.length_append
def zAG9:=@List.append_assoc
def zAH9:=@List.getElem?_map
def zAJ9:=@Nat.le_refl
def zAL9:=@List.getD_eq_getElem?_getD
def zAM9:=@List.mem_map
def zAN9:=@Nat.eq_of_beq_eq_true
def zAE9:=@List.length_cons
def zAO9:=@List.mem_of_getElem?
def zAP9:=@List.getElem?_append_right
def zAQ9:=@Bool.and_eq_true
def zAS9:=@Nat.zero_le
def zAT9:=@List.mem_cons_of_mem
def zAU9:=@List.mem_cons_self
def zAF9:=@List.length_nil
def zAV9:=@List.getElem?_append_left
def zAA9:=@List.length_map
def zAW9:=@List.drop_eq_getElem_cons
def zAI9:=@List.cons_append
def zAX9:=@List.mem_cons
def zAK9:=@List.nil_append
def zAY9:=@List.getElem?_cons_succ
def zAZ9:=@List.getElem?_set_ne
def zBA9:=@List.length_take
def zBB9:=@List.mem_flatMap
def zBC9:=@Nat.le_of_ble_eq_true
def zBD9:=@List.getElem?_set_self
def zBE9:=@List.take_add_one
def zBF9:=@List.mem_singleton
def zBG9:=@List.take_length
def zAR9:=@Nat.zero_add
def zBH9:=@List.getElem?_take
def zBI9:=@List.mem_append
def zBJ9:=@List.map_append
def zBL9:=@List.all_eq_true
def zBK9:=@Nat.lt_of_lt_of_le
def zBM9:=@List.drop_length
def zBN9:=@List.getElem_mem
def zBO9:=@List.mem_iff_getElem
def zBP9:=@List.getElem?_eq_none
def zBQ9:=@Nat.le_trans
def zBS9:=@List.flatMap_cons
def zBT9:=@List.length_drop
def zBU9:=@List.getElem?_drop
def zBV9:=@List.length_pos_iff
def zBW9:=@List.mem_of_mem_drop
def zBX9:=@List.mem_of_mem_take
def zBY9:=@Bool.true_and
def zBZ9:=@Array.getElem?_toList
def zCA9:=@List.set_append_right
def zCC9:=@List.map_cons
def zCD9:=@List.map_nil
def zCE9:=@Nat.lt_succ_self
def zCF9:=@Nat.mul_le_mul_right
def zCG9:=@Array.getElem?_eq_some_iff
def zCI9:=@List.set_cons_succ
def zCJ9:=@List.getLast?_eq_getElem?
def zCK9:=@List.set_cons_zero
def zCM9:=@List.map_drop
def zCN9:=@List.flatMap_append
def zCO9:=@List.eq_nil_of_length_eq_zero
def zCP9:=@List.length_set
def zCQ9:=@Nat.succ_pos
def zCR9:=@Array.getElem?_eq_getElem
def zCS9:=@List.take_of_length_le
def zCT9:=@List.mem_range
def zCU9:=@Bool.not_eq_true'
def zCV9:=@Int.toNat_natCast
def zCX9:=@Nat.add_mul
def zCY9:=@Nat.lt_or_ge
def zCH9:=@Bool.false_eq_true
def zCZ9:=@Array.getD_eq_getD_getElem?
def zDA9:=@List.getLast?_eq_none_iff
def zDB9:=@List.mem_filter
def zDD9:=@Nat.succ_mul
def zDE9:=@List.contains_iff_mem
def zDF9:=@Nat.add_zero
def zDG9:=@List.range_succ
def zDH9:=@List.map_map
def zDI9:=@List.getElem?_zip_eq_some
def zDJ9:=@List.replicate_succ
def zDK9:=@Nat.add_assoc
def zDL9:=@List.map_take
def zDM9:=@List.not_mem_nil
def zDN9:=@Nat.min_eq_left
def zDO9:=@List.append_nil
def zDP9:=@List.mem_append_right
def zDQ9:=@Bool.false_and
def zDR9:=@List.length_eq_zero_iff
def zDS9:=@Bool.eq_iff_iff
def zDT9:=@Nat.add_comm
def zDU9:=@List.map_set
def zDV9:=@List.length_eq_one_iff
def zDW9:=@List.mem_iff_getElem?
def zDX9:=@List.pairwise_iff_getElem
def zDY9:=@Array.getElem?_setIfInBounds_ne
def zDZ9:=@List.getElem?_append
def zEA9:=@List.mem_append_left
def zEB9:=@List.nodup_cons
def zEC9:=@List.dropLast_concat
def zED9:=@List.contains_eq_mem
def zEE9:=@List.size_toArray
def zEF9:=@List.reverse_cons
def zEG9:=@List.take_append_of_le_length
def zEH9:=@List.getLast?_cons_cons
def zEI9:=@List.getElem?_range
def zEJ9:=@List.take_succ_cons
def zEK9:=@List.map_congr_left
def zEL9:=@Nat.mod_eq_of_lt
def zEM9:=@List.drop_take
def zEN9:=@Bool.not_eq_true
def zEO9:=@List.mem_reverse
def zEP9:=@Nat.add_sub_cancel
def zEQ9:=@Bool.or_eq_true
def zER9:=@List.take_append_drop
def zES9:=@List.of_mem_zip
def zEU9:=@Nat.blt_eq
def zEV9:=@List.getElem?_mapIdx
def zEW9:=@List.getLast?_concat
def zEX9:=@List.drop_drop
def zEZ9:=@List.mem_filterMap
def zFB9:=@List.drop_eq_nil_of_le
def zFA9:=@List.drop_of_length_le
def zFC9:=@List.ext_getElem?
def zFD9:=@List.drop_zero
def zFE9:=@List.dropLast_concat_getLast
def zFF9:=@Option.getD_some
def zFG9:=@Array.toList_setIfInBounds
def zFH9:=@Array.getElem?_append_left
def zFI9:=@Nat.not_lt_zero
def zFJ9:=@List.getElem?_eq_none_iff
def zFK9:=@Int.natCast_nonneg
def zFL9:=@Nat.zero_mul
def zFM9:=@List.findIdx?_cons
def zFN9:=@List.eq_of_mem_replicate
def zFO9:=@List.pairwise_cons
def zFP9:=@List.take_take
def zFQ9:=@List.getElem?_cons_zero
def zFR9:=@Nat.add_sub_cancel_left
def zFS9:=@Array.size_append
def zFT9:=@List.getElem?_set
def zFU9:=@List.map_id
def zFV9:=@Bool.and_true
def zFW9:=@Array.toList_map
def zFX9:=@List.take_succ_eq_append_getElem
def zBR9:=@List.filter_cons
def zFY9:=@Nat.le_add_right
def zFZ9:=@List.getElem_map
def zGA9:=@List.getElem?_toArray
def zGB9:=@Array.getElem?_modify
def zGC9:=@List.length_filter_le
def zGD9:=@Nat.sub_zero
def zGE9:=@Bool.or_true
def zGF9:=@List.mem_of_getLast?
def zGG9:=@List.dropLast_subset
def zGH9:=@Nat.sub_self
def zGI9:=@List.drop_append_of_le_length
def zGJ9:=@Array.length_toList
def zGK9:=@Int.toNat_of_nonneg
def zGL9:=@List.getD_cons_succ
def zGN9:=@List.take_zero
def zGM9:=@Bool.and_false
def zGO9:=@List.nodup_nil
def zGQ9:=@Option.toList_some
def zGR9:=@Nat.lt_irrefl
def zGU9:=@List.foldl_append
def zGV9:=@List.getElem_take
end Go.Proofs.YtfomlmhnmheenaaGreat
namespace Go.Proofs.YtfomlmhnmheenaaGreat
namespace Tw
inductive Tr (α:Type) where
 | nil
 | node (l:Tr α) (v:Option α) (r:Tr α)
def Tr.get {α:Type}:Tr α->Nat->Option α
 | .nil,_=>none
 | .node l v r,n=>bif Nat.beq n 0 then v else bif Nat.beq (n%2) 1 then l.get (n/2)else r.get (n/2-1)
def Tr.setN {α:Type}(x:Option α):Nat->Tr α->Nat->Tr α
 | 0,t,_=>t
 | d+1,.nil,n=>bif Nat.beq n 0 then .node .nil x .nil else bif Nat.beq (n%2) 1 then .node (Tr.setN x d .nil (n/2)) none .nil else .node .nil none (Tr.setN x d .nil (n/2-1))
 | d+1,.node l v r,n=>bif Nat.beq n 0 then .node l x r else bif Nat.beq (n%2) 1 then .node (Tr.setN x d l (n/2)) v r else .node l v (Tr.setN x d r (n/2-1))
def Tr.set {α:Type}(t:Tr α)(n:Nat)(x:Option α):Tr α:=Tr.setN x (n+1) t n
def Tr.putL {α:Type}:Tr α->Nat->List α->Tr α
 | t,_,[]=>t
 | t,n,x::l=>Tr.putL (t.set n (some x)) (n+1) l
def Tr.getL {α:Type}(t:Tr α):Nat->Nat->Option (List α)
 | _,0=>some []
 | i,n+1=>match t.get i with
  | none=>none
  | some x=>match Tr.getL t (i+1) n with
   | none=>none
   | some l=>some (x::l)
inductive TV where
 | bool (b:Bool)
 | int (k:IntKind) (n:Int)
 | str (s:List Nat)
 | nilptr
 | ptr (b g o e:Nat)
 | nilsl
 | sl (b g o n q z:Nat)
 | nilmap
 | map (b:Nat)
 | fn (f:Nat) (cap:List TV)
 | yield (l:Nat)
 | nilfn
 | iface (t:Nat) (v:TV)
 | niliface
 | agg (vs:List TV)
 | tuple (vs:List TV)
 deriving Inhabited
def TV.cells:TV->List TV
 | .agg l=>l
 | .tuple _=>[]
 | v=>[v]
inductive TOp where
 | tmp (t:Nat)
 | new (t:Nat)
 | const (v:TV)
 | fn (f:Nat)
inductive zX where
 | mov
 | pick
 | load (agg:Bool) (n:Nat)
 | nilchk
 | bin (op:BinOp)
 | eqnil (neg:Bool) (f:Nat)
 | eqB (neg:Bool)
 | cstr
 | eqagg (neg:Bool) (ks:List Nat)
 | un (op:UnOp)
 | conv (k:IntKind)
 | mkif (t:Nat)
 | mkfn (f:Nat)
 | slice (esz:Nat) (lo hi mx:Bool)
 | slstr (lo hi:Bool)
 | slarr (len esz:Nat) (lo hi:Bool)
 | faddr (off size:Nat)
 | fld (agg:Bool) (off size:Nat)
 | iaddr (esz:Nat)
 | iaddrA (len esz:Nat)
 | idxstr
 | idxagg (len:Nat) (agg:Bool) (esz:Nat)
 | look (kf:Nat) (zero:TV) (ok:Bool)
 | tassert (t:Nat) (zero:TV) (ok:Bool)
 | extr (i:Nat)
 | len (f:Nat)
 | maxI
 | minI
 | build (zero:List TV) (places:List (Nat×Nat))
 | box (e n:Nat)
 | alloc (e:Nat) (zero:List TV)
 | bslice (e esz len:Nat) (zero:List TV) (places:List (Nat×Nat))
 | mkslice (e esz bytes:Nat) (zero:List TV)
 | mkmap
 | store (n:Nat)
 | mupd (kf:Nat)
 | ment (kf:Nat) (zero:TV)
 | estore
 | append (e esz bytes:Nat)
 | copy (esz:Nat)
 | call
 | panic
 | defer
def zX.cls:zX->Nat
 | .box .. | .alloc .. | .bslice .. | .mkslice .. | .mkmap=>1
 | .store .. | .mupd .. | .ment .. | .estore | .append .. | .copy .. | .call | .panic | .defer=>2
 | _=>0
structure zaw where
 dst:Option Nat
 kind:zX
 args:List TOp
 guard:Option (TOp×Bool)
structure zcr where
 chk:List zaw
 exe:List zaw
 act:Option zaw
inductive zbk where
 | skip
 | region (ops:List zaw)
 | drawn (zcY:List zcr) (ds:List Nat)
 | seq (a b:zbk)
 | cond (c:TOp) (thn els:zbk)
 | block (id:Nat) (body:zbk)
 | loop (body:zbk)
 | rangef (f:TOp) (params:List Nat) (assign body:zbk)
 | exit (id:Nat)
 | scope (body:zbk) (l:Nat) (rest:zbk)
 | scope0 (body:zbk)
 | goto (l:Nat)
 | ret
inductive TX where
 | norm|exit (id:Nat)|goto (l:Nat)|ret|panic (v:TV)
inductive TD where
 | caught (p clear:TV)
 | mark (b:Nat)
structure zcy where
 k:TV
 v:TV
 n:Nat
inductive TO where
 | row (e G M len:Nat) (cells:Tr TV)
 | map (es:List zcy) (clock:Nat)
 | dfr (shut:Bool)
 | loop (st:LoopState) (pending:TX) (tm:Tr TV) (params:List Nat) (assign body:zbk) (df:Nat)
 | ro (cells:Tr TV)
structure TH where
 next:Nat
 objs:Tr TO
structure St where
 tm:Tr TV
 df:List TD
 h:TH
def TH.push (h:TH)(o:TO):TH:=⟨h.next+1,h.objs.set h.next (some o)⟩
def TH.get (h:TH)(b:Nat):Option TO:=bif Nat.blt b h.next then h.objs.get b else none
def TH.set (h:TH)(b:Nat)(o:TO):TH:=⟨h.next,h.objs.set b (some o)⟩
def St.put (s:St)(d:Option Nat)(v:TV):St:=match d with
 | none=>s
 | some d=>⟨s.tm.set d (some v),s.df,s.h⟩
def zg7:Int->Int->Bool
 | .ofNat a,.ofNat b=>Nat.beq a b
 | .negSucc a,.negSucc b=>Nat.beq a b
 | _,_=>false
def ile (a b:Int):Bool:=match b-a with
 | .ofNat _=>true
 | .negSucc _=>false
def kno:IntKind->Nat
 | .i8=>0 | .i16=>1 | .i32=>2 | .i64=>3 | .u8=>4 | .u16=>5 | .u32=>6 | .u64=>7
def ze5:List Nat->List Nat->Bool
 | [],[]=>true
 | a::l,b::m=>bif Nat.beq a b then ze5 l m else false
 | _,_=>false
def zkK (f:TV->TV->Bool):List TV->List TV->Bool
 | [],[]=>true
 | a::l,b::m=>bif f a b then zkK f l m else false
 | _,_=>false
def ztI (x:Bool):TV->Bool
 | .bool y=>bif x then y else bif y then false else true
 | _=>false
def zrN (k:IntKind)(x:Int):TV->Bool
 | .int k' y=>bif Nat.beq (kno k) (kno k')then zg7 x y else false
 | _=>false
def zv7 (s:List Nat):TV->Bool
 | .str t=>ze5 s t
 | _=>false
def zns (b g o e:Nat):TV->Bool
 | .ptr b' g' o' e'=>bif Nat.beq b b' then bif Nat.beq g g' then bif Nat.beq o o' then Nat.beq e e' else false else false else false
 | _=>false
def zql (b g o n q z:Nat):TV->Bool
 | .sl b' g' o' n' q' z'=>bif Nat.beq b b' then bif Nat.beq g g' then bif Nat.beq o o' then bif Nat.beq n n' then bif Nat.beq q q' then Nat.beq z z' else false else false else false else false else false
 | _=>false
def zvz (b:Nat):TV->Bool
 | .map b'=>Nat.beq b b'
 | _=>false
def zqC (l:Nat):TV->Bool
 | .yield m=>Nat.beq l m
 | _=>false
def zt5 (f:TV->TV->Bool)(g:Nat)(l:List TV):TV->Bool
 | .fn g' l'=>bif Nat.beq g g' then zkK f l l' else false
 | _=>false
def zl3 (f:TV->TV->Bool)(t:Nat)(v:TV):TV->Bool
 | .iface t' v'=>bif Nat.beq t t' then f v v' else false
 | _=>false
def zvU (f:TV->TV->Bool)(l:List TV):TV->Bool
 | .agg l'=>zkK f l l'
 | _=>false
def zrP (f:TV->TV->Bool)(l:List TV):TV->Bool
 | .tuple l'=>zkK f l l'
 | _=>false
def zfo:TV->Nat
 | .nilptr=>1 | .nilsl=>2 | .nilmap=>3 | .nilfn=>4 | .niliface=>5|_=>0
def TV.beq:Nat->TV->TV->Bool
 | 0,_,_=>false
 | n+1,a,b=>match a with
  | .bool x=>ztI x b
  | .int k x=>zrN k x b
  | .str s=>zv7 s b
  | .ptr c g o e=>zns c g o e b
  | .sl c g o n q z=>zql c g o n q z b
  | .map c=>zvz c b
  | .fn f l=>zt5 (TV.beq n) f l b
  | .iface t v=>zl3 (TV.beq n) t v b
  | .agg l=>zvU (TV.beq n) l b
  | .tuple l=>zrP (TV.beq n) l b
  | .yield l=>zqC l b
  | .nilptr=>Nat.beq (zfo b) 1
  | .nilsl=>Nat.beq (zfo b) 2
  | .nilmap=>Nat.beq (zfo b) 3
  | .nilfn=>Nat.beq (zfo b) 4
  | .niliface=>Nat.beq (zfo b) 5
def zeX (tm:Tr TV):TOp->Option TV
 | .tmp t=>tm.get t
 | .new _=>none
 | .const v=>some v
 | .fn f=>some (.fn f [])
def zdP (tm:Tr TV):List TOp->Option (List TV)
 | []=>some []
 | x::l=>match zeX tm x with
  | none=>none
  | some v=>match zdP tm l with
   | none=>none
   | some vs=>some (v::vs)
def zfR (tm nm:Tr TV):TOp->Option TV
 | .tmp t=>tm.get t
 | .new t=>nm.get t
 | .const v=>some v
 | .fn f=>some (.fn f [])
def zdt (tm nm:Tr TV):List TOp->Option (List TV)
 | []=>some []
 | x::l=>match zfR tm nm x with
  | none=>none
  | some v=>match zdt tm nm l with
   | none=>none
   | some vs=>some (v::vs)
def zft (g o n:Nat):TO->Option (List TV)
 | .row _ G M _ cells=>bif Nat.ble M g then bif Nat.ble g G then cells.getL o n else none else none
 | .ro cells=>bif Nat.beq g 0 then cells.getL o n else none
 | _=>none
def zbw (h:TH)(b g o n:Nat):Option (List TV) :=
 match h.get b with
 | some x=>zft g o n x
 | none=>none
def zhP:IntKind->Nat
 | .i8=>7 | .i16=>15 | .i32=>31 | .i64=>63 | .u8=>8 | .u16=>16 | .u32=>32 | .u64=>64
def zrL (f:Nat->Nat->Nat)(k:IntKind):Int->Int->Option TV
 | .ofNat a,.ofNat b=>bif Nat.blt a (2 ^ zhP k)then bif Nat.blt b (2 ^ zhP k)then some (.int k (.ofNat (f a b)))else none else none
 | _,_=>none
def zzS (k:IntKind)(a:Int):Int->Option TV
 | .ofNat n=>bif Nat.ble n 64 then some (.int k (k.wrap (a*2 ^ (min n k.bits))))else none
 | _=>none
def zAh (k:IntKind):Int->Int->Option TV
 | .ofNat a,.ofNat n=>bif Nat.ble n 64 then some (.int k (.ofNat (a/2 ^ (min n k.bits))))else none
 | _,_=>none
def zfD (op:BinOp)(k k':IntKind)(x y:Int):Option TV :=
 match op with
 | .shl=>zzS k x y
 | .shr=>zAh k x y
 | .add=>bif Nat.beq (kno k) (kno k')then some (.int k (k.wrap (x+y)))else none
 | .sub=>bif Nat.beq (kno k) (kno k')then some (.int k (k.wrap (x-y)))else none
 | .mul=>bif Nat.beq (kno k) (kno k')then some (.int k (k.wrap (x*y)))else none
 | .quo=>bif Nat.beq (kno k) (kno k')then(bif zg7 y 0 then none else some (.int k (k.wrap (x.tdiv y))))else none
 | .rem=>bif Nat.beq (kno k) (kno k')then(bif zg7 y 0 then none else some (.int k (x.tmod y)))else none
 | .and=>bif Nat.beq (kno k) (kno k')then zrL Nat.land k x y else none
 | .or=>bif Nat.beq (kno k) (kno k')then zrL Nat.lor k x y else none
 | .xor=>bif Nat.beq (kno k) (kno k')then zrL Nat.xor k x y else none
 | .eql=>bif Nat.beq (kno k) (kno k')then some (.bool (zg7 x y))else none
 | .neq=>bif Nat.beq (kno k) (kno k')then some (.bool (not (zg7 x y)))else none
 | .lss=>bif Nat.beq (kno k) (kno k')then some (.bool (not (ile y x)))else none
 | .leq=>bif Nat.beq (kno k) (kno k')then some (.bool (ile x y))else none
 | .gtr=>bif Nat.beq (kno k) (kno k')then some (.bool (not (ile x y)))else none
 | .geq=>bif Nat.beq (kno k) (kno k')then some (.bool (ile y x))else none
 | .andNot=>none
def zgI:List Nat->List Nat->Bool
 | _,[]=>false
 | [],_::_=>true
 | a::l,b::m=>bif Nat.blt a b then true else bif Nat.beq a b then zgI l m else false
def zxA (op:BinOp)(a b:List Nat):Option TV :=
 match op with
 | .eql=>some (.bool (ze5 a b))
 | .neq=>some (.bool (not (ze5 a b)))
 | .lss=>some (.bool (zgI a b))
 | .gtr=>some (.bool (zgI b a))
 | .leq=>some (.bool (not (zgI b a)))
 | .geq=>some (.bool (not (zgI a b)))
 | .add=>bif Nat.ble (a.length+b.length) 1000000 then some (.str (a++b))else none
 | _=>none
def zeI (op:BinOp)(k:IntKind)(x:Int):TV->Option TV
 | .int k' y=>zfD op k k' x y
 | _=>none
def zyx (op:BinOp)(a:List Nat):TV->Option TV
 | .str b=>zxA op a b
 | _=>none
def zc3 (op:BinOp)(x y:TV):Option TV :=
 match x with
 | .int k a=>zeI op k a y
 | .str a=>zyx op a y
 | _=>none
def zqu:TV->Option Bool
 | .nilptr=>some true
 | .ptr ..=>some false
 | _=>none
def zrk:TV->Option Bool
 | .nilsl=>some true
 | .sl ..=>some false
 | _=>none
def zrb:TV->Option Bool
 | .nilmap=>some true
 | .map _=>some false
 | _=>none
def za4:TV->Option Bool
 | .nilfn=>some true
 | .fn ..=>some false
 | _=>none
def zqL:TV->Option Bool
 | .niliface=>some true
 | .iface ..=>some false
 | _=>none
def znh (f:Nat)(x:TV):Option Bool:=match f with
 | 1=>zqu x
 | 2=>zrk x
 | 3=>zrb x
 | 4=>za4 x
 | 5=>zqL x
 | _=>none
def zBr:Option Bool->Option Bool->Option Bool
 | some a,some b=>bif a then some b else bif b then some false else none
 | _,_=>none
def zh3 (f:Nat)(x y:TV):Option Bool:=zBr (znh f x) (znh f y)
def znt (k:Nat)(x y:TV):Option Bool :=
 match x with
 | .int j a=>bif Nat.beq k 1 then(match y with | .int j' b=>bif Nat.beq (kno j) (kno j')then some (zg7 a b)else none|_=>none)else none
 | .bool a=>bif Nat.beq k 2 then(match y with | .bool b=>some (bif a then b else not b)|_=>none)else none
 | .str a=>bif Nat.beq k 3 then(match y with | .str b=>some (ze5 a b)|_=>none)else none
 | _=>none
def zfJ:List Nat->List TV->List TV->Option Bool
 | [],[],[]=>some true
 | k::ks,x::l,y::m=>match znt k x y with
  | some true=>zfJ ks l m
  | r=>r
 | _,_,_=>none
def zid (x y:TV):Option Bool :=
 match x with
 | .int k a=>(match y with | .int k' b=>bif Nat.beq (kno k) (kno k')then some (zg7 a b)else none|_=>none)
 | .str a=>(match y with | .str b=>some (ze5 a b)|_=>none)
 | _=>none
def zeH (k:TV):List zcy->Nat->Option (Option (Nat×zcy))
 | [],_=>some none
 | e::l,i=>match zid k e.k with
  | none=>none
  | some true=>some (some (i,e))
  | some false=>zeH k l (i+1)
def zhX:TV->Bool
 | .int ..=>true
 | _=>false
def zrU:TV->Bool
 | .str ..=>true
 | _=>false
def ze9 (kf:Nat)(x:TV):Bool:=match kf with
 | 1=>zhX x
 | 2=>zrU x
 | _=>false
def zuN:Int->Option Nat
 | .ofNat n=>some n
 | _=>none
def zek:TV->Option Nat
 | .int _ n=>zuN n
 | _=>none
def zdm (x:TV)(m:Nat):Option Nat :=
 match zek x with
 | some n=>bif Nat.ble n m then some n else none
 | none=>none
def zh4 (cells:List TV):List (Nat×Nat)->List TV->Option (List TV)
 | [],[]=>some cells
 | (off,size)::ps,v::vs =>
  let cs:=v.cells
  bif Nat.beq cs.length size then bif Nat.ble (off+size) cells.length then zh4 (cells.take off++cs++cells.drop (off+size)) ps vs else none else none
 | _,_=>none
def zeb {α:Type}(l:List α):Nat->List α
 | 0=>[]
 | n+1=>l++zeb l n
def zA3 (vs:List TV)(f:TV->Option TV):Option TV:=match vs with
 | [x]=>f x
 | _=>none
def zcj (vs:List TV)(f:TV->TV->Option TV):Option TV:=match vs with
 | [x,y]=>f x y
 | _=>none
def zuf (vs:List TV):Option TV:=match vs with
 | [.bool c,a,b]=>some (bif c then a else b)
 | _=>none
def zBw (agg:Bool)(l:List TV):Option TV:=bif agg then some (.agg l)else match l with
 | [x]=>some x
 | _=>none
def zgg (agg:Bool)(n:Nat)(h:TH):TV->Option TV
 | .ptr b g o e=>bif Nat.ble n e then(match zbw h b g o n with|some l=>zBw agg l|none=>none)else none
 | _=>none
def zoB:TV->Option TV
 | .ptr b g o e=>some (.ptr b g o e)
 | .fn f c=>some (.fn f c)
 | _=>none
def zne (neg:Bool):Option Bool->Option TV
 | some b=>some (.bool (bif neg then not b else b))
 | none=>none
def zni (neg:Bool)(ks:List Nat)(x y:TV):Option TV:=match x with
 | .agg l=>(match y with | .agg m=>zne neg (zfJ ks l m)|_=>none)
 | _=>none
def zn0 (neg:Bool)(x y:TV):Option TV:=match x with
 | .bool a=>(match y with | .bool b=>some (.bool (bif neg then(bif a then not b else b)else bif a then b else not b))|_=>none)
 | _=>none
def zu9:TV->Option TV
 | .str s=>some (.str s)
 | _=>none
def zxw:TV->Option TV
 | .bool b=>some (.bool (not b))
 | _=>none
def zxK:TV->Option TV
 | .int k n=>some (.int k (k.wrap (0-n)))
 | _=>none
def pUn (op:UnOp)(x:TV):Option TV:=match op with
 | .not=>zxw x
 | .neg=>zxK x
 | _=>none
def zk2 (k:IntKind):TV->Option TV
 | .int _ n=>some (.int k (k.wrap n))
 | _=>none
def zg8 (b g o z:Nat)(x:TV)(h q:Nat):Option TV:=match zdm x h with
 | some l=>some (.sl b g (o+l*z) (h-l) (q-2*l) z)
 | none=>none
def zu0 (b g o q z:Nat)(x:TV):Option TV:=match zdm x (q/2)with
 | some h=>some (.sl b g o h q z)
 | none=>none
def zmw (b g o q z:Nat)(x y:TV):Option TV:=match zdm y (q/2)with
 | some h=>zg8 b g o z x h q
 | none=>none
def zqe (b g o q z:Nat)(x y m:TV):Option TV:=match zdm m (q/2)with
 | some m=>(match zdm y m with|some h=>zg8 b g o z x h (2*m+1)|none=>none)
 | none=>none
def zfK (lo hi mx:Bool)(b g o n q z:Nat)(bs:List TV):Option TV :=
 match bs with
 | []=>bif lo then none else bif hi then none else bif mx then none else some (.sl b g o n q z)
 | [x]=>bif mx then none else bif lo then(bif hi then none else zg8 b g o z x n q)else bif hi then zu0 b g o q z x else none
 | [x,y]=>bif mx then none else bif lo then bif hi then zmw b g o q z x y else none else none
 | [x,y,m]=>bif lo then bif hi then bif mx then zqe b g o q z x y m else none else none else none
 | _=>none
def zkH (lo hi mx:Bool)(bs:List TV):Option TV:=bif mx then none else
 match bs with
 | []=>bif lo then none else bif hi then none else some .nilsl
 | [x]=>(match zdm x 0 with|some _=>bif lo then(bif hi then none else some .nilsl)else bif hi then some .nilsl else none|none=>none)
 | _=>none
def zea (esz:Nat)(lo hi mx:Bool)(x:TV)(bs:List TV):Option TV:=match x with
 | .nilsl=>zkH lo hi mx bs
 | .sl b g o n q z=>bif Nat.beq esz z then zfK lo hi mx b g o n q z bs else none
 | _=>none
def zhA (esz:Nat)(lo hi mx:Bool)(vs:List TV):Option TV:=match vs with
 | x::bs=>zea esz lo hi mx x bs
 | []=>none
def ztG (lo hi:Bool)(s:List Nat)(bs:List TV):Option TV:=match bs with
 | []=>bif lo then none else bif hi then none else some (.str s)
 | [x]=>bif lo then(bif hi then none else match zdm x s.length with|some l=>some (.str (s.drop l))|none=>none)else bif hi then(match zdm x s.length with|some l=>some (.str (s.take l))|none=>none)else none
 | [x,y]=>bif lo then bif hi then(match zdm y s.length with|some h=>(match zdm x h with|some l=>some (.str ((s.take h).drop l))|none=>none)|none=>none)else none else none
 | _=>none
def zj3 (lo hi:Bool)(vs:List TV):Option TV:=match vs with
 | .str s::bs=>ztG lo hi s bs
 | _=>none
def zmZ (len esz:Nat)(lo hi:Bool)(vs:List TV):Option TV:=match vs with
 | [.ptr b g o e]=>bif lo then none else bif hi then none else bif Nat.ble (len*esz) e then some (.sl b g o len (2*len+1) esz)else none
 | _=>none
def ziY (off size:Nat):TV->Option TV
 | .ptr b g o e=>bif Nat.ble (off+size) e then some (.ptr b g (o+off) size)else none
 | _=>none
def nth:List TV->Nat->Option TV
 | [],_=>none
 | x::l,n=>match n with
  | 0=>some x
  | n+1=>nth l n
def zk6 (agg:Bool)(off size:Nat)(l:List TV):Option TV :=
 bif agg then(bif Nat.ble (off+size) l.length then some (.agg ((l.drop off).take size))else none)else nth l off
def zxd (agg:Bool)(off size:Nat):TV->Option TV
 | .agg l=>zk6 agg off size l
 | _=>none
def zi5 (esz:Nat)(x y:TV):Option TV:=match x with
 | .sl b g o n _ z=>bif Nat.beq esz z then(match zek y with|some i=>bif Nat.blt i n then some (.ptr b g (o+i*z) z)else none|none=>none)else none
 | _=>none
def zhv (len esz:Nat)(x y:TV):Option TV:=match x with
 | .ptr b g o e=>(match zek y with|some i=>bif Nat.blt i len then bif Nat.ble (len*esz) e then some (.ptr b g (o+i*esz) esz)else none else none|none=>none)
 | _=>none
def zq5:List Nat->Nat->Option Nat
 | [],_=>none
 | x::l,n=>match n with
  | 0=>some x
  | n+1=>zq5 l n
def zk3 (x y:TV):Option TV:=match x with
 | .str s=>(match zek y with|some i=>(match zq5 s i with|some c=>some (.int .u8 (.ofNat c))|none=>none)|none=>none)
 | _=>none
def zn6 (len:Nat)(agg:Bool)(esz:Nat)(x y:TV):Option TV:=match x with
 | .agg l=>(match zek y with|some i=>bif Nat.blt i len then zk6 agg (i*esz) esz l else none|none=>none)
 | _=>none
def okT (ok:Bool)(v:TV)(b:Bool):TV:=bif ok then .tuple [v,.bool b]else v
def zqm (zero:TV)(ok:Bool)(k:TV):TO->Option TV
 | .map es _=>(match zeH k es 0 with
  | some (some (_,e))=>some (okT ok e.v true)
  | some none=>some (okT ok zero false)
  | none=>none)
 | _=>none
def zhf (kf:Nat)(zero:TV)(ok:Bool)(h:TH)(x k:TV):Option TV:=bif ze9 kf k then(match x with
 | .nilmap=>some (okT ok zero false)
 | .map b=>(match h.get b with|some o=>zqm zero ok k o|none=>none)
 | _=>none)else none
def zjR (t:Nat)(zero:TV)(ok:Bool):TV->Option TV
 | .iface t' v=>bif Nat.beq t t' then some (okT ok v true)else bif ok then some (.tuple [zero,.bool false])else none
 | .niliface=>bif ok then some (.tuple [zero,.bool false])else none
 | _=>none
def zqg (i:Nat):TV->Option TV
 | .tuple l=>nth l i
 | _=>none
def zz2:TO->Option TV
 | .map es _=>some (.int .i64 (.ofNat es.length))
 | _=>none
def zyC:TV->Option TV
 | .nilsl=>some (.int .i64 (.ofNat 0))
 | .sl _ _ _ n _ _=>some (.int .i64 (.ofNat n))
 | _=>none
def zuY (h:TH):TV->Option TV
 | .nilmap=>some (.int .i64 (.ofNat 0))
 | .map b=>(match h.get b with|some o=>zz2 o|none=>none)
 | _=>none
def zu7:TV->Option TV
 | .str s=>some (.int .i64 (.ofNat s.length))
 | _=>none
def zou (f:Nat)(h:TH)(x:TV):Option TV:=match f with
 | 1=>zyC x
 | 2=>zuY h x
 | 3=>zu7 x
 | _=>none
def ziM (mx:Bool)(x y:TV):Option TV:=match x with
 | .int k a=>(match y with | .int k' b=>bif Nat.beq (kno k) (kno k')then some (.int k (bif mx then(bif ile b a then a else b)else(bif ile a b then a else b)))else none|_=>none)
 | _=>none
def znG (zero:List TV)(places:List (Nat×Nat))(vs:List TV):Option TV:=match zh4 zero places vs with
 | some l=>some (.agg l)
 | none=>none
def pas (k:zX)(vs:List TV)(h:TH):Option TV :=
 match k with
 | .mov=>zA3 vs some
 | .pick=>zuf vs
 | .load agg n=>zA3 vs (zgg agg n h)
 | .nilchk=>zA3 vs zoB
 | .bin op=>zcj vs (zc3 op)
 | .eqnil neg f=>zcj vs fun x y=>zne neg (zh3 f x y)
 | .eqagg neg ks=>zcj vs (zni neg ks)
 | .eqB neg=>zcj vs (zn0 neg)
 | .cstr=>zA3 vs zu9
 | .un op=>zA3 vs (pUn op)
 | .conv k=>zA3 vs (zk2 k)
 | .mkif t=>zA3 vs fun x=>some (.iface t x)
 | .mkfn f=>some (.fn f vs)
 | .slice esz lo hi mx=>zhA esz lo hi mx vs
 | .slstr lo hi=>zj3 lo hi vs
 | .slarr len esz lo hi=>zmZ len esz lo hi vs
 | .faddr off size=>zA3 vs (ziY off size)
 | .fld agg off size=>zA3 vs (zxd agg off size)
 | .iaddr esz=>zcj vs (zi5 esz)
 | .iaddrA len esz=>zcj vs (zhv len esz)
 | .idxstr=>zcj vs zk3
 | .idxagg len agg esz=>zcj vs (zn6 len agg esz)
 | .look kf zero ok=>zcj vs (zhf kf zero ok h)
 | .tassert t zero ok=>zA3 vs (zjR t zero ok)
 | .extr i=>zA3 vs (zqg i)
 | .len f=>zA3 vs (zou f h)
 | .maxI=>zcj vs (ziM true)
 | .minI=>zcj vs (ziM false)
 | .build zero places=>znG zero places vs
 | _=>none
def zcq (e:Nat)(l:List TV):TO:=.row e 0 0 l.length (Tr.putL .nil 0 l)
structure zdE where
 o:TO
 v:TV
def zn3 (e n b:Nat)(vs:List TV):Option zdE:=match vs with
 | [v]=>bif Nat.beq v.cells.length n then some ⟨zcq e v.cells,.ptr b 0 0 n⟩else none
 | _=>none
def zkG (e:Nat)(zero:List TV)(b:Nat)(vs:List TV):Option zdE:=match vs with
 | []=>some ⟨zcq e zero,.ptr b 0 0 zero.length⟩
 | _=>none
def zho (e esz len:Nat)(zero:List TV)(places:List (Nat×Nat))(b:Nat)(vs:List TV):Option zdE :=
 bif Nat.ble (len*esz) 16777216 then(match zh4 (zeb zero len) places vs with
  | some l=>some ⟨zcq e l,.sl b 0 0 len (2*len) esz⟩
  | none=>none)else none
def zgs (e esz bytes:Nat)(zero:List TV)(b:Nat)(vs:List TV):Option zdE:=match vs with
 | [x,y]=>(match zek x,zek y with
  | some n,some c=>bif Nat.ble n c then bif Nat.ble c 1000000 then bif Nat.ble (c*bytes) 140737488355328 then some ⟨zcq e (zeb zero n),.sl b 0 0 n (2*n) esz⟩else none else none else none
  | _,_=>none)
 | _=>none
def zkm (b:Nat)(vs:List TV):Option zdE:=match vs with
 | []=>some ⟨.map [] 0,.map b⟩
 | [.int _ _]=>some ⟨.map [] 0,.map b⟩
 | _=>none
def lay (k:zX)(vs:List TV)(b:Nat):Option zdE :=
 match k with
 | .box e n=>zn3 e n b vs
 | .alloc e zero=>zkG e zero b vs
 | .bslice e esz len zero places=>zho e esz len zero places b vs
 | .mkslice e esz bytes zero=>zgs e esz bytes zero b vs
 | .mkmap=>zkm b vs
 | _=>none
inductive TE where
 | ret (v:TV)
 | panic (v:TV)
structure zbA where
 fn:Nat->List TV->TH->Option (TE×TH)
 rd:Nat->List TV->TH->Option (Bool×TH)
def zmN (h:TH)(b g o:Nat)(l:List TV):TO->Option TH
 | .row e G _ len cells=>bif Nat.beq g G then bif Nat.ble (o+l.length) len then some (h.set b (.row e G G len (cells.putL o l)))else none else none
 | _=>none
def zdL (h:TH)(b g o:Nat)(l:List TV):Option TH :=
 match h.get b with
 | some x=>zmN h b g o l x
 | none=>none
def zeT (h:TH)(esz:Nat)(x:TV)(n:Nat):Option (List TV):=match x with
 | .nilsl=>some []
 | .sl b g o _ _ z=>bif Nat.beq esz z then zbw h b g o (n*z)else none
 | _=>none
def lenV:TV->Nat
 | .sl _ _ _ n _ _=>n
 | .str s=>s.length
 | _=>0
inductive TR where
 | ok (v:TV) (h:TH)
 | panic (v:TV) (h:TH)
 | dfr (d:TD)
def zkM (h:TH)(e esz bytes m:Nat)(news:List TV):Option TR :=
 bif Nat.ble (m*(bytes+1)) 140737488355328 then some (.ok (.sl h.next 0 0 m (2*m) esz) (h.push (zcq e news)))else none
def zmD (h:TH)(e bytes b g n z m:Nat)(news:List TV):TO->Option TR
 | .row e' G M len cells =>
  bif Nat.beq e e' then bif Nat.beq g G then bif Nat.beq (n*z) len then bif Nat.ble ((n+m)*(bytes+1)) 140737488355328 then
   some (.ok (.sl b (G+1) 0 (n+m) (2*(n+m)) z) (h.set b (.row e' (G+1) M (len+news.length) (cells.putL len news))))
  else none else none else none else none
 | _=>none
def ztY (h:TH)(e esz bytes:Nat)(s x:TV):Option TR :=
 match zeT h esz x (lenV x)with
 | none=>none
 | some news =>
  match s with
  | .nilsl=>bif Nat.beq (lenV x) 0 then some (.ok .nilsl h)else zkM h e esz bytes (lenV x) news
  | .sl b g o n q z=>bif Nat.beq (lenV x) 0 then some (.ok (.sl b g o n q z) h)else
   bif Nat.beq o 0 then bif Nat.beq (q%2) 0 then bif Nat.beq esz z then(match h.get b with
   | some r=>zmD h e bytes b g n z (lenV x) news r
   | none=>none)else none else none else none
  | _=>none
def setE (i:Nat)(k v:TV)(es:List zcy):List zcy:=match es with
 | []=>[]
 | e::l=>match i with
  | 0=>⟨k,v,e.n⟩::l
  | i+1=>e::setE i k v l
def zmR (n:Nat)(v:TV):List zcy->Option (List zcy)
 | []=>none
 | e::l=>bif Nat.beq e.n n then some (⟨e.k,v,e.n⟩::l)else match zmR n v l with
  | none=>none
  | some l'=>some (e::l')
def zgW (n:Nat)(h:TH)(vs:List TV):Option TR:=match vs with
 | [.ptr b g o e,v]=>bif Nat.beq v.cells.length n then bif Nat.ble n e then(match zdL h b g o v.cells with
  | some h=>some (.ok (.tuple []) h)
  | none=>none)else none else none
 | _=>none
def zt4 (h:TH)(b:Nat)(k v:TV):TO->Option TR
 | .map es clock=>(match zeH k es 0 with
   | none=>none
   | some none=>some (.ok (.tuple []) (h.set b (.map (es++[⟨k,v,clock⟩]) (clock+1))))
   | some (some (i,_))=>some (.ok (.tuple []) (h.set b (.map (setE i k v es) clock))))
 | _=>none
def zjb (kf:Nat)(h:TH)(vs:List TV):Option TR:=match vs with
 | [.map b,k,v]=>bif ze9 kf k then(match h.get b with|some o=>zt4 h b k v o|none=>none)else none
 | _=>none
def zuE (zero:TV)(h:TH)(b:Nat)(k:TV):TO->Option TR
 | .map es clock=>(match zeH k es 0 with
   | none=>none
   | some none=>some (.ok (.tuple [zero,.int .i64 (.ofNat clock)]) (h.set b (.map (es++[⟨k,zero,clock⟩]) (clock+1))))
   | some (some (_,e))=>some (.ok (.tuple [e.v,.int .i64 (.ofNat e.n)]) h))
 | _=>none
def zqk (kf:Nat)(zero:TV)(h:TH)(vs:List TV):Option TR:=match vs with
 | [.map b,k]=>bif ze9 kf k then(match h.get b with|some o=>zuE zero h b k o|none=>none)else none
 | _=>none
def zxW (h:TH)(b n:Nat)(v:TV):TO->Option TR
 | .map es clock=>(match zmR n v es with
   | none=>none
   | some es=>some (.ok (.tuple []) (h.set b (.map es clock))))
 | _=>none
def zk7 (h:TH)(vs:List TV):Option TR:=match vs with
 | [.map b,s,v]=>(match zek s with|some n=>(match h.get b with|some o=>zxW h b n v o|none=>none)|none=>none)
 | _=>none
def zfM (e esz bytes:Nat)(h:TH)(vs:List TV):Option TR:=match vs with
 | [s,x]=>ztY h e esz bytes s x
 | _=>none
def zf4 (esz:Nat)(h:TH)(vs:List TV):Option TR:=match vs with
 | [d,x]=>let m:=min (lenV x) (lenV d);(match zeT h esz x m with
  | none=>none
  | some news=>match d with
   | .nilsl=>some (.ok (.int .i64 (.ofNat 0)) h)
   | .sl b g o _ _ z=>bif Nat.beq m 0 then some (.ok (.int .i64 (.ofNat 0)) h)else bif Nat.beq esz z then(match zdL h b g o news with
    | some h=>some (.ok (.int .i64 (.ofNat m)) h)
    | none=>none)else none
   | _=>none)
 | _=>none
def zjI:Option (TE×TH)->Option TR
 | some (.ret v,h)=>some (.ok v h)
 | some (.panic v,h)=>some (.panic v h)
 | none=>none
def zBj:Option (Bool×TH)->Option TR
 | some (b,h)=>some (.ok (.bool b) h)
 | none=>none
def zlj (C:zbA)(h:TH)(vs:List TV):Option TR:=match vs with
 | .fn f cap::args=>zjI (C.fn f (args++cap) h)
 | .yield l::args=>zBj (C.rd l args h)
 | _=>none
def zvk (h:TH)(vs:List TV):Option TR:=match vs with
 | [.iface t v]=>some (.panic (.iface t v) h)
 | _=>none
def zrV (caught:Tr Unit)(vs:List TV):Option TR:=match vs with
 | [.fn f [],p,c]=>(match caught.get f with
  | some _=>some (.dfr (.caught p c))
  | none=>none)
 | _=>none
def act (C:zbA)(caught:Tr Unit)(k:zX)(vs:List TV)(h:TH):Option TR :=
 match k with
 | .store n=>zgW n h vs
 | .mupd kf=>zjb kf h vs
 | .ment kf zero=>zqk kf zero h vs
 | .estore=>zk7 h vs
 | .append e esz bytes=>zfM e esz bytes h vs
 | .copy esz=>zf4 esz h vs
 | .call=>zlj C h vs
 | .panic=>zvk h vs
 | .defer=>zrV caught vs
 | _=>none
def zgL (b:Bool):Option TV->Option Bool
 | some (.bool c)=>some (bif b then c else not c)
 | some _=>some false
 | none=>none
def zmj (tm:Tr TV):Option (TOp×Bool)->Option Bool
 | none=>some true
 | some (x,b)=>zgL b (zeX tm x)
def zer (tm nm:Tr TV):Option (TOp×Bool)->Option Bool
 | none=>some true
 | some (x,b)=>zgL b (zfR tm nm x)
inductive TS where
 | go (s:St)
 | panic (v:TV) (s:St)
def zoo (d:Option Nat)(s:St):Option TR->Option TS
 | some (.ok v h)=>some (.go ((⟨s.tm,s.df,h⟩:St).put d v))
 | some (.panic v h)=>some (.panic v ⟨s.tm,s.df,h⟩)
 | some (.dfr x)=>some (.go ((⟨s.tm,x::s.df,s.h⟩:St).put d (.tuple [])))
 | none=>none
def zAd (d:Option Nat)(s:St):Option zdE->Option TS
 | some x=>some (.go ((⟨s.tm,s.df,s.h.push x.o⟩:St).put d x.v))
 | none=>none
def zz0 (d:Option Nat)(s:St):Option TV->Option TS
 | some v=>some (.go (s.put d v))
 | none=>none
def ziI (C:zbA)(caught:Tr Unit)(o:zaw)(s:St)(vs:List TV):Option TS :=
 match o.kind.cls with
 | 0=>zz0 o.dst s (pas o.kind vs s.h)
 | 1=>zAd o.dst s (lay o.kind vs s.h.next)
 | _=>zoo o.dst s (act C caught o.kind vs s.h)
def zfs (C:zbA)(caught:Tr Unit)(o:zaw)(s:St):Option TS :=
 match zmj s.tm o.guard with
 | none=>none
 | some false=>some (.go (s.put o.dst (.tuple [])))
 | some true=>match zdP s.tm o.args with
  | none=>none
  | some vs=>ziI C caught o s vs
def zbC (C:zbA)(caught:Tr Unit):List zaw->St->Option TS
 | [],s=>some (.go s)
 | o::l,s=>match zfs C caught o s with
  | some (.go s')=>zbC C caught l s'
  | r=>r
def zlh:Nat->Nat->Tr TV->Tr TV->Bool
 | _,0,_,_=>true
 | i,n+1,a,b=>match a.get i,b.get i with
  | some x,some y=>bif TV.beq 4 x y then zlh (i+1) n a b else false
  | _,_=>false
def zoH (a b:TO):Bool :=
 match a,b with
 | .row e G M n c,.row e' G' M' n' c'=>bif Nat.beq e e' then bif Nat.beq G G' then bif Nat.beq M M' then bif Nat.beq n n' then zlh 0 n c c' else false else false else false else false
 | .map [] c,.map [] c'=>Nat.beq c c'
 | _,_=>false
def zd9:TV->Option Nat
 | .ptr b _ _ _ | .sl b _ _ _ _ _ | .map b=>some b
 | _=>none
def zgh (nm:Tr TV)(d:Option Nat)(v:TV):Option (Tr TV):=match d with
 | none=>some nm
 | some d=>match nm.get d with
  | none=>some (nm.set d (some v))
  | some _=>none
structure DS where
 nm:Tr TV
 df:List TD
 h:TH
def dput (df:List TD)(h:TH):Option (Tr TV)->Option DS
 | some nm=>some ⟨nm,df,h⟩
 | none=>none
def zp9 (h:TH)(k:zX)(vs:List TV)(u:TV):Bool:=match pas k vs h with
 | some v=>TV.beq 4 v u
 | none=>false
def zp8 (h:TH)(k:zX)(vs:List TV)(u:TV):Bool:=match zd9 u with
 | none=>false
 | some b=>match lay k vs b with
  | some x=>(match h.get b with
   | some y=>bif TV.beq 4 x.v u then zoH x.o y else false
   | none=>false)
  | none=>false
def zqo (h:TH)(k:zX)(vs:List TV):Option TV->Bool
 | some u=>(match k.cls with
  | 0=>zp9 h k vs u
  | 1=>zp8 h k vs u
  | _=>false)
 | none=>false
def zqa (tm:Tr TV)(s:DS)(o:zaw):Bool:=match o.dst with
 | none=>false
 | some d=>match zdt tm s.nm o.args with
  | some vs=>zqo s.h o.kind vs (s.nm.get d)
  | none=>false
def zgH (tm:Tr TV)(s:DS)(o:zaw):Bool:=match zer tm s.nm o.guard with
 | none=>false
 | some false=>true
 | some true=>zqa tm s o
def zgk (tm:Tr TV)(s:DS):List zaw->Bool
 | []=>true
 | o::l=>bif zgH tm s o then zgk tm s l else false
def zwT (s:DS)(d:Option Nat):Option TV->Option DS
 | some v=>dput s.df s.h (zgh s.nm d v)
 | none=>none
def zye (s:DS)(d:Option Nat):Option zdE->Option DS
 | some x=>dput s.df (s.h.push x.o) (zgh s.nm d x.v)
 | none=>none
def zrp (tm:Tr TV)(o:zaw)(s:DS):Option DS:=match zdt tm s.nm o.args with
 | none=>none
 | some vs=>match o.kind.cls with
  | 0=>zwT s o.dst (pas o.kind vs s.h)
  | 1=>zye s o.dst (lay o.kind vs s.h.next)
  | _=>none
def zkE (tm:Tr TV)(o:zaw)(s:DS):Option DS:=match zer tm s.nm o.guard with
 | none=>none
 | some false=>dput s.df s.h (zgh s.nm o.dst (.tuple []))
 | some true=>zrp tm o s
def zit (tm:Tr TV):List zaw->DS->Option DS
 | [],s=>some s
 | o::l,s=>match zkE tm o s with
  | some s=>zit tm l s
  | none=>none
inductive DR where
 | go (s:DS)
 | panic (v:TV) (df:List TD) (h:TH)
def dgo:Option DS->Option DR
 | some s=>some (.go s)
 | none=>none
def zjV (d:Option Nat)(s:DS):Option TR->Option DR
 | some (.ok v h)=>dgo (dput s.df h (zgh s.nm d v))
 | some (.panic v h)=>some (.panic v s.df h)
 | some (.dfr x)=>dgo (dput (x::s.df) s.h (zgh s.nm d (.tuple [])))
 | none=>none
def zkh (C:zbA)(caught:Tr Unit)(tm:Tr TV)(o:zaw)(s:DS):Option DR:=match zer tm s.nm o.guard with
 | none=>none
 | some false=>dgo (dput s.df s.h (zgh s.nm o.dst (.tuple [])))
 | some true=>match zdt tm s.nm o.args with
  | none=>none
  | some vs=>zjV o.dst s (act C caught o.kind vs s.h)
def zcY (C:zbA)(caught:Tr Unit)(tm:Tr TV):List zcr->DS->Option DR
 | [],s=>some (.go s)
 | g::l,s=>bif zgk tm s g.chk then(match zit tm g.exe s with
  | some s=>match g.act with
   | none=>zcY C caught tm l s
   | some o=>match zkh C caught tm o s with
    | some (.go s)=>zcY C caught tm l s
    | r=>r
  | none=>none)else none
def zjz (nm:Tr TV):List Nat->Tr TV->Tr TV
 | [],tm=>tm
 | d::l,tm=>zjz nm l (tm.set d (nm.get d))
def zgi:List Nat->Tr TV->Tr TV
 | [],tm=>tm
 | d::l,tm=>zgi l (tm.set d none)
def zh9 (f:St->Option (TX×St)):Nat->St->Option (TX×St)
 | 0,_=>none
 | n+1,s=>match f s with
  | some (.norm,s')=>zh9 f n s'
  | r=>r
def zm6 (dsts:Tr TV->Tr TV):Option TS->Option (TX×St)
 | some (.go s)=>some (.norm,s)
 | some (.panic v s)=>some (.panic v,{ s with tm:=dsts s.tm })
 | none=>none
def zj7 (ds:List Nat)(tm:Tr TV):Option DR->Option (TX×St)
 | some (.go s)=>some (.norm,⟨zjz s.nm ds tm,s.df,s.h⟩)
 | some (.panic v df h)=>some (.panic v,⟨zgi ds tm,df,h⟩)
 | none=>none
def zdT:List zaw->Tr TV->Tr TV
 | [],tm=>tm
 | o::l,tm=>zdT l (match o.dst with|some d=>tm.set d none|none=>tm)
structure zyz where
 h:TH
 df:List TD
 d:Nat
 l:Nat
def zyD:TO->Option Nat
 | .loop _ _ _ _ _ _ d=>some d
 | _=>none
def zkk (rnd:Option Nat)(s:St):Option zyz:=match rnd with
 | none=>some ⟨s.h.push (.dfr false),.mark s.h.next::s.df,s.h.next,s.h.next+1⟩
 | some l0=>match s.h.get l0 with
  | some o=>(match zyD o with
   | some d=>some ⟨s.h,s.df,d,s.h.next⟩
   | none=>none)
  | none=>none
def zyE (h:TH)(l:Nat)(tm:Tr TV)(df:List TD):TO->Option (TX×St)
 | .loop st pe tm' ps aS bo d=>(match st with
  | .busy=>none
  | _=>some (pe,⟨tm,df,h.set l (.loop .exhausted pe tm' ps aS bo d)⟩))
 | _=>none
def zqB (l:Nat)(tm:Tr TV)(df:List TD):Option (TE×TH)->Option (TX×St)
 | some (.ret _,h)=>(match h.get l with
  | some o=>zyE h l tm df o
  | none=>none)
 | _=>none
def znC (C:zbA)(rnd:Option Nat)(g:Nat)(cap:List TV)(params:List Nat)(assign body:zbk)(s:St):Option (TX×St) :=
 match zkk rnd s with
 | none=>none
 | some x=>zqB x.l s.tm x.df (C.fn g (.yield x.l::cap) (x.h.push (.loop .ready .norm s.tm params assign body x.d)))
def zbp (C:zbA)(caught:Tr Unit)(N:Nat)(rnd:Option Nat):zbk->St->Option (TX×St)
 | .skip,s=>some (.norm,s)
 | .region ops,s=>zm6 (zdT ops) (zbC C caught ops s)
 | .drawn gs ds,s=>zj7 ds s.tm (zcY C caught s.tm gs ⟨.nil,s.df,s.h⟩)
 | .seq a b,s=>match zbp C caught N rnd a s with
  | some (.norm,s')=>zbp C caught N rnd b s'
  | r=>r
 | .cond c a b,s=>match zeX s.tm c with
  | some (.bool true)=>zbp C caught N rnd a s
  | some (.bool false)=>zbp C caught N rnd b s
  | _=>none
 | .block id b,s=>match zbp C caught N rnd b s with
  | some (.exit j,s')=>bif Nat.beq j id then some (.norm,s')else some (.exit j,s')
  | r=>r
 | .loop b,s=>zh9 (zbp C caught N rnd b) N s
 | .exit id,s=>some (.exit id,s)
 | .goto l,s=>some (.goto l,s)
 | .ret,s=>some (.ret,s)
 | .scope b l rest,s=>match zbp C caught N rnd b s with
  | some (.goto j,s')=>bif Nat.beq j l then(match zbp C caught N rnd rest s' with
   | some (.goto _,_)=>none
   | r=>r)else none
  | r=>r
 | .scope0 b,s=>match zbp C caught N rnd b s with
  | some (.goto _,_)=>none
  | r=>r
 | .rangef f params assign body,s =>
  match zeX s.tm f with
  | some (.fn g cap)=>znC C rnd g cap params assign body s
  | _=>none
inductive zlU where
 | tmp (t:Nat)
 | cell (t:Nat) (agg:Bool) (n:Nat)
structure zD where
 body:zbk
 res:List zlU
 N:Nat
structure Env where
 funcs:Tr zD
 spec:Nat->Option (List TV->TH->Option (TE×TH))
 caught:Tr Unit
 errno:Nat
 N:Nat
def zhw (tm:Tr TV)(h:TH):List zlU->Option (List TV)
 | []=>some []
 | r::l=>match(match r with
   | .tmp t=>tm.get t
   | .cell t agg n=>match tm.get t with
    | some p=>pas (.load agg n) [p] h
    | none=>none)with
  | none=>none
  | some v=>match zhw tm h l with
   | none=>none
   | some vs=>some (v::vs)
def tup:List TV->TV
 | [v]=>v
 | l=>.tuple l
inductive TM where
 | returning
 | panicking (v:TV)
def zcT (E:Env)(C:zbA):List TD->TM->TH->Option (TM×TH)
 | [],m,h=>some (m,h)
 | .mark b::l,m,h=>match h.get b with
  | some (.dfr false)=>zcT E C l m (h.set b (.dfr true))
  | _=>none
 | .caught p c::l,m,h=>match m with
  | .returning=>zcT E C l m h
  | .panicking (.iface t (.int .i64 n))=>bif Nat.beq t E.errno then(match c with
   | .fn g cap=>match C.fn g cap h with
    | some (.ret (.tuple []),h)=>match p with
     | .ptr b g 0 _=>match zdL h b g 0 [.int .i64 n]with
      | some h=>zcT E C l .returning h
      | none=>none
     | _=>none
    | _=>none
   | _=>none)else none
  | _=>none
def zif (E:Env)(F:zD)(tm:Tr TV):Option (TM×TH)->Option (TE×TH)
 | some (.returning,h)=>(match zhw tm h F.res with
  | some vs=>some (.ret (tup vs),h)
  | none=>none)
 | some (.panicking v,h)=>some (.panic v,h)
 | none=>none
def zxR (E:Env)(C:zbA)(F:zD):Option (TX×St)->Option (TE×TH)
 | some (x,s)=>(match x with
  | .norm=>zif E F s.tm (zcT E C s.df .returning s.h)
  | .ret=>zif E F s.tm (zcT E C s.df .returning s.h)
  | .panic v=>zif E F s.tm (zcT E C s.df (.panicking v) s.h)
  | _=>none)
 | none=>none
def zaY (E:Env)(C:zbA)(f:Nat)(args:List TV)(h:TH):Option (TE×TH) :=
 match E.funcs.get f with
 | some F=>bif Nat.ble args.length F.N then zxR E C F (zbp C E.caught E.N none F.body ⟨Tr.putL .nil 0 args,[],h⟩)else none
 | none=>match E.spec f with
  | some g=>g args h
  | none=>none
def zha:List Nat->List TV->Tr TV->Tr TV
 | p::ps,v::vs,t=>zha ps vs (t.set p (some v))
 | _,_,t=>t
def zt9 (x:TX)(h:TH)(l:Nat):TO->Option (Bool×TH)
 | .loop _ _ tm ps aS bo d=>(match x with
  | .norm=>some (true,h.set l (.loop .ready .norm tm ps aS bo d))
  | .panic _=>none
  | x=>some (false,h.set l (.loop .done x tm ps aS bo d)))
 | _=>none
def zhD (l:Nat):Option (TX×St)->Option (Bool×TH)
 | some (x,s)=>(match s.df with
  | []=>(match s.h.get l with
   | some o=>zt9 x s.h l o
   | none=>none)
  | _=>none)
 | none=>none
def zrJ (E:Env)(C:zbA)(l:Nat)(bo:zbk)(s:St):TO->Option (Bool×TH)
 | .loop st pe tm ps aS bo' d=>(match st with
  | .ready=>zhD l (zbp C .nil E.N (some l) bo ⟨s.tm,s.df,s.h.set l (.loop .busy pe tm ps aS bo' d)⟩)
  | _=>none)
 | _=>none
def zwX (E:Env)(C:zbA)(l:Nat)(bo:zbk):Option (TX×St)->Option (Bool×TH)
 | some (x,s)=>(match x with
  | .norm=>(match s.h.get l with
   | some o=>zrJ E C l bo s o
   | none=>none)
  | _=>none)
 | none=>none
def zr0 (E:Env)(C:zbA)(l:Nat)(args:List TV)(h:TH):TO->Option (Bool×TH)
 | .loop _ _ tm ps aS bo _=>bif Nat.beq ps.length args.length then zwX E C l bo (zbp C .nil E.N (some l) aS ⟨zha ps args tm,[],h⟩)else none
 | _=>none
def zn7 (E:Env)(C:zbA)(l:Nat)(args:List TV)(h:TH):Option (Bool×TH) :=
 match h.get l with
 | some o=>zr0 E C l args h o
 | none=>none
def zc2 (E:Env):Nat->zbA
 | 0=>⟨fun _ _ _=>none,fun _ _ _=>none⟩
 | d+1=>⟨zaY E (zc2 E d),zn7 E (zc2 E d)⟩
def zjq:Value->Option TV
 | .bool b=>some (.bool b)
 | .int k n=>some (.int k n)
 | .string s=>some (.str (s.data.toList.map (·.toNat)))
 | .pointer none=>some .nilptr
 | .slice none 0 0=>some .nilsl
 | .map none=>some .nilmap
 | .nilFunc=>some .nilfn
 | .nilIface=>some .niliface
 | _=>none
def zcS {α β:Type}(f:α->Option β):List α->Option (List β)
 | []=>some []
 | a::l=>match f a with
  | none=>none
  | some b=>match zcS f l with
   | none=>none
   | some bs=>some (b::bs)
def zmQ:Value->Option TV
 | .agg cs=>match zcS zjq cs.toList with
  | some l=>some (.agg l)
  | none=>none
 | .tuple cs=>match zcS zjq cs.toList with
  | some l=>some (.tuple l)
  | none=>none
 | .iface t v=>match zjq v with
  | some v=>some (.iface t v)
  | none=>none
 | v=>zjq v
def opT:Operand->Option TOp
 | .tmp t=>some (.tmp t)
 | .const v=>(zmQ v).map .const
 | .func f=>some (.fn f)
 | .global _=>none
section
variable (P:Program)
def ziL (t:TypeId):Option Bool:=match P.underlying t with
 | some (.struct _)|some (.array ..)=>some true
 | some _=>some false
 | none=>none
def zb0 (t:TypeId):Option Nat:=match P.info? t with
 | some i=>if i.size=0 then none else some i.size
 | none=>none
def zi6 (t:TypeId):Option Nat:=(P.info? t).map (·.bytes)
def zdu (t:TypeId):Option TV:=match P.info? t with
 | some i=>match i.zero with
  | some z=>zmQ z
  | none=>none
 | none=>none
def ziS (t:TypeId)(f:Nat):Option (Nat×Bool×Nat):=match P.underlying t with
 | some (.struct fs)=>match fs[f]? with
  | some x=>match ziL P x.type,zb0 P x.type with
   | some a,some n=>some (x.offset,a,n)
   | _,_=>none
  | none=>none
 | _=>none
def zk5 (t:TypeId):Option TypeId:=match P.underlying t with
 | some (.slice e)=>some e
 | _=>none
def zjw:List Field->Nat->Option (List Nat)
 | [],_=>some []
 | f :: l, n => if f.name = "_" then none else if f.offset ≠ n then none else match P.underlying f.type, zjw l (n + 1) with
  | some (.int _),some ks=>some (1::ks)
  | some .bool,some ks=>some (2::ks)
  | some .string,some ks=>some (3::ks)
  | _,_=>none
def zkU (t:TypeId):Option (List Nat):=match P.underlying t with
 | some (.struct fs)=>if P.stoodInHeld t then none else if P.eqGuardType P.depth t then none else zjw P fs.toList 0
 | _=>none
def zy8 (fs:List Field):Option (List (Nat×Nat)):=fs.mapM fun f=>(P.info? f.type).map fun i=>(f.offset,i.size)
def znR (pl:List (Nat×Nat))(p:Nat×Operand):Option (Nat×Nat):=match pl[p.1]? with
 | some q=>if q.2=0 then none else some q
 | none=>none
def zok (t:TypeId)(parts:List (Nat×Operand)):Option (List (Nat×Nat)):=match P.underlying t with
 | some (.struct fs)=>match zy8 P fs.toList with
  | some pl=>zcS (znR pl) parts
  | none=>none
 | _=>none
def mk (k:zX)(xs:List Operand):Option (zX×List TOp):=match zcS opT xs with
 | some l=>some (k,l)
 | none=>none
def zfF:Operand->Bool
 | .const _=>true
 | _=>false
def opK (o:Op):Option (zX×List TOp) :=
 match o with
 | .move x | .assign x=>mk .mov [x]
 | .pick c a b=>mk .pick [c,a,b]
 | .load t a=>match ziL P t,zb0 P t with
  | some g,some n=>mk (.load g n) [a]
  | _,_=>none
 | .store t a v=>match zb0 P t with
  | some n=>mk (.store n) [a,v]
  | none=>none
 | .nilCheck x=>mk .nilchk [x]
 | .binOp op t x y _=>match op,P.underlying t with
  | .eql,some (.int _) | .eql,some .string=>mk (.bin .eql) [x,y]
  | .neq,some (.int _) | .neq,some .string=>mk (.bin .neq) [x,y]
  | .eql,some .bool=>mk (.eqB false) [x,y]
  | .neq,some .bool=>mk (.eqB true) [x,y]
  | .eql,some (.struct _)=>match zkU P t with|some n=>mk (.eqagg false n) [x,y]|none=>none
  | .neq,some (.struct _)=>match zkU P t with|some n=>mk (.eqagg true n) [x,y]|none=>none
  | .eql,some (.pointer _)=>mk (.eqnil false 1) [x,y]
  | .eql,some (.slice _)=>mk (.eqnil false 2) [x,y]
  | .eql,some (.map ..)=>mk (.eqnil false 3) [x,y]
  | .eql,some (.func ..)=>mk (.eqnil false 4) [x,y]
  | .eql,some (.interface _)=>if zfF x||zfF y then mk (.eqnil false 5) [x,y]else none
  | .neq,some (.pointer _)=>mk (.eqnil true 1) [x,y]
  | .neq,some (.slice _)=>mk (.eqnil true 2) [x,y]
  | .neq,some (.map ..)=>mk (.eqnil true 3) [x,y]
  | .neq,some (.func ..)=>mk (.eqnil true 4) [x,y]
  | .neq,some (.interface _)=>if zfF x||zfF y then mk (.eqnil true 5) [x,y]else none
  | .eql,_ | .neq,_=>none
  | op,_=>mk (.bin op) [x,y]
 | .unOp op _ x=>mk (.un op) [x]
 | .convert src dst x=>match P.underlying src,P.underlying dst with
  | some (.int _),some (.int k)=>mk (.conv k) [x]
  | some .string,some .string=>mk .cstr [x]
  | _,_=>none
 | .makeInterface t x=>match P.underlying t with
  | some (.interface _)|none=>none
  | _=>mk (.mkif t) [x]
 | .makeFunc (.func f) first captured=>if first.size=0 then mk (.mkfn f) captured.toList else none
 | .makeMap t r=>match P.underlying t,r with
  | some (.map ..),none=>mk .mkmap []
  | some (.map ..),some x=>mk .mkmap [x]
  | _,_=>none
 | .makeSlice t l c=>match zk5 P t with
  | some e=>match zb0 P e,zi6 P e,zdu P e with
   | some n,some b,some z=>if z.cells.length=n then mk (.mkslice e n b z.cells) [l,c]else none
   | _,_,_=>none
  | none=>none
 | .slice t x lo hi mx=>match P.underlying t with
  | some (.slice e)=>match zb0 P e with
   | some n=>mk (.slice n lo.isSome hi.isSome mx.isSome) ([x]++lo.toList++hi.toList++mx.toList)
   | none=>none
  | some .string=>if mx.isSome then none else mk (.slstr lo.isSome hi.isSome) ([x]++lo.toList++hi.toList)
  | some (.array len e)=>if mx.isSome then none else match zb0 P e with
   | some n=>if len<=1000000 then mk (.slarr len n lo.isSome hi.isSome) ([x]++lo.toList++hi.toList)else none
   | none=>none
  | _=>none
 | .fieldAddr t x f=>match ziS P t f with
  | some (o,_,n)=>mk (.faddr o n) [x]
  | none=>none
 | .field t x f=>match ziS P t f with
  | some (o,a,n)=>mk (.fld a o n) [x]
  | none=>none
 | .indexAddr t x i=>match P.underlying t with
  | some (.slice e)=>match zb0 P e with
   | some n=>mk (.iaddr n) [x,i]
   | none=>none
  | some (.array len e)=>match zb0 P e with
   | some n=>mk (.iaddrA len n) [x,i]
   | none=>none
  | _=>none
 | .index t x i=>match P.underlying t with
  | some .string=>mk .idxstr [x,i]
  | some (.array len e)=>match ziL P e,zb0 P e with
   | some a,some n=>mk (.idxagg len a n) [x,i]
   | _,_=>none
  | _=>none
 | .lookup t m k ok=>match P.underlying t with
  | some (.map key e)=>match P.underlying key,zdu P e with
   | some (.int _),some z=>mk (.look 1 z ok) [m,k]
   | some .string,some z=>mk (.look 2 z ok) [m,k]
   | _,_=>none
  | _=>none
 | .mapUpdate t m k v | .insert t m k v=>match P.underlying t with
  | some (.map key _)=>match P.underlying key with
   | some (.int _)=>mk (.mupd 1) [m,k,v]
   | some .string=>mk (.mupd 2) [m,k,v]
   | _=>none
  | _=>none
 | .mapEntry t m k=>match P.underlying t with
  | some (.map key e)=>match P.underlying key,zdu P e with
   | some (.int _),some z=>mk (.ment 1 z) [m,k]
   | some .string,some z=>mk (.ment 2 z) [m,k]
   | _,_=>none
  | _=>none
 | .entryStore _ m s v=>mk .estore [m,s,v]
 | .typeAssert x _ t ok=>match P.underlying t,zdu P t with
  | some (.interface _),_|none,_|_,none=>none
  | _,some z=>mk (.tassert t z ok) [x]
 | .extract t i=>mk (.extr i) [t]
 | .alloc e=>match zdu P e,zb0 P e with
  | some z,some n=>if z.cells.length=n then mk (.alloc e z.cells) []else none
  | _,_=>none
 | .box e v=>match zb0 P e with
  | some n=>mk (.box e n) [v]
  | none=>none
 | .build t parts=>match P.underlying t,zdu P t,zok P t parts.toList with
  | some (.struct _),some (.agg z),some ps=>mk (.build z ps) (parts.toList.map (·.2))
  | _,_,_=>none
 | .buildSlice t len parts=>match zk5 P t with
  | some e=>match zb0 P e,zdu P e with
   | some n,some z=>if z.cells.length=n then mk (.bslice e n len z.cells (parts.toList.map fun p=>(p.1*n,n))) (parts.toList.map (·.2))else none
   | _,_=>none
  | none=>none
 | .panic x=>mk .panic [x]
 | .defer { callee:=.value f,args,.. }=>mk .defer (f::args.toList)
 | .call { callee:=.value f,args,.. }=>mk .call (f::args.toList)
 | .call { callee:=.builtin b,args,argTypes }=>match b,argTypes.toList with
  | .append,[t,u]=>match zk5 P t with
   | some e=>match zb0 P e,zi6 P e,zdu P e with
    | some n,some b,some z=>if z.cells.length=n then if u=t then mk (.append e n b) args.toList else none else none
    | _,_,_=>none
   | none=>none
  | .copy,[t,_]=>match zk5 P t with
   | some e=>match zb0 P e with
    | some n=>mk (.copy n) args.toList
    | none=>none
   | none=>none
  | .len,[t]=>match P.underlying t with
   | some (.slice _)=>mk (.len 1) args.toList
   | some (.map ..)=>mk (.len 2) args.toList
   | some .string=>mk (.len 3) args.toList
   | _=>none
  | .max,_=>if args.size=2 then mk .maxI args.toList else none
  | .min,_=>if args.size=2 then mk .minI args.toList else none
  | .panic,_=>if args.size=1 then mk .panic args.toList else none
  | _,_=>none
 | _=>none
def zkY (N:Nat)(ops:Array Oper)(o:Oper):Option zaw:=if(o.dst.all fun d=>decide (d<N))=false then none else match opK P o.op with
 | none=>none
 | some (k,args)=>match o.guard with
  | none=>some ⟨o.dst,k,args,none⟩
  | some (j,b)=>match(ops[j]?).bind (·.dst)with
   | some t=>some ⟨o.dst,k,args,some (.tmp t,b)⟩
   | none=>none
end
def zcB:List Oper->List Nat->List Nat
 | [],acc=>acc.reverse
 | o::l,acc =>
  let m:=o.after.toList.foldl (fun s e=>if Region.binds .any e then Nat.lor (Nat.lor s (2 ^ e.on)) (acc.reverse.getD e.on 0)else s) 0
  zcB l (m::acc)
structure Item where
 i:Nat
 o:zaw
 m:Nat
def zfZ:List zaw->List Nat->Nat->List Item
 | o::l,m::ms,i=>⟨i,o,m⟩::zfZ l ms (i+1)
 | _,_,_=>[]
def zkr:List Item->Bool
 | a::b::l=>b.m.testBit a.i&&zkr (b::l)
 | _=>true
def zff (acts:List Item)(x:Item):Nat:=(acts.filter fun a=>x.m.testBit a.i).length
def zhO:TOp->Bool
 | .new _=>false
 | _=>true
def zqp:TOp->Option Nat
 | .tmp t=>some t
 | _=>none
def zj2 (o:zaw):List Nat:=(o.args++(match o.guard with|some (x,_)=>[x]|none=>[])).filterMap zqp
def zli (all:List Item):Bool :=
  all.all fun x =>
    (match x.o.dst with
     | none=>x.o.kind.cls==2
     | some d=>all.all fun y=>y.i==x.i || !(y.o.dst==some d)) &&
    (x.o.args.all zhO&&(match x.o.guard with|some (p,_)=>zhO p|none=>true)) &&
    (zj2 x.o).all fun t=>all.all fun y=>!(y.o.dst==some t)||x.m.testBit y.i||y.m.testBit x.i
def zma (all:List Item)(x:Item):TOp->TOp
 | .tmp t=>if all.any fun y=>y.o.dst==some t&&x.m.testBit y.i then .new t else .tmp t
 | a=>a
def zcW (all:List Item)(x:Item):zaw:=⟨x.o.dst,x.o.kind,x.o.args.map (zma all x),x.o.guard.map fun p=>(zma all x p.1,p.2)⟩
def zw5 (all acts:List Item)(s:Nat):List zaw:=(all.filter fun x=>x.o.kind.cls != 2&&decide (zff acts x<s)&&(acts.take s).all fun a=>!a.m.testBit x.i).map (zcW all)
def zBk (all acts:List Item)(s:Nat):List zaw:=(all.filter fun x=>x.o.kind.cls != 2&&zff acts x==s).map (zcW all)
def zez (all acts:List Item):Nat->List Item->List zcr
 | s,[]=>[⟨zw5 all acts s,zBk all acts s,none⟩]
 | s,a::l=>⟨zw5 all acts s,zBk all acts s,some (zcW all a)⟩::zez all acts (s+1) l
def zk8:List Oper->Nat->Bool
 | [],_=>true
 | o::l,i=>(o.after.all fun e=>!Region.binds .any e||decide (e.on<i))&&zk8 l (i+1)
def zmE (ops:List Oper)(os:List zaw):Option zbk :=
 let all:=zfZ os (zcB ops []) 0
 let acts:=all.filter fun x=>x.o.kind.cls==2
 if zk8 ops 0&&zkr acts&&zli all then some (.drawn (zez all acts 0 acts) (all.filterMap fun x=>x.o.dst))else none
def zse:Code->Option Nat
 | .label l=>some l
 | .seq a b=>match zse a with
  | some l=>some l
  | none=>zse b
 | _=>none
section
variable (P:Program)
def zcb (N:Nat):Nat->Code->Option zbk
 | 0,_=>none
 | n+1,c=>match c with
  | .skip | .label _=>some .skip
  | .region _ ops draw=>match zcS (zkY P N ops) ops.toList with
   | none=>none
   | some os=>if draw then zmE ops.toList os else some (.region os)
  | .seq a b=>match zcb N n a,zcb N n b with
   | some a,some b=>some (.seq a b)
   | _,_=>none
  | .cond c a b=>match opT c,zcb N n a,zcb N n b with
   | some c,some a,some b=>some (.cond c a b)
   | _,_,_=>none
  | .block id b=>match zcb N n b with
   | some b=>some (.block id b)
   | none=>none
  | .loop b=>match zcb N n b with
   | some b=>some (.loop b)
   | none=>none
  | .rangeFunc f ps a b=>if(ps.toList.all fun d=>decide (d<N))=false then none else match opT f,zcb N n a,zcb N n b with
   | some f,some a,some b=>some (.rangef f ps.toList a b)
   | _,_,_=>none
  | .exit id=>some (.exit id)
  | .goto l=>some (.goto l)
  | .ret=>some .ret
  | .scope b=>match zse b with
   | none=>match zcb N n b with
    | some b=>some (.scope0 b)
    | none=>none
   | some l=>match findLabel b l with
    | none=>none
    | some r=>match zcb N n b,zcb N n r with
     | some b,some r=>some (.scope b l r)
     | _,_=>none
  | .refuse _=>none
def zhn:ResultVar->Option zlU
 | .tmp t=>some (.tmp t)
 | .cell t ty=>match ziL P ty,zb0 P ty with
  | some a,some n=>some (.cell t a n)
  | _,_=>none
def zjv (F:Func):Option zD:=match F.body with
 | none=>none
 | some c=>match zcb P F.ntmps 1000 c,zcS (zhn P) F.results.toList with
  | some c,some r=>some ⟨c,r,F.ntmps⟩
  | _,_=>none
end
end Tw
end Go.Proofs.YtfomlmhnmheenaaGreat
namespace Go.Proofs.YtfomlmhnmheenaaGreat
open Go.RowKit
namespace Tw
section tries
variable {α:Type}
theorem Tr.get_setN (x:Option α):∀(d:Nat) (t:Tr α) (n m:Nat),n<d->(Tr.setN x d t n).get m=if m=n then x else t.get m
 | 0,_,_,_,h=>absurd h (zFI9 _)
 | d+1,.nil,n,m,h=>by
  have ih1:=Tr.get_setN x d .nil (n/2) (m/2);have ih2:=Tr.get_setN x d .nil (n/2-1) (m/2-1);unfold Tr.setN
  cases hn:Nat.beq n 0<;>simp only[cond_true,cond_false]
  ·have hn0:n≠0:=fun e=>by subst e;simp at hn
   cases hn2:Nat.beq (n%2) 1<;>simp only[cond_true,cond_false]
   ·have hne:n%2≠1:=fun e=>by rw[e]at hn2;simp at hn2
    unfold Tr.get
    cases hm:Nat.beq m 0<;>simp only[cond_true,cond_false]
    ·have hm0:m≠0:=fun e=>by subst e;simp at hm
     cases hm2:Nat.beq (m%2) 1<;>simp only[cond_true,cond_false]
     ·have hme:m%2≠1:=fun e=>by rw[e]at hm2;simp at hm2
      rw[ih2 (by omega)]
      by_cases e:m=n
      ·subst e;simp
      ·rw[if_neg e,if_neg (by omega)];rfl
     ·have hme:m%2=1:=zAN9 hm2;rw[if_neg (by omega)];rfl
    ·have hm0:m=0:=zAN9 hm;rw[if_neg (by omega)]
   ·have hne:n%2=1:=zAN9 hn2;unfold Tr.get
    cases hm:Nat.beq m 0<;>simp only[cond_true,cond_false]
    ·have hm0:m≠0:=fun e=>by subst e;simp at hm
     cases hm2:Nat.beq (m%2) 1<;>simp only[cond_true,cond_false]
     ·have hme:m%2≠1:=fun e=>by rw[e]at hm2;simp at hm2
      rw[if_neg (by omega)];rfl
     ·have hme:m%2=1:=zAN9 hm2;rw[ih1 (by omega)]
      by_cases e:m=n
      ·subst e;simp
      ·rw[if_neg e,if_neg (by omega)];rfl
    ·have hm0:m=0:=zAN9 hm;rw[if_neg (by omega)]
  ·have hn0:n=0:=zAN9 hn;subst hn0;unfold Tr.get
   cases hm:Nat.beq m 0<;>simp only[cond_true,cond_false]
   ·have hm0:m≠0:=fun e=>by subst e;simp at hm
    rw[if_neg hm0]
    cases Nat.beq (m%2) 1<;>rfl
   ·rw[if_pos (zAN9 hm)]
 | d+1,.node l v r,n,m,h=>by
  have ih1:=Tr.get_setN x d l (n/2) (m/2);have ih2:=Tr.get_setN x d r (n/2-1) (m/2-1);unfold Tr.setN
  cases hn:Nat.beq n 0<;>simp only[cond_true,cond_false]
  ·have hn0:n≠0:=fun e=>by subst e;simp at hn
   cases hn2:Nat.beq (n%2) 1<;>simp only[cond_true,cond_false]
   ·have hne:n%2≠1:=fun e=>by rw[e]at hn2;simp at hn2
    unfold Tr.get
    cases hm:Nat.beq m 0<;>simp only[cond_true,cond_false]
    ·have hm0:m≠0:=fun e=>by subst e;simp at hm
     cases hm2:Nat.beq (m%2) 1<;>simp only[cond_true,cond_false]
     ·have hme:m%2≠1:=fun e=>by rw[e]at hm2;simp at hm2
      rw[ih2 (by omega)]
      by_cases e:m=n
      ·subst e;simp
      ·rw[if_neg e,if_neg (by omega)]
     ·have hme:m%2=1:=zAN9 hm2;rw[if_neg (by omega)]
    ·have hm0:m=0:=zAN9 hm;rw[if_neg (by omega)]
   ·have hne:n%2=1:=zAN9 hn2;unfold Tr.get
    cases hm:Nat.beq m 0<;>simp only[cond_true,cond_false]
    ·have hm0:m≠0:=fun e=>by subst e;simp at hm
     cases hm2:Nat.beq (m%2) 1<;>simp only[cond_true,cond_false]
     ·have hme:m%2≠1:=fun e=>by rw[e]at hm2;simp at hm2
      rw[if_neg (by omega)]
     ·have hme:m%2=1:=zAN9 hm2;rw[ih1 (by omega)]
      by_cases e:m=n
      ·subst e;simp
      ·rw[if_neg e,if_neg (by omega)]
    ·have hm0:m=0:=zAN9 hm;rw[if_neg (by omega)]
  ·have hn0:n=0:=zAN9 hn;subst hn0;unfold Tr.get
   cases hm:Nat.beq m 0<;>simp only[cond_true,cond_false]
   ·have hm0:m≠0:=fun e=>by subst e;simp at hm
    rw[if_neg hm0]
   ·rw[if_pos (zAN9 hm)]
theorem Tr.get_set (t:Tr α)(n:Nat)(x:Option α)(m:Nat):(t.set n x).get m=if m=n then x else t.get m:=Tr.get_setN x (n+1) t n m (zCE9 _)
theorem Tr.get_nil (n:Nat):(Tr.nil:Tr α).get n=none:=rfl
theorem Tr.get_putL:∀(l:List α) (t:Tr α) (n m:Nat),(Tr.putL t n l).get m=if n<=m/\m<n+l.length then l[m-n]? else t.get m
 | [],t,n,m=>by simp only[Tr.putL,zAF9];rw[if_neg (by omega)]
 | x::l,t,n,m=>by
  rw[Tr.putL,Tr.get_putL l _ (n+1) m,Tr.get_set];simp only[zAE9]
  by_cases h:m=n
  ·subst h;rw[if_neg (by omega),if_pos rfl,if_pos (by omega)];simp
  ·rw[if_neg h]
   by_cases h2:n+1<=m/\m<n+1+l.length
   ·rw[if_pos h2,if_pos (by omega)];rw[show m-n=(m-(n+1))+1 by omega,zAY9]
   ·rw[if_neg h2,if_neg (by omega)]
theorem Tr.getL_some:∀{n i:Nat} {t:Tr α} {l:List α},Tr.getL t i n=some l->l.length=n/\∀j,j<n->l[j]?=t.get (i+j)
 | 0,i,t,l,h=>by simp[Tr.getL]at h;subst h;exact⟨rfl,fun j hj=>absurd hj (zFI9 _)⟩
 | n+1,i,t,l,h=>by
  unfold Tr.getL at h
  split at h
  ·cases h
  ·rename_i x hx
   split at h
   ·cases h
   ·rename_i l' hl';injection h with h;subst h;obtain⟨h1,h2⟩:=Tr.getL_some hl';refine⟨by simp[h1],fun j hj=>?_⟩
    cases j with
    | zero=>simp[hx]
    | succ j=>rw[zAY9,h2 j (by omega)];congr 1;omega
end tries
theorem zh2 {a b:Nat}(h:a<b):Nat.blt a b=true:=zEU9.mpr h
theorem zyA {a b:Nat}(h:¬a<b):Nat.blt a b=false:=by
 cases hb:Nat.blt a b
 ·rfl
 ·exact absurd (zEU9.mp hb) h
theorem TH.get_push (h:TH)(o:TO)(b:Nat):(h.push o).get b=if b=h.next then some o else h.get b:=by
 unfold TH.get TH.push;dsimp only;rw[Tr.get_set]
 by_cases e:b=h.next
 ·subst e;rw[if_pos rfl,if_pos rfl,zh2 (zCE9 _)];rfl
 ·rw[if_neg e,if_neg e]
  by_cases hlt:b<h.next
  ·rw[zh2 hlt,zh2 (Nat.lt_succ_of_lt hlt)]
  ·rw[zyA hlt,zyA (by omega)]
theorem TH.get_set (h:TH)(b:Nat)(o:TO)(c:Nat)(hb:b<h.next):(h.set b o).get c=if c=b then some o else h.get c:=by
 unfold TH.get TH.set;dsimp only;rw[Tr.get_set]
 by_cases e:c=b
 ·subst e;rw[if_pos rfl,if_pos rfl,zh2 hb];rfl
 ·rw[if_neg e,if_neg e]
theorem TH.get_lt {h:TH}{b:Nat}{o:TO}(hg:h.get b=some o):b<h.next:=by
 unfold TH.get at hg
 cases hb:Nat.blt b h.next
 ·rw[hb]at hg;cases hg
 ·exact zEU9.mp hb
theorem TH.next_push (h:TH)(o:TO):(h.push o).next=h.next+1:=rfl
theorem TH.next_set (h:TH)(b:Nat)(o:TO):(h.set b o).next=h.next:=rfl
structure Loc where
 r:Nat
 L:Nat
 S:Nat
abbrev Rho:=Nat->Nat->Option Loc
def TV.one:TV->Bool
 | .agg _ | .tuple _=>false
 | _=>true
inductive VR (ρ:Rho):TV->Value->Prop
 | bool (b:Bool):VR ρ (.bool b) (.bool b)
 | int (k:IntKind) (n:Int):VR ρ (.int k n) (.int k n)
 | str (s:ByteArray):VR ρ (.str (s.data.toList.map (·.toNat))) (.string s)
 | nilptr:VR ρ .nilptr (.pointer none)
 | ptr {b g o e:Nat} {loc:Loc} (h:ρ b g=some loc) (hc:o+e<=loc.L):VR ρ (.ptr b g o e) (.pointer (some ⟨loc.r,o,none⟩))
 | nilsl:VR ρ .nilsl (.slice none 0 0)
 | sl {b g o n q z o' c:Nat} {loc:Loc} (h:ρ b g=some loc) (hn:n<=q/2) (hq:q/2<=c) (hc:o+q/2*z<=loc.L) (ho:o'=o\/n=0/\c=0/\o≠0) (hs:q%2=0->o+c*z=loc.S) (hm:c<=maxLen) :
   VR ρ (.sl b g o n q z) (.slice (some ⟨loc.r,o',none⟩) n c)
 | nilmap:VR ρ .nilmap (.map none)
 | map {b:Nat} {loc:Loc} (h:ρ b 0=some loc):VR ρ (.map b) (.map (some loc.r))
 | fn {f:Nat} {l:List TV} {cs:List Value} (hl:l.length=cs.length) (h:∀(i:Nat) (x:TV) (y:Value),l[i]?=some x->cs[i]?=some y->VR ρ x y):VR ρ (.fn f l) (.func (.func f) #[] cs.toArray)
 | yield {l:Nat} {loc:Loc} (h:ρ l 0=some loc):VR ρ (.yield l) (.func (.yield loc.r) #[] #[])
 | nilfn:VR ρ .nilfn .nilFunc
 | iface {t:Nat} {v:TV} {v':Value} (h:VR ρ v v'):VR ρ (.iface t v) (.iface t v')
 | niliface:VR ρ .niliface .nilIface
 | agg {l:List TV} {cs:List Value} (hl:l.length=cs.length) (h1:∀x∈l,x.one=true) (h:∀(i:Nat) (x:TV) (y:Value),l[i]?=some x->cs[i]?=some y->VR ρ x y):VR ρ (.agg l) (.agg cs.toArray)
 | tuple {l:List TV} {cs:List Value} (hl:l.length=cs.length) (h:∀(i:Nat) (x:TV) (y:Value),l[i]?=some x->cs[i]?=some y->VR ρ x y):VR ρ (.tuple l) (.tuple cs.toArray)
def VL (ρ:Rho)(l:List TV)(cs:List Value):Prop:=l.length=cs.length/\∀(i:Nat) (x:TV) (y:Value),l[i]?=some x->cs[i]?=some y->VR ρ x y
theorem VL.nil (ρ:Rho):VL ρ [] []:=⟨rfl,fun i x y h=>by simp at h⟩
theorem VL.cons {ρ:Rho}{x:TV}{y:Value}{l:List TV}{cs:List Value}(h:VR ρ x y)(hl:VL ρ l cs):VL ρ (x::l) (y::cs) :=
 ⟨by simp[hl.1],fun i a b ha hb=>by
  cases i with
  | zero=>simp at ha hb;subst ha;subst hb;exact h
  | succ i=>simp at ha hb;exact hl.2 i a b ha hb⟩
theorem VL.of_cons {ρ:Rho}{x:TV}{l:List TV}{cs:List Value}(h:VL ρ (x::l) cs):∃y cs',cs=y::cs'/\VR ρ x y/\VL ρ l cs':=by
 cases cs with
 | nil=>have:=h.1;simp at this
 | cons y cs'=>exact⟨y,cs',rfl,h.2 0 x y rfl rfl,by have:=h.1;simpa using this,fun i a b ha hb=>h.2 (i+1) a b (by simpa using ha) (by simpa using hb)⟩
theorem VL.of_nil {ρ:Rho}{cs:List Value}(h:VL ρ [] cs):cs=[]:=by
 cases cs with
 | nil=>rfl
 | cons y cs'=>have:=h.1;simp at this
theorem VL.one {ρ:Rho}{x:TV}{y:Value}(h:VR ρ x y):VL ρ [x] [y]:=.cons h (.nil ρ)
theorem VL.app {ρ:Rho}{l m:List TV}{cs ds:List Value}(h:VL ρ l cs)(k:VL ρ m ds):VL ρ (l++m) (cs++ds):=by
 refine⟨by simp[h.1,k.1],fun i x y hx hy=>?_⟩;rw[zDZ9]at hx hy;rw[h.1]at hx
 split at hx
 ·rename_i hi;rw[if_pos hi]at hy;exact h.2 i x y hx hy
 ·rename_i hi;rw[if_neg hi]at hy;exact k.2 _ x y hx hy
theorem VL.drop {ρ:Rho}{l:List TV}{cs:List Value}(h:VL ρ l cs)(k:Nat):VL ρ (l.drop k) (cs.drop k) :=
 ⟨by simp[h.1],fun i x y hx hy=>h.2 (k+i) x y (by simpa using hx) (by simpa using hy)⟩
theorem VL.take {ρ:Rho}{l:List TV}{cs:List Value}(h:VL ρ l cs)(k:Nat):VL ρ (l.take k) (cs.take k):=by
 refine⟨by simp[h.1],fun i x y hx hy=>?_⟩;rw[zBH9]at hx hy
 split at hx
 ·rename_i hi;rw[if_pos hi]at hy;exact h.2 i x y hx hy
 ·cases hx
theorem VL.at {ρ:Rho}{l:List TV}{cs:List Value}(h:VL ρ l cs){i:Nat}{x:TV}(hx:l[i]?=some x):∃y,cs[i]?=some y/\VR ρ x y:=by
 have hi:i<cs.length:=by rw[<- h.1];exact(zAC9.1 hx).1
 exact⟨cs[i],zAB9 hi,h.2 i x _ hx (zAB9 hi)⟩
theorem VR.aggL {ρ:Rho}{l:List TV}{cs:List Value}(h:VL ρ l cs)(h1:∀x∈l,x.one=true):VR ρ (.agg l) (.agg cs.toArray):=.agg h.1 h1 h.2
theorem VR.tupL {ρ:Rho}{l:List TV}{cs:List Value}(h:VL ρ l cs):VR ρ (.tuple l) (.tuple cs.toArray):=.tuple h.1 h.2
theorem VR.fnL {ρ:Rho}{f:Nat}{l:List TV}{cs:List Value}(h:VL ρ l cs):VR ρ (.fn f l) (.func (.func f) #[] cs.toArray):=.fn h.1 h.2
theorem VR.undef (ρ:Rho):VR ρ (.tuple []) Go.undef:=VR.tupL (VL.nil ρ)
structure Rho.le (n:Nat)(ρ ρ':Rho):Prop where
 more:∀b g loc,ρ b g=some loc->ρ' b g=some loc
 none:∀b,b<n->(∀g,ρ b g=none)->∀g,ρ' b g=none
theorem Rho.le.refl (n:Nat)(ρ:Rho):Rho.le n ρ ρ:=⟨fun _ _ _ h=>h,fun _ _ h=>h⟩
theorem Rho.le.trans {n m:Nat}{ρ ρ' ρ'':Rho}(h:Rho.le n ρ ρ')(k:Rho.le m ρ' ρ'')(hnm:n<=m):Rho.le n ρ ρ'' :=
 ⟨fun b g loc hb=>k.more b g loc (h.more b g loc hb),fun b hb hn=>k.none b (zBK9 hb hnm) (h.none b hb hn)⟩
theorem VR.mono {ρ ρ':Rho}(hρ:∀b g loc,ρ b g=some loc->ρ' b g=some loc){v:TV}{v':Value}(h:VR ρ v v'):VR ρ' v v':=by
 induction h with
 | bool b=>exact .bool b
 | int k n=>exact .int k n
 | str s=>exact .str s
 | nilptr=>exact .nilptr
 | ptr h hc=>exact .ptr (hρ _ _ _ h) hc
 | nilsl=>exact .nilsl
 | sl h hn hq hc ho hs hm=>exact .sl (hρ _ _ _ h) hn hq hc ho hs hm
 | nilmap=>exact .nilmap
 | map h=>exact .map (hρ _ _ _ h)
 | fn hl _ ih=>exact .fn hl ih
 | yield h=>exact .yield (hρ _ _ _ h)
 | nilfn=>exact .nilfn
 | iface _ ih=>exact .iface ih
 | niliface=>exact .niliface
 | agg hl h1 _ ih=>exact .agg hl h1 ih
 | tuple hl _ ih=>exact .tuple hl ih
theorem VL.mono {ρ ρ':Rho}(hρ:∀b g loc,ρ b g=some loc->ρ' b g=some loc){l:List TV}{cs:List Value}(h:VL ρ l cs):VL ρ' l cs:=⟨h.1,fun i x y hx hy=>(h.2 i x y hx hy).mono hρ⟩
theorem VR.oneCell {ρ:Rho}{v:TV}{v':Value}(h:VR ρ v v')(h1:v.one=true):v'.oneCell'=true:=by
 cases h<;>first|rfl|(simp[TV.one]at h1)
theorem VR.cells {ρ:Rho}{v:TV}{v':Value}(h:VR ρ v v')(hn:v.cells ≠ []\/∃l,v=.agg l):VL ρ v.cells v'.cells.toList/\(∀x∈v.cells,x.one=true):=by
 cases h with
 | agg hl h1 h=>exact⟨⟨by simpa[TV.cells,Value.cells]using hl,by simpa[TV.cells,Value.cells]using h⟩,h1⟩
 | tuple hl h=>rcases hn with hn|⟨l,hn⟩<;>simp[TV.cells]at hn
 | bool b=>exact⟨VL.one (.bool b),by simp[TV.cells,TV.one]⟩
 | int k n=>exact⟨VL.one (.int k n),by simp[TV.cells,TV.one]⟩
 | str s=>exact⟨VL.one (.str s),by simp[TV.cells,TV.one]⟩
 | nilptr=>exact⟨VL.one .nilptr,by simp[TV.cells,TV.one]⟩
 | ptr h hc=>exact⟨VL.one (.ptr h hc),by simp[TV.cells,TV.one]⟩
 | nilsl=>exact⟨VL.one .nilsl,by simp[TV.cells,TV.one]⟩
 | sl h hn' hq hc ho hs hm=>exact⟨VL.one (.sl h hn' hq hc ho hs hm),by simp[TV.cells,TV.one]⟩
 | nilmap=>exact⟨VL.one .nilmap,by simp[TV.cells,TV.one]⟩
 | map h=>exact⟨VL.one (.map h),by simp[TV.cells,TV.one]⟩
 | fn hl h=>exact⟨VL.one (.fn hl h),by simp[TV.cells,TV.one]⟩
 | yield h=>exact⟨VL.one (.yield h),by simp[TV.cells,TV.one]⟩
 | nilfn=>exact⟨VL.one .nilfn,by simp[TV.cells,TV.one]⟩
 | iface h=>exact⟨VL.one (.iface h),by simp[TV.cells,TV.one]⟩
 | niliface=>exact⟨VL.one .niliface,by simp[TV.cells,TV.one]⟩
def EsR (ρ:Rho)(es:List zcy)(es':List MapEntry):Prop:=es.length=es'.length/\∀(i:Nat) (e:zcy) (e':MapEntry),es[i]?=some e->es'[i]?=some e'->VR ρ e.k e'.key/\VR ρ e.v e'.val/\e'.born=e.n
def PeR:TX->Option Code->Prop
 | .norm,c=>c=none
 | .exit id,c=>c=some (.exit id)
 | .goto l,c=>c=some (.goto l)
 | .ret,c=>c=some .ret
 | .panic _,_=>False
def TmR (ρ:Rho)(tm:Tr TV)(tmps:Array Value):Prop:=∀t v,tm.get t=some v->∃v',tmps[t]?=some v'/\VR ρ v v'
def OR (P:Program)(ρ:Rho)(b:Nat)(w:World):TO->Prop
 | .row e G M len cells=>M<=G/\(∀g loc,ρ b g=some loc->g<=G)/\∀g,M<=g->g<=G->∃loc cur,ρ b g=some loc/\w.heap[loc.r]?=some (.cells cur e (0,0))/\(g=G->cur.size=loc.S)/\loc.L<=len/\loc.L<=cur.size/\(g=G->loc.L=len) /\
   ∀i,i<loc.L->∃x v,cells.get i=some x/\cur[i]?=some v/\x.one=true/\VR ρ x v
 | .map es ck=>∃loc es',ρ b 0=some loc/\w.heap[loc.r]?=some (.map es' ck)/\EsR ρ es es'.toList
 | .dfr shut=>∃loc,ρ b 0=some loc/\w.heap[loc.r]?=some (.deferred (if shut=true then none else some []))
 | .loop st pe tm ps aS bo d=>∃loc rec locd N n m,ρ b 0=some loc/\ρ d 0=some locd/\w.heap[loc.r]?=some (.loop rec)/\rec.state=st/\PeR pe rec.pending/\TmR ρ tm rec.tmps/\N<=rec.tmps.size /\
   rec.params.toList=ps/\(∀p∈ps,p<N)/\zcb P N n rec.assign=some aS/\zcb P N m rec.body=some bo/\rec.defers=locd.r
 | .ro cells=>∀g loc,ρ b g=some loc->g=0/\∀i x,cells.get i=some x->∃v,w.cell? ⟨loc.r,i,none⟩=some v/\x.one=true/\VR ρ x v
def RO (h:TH)(b:Nat):Prop:=∃cs,h.get b=some (.ro cs)
structure WR (P:Program)(Z:Nat)(ρ:Rho)(h:TH)(w:World):Prop where
 dom:∀b g loc,ρ b g=some loc->b<h.next/\(Z<=loc.r\/RO h b)/\loc.r<w.heap.size
 obj:∀b g loc,ρ b g=some loc->∃o,h.get b=some o/\OR P ρ b w o
 sep:∀b b' g g' loc loc',ρ b g=some loc->ρ b' g'=some loc'->loc.r=loc'.r->Z<=loc.r->b=b'
theorem EsR.mono {ρ ρ':Rho}(hρ:∀b g loc,ρ b g=some loc->ρ' b g=some loc){es es'}(h:EsR ρ es es'):EsR ρ' es es' :=
 ⟨h.1,fun i e e' he he'=>let ⟨a,b,c⟩:=h.2 i e e' he he';⟨a.mono hρ,b.mono hρ,c⟩⟩
theorem TmR.mono {ρ ρ':Rho}(hρ:∀b g loc,ρ b g=some loc->ρ' b g=some loc){tm tmps}(h:TmR ρ tm tmps):TmR ρ' tm tmps :=
 fun t v hv=>let ⟨v',h1,h2⟩:=h t v hv;⟨v',h1,h2.mono hρ⟩
theorem OR.move {P:Program}{ρ ρ':Rho}(hρ:∀b g loc,ρ b g=some loc->ρ' b g=some loc){b:Nat}{w w':World}{o:TO}(hsame:∀g,ρ' b g=ρ b g)(hb:∀g loc,ρ b g=some loc->w'.heap[loc.r]?=w.heap[loc.r]?)(h:OR P ρ b w o):OR P ρ' b w' o:=by
 cases o with
 | row e G M len cells =>
  refine⟨h.1,fun g loc hg=>h.2.1 g loc (by rw[<- hsame];exact hg),fun g h1 h2=>?_⟩;obtain⟨loc,cur,hl,hc,r1,r2,r3,r4,r5⟩:=h.2.2 g h1 h2;refine⟨loc,cur,hρ _ _ _ hl,(hb _ _ hl).trans hc,r1,r2,r3,r4,fun i hi=>?_⟩;obtain⟨x,v,c1,c2,c3,c4⟩:=r5 i hi;exact⟨x,v,c1,c2,c3,c4.mono hρ⟩
 | map es ck =>
  obtain⟨loc,es',hl,hc,he⟩:=h;exact⟨loc,es',hρ _ _ _ hl,(hb _ _ hl).trans hc,he.mono hρ⟩
 | dfr shut =>
  obtain⟨loc,hl,hc⟩:=h;exact⟨loc,hρ _ _ _ hl,(hb _ _ hl).trans hc⟩
 | loop st pe tm ps aS bo d =>
  obtain⟨loc,rec,locd,N,n,m,hl,hd,hc,r1,r2,r3,r4⟩:=h;exact⟨loc,rec,locd,N,n,m,hρ _ _ _ hl,hρ _ _ _ hd,(hb _ _ hl).trans hc,r1,r2,r3.mono hρ,r4⟩
 | ro cells =>
  intro g loc hl;rw[hsame]at hl;obtain⟨h1,h2⟩:=h g loc hl;refine⟨h1,fun i x hx=>?_⟩;obtain⟨v,v1,v2,v3⟩:=h2 i x hx;exact⟨v,by rw[World.cell?,hb _ _ hl];exact v1,v2,v3.mono hρ⟩
theorem WR.own {P:Program}{Z:Nat}{ρ:Rho}{h:TH}{w:World}(k:WR P Z ρ h w){b g:Nat}{loc:Loc}(hl:ρ b g=some loc){x:TO}(hx:h.get b=some x)(hn:∀cs,x ≠ .ro cs):Z<=loc.r:=by
 rcases(k.dom b g loc hl).2.1 with h1|⟨cs,h1⟩
 ·exact h1
 ·rw[hx]at h1;injection h1 with h1;exact absurd h1 (hn cs)
theorem WR.drew {P:Program}{Z:Nat}{ρ:Rho}{h:TH}{w:World}(k:WR P Z ρ h w):WR P Z ρ h w.drew :=
 ⟨k.dom,fun b g loc hl=>let ⟨o,ho,hr⟩:=k.obj b g loc hl;⟨o,ho,hr.move (fun _ _ _ h=>h) (fun _=>rfl) (fun _ _ _=>rfl)⟩,k.sep⟩
theorem WR.world {P:Program}{Z:Nat}{ρ:Rho}{h:TH}{w w':World}(k:WR P Z ρ h w)(hs:w.heap.size<=w'.heap.size)(hb:∀r,r<w.heap.size->w'.heap[r]?=w.heap[r]?):WR P Z ρ h w' :=
  ⟨fun b g loc hl=>let ⟨a,b,c⟩:=k.dom b g loc hl;⟨a,b,zBK9 c hs⟩,
   fun b g loc hl=>let ⟨o,ho,hr⟩:=k.obj b g loc hl;⟨o,ho,hr.move (fun _ _ _ h=>h) (fun _=>rfl) (fun g loc hg=>hb _ (k.dom b g loc hg).2.2)⟩,k.sep⟩
theorem WR.push {P:Program}{Z:Nat}{ρ:Rho}{h:TH}{w:World}(k:WR P Z ρ h w)(o:TO):WR P Z ρ (h.push o) w :=
  ⟨fun b g loc hl=>let ⟨a,b,c⟩:=k.dom b g loc hl;⟨Nat.lt_succ_of_lt a,b.imp id fun⟨cs,h⟩=>⟨cs,by rw[TH.get_push,if_neg (by omega)];exact h⟩,c⟩,
   fun b g loc hl=>by
    obtain⟨x,hx,hr⟩:=k.obj b g loc hl;have hlt:=(k.dom b g loc hl).1;exact⟨x,by rw[TH.get_push,if_neg (by omega)];exact hx,hr⟩,k.sep⟩
def Rho.add (ρ:Rho)(b:Nat)(g:Nat)(loc:Loc):Rho:=fun c k=>if c=b/\k=g then some loc else ρ c k
theorem Rho.add_same (ρ:Rho)(b g:Nat)(loc:Loc):ρ.add b g loc b g=some loc:=by simp[Rho.add]
theorem Rho.add_more {ρ:Rho}{b g:Nat}{loc:Loc}(hn:ρ b g=none):∀c k l,ρ c k=some l->ρ.add b g loc c k=some l:=fun c k l h=>by
 unfold Rho.add
 split
 ·rename_i e;obtain⟨rfl,rfl⟩:=e;rw[hn]at h;cases h
 ·exact h
theorem Rho.add_ne {ρ:Rho}{b g:Nat}{loc:Loc}{c:Nat}(hc:c≠b)(k:Nat):ρ.add b g loc c k=ρ c k:=by
 unfold Rho.add;rw[if_neg (fun e=>hc e.1)]
theorem Rho.add_inv {ρ:Rho}{b g:Nat}{loc:Loc}{c k:Nat}{l:Loc}(h:ρ.add b g loc c k=some l):(c=b/\k=g/\l=loc)\/ρ c k=some l:=by
 unfold Rho.add at h
 split at h
 ·rename_i e;injection h with h;exact .inl ⟨e.1,e.2,h.symm⟩
 ·exact .inr h
theorem WR.real {P:Program}{Z:Nat}{ρ:Rho}{h:TH}{w:World}(k:WR P Z ρ h w){b:Nat}(hn:∀g,ρ b g=none)(hb:b<h.next)(hZ:Z<=w.heap.size){x:TO}(hx:h.get b=some x){o:Obj}{L S:Nat}
  (hr:OR P (ρ.add b 0 ⟨w.heap.size,L,S⟩) b (w.alloc o) x):WR P Z (ρ.add b 0 ⟨w.heap.size,L,S⟩) h (w.alloc o):=by
 have hm:=Rho.add_more (loc:=⟨w.heap.size,L,S⟩) (hn 0);refine⟨fun c g loc hl=>?_,fun c g loc hl=>?_,fun c c' g g' loc loc' hl hl' e hZ1=>?_⟩
 ·rcases Rho.add_inv hl with⟨rfl,rfl,rfl⟩|hl
  ·exact⟨hb,.inl hZ,by simp⟩
  ·obtain⟨a,b,d⟩:=k.dom c g loc hl;exact⟨a,b,by simp;omega⟩
 ·by_cases hc:c=b
  ·subst hc;exact⟨x,hx,hr⟩
  ·have hl':ρ c g=some loc:=by rw[<- hl,Rho.add_ne hc]
   obtain⟨y,hy,hor⟩:=k.obj c g loc hl';refine⟨y,hy,hor.move hm (fun g=>Rho.add_ne hc g) fun g loc hg=>?_⟩;exact Below.heap_alloc w o _ (k.dom c g loc hg).2.2
 ·rcases Rho.add_inv hl with⟨h1,h2,h3⟩|ha
  ·rcases Rho.add_inv hl' with⟨h4,h5,h6⟩|ha'
   ·exact h1.trans h4.symm
   ·have:=(k.dom c' g' loc' ha').2.2;subst h3;dsimp only at e;omega
  ·rcases Rho.add_inv hl' with⟨h4,h5,h6⟩|ha'
   ·have:=(k.dom c g loc ha).2.2;subst h6;dsimp only at e;omega
   ·exact k.sep c c' g g' loc loc' ha ha' e hZ1
end Tw
end Go.Proofs.YtfomlmhnmheenaaGreat
namespace Go.Proofs.YtfomlmhnmheenaaGreat
open Go.RowKit
namespace Tw
variable {P:Program}{ρ:Rho}{Z:Nat}{h:TH}{w:World}
theorem zkV {t:TypeId}{g:Bool}(hg:ziL P t=some g)(w:World):(isAgg t).run P w=.ok g w:=by
 unfold ziL at hg
 split at hg<;>first|(cases hg;done)|skip
 all_goals (injection hg with hg;subst hg)
 ·rename_i hu;simp[isAgg,run_underlying hu]
 ·rename_i hu;simp[isAgg,run_underlying hu]
 ·rename_i d _ _ hu
  cases d<;>simp_all [isAgg,run_underlying hu]
theorem zej {t:TypeId}{n:Nat}(hn:zb0 P t=some n):n≠0/\∃i,P.info? t=some i/\i.size=n:=by
 unfold zb0 at hn
 split at hn
 ·rename_i i hi
  split at hn
  ·cases hn
  ·injection hn with hn;subst hn;exact⟨by assumption,i,hi,rfl⟩
 ·cases hn
theorem zbP {t:TypeId}{n:Nat}(hn:zb0 P t=some n)(w:World):(sizeOf t).run P w=.ok n w:=by
 obtain⟨_,i,hi,rfl⟩:=zej hn;simp[sizeOf,typeInfo,hi]
theorem zo2 {t:TypeId}{n:Nat}(hn:zi6 P t=some n):∃i,P.info? t=some i/\i.bytes=n:=by
 unfold zi6 at hn
 cases hi:P.info? t with
 | none=>simp[hi]at hn
 | some i=>simp[hi]at hn;exact⟨i,rfl,hn⟩
theorem zjS {v:Value}{t:TV}(hv:zjq v=some t):VR ρ t v/\t.one=true:=by
 unfold zjq at hv
 split at hv<;>first|(cases hv;done)|(injection hv with hv;subst hv;exact⟨by constructor,rfl⟩)
theorem zi0 {α β:Type}{f:α->Option β}:∀{l:List α} {m:List β},zcS f l=some m->m.length=l.length/\∀(i:Nat) a b,l[i]?=some a->m[i]?=some b->f a=some b
 | [],m,hm=>by simp[zcS]at hm;subst hm;exact⟨rfl,fun i a b ha=>by simp at ha⟩
 | x::l,m,hm=>by
  unfold zcS at hm
  split at hm
  ·cases hm
  ·rename_i b hb
   split at hm
   ·cases hm
   ·rename_i bs hbs;injection hm with hm;subst hm;obtain⟨h1,h2⟩:=zi0 hbs;refine⟨by simp[h1],fun i a c ha hc=>?_⟩
    cases i with
    | zero=>simp at ha hc;subst ha;subst hc;exact hb
    | succ i=>simp at ha hc;exact h2 i a c ha hc
theorem zpr {l:List Value}{m:List TV}(hm:zcS zjq l=some m):VL ρ m l/\∀x∈m,x.one=true:=by
 obtain⟨h1,h2⟩:=zi0 hm;refine⟨⟨h1,fun i x y hx hy=>(zjS (h2 i y x hy hx)).1⟩,fun x hx=>?_⟩;obtain⟨i,hi,rfl⟩:=zBO9.1 hx;have hi':i<l.length:=by rw[<- h1];exact hi
 exact(zjS (ρ:=ρ) (h2 i l[i] m[i] (zAB9 hi') (zAB9 hi))).2
theorem zpU {v:Value}{t:TV}(hv:zmQ v=some t):VR ρ t v:=by
 unfold zmQ at hv
 split at hv
 ·split at hv<;>first|(cases hv;done)|skip
  rename_i cs _ l hl;injection hv with hv;subst hv;have:=zpr (ρ:=ρ) hl;have:=VR.aggL this.1 this.2;simpa using this
 ·split at hv<;>first|(cases hv;done)|skip
  rename_i cs _ l hl;injection hv with hv;subst hv;have:=zpr (ρ:=ρ) hl;have:=VR.tupL this.1;simpa using this
 ·split at hv<;>first|(cases hv;done)|skip
  rename_i hl;injection hv with hv;subst hv;exact .iface (zjS hl).1
 ·exact(zjS hv).1
theorem zlT {t:TypeId}{z:TV}(hz:zdu P t=some z):∃i zv,P.info? t=some i/\i.zero=some zv/\∀ρ,VR ρ z zv:=by
 unfold zdu at hz
 split at hz
 ·rename_i i hi
  split at hz
  ·rename_i zv hzv;exact⟨i,zv,hi,hzv,fun ρ=>zpU hz⟩
  ·cases hz
 ·cases hz
theorem zfP {t:TypeId}{z:TV}(hz:zdu P t=some z)(w:World):∃zv,(zeroValue t).run P w=.ok zv w/\VR ρ z zv:=by
 obtain⟨i,zv,hi,hzv,hr⟩:=zlT hz;exact⟨zv,by simp[zeroValue,typeInfo,hi,hzv],hr ρ⟩
theorem zje {t e:TypeId}(he:zk5 P t=some e):P.underlying t=some (.slice e):=by
 unfold zk5 at he
 split at he
 ·injection he with he;subst he;assumption
 ·cases he
theorem zji {a:Act}{tm:Tr TV}(ht:TmR ρ tm a.tmps){x:Operand}{y:TOp}(hx:opT x=some y){v:TV}(hv:zeX tm y=some v):VR ρ v (a.eval x):=by
 cases x with
 | tmp t =>
  simp[opT]at hx;subst hx;obtain⟨v',h1,h2⟩:=ht t v hv;simpa[Act.eval,h1]using h2
 | const c =>
  simp[opT]at hx;obtain⟨u,hu,rfl⟩:=hx;simp[zeX]at hv;subst hv;exact zpU hu
 | global g=>simp[opT]at hx
 | func f =>
  simp[opT]at hx;subst hx;simp[zeX]at hv;subst hv;exact VR.fnL (VL.nil ρ)
theorem zeL {a:Act}{tm:Tr TV}(ht:TmR ρ tm a.tmps):∀{xs:List Operand} {ys:List TOp},zcS opT xs=some ys->∀{vs:List TV},zdP tm ys=some vs->VL ρ vs (xs.map a.eval)
 | [],ys,hy,vs,hv=>by simp[zcS]at hy;subst hy;simp[zdP]at hv;subst hv;exact VL.nil ρ
 | x::xs,ys,hy,vs,hv=>by
  unfold zcS at hy
  split at hy
  ·cases hy
  ·rename_i b hb
   split at hy
   ·cases hy
   ·rename_i bs hbs;injection hy with hy;subst hy;unfold zdP at hv
    split at hv
    ·cases hv
    ·rename_i u hu
     split at hv
     ·cases hv
     ·rename_i us hus;injection hv with hv;subst hv;exact .cons (zji ht hb hu) (zeL ht hbs hus)
theorem znz (k:WR P Z ρ h w){b g o n:Nat}{l:List TV}{loc:Loc}(hl:zbw h b g o n=some l)(hρ:ρ b g=some loc)(hc:o+n<=loc.L) :
  ∃cs,VL ρ l cs/\cs.length=n/\(∀(j:Nat) v,cs[j]?=some v->w.cell? ⟨loc.r,o+j,none⟩=some v)/\∀x∈l,x.one=true:=by
 unfold zbw at hl
 split at hl
 ·rename_i x hx;obtain⟨y,hy,hr⟩:=k.obj b g loc hρ;rw[hx]at hy;injection hy with hy;subst hy;unfold zft at hl
  split at hl
  ·rename_i e G M len cells;have h1:Nat.ble M g=true:=by cases hq:Nat.ble M g<;>simp[hq]at hl⊢
   have h2:Nat.ble g G=true:=by cases hq:Nat.ble g G<;>simp[h1,hq]at hl⊢
   simp only[h1,h2,cond_true]at hl;obtain⟨hlen,hget⟩:=Tr.getL_some hl;obtain⟨loc',cur,hρ',hheap,r1,r2,r3,r4,r5⟩:=hr.2.2 g (zBC9 h1) (zBC9 h2);rw[hρ]at hρ';injection hρ' with hρ';subst hρ';refine⟨(cur.toList.drop o).take n,⟨by simp[hlen];omega,fun i x y hx hy=>?_⟩,by simp;omega,fun j v hv=>?_,fun x hx=>?_⟩
   ·have hi:i<n:=by rw[<- hlen];exact(zAC9.1 hx).1
    rw[hget i hi]at hx;obtain⟨x',v',c1,c2,c3,c4⟩:=r5 (o+i) (by omega);rw[zBH9,if_pos hi,zBU9,zBZ9]at hy;rw[hx]at c1;rw[hy]at c2;injection c1 with c1;injection c2 with c2;subst c1;subst c2;exact c4
   ·have hj:j<n:=by
     have:=(zAC9.1 hv).1;simp at this;omega
    rw[zBH9,if_pos hj,zBU9,zBZ9]at hv;simp[World.cell?,hheap,hv]
   ·obtain⟨i,hi,rfl⟩:=zBO9.1 hx;have hx':=zAB9 hi;rw[hget i (by omega)]at hx';obtain⟨x',v',c1,c2,c3,c4⟩:=r5 (o+i) (by omega);rw[hx']at c1;injection c1 with c1;rw[c1];exact c3
  ·rename_i cells;have h1:Nat.beq g 0=true:=by cases hq:Nat.beq g 0<;>simp[hq]at hl⊢
   rw[h1]at hl;simp only[cond_true]at hl;obtain⟨hlen,hget⟩:=Tr.getL_some hl;have hrow:=(hr g loc hρ).2;have hex:∀j,j<n->∃v,w.cell? ⟨loc.r,o+j,none⟩=some v/\∃x,l[j]?=some x/\x.one=true/\VR ρ x v:=fun j hj=>by
    have hx':=zAB9 (show j<l.length by omega);have h3:=hget j hj;rw[hx']at h3;obtain⟨v,v1,v2,v3⟩:=hrow _ _ h3.symm;exact⟨v,v1,_,hx',v2,v3⟩
   have hd:∀j,j<n->∃v,w.cell? ⟨loc.r,o+j,none⟩=some v:=fun j hj=>by obtain⟨v,v1,_⟩:=hex j hj;exact⟨v,v1⟩
   refine⟨(List.range n).map fun j=>(w.cell? ⟨loc.r,o+j,none⟩).getD undef,⟨by simp[hlen],fun i x y hx hy=>?_⟩,by simp,fun j v hv=>?_,fun x hx=>?_⟩
   ·have hi:i<n:=by rw[<- hlen];exact(zAC9.1 hx).1
    obtain⟨v,v1,x',v2,v3,v4⟩:=hex i hi;rw[hx]at v2;injection v2 with v2;subst v2;rw[zAH9,zEI9 hi]at hy;simp only[Option.map_some,v1,zFF9]at hy;injection hy with hy;subst hy;exact v4
   ·have hj:j<n:=by have:=(zAC9.1 hv).1;simpa using this
    obtain⟨v',v1⟩:=hd j hj;rw[zAH9,zEI9 hj]at hv;simp only[Option.map_some,v1,zFF9]at hv;injection hv with hv;subst hv;exact v1
   ·obtain⟨i,hi,rfl⟩:=zBO9.1 hx;obtain⟨v,v1,x',v2,v3,v4⟩:=hex i (by omega);rw[zAB9 hi]at v2;injection v2 with v2;rw[v2];exact v3
  ·cases hl
 ·cases hl
theorem znA {agg:Bool}{l:List TV}{v:TV}(hv:zBw agg l=some v):(agg=true/\v=.agg l)\/(agg=false/\l=[v]):=by
 unfold zBw at hv
 cases agg
 ·right
  simp only[cond_false]at hv
  split at hv
  ·injection hv with hv;subst hv;exact⟨rfl,rfl⟩
  ·cases hv
 ·left
  simp only[cond_true]at hv;injection hv with hv;exact⟨rfl,hv.symm⟩
theorem zd0 (r o j:Nat):(⟨r,o,none⟩:Addr).add j=⟨r,o+j,none⟩:=by unfold Addr.add;split<;>simp_all
theorem zrf (k:WR P Z ρ h w){t:TypeId}{g:Bool}{n:Nat}(hg:ziL P t=some g)(hn:zb0 P t=some n){p:TV}{p':Value}(hp:VR ρ p p'){v:TV}(hv:zgg g n h p=some v) :
  ∃v',(Instr.loadAt t p').run P w=.ok v' w/\VR ρ v v':=by
 unfold zgg at hv
 split at hv
 ·rename_i b g' o e
  cases hb:Nat.ble n e<;>simp only[hb,cond_true,cond_false]at hv
  ·cases hv
  ·have hne:=zBC9 hb
   split at hv
   ·rename_i l hl
    cases hp with
    | ptr hρ hc =>
     rename_i loc;obtain⟨cs,h1,h2,h3,h4⟩:=znz k hl hρ (by omega);have hload:=run_loadCells_list (P:=P) w ⟨loc.r,o,none⟩ cs (fun j v hv=>by rw[zd0];exact h3 j v hv);rw[h2]at hload;rcases znA hv with⟨rfl,rfl⟩|⟨rfl,rfl⟩
     ·refine⟨.agg cs.toArray,?_,VR.aggL h1 h4⟩;simp[Instr.loadAt,Instr.sureAddr,loadVar,zkV hg,zbP hn,hload]
     ·obtain⟨y,cs',rfl,hy,hr⟩:=h1.of_cons;obtain rfl:=hr.of_nil;have:=h3 0 y rfl;rw[zDF9]at this;exact⟨y,by simp[Instr.loadAt,Instr.sureAddr,loadVar,zkV hg,load,Sem.run,this],hy⟩
   ·cases hv
 ·cases hv
theorem zht {k k':IntKind}(h:Nat.beq (kno k) (kno k')=true):k=k':=by
 have:=zAN9 h
 cases k<;>cases k'<;>first|rfl|(simp[kno]at this)
theorem zc1 (a b:Int):zg7 a b=(a==b):=by
 cases a<;>cases b<;>simp only[zg7]
 ·rename_i x y;show Nat.beq x y=_
  by_cases h:x=y
  ·subst h;simp
  ·have:Nat.beq x y=false:=by cases hb:Nat.beq x y;rfl;exact absurd (zAN9 hb) h
   rw[this];simp;omega
 ·simp
 ·simp
 ·rename_i x y
  by_cases h:x=y
  ·subst h;simp
  ·have:Nat.beq x y=false:=by cases hb:Nat.beq x y;rfl;exact absurd (zAN9 hb) h
   rw[this];simp[h]
theorem zew (a b:Int):ile a b=decide (a<=b):=by
 unfold ile
 split
 ·rename_i n hn;have:0<=b-a:=by rw[hn];exact zFK9 n
  simp;omega
 ·rename_i n hn;have:b-a<0:=by rw[hn];exact Int.negSucc_lt_zero n
  simp;omega
theorem zgl:∀(a b:List Nat),ze5 a b=(a==b)
 | [],[]=>rfl
 | [],_::_=>rfl
 | _::_,[]=>rfl
 | a::l,b::m=>by
  unfold ze5;rw[zgl l m]
  cases hb:Nat.beq a b
  ·have:a≠b:=fun e=>by subst e;simp at hb
   simp[this]
  ·have:=zAN9 hb;subst this;simp
def bts (s:ByteArray):List Nat:=s.data.toList.map (·.toNat)
theorem zte {s t:ByteArray}(h:bts s=bts t):s.toList=t.toList:=by
 rw[ByteArray.toList_eq,ByteArray.toList_eq];exact List.map_inj_right (f:=fun x:UInt8=>x.toNat) (fun x y=>UInt8.toNat_inj.1) |>.1 h
theorem zqF (s t:ByteArray):(bts s==bts t)=(s.toList==t.toList):=by
 by_cases e:s.toList=t.toList
 ·have:bts s=bts t:=by unfold bts;rw[<- ByteArray.toList_eq,<- ByteArray.toList_eq,e]
  simp[e,this]
 ·have:bts s≠bts t:=fun h=>e (zte h);rw[beq_eq_false_iff_ne.2 e,beq_eq_false_iff_ne.2 this]
theorem zl4:∀(a b:List UInt8),zgI (a.map (·.toNat)) (b.map (·.toNat))=Op.bytesLess a b
 | [],[]=>rfl
 | [],_::_=>rfl
 | _::_,[]=>by simp[zgI,Op.bytesLess]
 | a::l,b::m=>by
  simp only[zCC9,zgI,Op.bytesLess,zl4 l m];have h1:Nat.blt a.toNat b.toNat=decide (a<b):=by
   by_cases h:a<b
   ·rw[zEU9.mpr (UInt8.lt_iff_toNat_lt.1 h)];simp[h]
   ·cases hb:Nat.blt a.toNat b.toNat
    ·simp[h]
    ·exact absurd (UInt8.lt_iff_toNat_lt.2 (zEU9.mp hb)) h
  have h2:Nat.beq a.toNat b.toNat=(a==b):=by
   cases hb:Nat.beq a.toNat b.toNat
   ·have:a≠b:=fun e=>by subst e;simp at hb
    simp[this]
   ·have:=UInt8.toNat_inj.1 (zAN9 hb);simp[this]
  rw[h1,h2]
  cases decide (a<b)<;>cases (a==b)<;>simp
theorem zzi {α:Type}{k k':IntKind}{x:Option α}{y:α}(h:(bif Nat.beq (kno k) (kno k')then x else none)=some y):k=k'/\x=some y:=by
 cases hb:Nat.beq (kno k) (kno k')<;>rw[hb]at h
 ·cases h
 ·exact⟨zht hb,h⟩
theorem zM {α:Type}{b:Bool}{x:Option α}{y:α}(h:(bif b then x else none)=some y):b=true/\x=some y:=by
 cases b
 ·cases h
 ·exact⟨rfl,h⟩
theorem zmk {k:IntKind}{n:Nat}(h:n<2 ^ zhP k):k.wrap (n:Int)=n:=by
 cases k<;>simp only[zhP]at h<;>simp[IntKind.wrap,IntKind.bits,IntKind.signed]<;>omega
theorem zgn (k:IntKind):2 ^ zhP k<=2 ^ k.bits:=Nat.pow_le_pow_right (by omega) (by cases k<;>simp[zhP,IntKind.bits])
theorem zs1 (op:BinOp)(t:TypeId)(x y:Operand)(k k':IntKind)(a b:Int)(w:World):(eqGuard op t x y (.int k a) (.int k' b)).run P w=.ok () w:=by
 cases op<;>simp[eqGuard]
theorem zsm (op:BinOp)(t:TypeId)(x y:Operand)(a b:ByteArray)(w:World):(eqGuard op t x y (.string a) (.string b)).run P w=.ok () w:=by
 cases op<;>simp[eqGuard]
theorem znY {f:Nat->Nat->Nat}{k:IntKind}{x y:Int}{v:TV}(hv:zrL f k x y=some v):∃a b:Nat,x=a/\y=b/\a<2 ^ zhP k/\b<2 ^ zhP k/\v=.int k (f a b:Nat):=by
 unfold zrL at hv
 split at hv
 ·rename_i a b;obtain⟨h1,hv⟩:=zM hv;obtain⟨h2,hv⟩:=zM hv;injection hv with hv;exact⟨a,b,rfl,rfl,zEU9.mp h1,zEU9.mp h2,hv.symm⟩
 ·cases hv
theorem zx9 (a n:Nat):(a:Int).fdiv (2 ^ n)=((a/2 ^ n:Nat):Int):=by
 rw[Int.fdiv_eq_ediv_of_nonneg _ (by exact Int.pow_nonneg (by omega))];simp
theorem zyG {op:BinOp}{t:TypeId}{k k':IntKind}{a b:Int}{v:TV}(hv:zfD op k k' a b=some v)(w:World):∃v',(binOp op t (.int k a) (.int k' b)).run P w=.ok v' w/\VR ρ v v':=by
 cases op<;>simp only[zfD]at hv<;>try(obtain⟨hk,hv2⟩:=zzi hv;clear hv;subst hk;have hv:=hv2;clear hv2)
 case add=>injection hv with hv;subst hv;exact⟨_,by simp[binOp,Op.intArith],.int _ _⟩
 case sub=>injection hv with hv;subst hv;exact⟨_,by simp[binOp,Op.intArith],.int _ _⟩
 case mul=>injection hv with hv;subst hv;exact⟨_,by simp[binOp,Op.intArith],.int _ _⟩
 case quo =>
  cases hb:zg7 b 0<;>rw[hb]at hv
  ·injection hv with hv;subst hv;rw[zc1]at hb;exact⟨_,by simp[binOp,Op.intDiv,(by simpa using hb:b≠0)],.int _ _⟩
  ·cases hv
 case rem =>
  cases hb:zg7 b 0<;>rw[hb]at hv
  ·injection hv with hv;subst hv;rw[zc1]at hb;exact⟨_,by simp[binOp,Op.intDiv,(by simpa using hb:b≠0)],.int _ _⟩
  ·cases hv
 case and =>
  obtain⟨x,y,rfl,rfl,hx,hy,rfl⟩:=znY hv;refine⟨.int k ((Nat.land x y:Nat):Int),?_,.int _ _⟩;have:Nat.land x y<2 ^ zhP k:=Nat.and_lt_two_pow _ hy;have ex:x%2 ^ k.bits=x:=zEL9 (zBK9 hx (zgn k));have ey:y%2 ^ k.bits=y:=zEL9 (zBK9 hy (zgn k));simp[binOp,Op.intBits,BitVec.toNat_and,ex,ey];exact zmk this
 case or =>
  obtain⟨x,y,rfl,rfl,hx,hy,rfl⟩:=znY hv;refine⟨.int k ((Nat.lor x y:Nat):Int),?_,.int _ _⟩;have:Nat.lor x y<2 ^ zhP k:=Nat.or_lt_two_pow hx hy;have ex:x%2 ^ k.bits=x:=zEL9 (zBK9 hx (zgn k));have ey:y%2 ^ k.bits=y:=zEL9 (zBK9 hy (zgn k));simp[binOp,Op.intBits,BitVec.toNat_or,ex,ey];exact zmk this
 case xor =>
  obtain⟨x,y,rfl,rfl,hx,hy,rfl⟩:=znY hv;refine⟨.int k ((Nat.xor x y:Nat):Int),?_,.int _ _⟩;have:Nat.xor x y<2 ^ zhP k:=Nat.xor_lt_two_pow hx hy;have ex:x%2 ^ k.bits=x:=zEL9 (zBK9 hx (zgn k));have ey:y%2 ^ k.bits=y:=zEL9 (zBK9 hy (zgn k));simp[binOp,Op.intBits,BitVec.toNat_xor,ex,ey];exact zmk this
 case shl =>
  unfold zzS at hv
  split at hv
  ·rename_i n;obtain⟨_,hv⟩:=zM hv;injection hv with hv;subst hv;exact⟨_,by simp[binOp,Op.shift,Int.not_lt.2 (zFK9 n)],.int _ _⟩
  ·cases hv
 case shr =>
  unfold zAh at hv
  split at hv
  ·rename_i a n;obtain⟨_,hv⟩:=zM hv;injection hv with hv;subst hv;refine⟨_,?_,.int _ _⟩;simp[binOp,Op.shift,Int.not_lt.2 (zFK9 n)];exact zx9 a _
  ·cases hv
 case andNot=>cases hv
 case eql=>injection hv with hv;subst hv;exact⟨_,by simp[binOp,Op.intCmp];rfl,by rw[zc1];exact .bool _⟩
 case neq=>injection hv with hv;subst hv;exact⟨_,by simp[binOp,Op.intCmp];rfl,by rw[zc1];exact .bool _⟩
 case lss =>
  injection hv with hv;subst hv;refine⟨.bool (decide (a<b)),by simp[binOp,Op.intCmp],?_⟩;have:(decide (a<b))=!(ile b a):=by rw[zew];by_cases h:b<=a<;>simp[h]<;>omega
  rw[this];exact .bool _
 case leq=>injection hv with hv;subst hv;exact⟨.bool (decide (a<=b)),by simp[binOp,Op.intCmp],by rw[<- zew];exact .bool _⟩
 case gtr =>
  injection hv with hv;subst hv;refine⟨.bool (decide (a>b)),by simp[binOp,Op.intCmp],?_⟩;have:(decide (a>b))=!(ile a b):=by rw[zew];by_cases h:a<=b<;>simp[h]<;>omega
  rw[this];exact .bool _
 case geq=>injection hv with hv;subst hv;exact⟨.bool (decide (a ≥ b)),by simp[binOp,Op.intCmp],by rw[show decide (a ≥ b)=ile b a by rw[zew]];exact .bool _⟩
theorem ztx (a b:List UInt8):(Op.bytesLess a b||(a==b))=!(Op.bytesLess b a):=by
 induction a generalizing b with
 | nil=>cases b<;>simp[Op.bytesLess]
 | cons x l ih =>
  cases b with
  | nil=>simp[Op.bytesLess]
  | cons y m =>
   simp only[Op.bytesLess];have:=ih m
   by_cases h1:x<y
   ·have h2:¬y<x:=fun h=>by have:=UInt8.lt_trans h1 h;simp at this
    have h3:(y==x)=false:=by simp;rintro rfl;simp at h1
    simp[h1,h2,h3]
   ·by_cases h2:x=y
    ·subst h2;simp[this]
    ·have h3:y<x:=by
      have:¬x.toNat<y.toNat:=fun h=>h1 (UInt8.lt_iff_toNat_lt.2 h);have h4:x.toNat≠y.toNat:=fun e=>h2 (UInt8.toNat_inj.1 e);exact UInt8.lt_iff_toNat_lt.2 (by omega)
     simp[h1,h2,h3]
theorem zyY {op:BinOp}{t:TypeId}{a b:ByteArray}{v:TV}(hv:zxA op (bts a) (bts b)=some v)(w:World):∃v',(binOp op t (.string a) (.string b)).run P w=.ok v' w/\VR ρ v v':=by
 have h1:ze5 (bts a) (bts b)=(a.toList==b.toList):=by rw[zgl,zqF]
 have h2:zgI (bts a) (bts b)=Op.bytesLess a.toList b.toList:=by unfold bts;rw[zl4,ByteArray.toList_eq,ByteArray.toList_eq]
 have h3:zgI (bts b) (bts a)=Op.bytesLess b.toList a.toList:=by unfold bts;rw[zl4,ByteArray.toList_eq,ByteArray.toList_eq]
 cases op<;>simp only[zxA]at hv<;>first|(cases hv;done)|skip
 case eql=>injection hv with hv;subst hv;rw[h1];exact⟨_,by simp[binOp,Op.stringOp],.bool _⟩
 case neq=>injection hv with hv;subst hv;rw[h1];exact⟨_,by simp[binOp,Op.stringOp],.bool _⟩
 case lss=>injection hv with hv;subst hv;rw[h2];exact⟨_,by simp[binOp,Op.stringOp],.bool _⟩
 case leq=>injection hv with hv;subst hv;rw[h3];exact⟨.bool (!(Op.bytesLess b.toList a.toList)),by simp[binOp,Op.stringOp,ztx],.bool _⟩
 case gtr=>injection hv with hv;subst hv;rw[h3];exact⟨.bool (Op.bytesLess b.toList a.toList),by simp[binOp,Op.stringOp,ztx],.bool _⟩
 case geq=>injection hv with hv;subst hv;rw[h2];exact⟨_,by simp[binOp,Op.stringOp],.bool _⟩
 case add =>
  obtain⟨h0,hv⟩:=zM hv;injection hv with hv;subst hv;have hle:=zBC9 h0;have e1:(bts a).length=a.size:=by simp[bts]
  have e2:(bts b).length=b.size:=by simp[bts]
  refine⟨.string (a++b),?_,?_⟩
  ·have:¬(((a.size+b.size:Nat):Int)>IntKind.i64.max):=by simp[IntKind.max,IntKind.signed,IntKind.bits];omega
   simp only[binOp,Op.stringOp];rw[if_neg this];simp
  ·have:bts a++bts b=bts (a++b):=by simp[bts]
   rw[this];exact .str _
theorem zza {op:BinOp}{t:TypeId}{X Y:Operand}{x y:TV}{x' y':Value}(hx:VR ρ x x')(hy:VR ρ y y'){v:TV}(hv:zc3 op x y=some v)(w:World) :
  ∃v',(do eqGuard op t X Y x' y';binOp op t x' y':Sem Value).run P w=.ok v' w/\VR ρ v v':=by
 unfold zc3 at hv
 split at hv
 ·unfold zeI at hv
  split at hv
  ·cases hx;cases hy
   obtain⟨v',h1,h2⟩:=zyG (P:=P) (ρ:=ρ) (t:=t) hv w;exact⟨v',by simp[zs1,h1],h2⟩
  ·cases hv
 ·unfold zyx at hv
  split at hv
  ·cases hx with
   | str a=>cases hy with
    | str b =>
     obtain⟨v',h1,h2⟩:=zyY (P:=P) (ρ:=ρ) (t:=t) hv w;exact⟨v',by simp[zsm,h1],h2⟩
  ·cases hv
 ·cases hv
theorem zqY {neg:Bool}{x:Option Bool}{v:TV}(hv:zne neg x=some v):∃b,x=some b/\v=.bool (neg ^^ b):=by
 unfold zne at hv
 split at hv
 ·rename_i b;injection hv with hv;exact⟨b,rfl,by rw[<- hv];cases neg<;>cases b<;>rfl⟩
 ·cases hv
theorem zfS {x y:Option Bool}{b:Bool}(hb:zBr x y=some b):(x=some true/\y=some true/\b=true)\/(x=some true/\y=some false/\b=false)\/(x=some false/\y=some true/\b=false):=by
 cases x with
 | none=>cases hb
 | some x=>cases y with
  | none=>cases hb
  | some y=>cases x<;>cases y<;>simp[zBr]at hb<;>simp[<- hb]
theorem znf {x:TV}(h:zqu x=some true):x=.nilptr:=by cases x<;>simp[zqu]at h;rfl
theorem zwR {x:TV}(h:zqu x=some false):∃b g o e,x=.ptr b g o e:=by cases x<;>simp[zqu]at h;exact⟨_,_,_,_,rfl⟩
theorem zmy {x:TV}(h:zrk x=some true):x=.nilsl:=by cases x<;>simp[zrk]at h;rfl
theorem zv0 {x:TV}(h:zrk x=some false):∃b g o n q z,x=.sl b g o n q z:=by cases x<;>simp[zrk]at h;exact⟨_,_,_,_,_,_,rfl⟩
theorem zmW {x:TV}(h:zrb x=some true):x=.nilmap:=by cases x<;>simp[zrb]at h;rfl
theorem zvF {x:TV}(h:zrb x=some false):∃b,x=.map b:=by cases x<;>simp[zrb]at h;exact⟨_,rfl⟩
theorem zmM {x:TV}(h:za4 x=some true):x=.nilfn:=by cases x<;>simp[za4]at h;rfl
theorem zvX {x:TV}(h:za4 x=some false):∃f l,x=.fn f l:=by cases x<;>simp[za4]at h;exact⟨_,_,rfl⟩
theorem zmB {x:TV}(h:zqL x=some true):x=.niliface:=by cases x<;>simp[zqL]at h;rfl
theorem zvf {x:TV}(h:zqL x=some false):∃t v,x=.iface t v:=by cases x<;>simp[zqL]at h;exact⟨_,_,rfl⟩
theorem zil (t:TypeId)(x y:Value):Op.equal t x y=Op.equalIn (9999+1) t x y:=rfl
def zg2 (P:Program)(t:TypeId)(X Y:Operand)(x y:Value)(b:Bool)(w:World):Prop :=
 (∀op,(eqGuard op t X Y x y).run P w=.ok () w)/\(binOp .eql t x y).run P w=.ok (.bool b) w/\(binOp .neq t x y).run P w=.ok (.bool (!b)) w
theorem zcw {t:TypeId}{X Y:Operand}{x y:Value}{b:Bool}(hg:∀op,(eqGuard op t X Y x y).run P w=.ok () w)(he:∀d,(Op.equalIn (d+1) t x y).run P w=.ok b w)
  (h1:binOp .eql t x y=(do pure (.bool (<- Op.equal t x y)))) (h2:binOp .neq t x y=(do pure (.bool (!(<- Op.equal t x y))))):zg2 P t X Y x y b w :=
 ⟨hg,by rw[h1,zil];simp[he 9999],by rw[h2,zil];simp[he 9999]⟩
theorem zpx {t e:TypeId}(hu:P.underlying t=some (.pointer e)){X Y:Operand}{x y:TV}{x' y':Value}(hx:VR ρ x x')(hy:VR ρ y y'){b:Bool}(hb:zh3 1 x y=some b):zg2 P t X Y x' y' b w:=by
 rcases zfS hb with⟨h1,h2,rfl⟩|⟨h1,h2,rfl⟩|⟨h1,h2,rfl⟩
 ·obtain rfl:=znf h1;obtain rfl:=znf h2
  cases hx;cases hy
  exact zcw (fun op=>by cases op<;>simp[eqGuard]) (fun d=>by simp[Op.equalIn,run_underlying hu]) rfl rfl
 ·obtain rfl:=znf h1;obtain⟨_,_,_,_,rfl⟩:=zwR h2
  cases hx;cases hy
  exact zcw (fun op=>by cases op<;>simp[eqGuard]) (fun d=>by simp[Op.equalIn,run_underlying hu]) rfl rfl
 ·obtain⟨_,_,_,_,rfl⟩:=zwR h1;obtain rfl:=znf h2
  cases hx;cases hy
  exact zcw (fun op=>by cases op<;>simp[eqGuard]) (fun d=>by simp[Op.equalIn,run_underlying hu]) rfl rfl
theorem zpl {t e:TypeId}(hu:P.underlying t=some (.slice e)){X Y:Operand}{x y:TV}{x' y':Value}(hx:VR ρ x x')(hy:VR ρ y y'){b:Bool}(hb:zh3 2 x y=some b):zg2 P t X Y x' y' b w:=by
 rcases zfS hb with⟨h1,h2,rfl⟩|⟨h1,h2,rfl⟩|⟨h1,h2,rfl⟩
 ·obtain rfl:=zmy h1;obtain rfl:=zmy h2
  cases hx;cases hy
  exact zcw (fun op=>by cases op<;>simp[eqGuard]) (fun d=>by simp[Op.equalIn,run_underlying hu]) rfl rfl
 ·obtain rfl:=zmy h1;obtain⟨_,_,_,_,_,_,rfl⟩:=zv0 h2
  cases hx;cases hy
  exact zcw (fun op=>by cases op<;>simp[eqGuard]) (fun d=>by simp[Op.equalIn,run_underlying hu]) rfl rfl
 ·obtain⟨_,_,_,_,_,_,rfl⟩:=zv0 h1;obtain rfl:=zmy h2
  cases hx;cases hy
  exact zcw (fun op=>by cases op<;>simp[eqGuard]) (fun d=>by simp[Op.equalIn,run_underlying hu]) rfl rfl
theorem zo5 {t e e':TypeId}(hu:P.underlying t=some (.map e e')){X Y:Operand}{x y:TV}{x' y':Value}(hx:VR ρ x x')(hy:VR ρ y y'){b:Bool}(hb:zh3 3 x y=some b):zg2 P t X Y x' y' b w:=by
 rcases zfS hb with⟨h1,h2,rfl⟩|⟨h1,h2,rfl⟩|⟨h1,h2,rfl⟩
 ·obtain rfl:=zmW h1;obtain rfl:=zmW h2
  cases hx;cases hy
  exact zcw (fun op=>by cases op<;>simp[eqGuard]) (fun d=>by simp[Op.equalIn,run_underlying hu]) rfl rfl
 ·obtain rfl:=zmW h1;obtain⟨_,rfl⟩:=zvF h2
  cases hx;cases hy
  exact zcw (fun op=>by cases op<;>simp[eqGuard]) (fun d=>by simp[Op.equalIn,run_underlying hu]) rfl rfl
 ·obtain⟨_,rfl⟩:=zvF h1;obtain rfl:=zmW h2
  cases hx;cases hy
  exact zcw (fun op=>by cases op<;>simp[eqGuard]) (fun d=>by simp[Op.equalIn,run_underlying hu]) rfl rfl
theorem zoZ {t:TypeId}{ps rs:Array TypeId}{vr:Bool}(hu:P.underlying t=some (.func ps rs vr)){X Y:Operand}{x y:TV}{x' y':Value}(hx:VR ρ x x')(hy:VR ρ y y'){b:Bool}(hb:zh3 4 x y=some b):zg2 P t X Y x' y' b w:=by
 rcases zfS hb with⟨h1,h2,rfl⟩|⟨h1,h2,rfl⟩|⟨h1,h2,rfl⟩
 ·obtain rfl:=zmM h1;obtain rfl:=zmM h2
  cases hx;cases hy
  exact zcw (fun op=>by cases op<;>simp[eqGuard]) (fun d=>by simp[Op.equalIn,run_underlying hu]) rfl rfl
 ·obtain rfl:=zmM h1;obtain⟨_,_,rfl⟩:=zvX h2
  cases hx;cases hy
  exact zcw (fun op=>by cases op<;>simp[eqGuard]) (fun d=>by simp[Op.equalIn,run_underlying hu]) rfl rfl
 ·obtain⟨_,_,rfl⟩:=zvX h1;obtain rfl:=zmM h2
  cases hx;cases hy
  exact zcw (fun op=>by cases op<;>simp[eqGuard]) (fun d=>by simp[Op.equalIn,run_underlying hu]) rfl rfl
theorem zpM {t:TypeId}{ms:Array (String×TypeId)}(hu:P.underlying t=some (.interface ms)){X Y:Operand}(hXY:(zfF X||zfF Y)=true){x y:TV}{x' y':Value}(hx:VR ρ x x')(hy:VR ρ y y'){b:Bool}(hb:zh3 5 x y=some b):zg2 P t X Y x' y' b w:=by
 rcases zfS hb with⟨h1,h2,rfl⟩|⟨h1,h2,rfl⟩|⟨h1,h2,rfl⟩
 ·obtain rfl:=zmB h1;obtain rfl:=zmB h2
  cases hx;cases hy
  refine zcw (fun op=>?_) (fun d=>by simp[Op.equalIn,run_underlying hu]) rfl rfl
  cases X<;>cases Y<;>simp[zfF]at hXY<;>cases op<;>simp[eqGuard]
 ·obtain rfl:=zmB h1;obtain⟨_,_,rfl⟩:=zvf h2
  cases hx;cases hy
  exact zcw (fun op=>by cases op<;>simp[eqGuard]) (fun d=>by simp[Op.equalIn,run_underlying hu]) rfl rfl
 ·obtain⟨_,_,rfl⟩:=zvf h1;obtain rfl:=zmB h2
  cases hx;cases hy
  exact zcw (fun op=>by cases op<;>simp[eqGuard]) (fun d=>by simp[Op.equalIn,run_underlying hu]) rfl rfl
theorem zfL {x:TV}{n:Nat}(hx:zek x=some n){x':Value}(hr:VR ρ x x'):∃k,x=.int k (n:Nat)/\x'=.int k (n:Nat):=by
 cases x<;>simp[zek]at hx
 rename_i k i
 cases i<;>simp[zuN]at hx
 subst hx
 cases hr
 exact⟨k,rfl,rfl⟩
theorem zdb {x:TV}{m l:Nat}(hx:zdm x m=some l){x':Value}(hr:VR ρ x x'):∃k,x'=.int k (l:Nat)/\l<=m:=by
 unfold zdm at hx
 split at hx
 ·rename_i n hn;obtain⟨h1,hx⟩:=zM hx;injection hx with hx;subst hx;obtain⟨k,_,rfl⟩:=zfL hn hr;exact⟨k,rfl,zBC9 h1⟩
 ·cases hx
theorem zbZ {k:IntKind}{l y:Nat}(hl:l<=y)(code:BoundsCode)(w:World):(Instr.sliceBound (.int k (l:Nat)) y code).run P w=.ok l w:=by
 simp[Instr.sliceBound,asIntOf,hl]
theorem zg0 {b g o n q z o' c:Nat}{loc:Loc}(hρ:ρ b g=some loc)(hn:n<=q/2)(hq:q/2<=c)(hc:o+q/2*z<=loc.L)(ho:o'=o\/n=0/\c=0/\o≠0)(hs:q%2=0->o+c*z=loc.S)(hm:c<=maxLen)
  {l j m q':Nat} (hlj:l<=j) (hjm:j<=m) (hmc:m<=c) (hq1:j-l<=q'/2) (hq2:q'/2<=m-l) (hq3:l+q'/2<=q/2) (hq4:q'%2=0->m=c/\q%2=0) :
  VR ρ (.sl b g (o+l*z) (j-l) q' z) (.slice (if m=l then some ⟨loc.r,o',none⟩else some ((⟨loc.r,o',none⟩:Addr).add (l*z))) (j-l) (m-l)):=by
 have hcov:o+l*z+q'/2*z<=loc.L:=by
  have:(l+q'/2)*z<=q/2*z:=zCF9 z hq3;rw[zCX9]at this;omega
 by_cases e:m=l
 ·rw[if_pos e];have e1:j-l=0:=by omega
  have e2:m-l=0:=by omega
  rw[e1]at hq1⊢;rw[e2]at hq2⊢;refine .sl hρ hq1 hq2 hcov ?_ (fun h0=>?_) (zAS9 _)
  ·by_cases h0:o+l*z=0
   ·rcases ho with ho|⟨_,_,h1⟩
    ·left;omega
    ·exact absurd (by omega:o=0) h1
   ·exact .inr ⟨rfl,rfl,h0⟩
  ·obtain⟨h1,h2⟩:=hq4 h0;have:=hs h2;rw[<- h1,e]at this;omega
 ·rw[if_neg e,zd0];refine .sl hρ hq1 hq2 hcov ?_ (fun h0=>?_) (by omega)
  ·rcases ho with rfl|⟨_,h1,_⟩
   ·exact .inl rfl
   ·omega
  ·obtain⟨h1,h2⟩:=hq4 h0;have:=hs h2;rw[<- this,h1,zDK9,<- zCX9]
   congr 2;omega
theorem zl1 {α:Type}{b:Bool}{x:Option α}{y:α}(h:(bif b then none else x)=some y):b=false/\x=some y:=by
 cases b
 ·exact⟨rfl,h⟩
 ·cases h
theorem zwv {t e:TypeId}(hu:P.underlying t=some (.slice e))(x:Value)(lo hi mx:Option Value)(w:World):(Instr.sliceAt t x lo hi mx).run P w=(Instr.slice t x lo hi mx).run P w:=by
 simp[Instr.sliceAt,run_underlying hu]
theorem zA8 {t e:TypeId}{z:Nat}(hu:P.underlying t=some (.slice e))(hz:zb0 P e=some z){lo hi mx:Option Value}{vs:List TV}{x':Value}(hv:VL ρ vs (x'::(lo.toList++hi.toList++mx.toList))){v:TV}(hp:zhA z lo.isSome hi.isSome mx.isSome vs=some v)(w:World) :
  ∃v',(Instr.sliceAt t x' lo hi mx).run P w=.ok v' w/\VR ρ v v':=by
 rw[zwv hu]
 cases vs with
 | nil=>cases hp
 | cons x bs =>
  obtain⟨_,cs',e,hx,hbs⟩:=hv.of_cons;injection e with e1 e2;subst e1;subst e2;simp only[zhA,zea]at hp
  cases x<;>simp only at hp<;>first|(cases hp;done)|skip
  case nilsl =>
   cases hx
   unfold zkH at hp;obtain⟨h0,hp⟩:=zl1 hp
   cases mx with
   | some m=>simp at h0
   | none =>
    cases lo with
    | none=>cases hi with
     | none =>
      cases bs with
      | nil=>simp at hp;subst hp;exact⟨_,by simp[Instr.slice,run_underlying hu,Instr.sliceBounds,zbP hz],.nilsl⟩
      | cons _ _=>have:=hbs.1;simp at this
     | some hi =>
      cases bs with
      | nil=>have:=hbs.1;simp at this
      | cons y bs =>
       obtain⟨_,_,e,hy,hbs⟩:=hbs.of_cons;simp at e;obtain⟨rfl,rfl⟩:=e
       cases bs with
       | cons _ _=>have:=hbs.1;simp at this
       | nil =>
        simp only at hp
        split at hp
        ·rename_i l hl;obtain⟨k,rfl,hl0⟩:=zdb hl hy;simp at hp;subst hp;obtain rfl:l=0:=by omega
         exact⟨_,by simp[Instr.slice,run_underlying hu,Instr.sliceBounds,zbZ,zbP hz,Instr.sliceBound,asIntOf],.nilsl⟩
        ·cases hp
    | some lo=>cases hi with
     | none =>
      cases bs with
      | nil=>have:=hbs.1;simp at this
      | cons y bs =>
       obtain⟨_,_,e,hy,hbs⟩:=hbs.of_cons;simp at e;obtain⟨rfl,rfl⟩:=e
       cases bs with
       | cons _ _=>have:=hbs.1;simp at this
       | nil =>
        simp only at hp
        split at hp
        ·rename_i l hl;obtain⟨k,rfl,hl0⟩:=zdb hl hy;simp at hp;subst hp;obtain rfl:l=0:=by omega
         exact⟨_,by simp[Instr.slice,run_underlying hu,Instr.sliceBounds,zbP hz,Instr.sliceBound,asIntOf],.nilsl⟩
        ·cases hp
     | some hi =>
      cases bs with
      | nil=>have:=hbs.1;simp at this
      | cons y bs=>cases bs with
       | nil=>have:=hbs.1;simp at this
       | cons _ _=>simp at hp
  case sl b g o n q z' =>
   obtain⟨hzz,hp⟩:=zM hp;obtain rfl:=zAN9 hzz
   cases hx with
   | sl hρ hn hq hc ho hs hm =>
    rename_i o' c loc;unfold zfK at hp
    cases mx with
    | none =>
     cases lo with
     | none=>cases hi with
      | none =>
       cases bs with
       | cons _ _=>have:=hbs.1;simp at this
       | nil =>
        simp at hp;subst hp;have:=zg0 hρ hn hq hc ho hs hm (l:=0) (j:=n) (m:=c) (q':=q) (zAS9 _) (by omega) (zAJ9 _) (by omega) (by omega) (by omega) (fun h=>⟨rfl,h⟩);simp only[zFL9,zDF9,zGD9]at this;exact⟨_,by simp[Instr.slice,run_underlying hu,Instr.sliceBounds,zbP hz],this⟩
      | some hi =>
       cases bs with
       | nil=>have:=hbs.1;simp at this
       | cons y bs =>
        obtain⟨_,_,e,hy,hbs⟩:=hbs.of_cons;simp at e;obtain⟨rfl,rfl⟩:=e
        cases bs with
        | cons _ _=>have:=hbs.1;simp at this
        | nil =>
         simp[zu0]at hp
         split at hp
         ·rename_i j hj;injection hp with hp;subst hp;obtain⟨k,rfl,hj0⟩:=zdb hj hy;have:=zg0 hρ hn hq hc ho hs hm (l:=0) (j:=j) (m:=c) (q':=q) (zAS9 _) (by omega) (zAJ9 _) (by omega) (by omega) (by omega) (fun h=>⟨rfl,h⟩);simp only[zFL9,zDF9,zGD9]at this;exact⟨_,by simp[Instr.slice,run_underlying hu,Instr.sliceBounds,zbP hz,zbZ (show j<=c by omega)],this⟩
         ·cases hp
     | some lo=>cases hi with
      | none =>
       cases bs with
       | nil=>have:=hbs.1;simp at this
       | cons y bs =>
        obtain⟨_,_,e,hy,hbs⟩:=hbs.of_cons;simp at e;obtain⟨rfl,rfl⟩:=e
        cases bs with
        | cons _ _=>have:=hbs.1;simp at this
        | nil =>
         simp[zg8]at hp
         split at hp
         ·rename_i l hl;injection hp with hp;subst hp;obtain⟨k,rfl,hl0⟩:=zdb hl hy;have:=zg0 hρ hn hq hc ho hs hm (l:=l) (j:=n) (m:=c) (q':=q-2*l) hl0 (by omega) (zAJ9 _) (by omega) (by omega) (by omega) (fun h=>⟨rfl,by omega⟩);refine⟨_,?_,this⟩;simp[Instr.slice,run_underlying hu,Instr.sliceBounds,zbP hz,zbZ hl0]
         ·cases hp
      | some hi =>
       cases bs with
       | nil=>have:=hbs.1;simp at this
       | cons y bs =>
        obtain⟨_,_,e,hy,hbs⟩:=hbs.of_cons;simp at e;obtain⟨rfl,rfl⟩:=e
        cases bs with
        | nil=>have:=hbs.1;simp at this
        | cons y2 bs =>
         obtain⟨_,_,e,hy2,hbs⟩:=hbs.of_cons;simp at e;obtain⟨rfl,rfl⟩:=e
         cases bs with
         | cons _ _=>have:=hbs.1;simp at this
         | nil =>
          simp[zmw]at hp
          split at hp
          ·rename_i j hj;unfold zg8 at hp
           split at hp
           ·rename_i l hl;injection hp with hp;subst hp;obtain⟨k,rfl,hl0⟩:=zdb hl hy;obtain⟨k2,rfl,hj0⟩:=zdb hj hy2;have:=zg0 hρ hn hq hc ho hs hm (l:=l) (j:=j) (m:=c) (q':=q-2*l) hl0 (by omega) (zAJ9 _) (by omega) (by omega) (by omega) (fun h=>⟨rfl,by omega⟩);refine⟨_,?_,this⟩;simp[Instr.slice,run_underlying hu,Instr.sliceBounds,zbP hz,zbZ (show j<=c by omega),zbZ hl0]
           ·cases hp
          ·cases hp
    | some mx =>
     cases lo with
     | none=>cases hi with
      | none =>
       cases bs with
       | nil=>have:=hbs.1;simp at this
       | cons y bs=>cases bs with
        | nil=>simp at hp
        | cons _ _=>have:=hbs.1;simp at this
      | some hi =>
       cases bs with
       | nil=>have:=hbs.1;simp at this
       | cons y bs=>cases bs with
        | nil=>have:=hbs.1;simp at this
        | cons _ bs=>cases bs with
         | nil=>simp at hp
         | cons _ _=>have:=hbs.1;simp at this
     | some lo=>cases hi with
      | none =>
       cases bs with
       | nil=>have:=hbs.1;simp at this
       | cons y bs=>cases bs with
        | nil=>have:=hbs.1;simp at this
        | cons _ bs=>cases bs with
         | nil=>simp at hp
         | cons _ _=>have:=hbs.1;simp at this
      | some hi =>
       cases bs with
       | nil=>have:=hbs.1;simp at this
       | cons y bs =>
        obtain⟨_,_,e,hy,hbs⟩:=hbs.of_cons;simp at e;obtain⟨rfl,rfl⟩:=e
        cases bs with
        | nil=>have:=hbs.1;simp at this
        | cons y2 bs =>
         obtain⟨_,_,e,hy2,hbs⟩:=hbs.of_cons;simp at e;obtain⟨rfl,rfl⟩:=e
         cases bs with
         | nil=>have:=hbs.1;simp at this
         | cons y3 bs =>
          obtain⟨_,_,e,hy3,hbs⟩:=hbs.of_cons;simp at e;obtain⟨rfl,rfl⟩:=e
          cases bs with
          | cons _ _=>have:=hbs.1;simp at this
          | nil =>
           simp[zqe]at hp
           split at hp
           ·rename_i m hm'
            split at hp
            ·rename_i j hj;unfold zg8 at hp
             split at hp
             ·rename_i l hl;injection hp with hp;subst hp;obtain⟨k,rfl,hl0⟩:=zdb hl hy;obtain⟨k2,rfl,hj0⟩:=zdb hj hy2;obtain⟨k3,rfl,hm0⟩:=zdb hm' hy3;have:=zg0 hρ hn hq hc ho hs hm (l:=l) (j:=j) (m:=m) (q':=2*m+1-2*l) hl0 (by omega) (by omega) (by omega) (by omega) (by omega) (fun h=>by omega);refine⟨_,?_,this⟩;simp[Instr.slice,run_underlying hu,Instr.sliceBounds,zbP hz,zbZ (show m<=c by omega),zbZ hj0,zbZ hl0]
             ·cases hp
            ·cases hp
           ·cases hp
theorem zc8 {vs:List TV}{f:TV->Option TV}{v:TV}(hv:zA3 vs f=some v):∃x,vs=[x]/\f x=some v:=by
 unfold zA3 at hv
 split at hv
 ·exact⟨_,rfl,hv⟩
 ·cases hv
theorem zds {vs:List TV}{f:TV->TV->Option TV}{v:TV}(hv:zcj vs f=some v):∃x y,vs=[x,y]/\f x y=some v:=by
 unfold zcj at hv
 split at hv
 ·exact⟨_,_,rfl,hv⟩
 ·cases hv
theorem zhF:∀(l:List TV) (n:Nat),nth l n=l[n]?
 | [],_=>by simp[nth]
 | _::_,0=>rfl
 | _::l,n+1=>by simp only[nth,zAY9];exact zhF l n
theorem zs6:∀(l:List Nat) (n:Nat),zq5 l n=l[n]?
 | [],_=>by simp[zq5]
 | _::_,0=>rfl
 | _::l,n+1=>by simp only[zq5,zAY9];exact zs6 l n
theorem zqx {t:TypeId}{g:Bool}{n off:Nat}(hg:ziL P t=some g)(hn:zb0 P t=some n){l:List TV}{cs:List Value}(hl:VL ρ l cs)(h1:∀x∈l,x.one=true){v:TV}(hv:zk6 g off n l=some v)(w:World) :
  ∃v',(part t cs.toArray off).run P w=.ok v' w/\VR ρ v v':=by
 unfold zk6 at hv
 cases g
 ·simp only[cond_false,zhF]at hv;obtain⟨y,hy,hr⟩:=hl.at hv;refine⟨y,?_,hr⟩;simp[part,zkV hg,hy]
 ·simp only[cond_true]at hv;obtain⟨h0,hv⟩:=zM hv;injection hv with hv;subst hv;have hle:=zBC9 h0;refine⟨.agg ((cs.drop off).take n).toArray,?_,VR.aggL ((hl.drop off).take n) fun x hx=>h1 x (zBW9 (zBX9 hx))⟩;simp[part,zkV hg,zbP hn]
theorem zo1 {t:TypeId}{i off n:Nat}{g:Bool}(hf:ziS P t i=some (off,g,n)):∃fs f,P.underlying t=some (.struct fs)/\fs[i]?=some f/\f.offset=off/\ziL P f.type=some g/\zb0 P f.type=some n:=by
 unfold ziS at hf
 split at hf<;>first|(cases hf;done)|skip
 split at hf<;>first|(cases hf;done)|skip
 split at hf<;>first|(cases hf;done)|skip
 rename_i fs hu _ f hfi _ _ a m ha hm;injection hf with hf;injection hf with h1 h2;injection h2 with h2 h3;subst h1;subst h2;subst h3;exact⟨fs,f,hu,hfi,rfl,ha,hm⟩
theorem zww {t:TypeId}{i off n:Nat}{g:Bool}(hf:ziS P t i=some (off,g,n)){x v:TV}{x':Value}(hx:VR ρ x x')(hv:ziY off n x=some v)(w:World):∃v',(Instr.fieldAt t x' i).run P w=.ok v' w/\VR ρ v v':=by
 obtain⟨fs,f,hu,hfi,rfl,_,hm⟩:=zo1 hf;unfold ziY at hv
 split at hv
 ·obtain⟨h0,hv⟩:=zM hv;injection hv with hv;subst hv;have hle:=zBC9 h0
  cases hx with
  | ptr hρ hc =>
   have:=(zej hm).1;exact⟨_,by simp[Instr.fieldAt,run_underlying hu,hfi,Instr.sureAddr,fieldPlace,zbP hm,this,zd0],.ptr hρ (by omega)⟩
 ·cases hv
theorem zyM {t:TypeId}{i off n:Nat}{g:Bool}(hf:ziS P t i=some (off,g,n)){x v:TV}{x':Value}(hx:VR ρ x x')(hv:zxd g off n x=some v)(w:World):∃v',(Instr.field t x' i).run P w=.ok v' w/\VR ρ v v':=by
 obtain⟨fs,f,hu,hfi,rfl,hg,hm⟩:=zo1 hf;unfold zxd at hv
 split at hv
 ·cases hx with
  | agg hl h1 hr =>
   obtain⟨v',h2,h3⟩:=zqx hg hm ⟨hl,hr⟩ h1 hv w;exact⟨v',by simp[Instr.field,run_underlying hu,hfi,asAgg,h2],h3⟩
 ·cases hv
theorem zwF {t e:TypeId}{z:Nat}(hu:P.underlying t=some (.slice e))(hz:zb0 P e=some z){x y v:TV}{x' y':Value}(hx:VR ρ x x')(hy:VR ρ y y')(hv:zi5 z x y=some v)(w:World):∃v',(Instr.indexAt t x' y').run P w=.ok v' w/\VR ρ v v':=by
 unfold zi5 at hv
 split at hv
 ·rename_i b g o n q zz;obtain⟨hzz,hv⟩:=zM hv;obtain rfl:=zAN9 hzz
  split at hv
  ·rename_i i hi;obtain⟨h0,hv⟩:=zM hv;injection hv with hv;subst hv;have hlt:=zEU9.mp h0;obtain⟨k,_,rfl⟩:=zfL hi hy
   cases hx with
   | sl hρ hn hq hc ho hs hm =>
    rename_i o' c loc;have ho':o'=o:=by rcases ho with h|⟨h,_⟩;exact h;omega
    subst ho';refine⟨.pointer (some ⟨loc.r,o'+i*z,none⟩),?_,.ptr hρ ?_⟩
    ·simp[Instr.indexAt,asIntOf,run_underlying hu,zbP hz,hlt,zd0]
    ·have:(i+1)*z<=q/2*z:=zCF9 z (by omega);rw[zCX9]at this;omega
  ·cases hv
 ·cases hv
theorem zur {t e:TypeId}{len z:Nat}(hu:P.underlying t=some (.array len e))(hz:zb0 P e=some z){x y v:TV}{x' y':Value}(hx:VR ρ x x')(hy:VR ρ y y')(hv:zhv len z x y=some v)(w:World):∃v',(Instr.indexAt t x' y').run P w=.ok v' w/\VR ρ v v':=by
 unfold zhv at hv
 split at hv
 ·rename_i b g o e
  split at hv
  ·rename_i i hi;obtain⟨h0,hv⟩:=zM hv;obtain⟨h1,hv⟩:=zM hv;injection hv with hv;subst hv;have hlt:=zEU9.mp h0;have hle:=zBC9 h1;obtain⟨k,_,rfl⟩:=zfL hi hy
   cases hx with
   | ptr hρ hc =>
    rename_i loc;refine⟨.pointer (some ⟨loc.r,o+i*z,none⟩),?_,.ptr hρ ?_⟩
    ·simp[Instr.indexAt,asIntOf,run_underlying hu,zbP hz,hlt,zd0,Instr.sureAddr]
    ·have:(i+1)*z<=len*z:=zCF9 z (by omega);rw[zCX9]at this;omega
  ·cases hv
 ·cases hv
theorem zum {t e:TypeId}{len z:Nat}{g:Bool}(hu:P.underlying t=some (.array len e))(hg:ziL P e=some g)(hz:zb0 P e=some z){x y v:TV}{x' y':Value}(hx:VR ρ x x')(hy:VR ρ y y')(hv:zn6 len g z x y=some v)(w:World) :
  ∃v',(Instr.index t x' y').run P w=.ok v' w/\VR ρ v v':=by
 unfold zn6 at hv
 split at hv
 ·split at hv
  ·rename_i i hi;obtain⟨h0,hv⟩:=zM hv;have hlt:=zEU9.mp h0;obtain⟨k,_,rfl⟩:=zfL hi hy
   cases hx with
   | agg hl h1 hr =>
    obtain⟨v',h2,h3⟩:=zqx hg hz ⟨hl,hr⟩ h1 hv w;exact⟨v',by simp[Instr.index,asIntOf,run_underlying hu,zbP hz,hlt,h2],h3⟩
  ·cases hv
 ·cases hv
theorem zuW {t:TypeId}(hu:P.underlying t=some .string){x y v:TV}{x' y':Value}(hx:VR ρ x x')(hy:VR ρ y y')(hv:zk3 x y=some v)(w:World):∃v',(Instr.index t x' y').run P w=.ok v' w/\VR ρ v v':=by
 unfold zk3 at hv
 split at hv
 ·split at hv
  ·rename_i i hi
   split at hv
   ·rename_i c hc;injection hv with hv;subst hv;obtain⟨k,_,rfl⟩:=zfL hi hy
    cases hx with
    | str s =>
     rw[zs6]at hc;simp at hc;obtain⟨u,hu',rfl⟩:=hc;have:s[i]?=some u:=by
      have hlt:=(zCG9.1 hu').1;have h2:=(zCG9.1 hu').2;have hs:i<s.size:=hlt;rw[getElem?_pos s i hs];exact congrArg some h2
     exact⟨.int .u8 ((u.toNat:Nat):Int),by simp[Instr.index,asIntOf,run_underlying hu,this],.int _ _⟩
   ·cases hv
  ·cases hv
 ·cases hv
theorem zvi {t:TypeId}(hu:P.underlying t=some .string){lo hi:Option Value}{vs:List TV}{x':Value}(hv:VL ρ vs (x'::(lo.toList++hi.toList))){v:TV}(hp:zj3 lo.isSome hi.isSome vs=some v)(w:World) :
  ∃v',(Instr.sliceAt t x' lo hi none).run P w=.ok v' w/\VR ρ v v':=by
 have hunf:(Instr.sliceAt t x' lo hi none).run P w=(Instr.slice t x' lo hi none).run P w:=by simp[Instr.sliceAt,run_underlying hu]
 rw[hunf];unfold zj3 at hp
 split at hp
 ·rename_i s bs;obtain⟨_,cs',e,hx,hbs⟩:=hv.of_cons;injection e with e1 e2;subst e1;subst e2
  cases hx with
  | str s =>
   have hsz:(s.data.toList.map (·.toNat)).length=s.size:=by simp
   unfold ztG at hp;have hex:∀l j,l<=j->j<=s.size->VR ρ (.str (((s.data.toList.map (·.toNat)).take j).drop l)) (.string (s.extract l j)):=fun l j h1 h2=>by
    have:((s.data.toList.map (·.toNat)).take j).drop l=(s.extract l j).data.toList.map (·.toNat):=by
     simp[ByteArray.data_extract,Array.toList_extract,List.extract_eq_take_drop,zDL9,zCM9,zEM9]
    rw[this];exact .str _
   cases lo with
   | none=>cases hi with
    | none =>
     cases bs with
     | cons _ _=>have:=hbs.1;simp at this
     | nil =>
      simp at hp;subst hp;have:=hex 0 s.size (zAS9 _) (zAJ9 _);rw[<- hsz,zBG9,zFD9,hsz]at this;exact⟨.string s,by simp[Instr.slice,run_underlying hu,Instr.sliceBounds],by simpa using this⟩
    | some hi =>
     cases bs with
     | nil=>have:=hbs.1;simp at this
     | cons y bs =>
      obtain⟨_,_,e,hy,hbs⟩:=hbs.of_cons;simp at e;obtain⟨rfl,rfl⟩:=e
      cases bs with
      | cons _ _=>have:=hbs.1;simp at this
      | nil =>
       simp at hp
       split at hp
       ·rename_i j hj;injection hp with hp;subst hp;obtain⟨k,rfl,hj0⟩:=zdb hj hy;have:=hex 0 j (zAS9 _) hj0;rw[zFD9]at this;exact⟨_,by simp[Instr.slice,run_underlying hu,Instr.sliceBounds,zbZ hj0];rfl,by simpa using this⟩
       ·cases hp
   | some lo=>cases hi with
    | none =>
     cases bs with
     | nil=>have:=hbs.1;simp at this
     | cons y bs =>
      obtain⟨_,_,e,hy,hbs⟩:=hbs.of_cons;simp at e;obtain⟨rfl,rfl⟩:=e
      cases bs with
      | cons _ _=>have:=hbs.1;simp at this
      | nil =>
       simp at hp
       split at hp
       ·rename_i j hj;injection hp with hp;subst hp;obtain⟨k,rfl,hj0⟩:=zdb hj hy;have:=hex j s.size hj0 (zAJ9 _);rw[<- hsz,zBG9,hsz]at this;exact⟨_,by simp[Instr.slice,run_underlying hu,Instr.sliceBounds,zbZ hj0];rfl,by simpa using this⟩
       ·cases hp
    | some hi =>
     cases bs with
     | nil=>have:=hbs.1;simp at this
     | cons y bs =>
      obtain⟨_,_,e,hy,hbs⟩:=hbs.of_cons;simp at e;obtain⟨rfl,rfl⟩:=e
      cases bs with
      | nil=>have:=hbs.1;simp at this
      | cons y2 bs =>
       obtain⟨_,_,e,hy2,hbs⟩:=hbs.of_cons;simp at e;obtain⟨rfl,rfl⟩:=e
       cases bs with
       | cons _ _=>have:=hbs.1;simp at this
       | nil =>
        simp at hp
        split at hp
        ·rename_i j hj
         split at hp
         ·rename_i l hl;injection hp with hp;subst hp;obtain⟨k,rfl,hj0⟩:=zdb hj hy2;obtain⟨k2,rfl,hl0⟩:=zdb hl hy;have:=hex l j hl0 hj0;exact⟨_,by simp[Instr.slice,run_underlying hu,Instr.sliceBounds,zbZ hj0,zbZ hl0];rfl,by simpa using this⟩
         ·cases hp
        ·cases hp
 ·cases hp
theorem zwK {t e:TypeId}{len z:Nat}(hu:P.underlying t=some (.array len e))(hz:zb0 P e=some z)(hlen:len<=1000000){lo hi:Option Value}{vs:List TV}{x':Value}(hv:VL ρ vs (x'::(lo.toList++hi.toList))){v:TV}(hp:zmZ len z lo.isSome hi.isSome vs=some v)(w:World) :
  ∃v',(Instr.sliceAt t x' lo hi none).run P w=.ok v' w/\VR ρ v v':=by
 unfold zmZ at hp
 split at hp
 ·obtain⟨h0,hp⟩:=zl1 hp;obtain⟨h1,hp⟩:=zl1 hp;obtain⟨h2,hp⟩:=zM hp;injection hp with hp;subst hp;have hle:=zBC9 h2
  cases lo with
  | some _=>simp at h0
  | none=>cases hi with
   | some _=>simp at h1
   | none =>
    obtain⟨_,cs',e,hx,hbs⟩:=hv.of_cons;injection e with e1 e2;subst e1;subst e2
    cases hx with
    | ptr hρ hc =>
     refine⟨_,?_,.sl hρ (c:=len) (by omega) (by omega) ?_ (.inl rfl) (fun h=>by omega) (by simp only[maxLen];omega)⟩
     ·simp[Instr.sliceAt,run_underlying hu,Instr.sliceBounds,Instr.sureAddr,zbP hz,zd0]
     ·have:(2*len+1)/2=len:=by omega
      rw[this];omega
 ·cases hp
def zt8 (P:Program)(t:TypeId):Prop:=(∃k,P.underlying t=some (.int k))\/P.underlying t=some .string
theorem zhV {key:TypeId}(hk:zt8 P key)(b:Bool)(n:Nat)(v:Value)(w:World):(Instr.checkKey b (n+1) key v).run P w=.ok () w:=by
 rcases hk with⟨k,hu⟩|hu<;>simp[Instr.checkKey,run_underlying hu]
theorem EsR.of_cons {e:zcy}{es:List zcy}{es':List MapEntry}(h:EsR ρ (e::es) es'):∃e' r,es'=e'::r/\VR ρ e.k e'.key/\VR ρ e.v e'.val/\e'.born=e.n/\EsR ρ es r:=by
 cases es' with
 | nil=>have:=h.1;simp at this
 | cons e' r =>
  obtain⟨a,b,c⟩:=h.2 0 e e' rfl rfl;exact⟨e',r,rfl,a,b,c,by have:=h.1;simpa using this,fun i x y hx hy=>h.2 (i+1) x y (by simpa using hx) (by simpa using hy)⟩
theorem znk {key:TypeId}{d:TypeDesc}(hu:P.underlying key=some d)(hk:zt8 P key){x y:TV}{x' y':Value}(hx:VR ρ x x')(hy:VR ρ y y'){b:Bool}(he:zid x y=some b)(hx1:(∃k,d=.int k)->∃j n,x=.int j n)(hx2:d=.string->∃s,x=.str s):Instr.sameNow d x' y'=some b:=by
 unfold zid at he
 split at he
 ·split at he
  ·rename_i k a _ k' b';obtain⟨hk',he2⟩:=zM he;obtain rfl:=zht hk';injection he2 with he2;subst he2
   cases hx;cases hy
   have:∃k,d=.int k:=by
    rcases hk with⟨j,hj⟩|hj
    ·rw[hu]at hj;injection hj with hj;exact⟨j,hj⟩
    ·rw[hu]at hj;injection hj with hj;obtain⟨s,hs⟩:=hx2 hj;cases hs
   obtain⟨j,rfl⟩:=this;simp[Instr.sameNow,zc1]
  ·cases he
 ·split at he
  ·injection he with he;subst he
   cases hx with
   | str a=>cases hy with
    | str c =>
     have:d=.string:=by
      rcases hk with⟨j,hj⟩|hj
      ·rw[hu]at hj;injection hj with hj;obtain⟨_,_,hs⟩:=hx1 ⟨j,hj⟩;cases hs
      ·rw[hu]at hj;injection hj
     subst this;have h1:ze5 (bts a) (bts c)=(a==c):=by rw[zgl,zqF,beq_toListBytes]
     simp only[Instr.sameNow];exact congrArg some h1.symm
  ·cases he
 ·cases he
def zzG (d:TypeDesc)(x:TV):Prop:=((∃k,d=.int k)->∃j n,x=.int j n)/\(d=.string->∃s,x=.str s)
theorem zfC {key:TypeId}{d:TypeDesc}(hu:P.underlying key=some d)(hk:zt8 P key){x:TV}{x':Value}(hx:VR ρ x x')(hkv:zzG d x):∀{es:List zcy} {es':List MapEntry} {i:Nat} {r:Option (Nat×zcy)},EsR ρ es es'->zeH x es i=some r ->
  ∃r',Instr.findNow d x' es' i=some r'/\((r=none/\r'=none)\/∃j e e',r=some (i+j,e)/\r'=some (i+j,e'.val)/\es[j]?=some e/\es'[j]?=some e'/\zid x e.k=some true)
 | [],es',i,r,he,hf=>by
  have:es'=[]:=by have:=he.1;cases es' with|nil=>rfl|cons _ _=>simp at this
  subst this;simp[zeH]at hf;subst hf;exact⟨none,rfl,.inl ⟨rfl,rfl⟩⟩
 | e::es,es',i,r,he,hf=>by
  obtain⟨e',rr,rfl,h1,h2,h3,h4⟩:=he.of_cons;unfold zeH at hf
  split at hf
  ·cases hf
  ·rename_i hq;injection hf with hf;subst hf;have:=znk hu hk hx h1 hq hkv.1 hkv.2;refine⟨some (i,e'.val),by simp[Instr.findNow,this],.inr ⟨0,e,e',rfl,rfl,rfl,rfl,hq⟩⟩
  ·rename_i hq;have:=znk hu hk hx h1 hq hkv.1 hkv.2;obtain⟨r',hr',hc⟩:=zfC hu hk hx hkv h4 hf;refine⟨r',by simp[Instr.findNow,this,hr'],?_⟩;rcases hc with hc|⟨j,a,b,c1,c2,c3,c4,c5⟩
   ·exact .inl hc
   ·exact .inr ⟨j+1,a,b,by rw[c1];congr 2;omega,by rw[c2];congr 2;omega,by simpa using c3,by simpa using c4,c5⟩
def kfT (kf:Nat)(d:TypeDesc):Prop:=(kf=1/\∃k,d=.int k)\/(kf=2/\d=.string)
theorem zl5 {kf:Nat}{d:TypeDesc}(hk:kfT kf d){x:TV}(h:ze9 kf x=true):zzG d x:=by
 rcases hk with⟨rfl,k,rfl⟩|⟨rfl,rfl⟩
 ·cases x<;>simp[ze9,zhX]at h
  exact⟨fun _=>⟨_,_,rfl⟩,fun h=>by cases h⟩
 ·cases x<;>simp[ze9,zrU]at h
  exact⟨fun h=>(by obtain⟨_,h⟩:=h;cases h),fun _=>⟨_,rfl⟩⟩
theorem zoj {kf:Nat}{key:TypeId}{d:TypeDesc}(hu:P.underlying key=some d)(hk:kfT kf d):zt8 P key:=by
 rcases hk with⟨_,k,rfl⟩|⟨_,rfl⟩
 ·exact .inl ⟨k,hu⟩
 ·exact .inr hu
theorem zks (k:WR P Z ρ h w){b:Nat}{loc:Loc}(hρ:ρ b 0=some loc){es:List zcy}{ck:Nat}(hb:h.get b=some (.map es ck)):∃es',w.heap[loc.r]?=some (.map es' ck)/\EsR ρ es es'.toList:=by
 obtain⟨o,ho,hr⟩:=k.obj b 0 loc hρ;rw[hb]at ho;injection ho with ho;subst ho;obtain⟨loc',es',h1,h2,h3⟩:=hr;rw[hρ]at h1;injection h1 with h1;subst h1;exact⟨es',h2,h3⟩
theorem zdO {r:Nat}{es:Array MapEntry}{ck:Nat}(hh:w.heap[r]?=some (.map es ck)):(getObj r).run P w=.ok (.map es ck) w:=by
 simp[getObj,Sem.run,hh]
theorem zmU {ok:Bool}{v:TV}{v':Value}(h:VR ρ v v')(b:Bool):VR ρ (okT ok v b) (if ok=true then .tuple #[v',.bool b]else v'):=by
 cases ok
 ·exact h
 ·exact VR.tupL (.cons h (VL.one (.bool b)))
theorem zrH (k:WR P Z ρ h w){t key e:TypeId}{kf:Nat}{d:TypeDesc}(hu:P.underlying t=some (.map key e))(hd:P.underlying key=some d)(hkf:kfT kf d){z:TV}(hz:zdu P e=some z){ok:Bool}{x y v:TV}{x' y':Value}(hx:VR ρ x x')(hy:VR ρ y y')(hv:zhf kf z ok h x y=some v) :
  ∃v',(Instr.lookup t x' y' ok).run P w=.ok v' w/\VR ρ v v':=by
 have hkt:=zoj hd hkf;obtain⟨zv,hzv,hzr⟩:=zfP (ρ:=ρ) hz w;unfold zhf at hv;obtain⟨h0,hv⟩:=zM hv;have hkv:=zl5 hkf h0;have hck:∀b,(Instr.checkKey b 10000 key y').run P w=.ok () w:=fun b=>zhV hkt b 9999 y' w
 split at hv
 ·injection hv with hv;subst hv
  cases hx
  refine⟨_,?_,zmU hzr false⟩;simp[Instr.lookup,run_underlying hu,hck,Instr.findKey,run_underlying hd,Instr.findNow,hzv]
 ·split at hv
  ·rename_i o ho;unfold zqm at hv
   split at hv
   ·rename_i es ck
    cases hx with
    | map hρ =>
     obtain⟨es',he,her⟩:=zks k hρ ho
     split at hv
     ·rename_i j e hf;injection hv with hv;subst hv;obtain⟨r',hr',hc⟩:=zfC hd hkt hy hkv her hf;rcases hc with⟨hc,_⟩|⟨j',a,b,c1,c2,c3,c4,c5⟩
      ·cases hc
      ·injection c1 with c1;injection c1 with _ c1;subst c1;subst c2;obtain⟨_,hvv,_⟩:=her.2 j' e b c3 c4;refine⟨_,?_,zmU hvv true⟩;simp[Instr.lookup,run_underlying hu,zdO he,hck,Instr.findKey,run_underlying hd,hr']
     ·rename_i hf;injection hv with hv;subst hv;obtain⟨r',hr',hc⟩:=zfC hd hkt hy hkv her hf;rcases hc with⟨_,rfl⟩|⟨j',a,b,c1,_⟩
      ·refine⟨_,?_,zmU hzr false⟩;simp[Instr.lookup,run_underlying hu,zdO he,hck,Instr.findKey,run_underlying hd,hr',hzv]
      ·cases c1
     ·cases hv
   ·cases hv
  ·cases hv
 ·cases hv
theorem zsI {X:TypeId}{t:TypeId}{d:TypeDesc}(hu:P.underlying t=some d)(hd:∀ms,d ≠ .interface ms){z:TV}(hz:zdu P t=some z){ok:Bool}{x v:TV}{x':Value}(hx:VR ρ x x')(hv:zjR t z ok x=some v)(w:World) :
  ∃v',(Instr.typeAssert x' X t ok).run P w=.ok v' w/\VR ρ v v':=by
 obtain⟨zv,hzv,hzr⟩:=zfP (ρ:=ρ) hz w;unfold zjR at hv
 split at hv
 ·cases hx with
  | iface hr =>
   rename_i t' u u'
   cases hb:Nat.beq t t'<;>rw[hb]at hv
   ·have hne:t'≠t:=fun e=>by subst e;simp at hb
    simp only[cond_false]at hv;obtain⟨rfl,hv⟩:=zM hv;injection hv with hv;subst hv;refine⟨_,?_,VR.tupL (.cons hzr (VL.one (.bool false)))⟩
    cases d<;>first|(exact absurd rfl (hd _))|simp[Instr.typeAssert,run_underlying hu,hne,hzv]
   ·obtain rfl:=zAN9 hb;simp only[cond_true]at hv;injection hv with hv;subst hv;refine⟨_,?_,zmU hr true⟩
    cases d<;>first|(exact absurd rfl (hd _))|simp[Instr.typeAssert,run_underlying hu]
 ·obtain⟨rfl,hv⟩:=zM hv;injection hv with hv;subst hv
  cases hx
  refine⟨_,?_,VR.tupL (.cons hzr (VL.one (.bool false)))⟩
  cases d<;>first|(exact absurd rfl (hd _))|simp[Instr.typeAssert,run_underlying hu,hzv]
 ·cases hv
theorem zoW (off:Nat):∀(cs:List Value) (k:Nat) (cells:Array Value),off+k+cs.length<=cells.size ->
  ((cs.zipIdx k).foldl (fun a (x:Value×Nat)=>a.setIfInBounds (off+x.2) x.1) cells).toList=cells.toList.take (off+k)++cs++cells.toList.drop (off+k+cs.length)
 | [],k,cells,_=>by simp
 | c::cs,k,cells,h=>by
  simp only[zAE9]at h;have hlt:off+k<cells.toList.length:=by simp;omega
  rw[List.zipIdx_cons,List.foldl_cons,zoW off cs (k+1) _ (by simp;omega)];have h1:(cells.setIfInBounds (off+k) c).toList.take (off+(k+1))=cells.toList.take (off+k)++[c]:=by
   rw[zFG9,show off+(k+1)=(off+k)+1 by omega,zBE9];rw[List.take_set_of_le (zAJ9 _)];simp[zBD9 hlt]
  have h2:(cells.setIfInBounds (off+k) c).toList.drop (off+(k+1)+cs.length)=cells.toList.drop (off+k+(cs.length+1)):=by
   rw[zFG9,List.drop_set_of_lt (by omega)]
   congr 1;omega
  rw[h1,h2];simp
theorem zw1 (cells v:Array Value)(off:Nat)(h:off+v.size<=cells.size) :
  v.zipIdx.foldl (fun cs (x:Value×Nat)=>cs.setIfInBounds (off+x.2) x.1) cells=(cells.toList.take off++v.toList++cells.toList.drop (off+v.size)).toArray:=by
 apply Array.ext'
 have:=zoW off v.toList 0 cells (by simpa using h);simp only[zDF9,zGJ9]at this;rw[<- this,<- Array.foldl_toList];simp
theorem zmr {place:Nat->Option (Nat×Nat)}:∀{parts:List (Nat×Value)} {places:List (Nat×Nat)} {vs:List TV} {cells:List TV} {cs:Array Value} {l:List TV},
  places.length=parts.length->(∀(i:Nat) p q,parts[i]?=some p->places[i]?=some q->place p.1=some q)->VL ρ vs (parts.map (·.2))->VL ρ cells cs.toList->(∀x∈cells,x.one=true)->(∀q∈places,q.2≠0)->zh4 cells places vs=some l ->
  ∃ds,Instr.fill place cs parts=some ds/\VL ρ l ds.toList/\(∀x∈l,x.one=true)/\l.length=cells.length
 | [],places,vs,cells,cs,l,hl,_,hv,hc,h1,_,hf=>by
  have:places=[]:=by cases places;rfl;simp at hl
  subst this;have:vs=[]:=by have:=hv.1;cases vs;rfl;simp at this
  subst this;simp[zh4]at hf;subst hf;exact⟨cs,rfl,hc,h1,rfl⟩
 | (i,v)::parts,places,vs,cells,cs,l,hl,hp,hv,hc,h1,hz,hf=>by
  cases places with
  | nil=>simp at hl
  | cons q places =>
   cases vs with
   | nil=>have:=hv.1;simp at this
   | cons u vs =>
    obtain⟨_,_,e,hu,hvs⟩:=hv.of_cons;simp at e;obtain⟨rfl,rfl⟩:=e;obtain⟨off,size⟩:=q;simp only[zh4]at hf;obtain⟨ha,hf⟩:=zM hf;obtain⟨hb,hf⟩:=zM hf;have hsz:=zAN9 ha;have hle:=zBC9 hb;have hz0:size≠0:=hz (off,size) (by simp);obtain⟨hcl,hc1⟩:=hu.cells (.inl (by intro e;rw[e]at hsz;simp at hsz;omega));have hvsz:v.cells.size=size:=by have:=hcl.1;rw[hsz]at this;simpa using this.symm
    have hcsz:cs.size=cells.length:=by have:=hc.1;simpa using this.symm
    have hpl:=hp 0 (i,v) (off,size) rfl rfl;dsimp only at hpl;have hstep:=zw1 cs v.cells off (by omega);obtain⟨ds,hd,hd1,hd2,hd3⟩:=zmr (place:=place) (parts:=parts) (places:=places) (vs:=vs) (cs:=(cs.toList.take off++v.cells.toList++cs.toList.drop (off+v.cells.size)).toArray) (by simpa using hl) (fun j p q hj hq=>hp (j+1) p q (by simpa using hj) (by simpa using hq)) hvs
     (by rw[hvsz];exact((hc.take off).app hcl).app (hc.drop (off+size))) (fun x hx=>by
      rcases zBI9.1 hx with hx|hx
      ·rcases zBI9.1 hx with hx|hx
       ·exact h1 x (zBX9 hx)
       ·exact hc1 x hx
      ·exact h1 x (zBW9 hx)) (fun q hq=>hz q (zAT9 _ hq)) hf
    refine⟨ds,?_,hd1,hd2,by rw[hd3];simp[hsz];omega⟩;unfold Instr.fill;rw[hpl];simp only;rw[if_neg (by simp[hvsz];omega)];rw[<- hd]
    congr 1
theorem zvB {t:TypeId}{z:List TV}(hz:zdu P t=some (.agg z)){ops:Array (Nat×Operand)}{ps:List (Nat×Nat)}(hps:zok P t ops.toList=some ps){a:Act}{vs:List TV}(hv:VL ρ vs ((ops.toList.map (·.2)).map a.eval)){v:TV}(hp:znG z ps vs=some v)(w:World) :
  ∃v',(Instr.build t (ops.map fun(i,x)=>(i,a.eval x))).run P w=.ok v' w/\VR ρ v v':=by
 obtain⟨i,zv,hi,hzi,hzr⟩:=zlT hz;have hzr:=hzr ρ;unfold znG at hp
 split at hp
 ·rename_i l hl;injection hp with hp;subst hp;unfold zok at hps
  split at hps
  ·rename_i fs hu
   split at hps
   ·rename_i pl hpl;obtain⟨m1,m2⟩:=zi0 hps
    cases hzr with
    | agg hl0 h1 hr =>
     rename_i cs;obtain⟨ds,hd,hd1,hd2,_⟩:=zmr (place:=fun i=>pl[i]?) (parts:=(ops.map fun(i,x)=>(i,a.eval x)).toList) (places:=ps) (vs:=vs) (cells:=z) (cs:=cs.toArray) (by simp[m1]) (fun j p q hj hq=>by
       simp only[zFW9,zAH9]at hj
       cases ho:ops.toList[j]? with
       | none=>rw[ho]at hj;cases hj
       | some o =>
        rw[ho]at hj;simp at hj;have:=m2 j o q ho hq;unfold znR at this
        split at this
        ·split at this
         ·cases this
         ·injection this with this;subst this;rw[<- hj];assumption
        ·cases this) (by simpa[Function.comp_def]using hv) ⟨by simpa using hl0,by simpa using hr⟩ h1 (fun q hq=>by
       obtain⟨j,hj,rfl⟩:=zBO9.1 hq;have hj':j<ops.toList.length:=by rw[<- m1];exact hj
       have:=m2 j ops.toList[j] ps[j] (zAB9 hj') (zAB9 hj);unfold znR at this
       split at this
       ·split at this
        ·cases this
        ·injection this with this;rw[<- this];assumption
       ·cases this) hl
     refine⟨.agg ds,?_,by have:=VR.aggL hd1 hd2;simpa using this⟩;simp only[zFW9]at hd;simp[Instr.build,run_underlying hu,typeInfo,zeroValue,hi,hzi,Array.mapM_eq_mapM_toList,run_places w _ _ hpl,Value.cells,hd]
   ·cases hps
  ·cases hps
 ·cases hp
theorem zrI {f:Field}{k:Nat}(hk:(k=1/\∃j,P.underlying f.type=some (.int j))\/(k=2/\P.underlying f.type=some .bool)\/(k=3/\P.underlying f.type=some .string)){x y:TV}{x' y':Value}(hx:VR ρ x x')(hy:VR ρ y y'){b:Bool}(he:znt k x y=some b)(d:Nat)(w:World) :
  (Op.equalIn (d+1) f.type x' y').run P w=.ok b w/\(isAgg f.type).run P w=.ok false w:=by
 unfold znt at he
 split at he
 ·obtain⟨hk1,he1⟩:=zM he;have hk0:=zAN9 hk1;clear he hk1;subst hk0;have he:=he1;clear he1;rcases hk with⟨_,j,hu⟩|⟨h,_⟩|⟨h,_⟩<;>first|omega|skip
  split at he
  ·obtain⟨hkk,he2⟩:=zM he;obtain rfl:=zht hkk;injection he2 with he2;subst he2
   cases hx;cases hy
   exact⟨by rw[run_equalIn_int w d f.type _ j _ _ hu,zc1],by simp[isAgg,run_underlying hu]⟩
  ·cases he
 ·obtain⟨hk1,he1⟩:=zM he;have hk0:=zAN9 hk1;clear he hk1;subst hk0;have he:=he1;clear he1;rcases hk with⟨h,_⟩|⟨_,hu⟩|⟨h,_⟩<;>first|omega|skip
  split at he
  ·injection he with he;subst he
   cases hx;cases hy
   have hbc:∀a c:Bool,(a==c)=(bif a then c else not c):=by decide
   exact⟨by rw[run_equalIn_bool' w d f.type _ _ hu,hbc],by simp[isAgg,run_underlying hu]⟩
  ·cases he
 ·obtain⟨hk1,he1⟩:=zM he;have hk0:=zAN9 hk1;clear he hk1;subst hk0;have he:=he1;clear he1;rcases hk with⟨h,_⟩|⟨h,_⟩|⟨_,hu⟩<;>first|omega|skip
  split at he
  ·injection he with he;subst he
   cases hx with
   | str a=>cases hy with
    | str c =>
     refine⟨?_,by simp[isAgg,run_underlying hu]⟩;rw[run_equalIn_string w d f.type _ _ hu];have:ze5 (bts a) (bts c)=(a.toList==c.toList):=by rw[zgl,zqF]
     exact congrArg (fun b=>Result.ok b w) this.symm
  ·cases he
 ·cases he
theorem zqt:∀{fs:List Field} {n:Nat} {ks:List Nat},zjw P fs n=some ks->∀{l m:List TV} {cs ds:List Value},VL ρ l (cs.drop n)->VL ρ m (ds.drop n)->∀{b:Bool},zfJ ks l m=some b->∀d w,(Op.eqFields (d+1) cs.toArray ds.toArray fs).run P w=.ok b w
 | [],n,ks,hf,l,m,cs,ds,hl,hm,b,he,d,w=>by
  simp[zjw]at hf;subst hf;unfold zfJ at he
  split at he
  ·injection he with he;subst he;simp[Op.eqFields]
  ·rename_i h;cases h
  ·cases he
 | f::fs,n,ks,hf,l,m,cs,ds,hl,hm,b,he,d,w=>by
  unfold zjw at hf
  split at hf
  ·cases hf
  ·rename_i hname
   split at hf
   ·cases hf
   ·rename_i hoff;have hoff:f.offset=n:=Classical.not_not.1 hoff;have key:∃k ks',ks=k::ks'/\zjw P fs (n+1)=some ks'/\((k=1/\∃j,P.underlying f.type=some (.int j))\/(k=2/\P.underlying f.type=some .bool)\/(k=3/\P.underlying f.type=some .string)):=by
     split at hf
     ·rename_i j ks' h1 h2;injection hf with hf;exact⟨1,ks',hf.symm,h2,.inl ⟨rfl,j,h1⟩⟩
     ·rename_i ks' h1 h2;injection hf with hf;exact⟨2,ks',hf.symm,h2,.inr (.inl ⟨rfl,h1⟩)⟩
     ·rename_i ks' h1 h2;injection hf with hf;exact⟨3,ks',hf.symm,h2,.inr (.inr ⟨rfl,h1⟩)⟩
     ·cases hf
    obtain⟨k,ks',rfl,hks,hk⟩:=key;unfold zfJ at he
    split at he
    ·rename_i h;cases h
    ·rename_i k0 ks0 x l y m0 hkk;injection hkk with hk1 hk2;subst hk1;subst hk2;obtain⟨x',cs',e1,hx,hl'⟩:=hl.of_cons;obtain⟨y',ds',e2,hy,hm'⟩:=hm.of_cons;have hc0:cs[n]?=some x':=by have:=congrArg (·[0]?) e1;simpa using this
     have hd0:ds[n]?=some y':=by have:=congrArg (·[0]?) e2;simpa using this
     have hc1:cs'=cs.drop (n+1):=by have:=congrArg (List.drop 1) e1;simpa[zDT9]using this.symm
     have hd1:ds'=ds.drop (n+1):=by have:=congrArg (List.drop 1) e2;simpa[zDT9]using this.symm
     subst hc1;subst hd1
     split at he
     ·rename_i hsc;obtain⟨r1,r2⟩:=zrI hk hx hy hsc d w;have ih:=zqt hks hl' hm' he d w;simp[Op.eqFields,hname,part,r2,hoff,hc0,hd0,r1,ih]
     ·rename_i r hsc;have hb:b=false:=by
       cases hq:znt k x y with
       | none=>rw[hq]at he;cases he
       | some c =>
        rw[hq]at he
        cases c
        ·injection he with he;exact he.symm
        ·exact absurd hq hsc
      subst hb;obtain⟨r1,r2⟩:=zrI hk hx hy he d w;simp[Op.eqFields,hname,part,r2,hoff,hc0,hd0,r1]
    ·cases he
theorem zx7 {t:TypeId}{ks:List Nat}(hf:zkU P t=some ks):∃fs,P.underlying t=some (.struct fs)/\P.stoodInHeld t=false/\P.eqGuardType P.depth t=false/\zjw P fs.toList 0=some ks:=by
 unfold zkU at hf
 split at hf
 ·rename_i fs hu
  split at hf
  ·cases hf
  ·split at hf
   ·cases hf
   ·rename_i h1 h2;exact⟨fs,hu,by simpa using h1,by simpa using h2,hf⟩
 ·cases hf
theorem zvp {t:TypeId}{ks:List Nat}(hf:zkU P t=some ks){neg:Bool}{x y v:TV}{x' y':Value}(hx:VR ρ x x')(hy:VR ρ y y')(hv:zni neg ks x y=some v)(X Y:Operand)(w:World) :
  ∃v',(do eqGuard (if neg=true then .neq else .eql) t X Y x' y';binOp (if neg=true then .neq else .eql) t x' y':Sem Value).run P w=.ok v' w/\VR ρ v v':=by
 obtain⟨fs,hu,hs,hg,hfl⟩:=zx7 hf;unfold zni at hv
 split at hv
 ·split at hv
  ·obtain⟨b,hb,rfl⟩:=zqY hv
   cases hx with
   | agg hl h1 hr =>
    cases hy with
    | agg hm h2 hq =>
     rename_i cs ds;have hfo:P.fieldsOf t=fs:=by simp[Program.fieldsOf,hu]
     have heq:∀w,(Op.equalIn 10000 t (.agg cs.toArray) (.agg ds.toArray)).run P w=.ok b w:=fun w=>by
      have:=run_equalIn_struct (P:=P) w 9999 t cs.toArray ds.toArray (by rw[hfo];exact hu) hs;rw[show (10000:Nat)=9999+1 from rfl,this,hfo];exact zqt hfl (cs:=cs) (ds:=ds) (by simpa using⟨hl,hr⟩) (by simpa using⟨hm,hq⟩) hb 9998 w
     have hgr:∀op,(eqGuard op t X Y (.agg cs.toArray) (.agg ds.toArray)).run P w=.ok () w:=fun op=>run_eqGuard_agg w op t X Y _ _ hg
     cases neg
     ·refine⟨.bool b,?_,by simpa using VR.bool (ρ:=ρ) b⟩;have h4:=run_eql_struct (P:=P) w t cs.toArray ds.toArray;rw[heq]at h4;simp only[zCH9,if_false,Sem.run_bind,hgr,Result.andThen_ok];exact h4
     ·refine⟨.bool (!b),?_,by simpa using VR.bool (ρ:=ρ) (!b)⟩;have h4:=run_neq_struct (P:=P) w t cs.toArray ds.toArray;rw[heq]at h4;simp only[if_true,Sem.run_bind,hgr,Result.andThen_ok];exact h4
  ·cases hv
 ·cases hv
theorem zjN {k:zX}{xs:List Operand}{kd:zX}{args:List TOp}(hm:mk k xs=some (kd,args)):kd=k/\zcS opT xs=some args:=by
 unfold mk at hm
 split at hm
 ·rename_i l hl;injection hm with hm;injection hm with h1 h2;subst h2;exact⟨h1.symm,hl⟩
 ·cases hm
theorem ze1 {s:Sem Value}{v:Value}{w':World}(hs:s.run P w=.ok v w'):(do pure (Next.value (<- s)):Sem Next).run P w=.ok (.value v) w':=by simp[hs]
theorem VL.two {l:List TV}{a b:Value}(h:VL ρ l [a,b]){x y:TV}(e:l=[x,y]):VR ρ x a/\VR ρ y b:=by
 subst e;exact⟨h.2 0 x a rfl rfl,h.2 1 y b rfl rfl⟩
theorem VL.uno {l:List TV}{a:Value}(h:VL ρ l [a]){x:TV}(e:l=[x]):VR ρ x a:=by
 subst e;exact h.2 0 x a rfl rfl
theorem toV {k:WR P Z ρ h w}{op:BinOp}{t:TypeId}{x y:Operand}{x' y':Value}{b neg:Bool}(hc:zg2 P t x y x' y' b w)(hop:op=if neg=true then .neq else .eql) :
  (do eqGuard op t x y x' y';binOp op t x' y':Sem Value).run P w=.ok (.bool (neg ^^ b)) w:=by
 subst hop;obtain⟨h1,h2,h3⟩:=hc
 cases neg
 ·simp[h1,h2]
 ·simp[h1,h3]
theorem zzo {t:TypeId}(hu:P.underlying t=some .bool){neg:Bool}{x y v:TV}{x' y':Value}(hx:VR ρ x x')(hy:VR ρ y y')(hv:zn0 neg x y=some v)(X Y:Operand)(w:World) :
  ∃v',(do eqGuard (if neg=true then .neq else .eql) t X Y x' y';binOp (if neg=true then .neq else .eql) t x' y':Sem Value).run P w=.ok v' w/\VR ρ v v':=by
 unfold zn0 at hv
 split at hv
 ·rename_i a
  split at hv
  ·rename_i c;injection hv with hv;subst hv
   cases hx with
   | bool _=>cases hy with
    | bool _ =>
     have he:=run_equalIn_bool' (P:=P) w 9999 t a c hu;have hbc:∀a c:Bool,(a==c)=(bif a then c else not c):=by decide
     have hbd:∀a c:Bool,(!(a==c))=(bif a then not c else c):=by decide
     cases neg
     ·refine⟨.bool (a==c),?_,by rw[hbc];exact .bool _⟩;have:binOp .eql t (.bool a) (.bool c)=(do pure (.bool (<- Op.equal t (.bool a) (.bool c)))):=rfl;simp[this,zil,he,eqGuard]
     ·refine⟨.bool (!(a==c)),?_,by rw[hbd];exact .bool _⟩;have:binOp .neq t (.bool a) (.bool c)=(do pure (.bool (!(<- Op.equal t (.bool a) (.bool c))))):=rfl;simp[this,zil,he,eqGuard]
  ·cases hv
 ·cases hv
theorem zAc {op:UnOp}{x v:TV}{x':Value}(hx:VR ρ x x')(hv:pUn op x=some v)(w:World):∃v',(Op.unary op x').run P w=.ok v' w/\VR ρ v v':=by
 unfold pUn at hv
 split at hv
 ·unfold zxw at hv
  split at hv
  ·injection hv with hv;subst hv;cases hx
   exact⟨_,by simp[Op.unary],.bool _⟩
  ·cases hv
 ·unfold zxK at hv
  split at hv
  ·injection hv with hv;subst hv;cases hx
   exact⟨_,by simp[Op.unary,Op.intArith],.int _ _⟩
  ·cases hv
 ·cases hv
theorem zyO (k:WR P Z ρ h w){t:TypeId}{d:TypeDesc}(hu:P.underlying t=some d){f:Nat}(hd:(f=1/\∃e,d=.slice e)\/(f=2/\∃a b,d=.map a b)\/(f=3/\d=.string)){x v:TV}{x':Value}(hx:VR ρ x x')(hv:zou f h x=some v)(ty:TypeId) :
  ∃v',(Builtin.len_ #[t] ty #[x']).run P w=.ok v' w/\VR ρ v v':=by
 rcases hd with⟨rfl,e,rfl⟩|⟨rfl,a,b,rfl⟩|⟨rfl,rfl⟩
 ·simp only[zou]at hv
  cases x<;>simp[zyC]at hv
  ·subst hv;cases hx
   exact⟨_,by simp[Builtin.len_,run_underlying hu,goInt],.int _ _⟩
  ·subst hv;cases hx
   exact⟨_,by simp[Builtin.len_,run_underlying hu,goInt],.int _ _⟩
 ·simp only[zou]at hv;unfold zuY at hv
  split at hv
  ·injection hv with hv;subst hv;cases hx
   exact⟨_,by simp[Builtin.len_,run_underlying hu,goInt],.int _ _⟩
  ·split at hv
   ·rename_i o ho;unfold zz2 at hv
    split at hv
    ·rename_i es ck;injection hv with hv;subst hv
     cases hx with
     | map hρ =>
      obtain⟨es',he,her⟩:=zks k hρ ho;have:es.length=es'.size:=by have:=her.1;simpa using this
      refine⟨.int .i64 (es'.size:Nat),by simp[Builtin.len_,run_underlying hu,zdO he,goInt],?_⟩;rw[this];exact .int _ _
    ·cases hv
   ·cases hv
  ·cases hv
 ·simp only[zou]at hv;unfold zu7 at hv
  split at hv
  ·injection hv with hv;subst hv
   cases hx with
   | str s=>exact⟨_,by simp[Builtin.len_,run_underlying hu,goInt];rfl,by simpa using VR.int (ρ:=ρ) .i64 (s.size:Nat)⟩
  ·cases hv
theorem ztp {mx:Bool}{x y v:TV}{x' y':Value}(hx:VR ρ x x')(hy:VR ρ y y')(hv:ziM mx x y=some v)(ts:Array TypeId)(ty:TypeId)(w:World) :
  ∃v',(if mx=true then Builtin.max_ ts ty #[x',y']else Builtin.min_ ts ty #[x',y']).run P w=.ok v' w/\VR ρ v v':=by
 unfold ziM at hv
 split at hv
 ·split at hv
  ·rename_i k a _ k' b;obtain⟨hk,hv1⟩:=zM hv;have hkk:=zht hk;subst hkk;injection hv1 with hv1;subst hv1
   cases hx;cases hy
   cases mx
   ·refine⟨.int k (if b<a then b else a),by simp[Builtin.min_,Builtin.min2],?_⟩;have:(if b<a then b else a)=(bif ile a b then a else b):=by
     rw[zew];by_cases h:a<=b
     ·rw[if_neg (by omega)];simp[h]
     ·rw[if_pos (by omega)];simp[h]
    rw[this];exact .int _ _
   ·refine⟨.int k (if b>a then b else a),by simp[Builtin.max_,Builtin.max2],?_⟩;have:(if b>a then b else a)=(bif ile b a then a else b):=by
     rw[zew];by_cases h:b<=a
     ·rw[if_neg (by omega)];simp[h]
     ·rw[if_pos (by omega)];simp[h]
    rw[this];exact .int _ _
  ·cases hv
 ·cases hv
theorem zx5 {vs:List TV}{c a b:Value}(h:VL ρ vs [c,a,b]){v:TV}(hv:zuf vs=some v)(w:World):∃v',(do pure (if <- asBool c then a else b):Sem Value).run P w=.ok v' w/\VR ρ v v':=by
 unfold zuf at hv
 split at hv
 ·injection hv with hv;subst hv;rename_i c0 a0 b0;have h0:=h.2 0 _ _ rfl rfl;have h1:=h.2 1 _ _ rfl rfl;have h2:=h.2 2 _ _ rfl rfl
  cases h0
  cases c0
  ·exact⟨b,by simp[asBool],h2⟩
  ·exact⟨a,by simp[asBool],h1⟩
 ·cases hv
theorem zc7 (f:Operand->Value)(b:Builtin)(args:Array Operand)(ts:Array TypeId)(ty:TypeId)(w:World):(do let d <- resolve f { callee:=.builtin b,args:=args,argTypes:=ts } ty;invoke d.target d.args:Sem Next).run P w=(builtin b ts ty (args.map fun | .const _=>true|_=>false) (args.map f)).run P w:=by
 simp only[resolve,invoke,Sem.run_bind,Sem.run_pure,Result.andThen_ok];rfl
def zhY (P:Program)(ρ:Rho)(w:World)(s:Sem Next)(v:TV):Prop:=∃v',s.run P w=.ok (.value v') w/\VR ρ v v'
theorem zhY.of {s:Sem Value}{v:TV}(hs:∃v',s.run P w=.ok v' w/\VR ρ v v'):zhY P ρ w (do pure (.value (<- s))) v :=
 let ⟨v',h1,h2⟩:=hs;⟨v',ze1 h1,h2⟩
set_option maxHeartbeats 4000000 in
theorem zny (k:WR P Z ρ h w){o:Oper}{kd:zX}{args:List TOp}(ho:opK P o.op=some (kd,args))(hc:kd.cls=0){a:Act}{tm:Tr TV}(ht:TmR ρ tm a.tmps){vs:List TV}(hv:zdP tm args=some vs){v:TV}(hp:pas kd vs h=some v) :
  zhY P ρ w (execOp a.eval o) v:=by
 have key:∀{k0:zX} {xs:List Operand},mk k0 xs=some (kd,args)->kd=k0/\VL ρ vs (xs.map a.eval):=fun hm=>by
  obtain⟨h1,h2⟩:=zjN hm;exact⟨h1,zeL ht h2 hv⟩
 obtain⟨dst,op,ty,pos,after,guard⟩:=o
 cases op with
 | move x =>
  obtain⟨rfl,hl⟩:=key ho;obtain⟨y,rfl,hp⟩:=zc8 hp;injection hp with hp;subst hp;exact⟨a.eval x,by simp[execOp],hl.uno rfl⟩
 | assign x =>
  obtain⟨rfl,hl⟩:=key ho;obtain⟨y,rfl,hp⟩:=zc8 hp;injection hp with hp;subst hp;exact⟨a.eval x,by simp[execOp],hl.uno rfl⟩
 | pick c x y =>
  obtain⟨rfl,hl⟩:=key ho;obtain⟨v',h1,h2⟩:=zx5 (P:=P) hl hp w;exact⟨v',by simpa[execOp]using ze1 h1,h2⟩
 | alloc e=>simp only[opK]at ho;split at ho<;>first|(cases ho;done)|skip;split at ho<;>first|(cases ho;done)|skip;obtain⟨rfl,_⟩:=key ho;cases hc
 | box e x=>simp only[opK]at ho;split at ho<;>first|(cases ho;done)|skip;obtain⟨rfl,_⟩:=key ho;cases hc
 | build t parts =>
  simp only[opK]at ho
  split at ho
  ·rename_i hu hz hps;obtain⟨rfl,hl⟩:=key ho;exact .of (zvB hz hps hl hp w)
  ·cases ho
 | buildSlice t len parts =>
  simp only[opK]at ho
  split at ho<;>first|(cases ho;done)|skip
  split at ho<;>first|(cases ho;done)|skip
  split at ho<;>first|(cases ho;done)|skip
  obtain⟨rfl,_⟩:=key ho;cases hc
 | insert t m x y =>
  simp only[opK]at ho
  split at ho<;>first|(cases ho;done)|skip
  split at ho<;>first|(cases ho;done)|skip
  all_goals (obtain⟨rfl,_⟩:=key ho;cases hc)
 | load t x =>
  simp only[opK]at ho
  split at ho<;>first|(cases ho;done)|skip
  rename_i hg hn;obtain⟨rfl,hl⟩:=key ho;obtain⟨y,rfl,hp⟩:=zc8 hp;exact .of (zrf k hg hn (hl.uno rfl) hp)
 | store t x y=>simp only[opK]at ho;split at ho<;>first|(cases ho;done)|skip;obtain⟨rfl,_⟩:=key ho;cases hc
 | ready g=>cases ho
 | waits g=>cases ho
 | nilCheck x =>
  obtain⟨rfl,hl⟩:=key ho;obtain⟨y,rfl,hp⟩:=zc8 hp;have hx:=hl.uno rfl;change zoB y=some v at hp;unfold zoB at hp
  split at hp
  ·injection hp with hp;subst hp;generalize hax:a.eval x=x' at hx
   cases hx with
   | ptr hρ hb=>exact⟨_,by simp[execOp,hax],.ptr hρ hb⟩
  ·injection hp with hp;subst hp;generalize hax:a.eval x=x' at hx
   cases hx with
   | fn hl h=>exact⟨_,by simp[execOp,hax],.fn hl h⟩
  ·cases hp
 | binOp op t x y yt =>
  simp only[opK]at ho;have hnil:∀(neg:Bool) (f:Nat),(∀{x' y':Value} {u v:TV},VR ρ u x'->VR ρ v y'->∀{b:Bool},zh3 f u v=some b->zg2 P t x y x' y' b w)->op=(if neg=true then .neq else .eql)->kd=.eqnil neg f->VL ρ vs [a.eval x,a.eval y] ->
    zhY P ρ w (execOp a.eval ⟨dst,.binOp op t x y yt,ty,pos,after,guard⟩) v:=fun neg f hcmp hop hkd hl=>by
   subst hkd;obtain⟨u,v0,rfl,hp⟩:=zds hp;obtain⟨hu,hv0⟩:=hl.two rfl;obtain⟨b,hb,rfl⟩:=zqY hp;exact .of ⟨_,toV (k:=k) (hcmp hu hv0 hb) hop,.bool _⟩
  have hbin:∀op',op=op'->kd=.bin op'->VL ρ vs [a.eval x,a.eval y]->zhY P ρ w (execOp a.eval ⟨dst,.binOp op t x y yt,ty,pos,after,guard⟩) v:=fun op' hop hkd hl=>by
   subst hkd;subst hop;obtain⟨u,v0,rfl,hp⟩:=zds hp;obtain⟨hu,hv0⟩:=hl.two rfl;exact .of (zza hu hv0 hp w)
  have hagg:∀(neg:Bool) ks,zkU P t=some ks->op=(if neg=true then .neq else .eql)->kd=.eqagg neg ks->VL ρ vs [a.eval x,a.eval y]->zhY P ρ w (execOp a.eval ⟨dst,.binOp op t x y yt,ty,pos,after,guard⟩) v:=fun neg ks hf hop hkd hl=>by
   subst hkd;subst hop;obtain⟨u,v0,rfl,hp⟩:=zds hp;obtain⟨hu,hv0⟩:=hl.two rfl;exact .of (zvp hf hu hv0 hp x y w)
  have hB:∀(neg:Bool),P.underlying t=some .bool->op=(if neg=true then .neq else .eql)->kd=.eqB neg->VL ρ vs [a.eval x,a.eval y]->zhY P ρ w (execOp a.eval ⟨dst,.binOp op t x y yt,ty,pos,after,guard⟩) v:=fun neg hu0 hop hkd hl=>by
   subst hkd;subst hop;obtain⟨u,v0,rfl,hp⟩:=zds hp;obtain⟨hu,hv0⟩:=hl.two rfl;exact .of (zzo hu0 hu hv0 hp x y w)
  clear hp
  split at ho
  ·obtain⟨h1,h2⟩:=key ho;exact hbin _ rfl h1 h2
  ·obtain⟨h1,h2⟩:=key ho;exact hbin _ rfl h1 h2
  ·obtain⟨h1,h2⟩:=key ho;exact hbin _ rfl h1 h2
  ·obtain⟨h1,h2⟩:=key ho;exact hbin _ rfl h1 h2
  ·rename_i hu;obtain⟨h1,h2⟩:=key ho;exact hB false hu rfl h1 h2
  ·rename_i hu;obtain⟨h1,h2⟩:=key ho;exact hB true hu rfl h1 h2
  ·split at ho
   ·rename_i hf;obtain⟨h1,h2⟩:=key ho;exact hagg false _ hf rfl h1 h2
   ·cases ho
  ·split at ho
   ·rename_i hf;obtain⟨h1,h2⟩:=key ho;exact hagg true _ hf rfl h1 h2
   ·cases ho
  ·rename_i hu;obtain⟨h1,h2⟩:=key ho;exact hnil false 1 (fun hx hy _ hb=>zpx hu hx hy hb) rfl h1 h2
  ·rename_i hu;obtain⟨h1,h2⟩:=key ho;exact hnil false 2 (fun hx hy _ hb=>zpl hu hx hy hb) rfl h1 h2
  ·rename_i hu;obtain⟨h1,h2⟩:=key ho;exact hnil false 3 (fun hx hy _ hb=>zo5 hu hx hy hb) rfl h1 h2
  ·rename_i hu;obtain⟨h1,h2⟩:=key ho;exact hnil false 4 (fun hx hy _ hb=>zoZ hu hx hy hb) rfl h1 h2
  ·rename_i hu
   split at ho
   ·rename_i hXY;obtain⟨h1,h2⟩:=key ho;exact hnil false 5 (fun hx hy _ hb=>zpM hu hXY hx hy hb) rfl h1 h2
   ·cases ho
  ·rename_i hu;obtain⟨h1,h2⟩:=key ho;exact hnil true 1 (fun hx hy _ hb=>zpx hu hx hy hb) rfl h1 h2
  ·rename_i hu;obtain⟨h1,h2⟩:=key ho;exact hnil true 2 (fun hx hy _ hb=>zpl hu hx hy hb) rfl h1 h2
  ·rename_i hu;obtain⟨h1,h2⟩:=key ho;exact hnil true 3 (fun hx hy _ hb=>zo5 hu hx hy hb) rfl h1 h2
  ·rename_i hu;obtain⟨h1,h2⟩:=key ho;exact hnil true 4 (fun hx hy _ hb=>zoZ hu hx hy hb) rfl h1 h2
  ·rename_i hu
   split at ho
   ·rename_i hXY;obtain⟨h1,h2⟩:=key ho;exact hnil true 5 (fun hx hy _ hb=>zpM hu hXY hx hy hb) rfl h1 h2
   ·cases ho
  ·cases ho
  ·cases ho
  ·obtain⟨h1,h2⟩:=key ho;exact hbin _ rfl h1 h2
 | unOp op t x =>
  obtain⟨rfl,hl⟩:=key ho;obtain⟨y,rfl,hp⟩:=zc8 hp;exact .of (zAc (hl.uno rfl) hp w)
 | convert src dst' x =>
  simp only[opK]at ho
  split at ho
  ·rename_i hs hd;obtain⟨rfl,hl⟩:=key ho;obtain⟨y,rfl,hp⟩:=zc8 hp;have hx:=hl.uno rfl;change zk2 _ y=some v at hp;unfold zk2 at hp
   split at hp
   ·injection hp with hp;subst hp;generalize hax:a.eval x=x' at hx
    cases hx
    refine .of (s:=convert src dst' (a.eval x)) ⟨_,?_,.int _ _⟩;rw[hax];simp[convert,run_underlying hs,run_underlying hd,Conv.intToInt]
   ·cases hp
  ·rename_i hs hd;obtain⟨rfl,hl⟩:=key ho;obtain⟨y,rfl,hp⟩:=zc8 hp;have hx:=hl.uno rfl;change zu9 y=some v at hp;unfold zu9 at hp
   split at hp
   ·injection hp with hp;subst hp;generalize hax:a.eval x=x' at hx
    cases hx with
    | str s =>
     refine .of (s:=convert src dst' (a.eval x)) ⟨_,?_,.str s⟩;rw[hax];simp[convert,run_underlying hs,run_underlying hd]
   ·cases hp
  ·cases ho
 | sliceToArrayPointer t x=>cases ho
 | makeInterface t x =>
  simp only[opK]at ho
  split at ho
  ·cases ho
  ·cases ho
  ·rename_i d hu hni;obtain⟨rfl,hl⟩:=key ho;obtain⟨y,rfl,hp⟩:=zc8 hp;injection hp with hp;subst hp;refine .of (s:=Instr.makeInterface t (a.eval x)) ⟨_,?_,.iface (hl.uno rfl)⟩
   cases hd:P.underlying t with
   | none=>exact absurd hd hni
   | some d=>cases d<;>first|(exact absurd hd (hu _))|simp[Instr.makeInterface,run_underlying hd]
 | makeFunc fn first captured =>
  cases fn<;>simp only[opK]at ho<;>first|(cases ho;done)|skip
  split at ho
  ·rename_i f hf;obtain⟨rfl,hl⟩:=key ho;simp[pas]at hp;subst hp;have h0:first=#[]:=Array.eq_empty_of_size_eq_zero hf;subst h0;refine .of (s:=Instr.makeFunc (.func f) ((#[]:Array Operand).map a.eval) (captured.map a.eval)) ⟨_,?_,VR.fnL hl⟩;simp[Instr.makeFunc];obtain⟨c⟩:=captured;simp
  ·cases ho
 | makeMap t r =>
  simp only[opK]at ho
  split at ho<;>first|(cases ho;done)|skip
  all_goals (obtain⟨rfl,_⟩:=key ho;cases hc)
 | makeChan t s=>cases ho
 | makeSlice t l c =>
  simp only[opK]at ho
  split at ho<;>first|(cases ho;done)|skip
  split at ho<;>first|(cases ho;done)|skip
  split at ho<;>first|(cases ho;done)|skip
  obtain⟨rfl,_⟩:=key ho;cases hc
 | slice t x lo hi mx =>
  simp only[opK]at ho
  split at ho
  ·rename_i hu
   split at ho
   ·rename_i hz;obtain⟨rfl,hl⟩:=key ho;have h1:=zA8 hu hz (lo:=lo.map a.eval) (hi:=hi.map a.eval) (mx:=mx.map a.eval) (x':=a.eval x) (vs:=vs) (by cases lo<;>cases hi<;>cases mx<;>simpa using hl) (v:=v) (by have hp2:zhA _ _ _ _ vs=some v:=hp;simpa using hp2) w;exact .of h1
   ·cases ho
  ·rename_i hu
   split at ho
   ·cases ho
   ·rename_i hmx;have:mx=none:=by cases mx<;>simp at hmx;rfl
    subst this;obtain⟨rfl,hl⟩:=key ho;have h1:=zvi hu (lo:=lo.map a.eval) (hi:=hi.map a.eval) (x':=a.eval x) (vs:=vs) (by cases lo<;>cases hi<;>simpa using hl) (v:=v) (by have hp2:zj3 _ _ vs=some v:=hp;simpa using hp2) w;exact .of h1
  ·rename_i len e hu
   split at ho
   ·cases ho
   ·rename_i hmx;have:mx=none:=by cases mx<;>simp at hmx;rfl
    subst this
    split at ho
    ·rename_i hz
     split at ho
     ·rename_i hlen;obtain⟨rfl,hl⟩:=key ho;have h1:=zwK hu hz hlen (lo:=lo.map a.eval) (hi:=hi.map a.eval) (x':=a.eval x) (vs:=vs) (by cases lo<;>cases hi<;>simpa using hl) (v:=v) (by have hp2:zmZ _ _ _ _ vs=some v:=hp;simpa using hp2) w;exact .of h1
     ·cases ho
    ·cases ho
  ·cases ho
 | fieldAddr t x f =>
  simp only[opK]at ho
  split at ho
  ·rename_i hf;obtain⟨rfl,hl⟩:=key ho;obtain⟨y,rfl,hp⟩:=zc8 hp;exact .of (zww hf (hl.uno rfl) hp w)
  ·cases ho
 | field t x f =>
  simp only[opK]at ho
  split at ho
  ·rename_i hf;obtain⟨rfl,hl⟩:=key ho;obtain⟨y,rfl,hp⟩:=zc8 hp;exact .of (zyM hf (hl.uno rfl) hp w)
  ·cases ho
 | indexAddr t x i =>
  simp only[opK]at ho
  split at ho
  ·rename_i hu
   split at ho
   ·rename_i hz;obtain⟨rfl,hl⟩:=key ho;obtain⟨y,j,rfl,hp⟩:=zds hp;obtain⟨h1,h2⟩:=hl.two rfl;exact .of (zwF hu hz h1 h2 hp w)
   ·cases ho
  ·rename_i hu
   split at ho
   ·rename_i hz;obtain⟨rfl,hl⟩:=key ho;obtain⟨y,j,rfl,hp⟩:=zds hp;obtain⟨h1,h2⟩:=hl.two rfl;exact .of (zur hu hz h1 h2 hp w)
   ·cases ho
  ·cases ho
 | index t x i =>
  simp only[opK]at ho
  split at ho
  ·rename_i hu;obtain⟨rfl,hl⟩:=key ho;obtain⟨y,j,rfl,hp⟩:=zds hp;obtain⟨h1,h2⟩:=hl.two rfl;exact .of (zuW hu h1 h2 hp w)
  ·rename_i hu
   split at ho
   ·rename_i hg hz;obtain⟨rfl,hl⟩:=key ho;obtain⟨y,j,rfl,hp⟩:=zds hp;obtain⟨h1,h2⟩:=hl.two rfl;exact .of (zum hu hg hz h1 h2 hp w)
   ·cases ho
  ·cases ho
 | lookup t m x ok =>
  simp only[opK]at ho
  split at ho
  ·rename_i hu
   split at ho
   ·rename_i hd hz;obtain⟨rfl,hl⟩:=key ho;obtain⟨y,j,rfl,hp⟩:=zds hp;obtain⟨h1,h2⟩:=hl.two rfl;exact .of (zrH k hu hd (.inl ⟨rfl,_,rfl⟩) hz h1 h2 hp)
   ·rename_i hd hz;obtain⟨rfl,hl⟩:=key ho;obtain⟨y,j,rfl,hp⟩:=zds hp;obtain⟨h1,h2⟩:=hl.two rfl;exact .of (zrH k hu hd (.inr ⟨rfl,rfl⟩) hz h1 h2 hp)
   ·cases ho
  ·cases ho
 | mapUpdate t m x y =>
  simp only[opK]at ho
  split at ho<;>first|(cases ho;done)|skip
  split at ho<;>first|(cases ho;done)|skip
  all_goals (obtain⟨rfl,_⟩:=key ho;cases hc)
 | mapEntry t m x =>
  simp only[opK]at ho
  split at ho<;>first|(cases ho;done)|skip
  split at ho<;>first|(cases ho;done)|skip
  all_goals (obtain⟨rfl,_⟩:=key ho;cases hc)
 | entryStore t m s x=>obtain⟨rfl,_⟩:=key ho;cases hc
 | range t x=>cases ho
 | next i b=>cases ho
 | entry i=>cases ho
 | typeAssert x xt t ok =>
  simp only[opK]at ho
  split at ho
  ·cases ho
  ·cases ho
  ·cases ho
  ·rename_i z hz hni hnn;obtain⟨rfl,hl⟩:=key ho;obtain⟨y,rfl,hp⟩:=zc8 hp
   cases hd:P.underlying t with
   | none=>exact absurd hd hnn
   | some d=>exact .of (zsI hd (fun ms e=>by subst e;exact hni _ hd) hz (hl.uno rfl) hp w)
 | extract x i =>
  obtain⟨rfl,hl⟩:=key ho;obtain⟨y,rfl,hp⟩:=zc8 hp;have hx:=hl.uno rfl;change zqg i y=some v at hp;unfold zqg at hp
  split at hp
  ·generalize hax:a.eval x=x' at hx
   cases hx with
   | tuple hl0 hr =>
    rename_i cs;rw[zhF]at hp;obtain⟨u,hu,hur⟩:=VL.at (ρ:=ρ) (l:=_) (cs:=cs) ⟨hl0,hr⟩ hp;refine .of (s:=Instr.extract (a.eval x) i) ⟨u,?_,hur⟩;rw[hax];simp[Instr.extract,hu]
  ·cases hp
 | call c =>
  obtain⟨callee,cargs,ts⟩:=c
  cases callee with
  | value f=>obtain⟨rfl,_⟩:=key ho;cases hc
  | invoke r m=>cases ho
  | builtin b =>
   simp only[opK]at ho
   split at ho
   ·split at ho<;>first|(cases ho;done)|skip
    split at ho<;>first|(cases ho;done)|skip
    split at ho<;>first|(cases ho;done)|skip
    split at ho<;>first|(cases ho;done)|skip
    obtain⟨rfl,_⟩:=key ho;cases hc
   ·split at ho<;>first|(cases ho;done)|skip
    split at ho<;>first|(cases ho;done)|skip
    obtain⟨rfl,_⟩:=key ho;cases hc
   ·rename_i t hts;have hlen:∀(f:Nat) {d:TypeDesc},P.underlying t=some d->((f=1/\∃e,d=.slice e)\/(f=2/\∃a b,d=.map a b)\/(f=3/\d=.string))->kd=.len f->VL ρ vs (cargs.toList.map a.eval)->zhY P ρ w (execOp a.eval ⟨dst,.call { callee:=.builtin .len,args:=cargs,argTypes:=ts },ty,pos,after,guard⟩) v:=fun f d hu hd hkd hl=>by
     subst hkd;obtain⟨y,rfl,hp⟩:=zc8 hp;obtain⟨xs⟩:=cargs;obtain⟨ts⟩:=ts;simp at hts;subst hts
     cases xs with
     | nil=>have:=hl.1;simp at this
     | cons x r=>cases r with
      | cons _ _=>have:=hl.1;simp at this
      | nil =>
       obtain⟨v',h1,h2⟩:=zyO k hu hd (hl.uno rfl) hp ty;refine⟨v',?_,h2⟩;simp only[execOp,zc7];simpa[builtin]using ze1 h1
    split at ho
    ·rename_i hu;obtain⟨h1,h2⟩:=key ho;exact hlen 1 hu (.inl ⟨rfl,_,rfl⟩) h1 h2
    ·rename_i hu;obtain⟨h1,h2⟩:=key ho;exact hlen 2 hu (.inr (.inl ⟨rfl,_,_,rfl⟩)) h1 h2
    ·rename_i hu;obtain⟨h1,h2⟩:=key ho;exact hlen 3 hu (.inr (.inr ⟨rfl,rfl⟩)) h1 h2
    ·cases ho
   ·split at ho
    ·rename_i hsz;obtain⟨rfl,hl⟩:=key ho;obtain⟨y,j,rfl,hp⟩:=zds hp;obtain⟨xs⟩:=cargs
     match xs,hsz with
     | [x0,x1],_ =>
      obtain⟨h1,h2⟩:=hl.two rfl;obtain⟨v',h3,h4⟩:=ztp (P:=P) (mx:=true) h1 h2 hp ts ty w;refine⟨v',?_,h4⟩;simp only[execOp,zc7];simpa[builtin]using ze1 h3
    ·cases ho
   ·split at ho
    ·rename_i hsz;obtain⟨rfl,hl⟩:=key ho;obtain⟨y,j,rfl,hp⟩:=zds hp;obtain⟨xs⟩:=cargs
     match xs,hsz with
     | [x0,x1],_ =>
      obtain⟨h1,h2⟩:=hl.two rfl;obtain⟨v',h3,h4⟩:=ztp (P:=P) (mx:=false) h1 h2 hp ts ty w;refine⟨v',?_,h4⟩;simp only[execOp,zc7];simpa[builtin]using ze1 h3
    ·cases ho
   ·split at ho
    ·obtain⟨rfl,_⟩:=key ho;cases hc
    ·cases ho
   ·cases ho
 | go c=>cases ho
 | defer c =>
  obtain⟨callee,cargs,ts⟩:=c
  cases callee<;>first|(cases ho;done)|(obtain⟨rfl,_⟩:=key ho;cases hc)
 | panic x=>obtain⟨rfl,_⟩:=key ho;cases hc
 | send c x=>cases ho
 | recv t c b=>cases ho
 | select cs b=>cases ho
theorem zhB (k:WR P Z ρ h w){b:Nat}(hn:∀g,ρ b g=none)(hb:b<h.next)(hZ:Z<=w.heap.size){e:Nat}{l:List TV}(hx:h.get b=some (zcq e l)){cs:Array Value}(hl:l.length<=cs.size)
  (hr:∀(i:Nat) x y,l[i]?=some x->cs[i]?=some y->VR ρ x y) (h1:∀x∈l,x.one=true):WR P Z (ρ.add b 0 ⟨w.heap.size,l.length,cs.size⟩) h (w.alloc (.cells cs e)):=by
 have hm:=Rho.add_more (loc:=⟨w.heap.size,l.length,cs.size⟩) (hn 0);refine k.real hn hb hZ hx ⟨zAJ9 _,fun g loc hg=>?_,fun g hg1 hg2=>?_⟩
 ·rcases Rho.add_inv hg with⟨_,rfl,_⟩|hg
  ·exact zAJ9 _
  ·rw[hn]at hg;cases hg
 ·obtain rfl:g=0:=by omega
  refine⟨_,cs,Rho.add_same _ _ _ _,World.alloc_heap_new w _,fun _=>rfl,zAJ9 _,hl,fun _=>rfl,fun i hi=>?_⟩;dsimp only at hi;have hi':i<cs.size:=by omega
  refine⟨l[i],cs[i],?_,zCR9 hi',h1 _ (zBN9 hi),(hr i _ _ (zAB9 hi) (zCR9 hi')).mono hm⟩;rw[Tr.get_putL,if_pos (by omega),zGD9,zAB9 hi]
theorem zhW {α:Type}(l:List α):∀n,(zeb l n).length=n*l.length
 | 0=>by simp[zeb]
 | n+1=>by rw[zeb,zAD9,zhW l n,zDD9,zDT9]
theorem zrD {α:Type}(l:List α):∀(n i:Nat),i<n*l.length->(zeb l n)[i]?=l[i%l.length]?
 | 0,i,h=>by simp at h
 | n+1,i,h=>by
  rw[zeb,zDZ9]
  split
  ·rename_i hi;rw[zEL9 hi]
  ·rename_i hi;rw[zDD9]at h;rw[zrD l n (i-l.length) (by omega)]
   congr 1
   rw[Nat.mod_eq_sub_mod (show i ≥ l.length by omega)]
theorem zmf {α:Type}{l:List α}:∀{n:Nat} {x:α},x∈zeb l n->x∈l
 | 0,x,h=>by simp[zeb]at h
 | n+1,x,h=>by
  rw[zeb,zBI9]at h;exact h.elim id zmf
theorem zrF {z:TV}{zv:Value}(hz:VR ρ z zv)(hc:z.cells ≠ [])(n m:Nat)(hnm:n<=m):∀(i:Nat) x y,(zeb z.cells n)[i]?=some x->(((Array.range (m*zv.cells.size)).map (fun j=>zv.cells[j%zv.cells.size]!)))[i]?=some y->VR ρ x y:=fun i x y hx hy=>by
 obtain⟨⟨hl,hr⟩,_⟩:=hz.cells (.inl hc);have hi:i<n*z.cells.length:=by rw[<- zhW];exact(zAC9.1 hx).1
 rw[zrD _ _ _ hi]at hx;have hsz:zv.cells.size=z.cells.length:=by simpa using hl.symm
 have hpos:0<z.cells.length:=zBV9.2 hc;simp only[Array.getElem?_map]at hy;rw[Array.getElem?_range]at hy
 split at hy
 ·simp at hy;refine hr (i%z.cells.length) x y hx ?_;rw[<- hy,hsz];have hlt:i%z.cells.length<zv.cells.size:=by rw[hsz];exact Nat.mod_lt _ hpos
  rw[zBZ9,getElem!_pos zv.cells _ hlt,zCR9 hlt]
 ·cases hy
def zic (P:Program)(Z:Nat)(ρ:Rho)(h:TH)(w:World)(b:Nat)(s:Sem Next)(v:TV):Prop :=
 ∃v' o L S,s.run P w=.ok (.value v') (w.alloc o)/\WR P Z (ρ.add b 0 ⟨w.heap.size,L,S⟩) h (w.alloc o)/\VR (ρ.add b 0 ⟨w.heap.size,L,S⟩) v v'
theorem zic.of {b:Nat}{s:Sem Value}{v:TV}{v':Value}{o:Obj}(L S:Nat)(hs:s.run P w=.ok v' (w.alloc o))(hw:WR P Z (ρ.add b 0 ⟨w.heap.size,L,S⟩) h (w.alloc o))(hv:VR (ρ.add b 0 ⟨w.heap.size,L,S⟩) v v'):zic P Z ρ h w b (do pure (.value (<- s))) v :=
 ⟨v',o,L,S,ze1 hs,hw,hv⟩
theorem zeV (e:TypeId)(cs:Array Value):(newRow e cs).run P w=.ok ⟨w.heap.size,0,none⟩ (w.alloc (.cells cs e)):=by
 simp[newRow,run_newObj_alloc]
theorem zy9 (k:WR P Z ρ h w){b:Nat}(hn:∀g,ρ b g=none)(hb:b<h.next)(hZ:Z<=w.heap.size){e:TypeId}{n:Nat}(hs:zb0 P e=some n){vs:List TV}{x':Value}(hv:VL ρ vs [x']){x:zdE}(hl:zn3 e n b vs=some x)(hx:h.get b=some x.o) :
  zic P Z ρ h w b (do pure (.value (<- Instr.box e x'))) x.v:=by
 unfold zn3 at hl
 split at hl
 ·rename_i v;obtain⟨h0,hl⟩:=zM hl;injection hl with hl;subst hl;have hlen:=zAN9 h0;have hv0:=hv.uno rfl;have hn0:=(zej hs).1;obtain⟨hc,h1⟩:=hv0.cells (.inl (by intro e;rw[e]at hlen;simp at hlen;omega));have hsz:x'.cells.size=n:=by have:=hc.1;rw[hlen]at this;simpa using this.symm
  refine .of v.cells.length x'.cells.size (v':=.pointer (some ⟨w.heap.size,0,none⟩)) (o:=.cells x'.cells e) (by simp[Instr.box,newVar,zeV]) (zhB k hn hb hZ hx (by omega) (fun i x y hx hy=>hc.2 i x y hx (by simpa using hy)) h1) ?_;exact .ptr (loc:=⟨w.heap.size,v.cells.length,x'.cells.size⟩) (Rho.add_same _ _ _ _) (by simp[hlen])
 ·cases hl
theorem zwJ (k:WR P Z ρ h w){b:Nat}(hn:∀g,ρ b g=none)(hb:b<h.next)(hZ:Z<=w.heap.size){e:TypeId}{n:Nat}(hs:zb0 P e=some n){z:TV}(hz:zdu P e=some z)(hzl:z.cells.length=n){vs:List TV}{x:zdE}(hl:zkG e z.cells b vs=some x)(hx:h.get b=some x.o) :
  zic P Z ρ h w b (do pure (.value (<- Instr.alloc e true (.tuple #[])))) x.v:=by
 unfold zkG at hl
 split at hl
 ·injection hl with hl;subst hl;obtain⟨zv,hzv,hzr⟩:=zfP (ρ:=ρ) hz w;have hn0:=(zej hs).1;obtain⟨hc,h1⟩:=hzr.cells (.inl (by intro e;rw[e]at hzl;simp at hzl;omega));have hsz:zv.cells.size=n:=by have:=hc.1;rw[hzl]at this;simpa using this.symm
  refine .of z.cells.length zv.cells.size (v':=.pointer (some ⟨w.heap.size,0,none⟩)) (o:=.cells zv.cells e) (by simp[Instr.alloc,newVar,zeV,hzv]) (zhB k hn hb hZ hx (by omega) (fun i x y hx hy=>hc.2 i x y hx (by simpa using hy)) h1) ?_;exact .ptr (loc:=⟨w.heap.size,z.cells.length,zv.cells.size⟩) (Rho.add_same _ _ _ _) (by simp)
 ·cases hl
theorem zva (k:WR P Z ρ h w){b:Nat}(hn:∀g,ρ b g=none)(hb:b<h.next)(hZ:Z<=w.heap.size){t e:TypeId}{n len:Nat}(hu:P.underlying t=some (.slice e))(hs:zb0 P e=some n){z:TV}(hz:zdu P e=some z)(hzl:z.cells.length=n){ops:Array (Nat×Operand)}{a:Act}{vs:List TV}(hv:VL ρ vs ((ops.toList.map (·.2)).map a.eval)){x:zdE}
  (hl:zho e n len z.cells (ops.toList.map fun p=>(p.1*n,n)) b vs=some x) (hx:h.get b=some x.o) :
  zic P Z ρ h w b (do pure (.value (<- Instr.buildSlice t len (ops.map fun(i,x)=>(i,a.eval x))))) x.v:=by
 unfold zho at hl;obtain⟨h0,hl⟩:=zM hl;have hle:=zBC9 h0
 split at hl
 ·rename_i l hf;injection hl with hl;subst hl;obtain⟨zv,hzv,hzr⟩:=zfP (ρ:=ρ) hz w;have hn0:=(zej hs).1;have hcn:z.cells ≠ []:=by intro e;rw[e]at hzl;simp at hzl;omega
  obtain⟨hc,h1⟩:=hzr.cells (.inl hcn);have hsz:zv.cells.size=n:=by have:=hc.1;rw[hzl]at this;simpa using this.symm
  obtain⟨ds,hd,hd1,hd2,hd3⟩:=zmr (place:=fun i=>some (i*n,n)) (parts:=(ops.map fun(i,x)=>(i,a.eval x)).toList) (places:=ops.toList.map fun p=>(p.1*n,n)) (vs:=vs) (cells:=zeb z.cells len) (cs:=(Array.range (len*n)).map (fun j=>zv.cells[j%zv.cells.size]!)) (by simp) (fun j p q hj hq=>by
    simp only[zFW9,zAH9]at hj hq
    cases ho:ops.toList[j]? with
    | none=>rw[ho]at hj;cases hj
    | some o=>rw[ho]at hj hq;simp at hj hq;subst hj;subst hq;rfl) (by simpa[Function.comp_def]using hv) ⟨by rw[zhW];simp[hzl],fun i x y hx hy=>by
     have:=zrF hzr hcn len len (zAJ9 _) i x y hx;rw[hsz]at this;rw[hsz]at hy;rw[zBZ9]at hy;exact this hy⟩ (fun x hx=>h1 x (zmf hx)) (fun q hq=>by obtain⟨p,_,rfl⟩:=zAM9.1 hq;exact hn0) hf
  have hlen:l.length=len*n:=by rw[hd3,zhW,hzl]
  have hdsz:ds.size=len*n:=by have:=hd1.1;rw[hlen]at this;simpa using this.symm
  refine .of l.length ds.size (v':=.slice (some ⟨w.heap.size,0,none⟩) len len) (o:=.cells ds e) ?_ (zhB k hn hb hZ hx (by omega) (fun i x y hx hy=>hd1.2 i x y hx (by simpa using hy)) hd2) ?_
  ·simp only[zFW9]at hd;have hgt:¬(16777216<len*n):=by omega
   by_cases h00:len*n=0
   ·have hz0:(Array.range (len*n)).map (fun j=>zv.cells[j%zv.cells.size]!)=(Array.range (len*n)).map (fun j=>(#[]:Array Value)[j%(#[]:Array Value).size]!):=by rw[h00];simp
    rw[hz0]at hd;simp[Instr.buildSlice,run_underlying hu,zbP hs,h00]at hd⊢;simp[hd,zeV]
   ·simp[Instr.buildSlice,run_underlying hu,zbP hs,hgt,h00,hzv,hd,zeV]
  ·refine .sl (loc:=⟨w.heap.size,l.length,ds.size⟩) (Rho.add_same _ _ _ _) (by omega) (by omega) ?_ (.inl rfl) (fun _=>?_) ?_
   ·have:2*len/2=len:=by omega
    simp only[this,hlen];omega
   ·simp[hdsz]
   ·have:len*1<=len*n:=Nat.mul_le_mul_left len (by omega);simp only[maxLen];omega
 ·cases hl
theorem zsr (k:WR P Z ρ h w){b:Nat}(hn:∀g,ρ b g=none)(hb:b<h.next)(hZ:Z<=w.heap.size){t e:TypeId}{n by_:Nat}(hu:P.underlying t=some (.slice e))(hs:zb0 P e=some n)(hby:zi6 P e=some by_){z:TV}(hz:zdu P e=some z)(hzl:z.cells.length=n){vs:List TV}{x' y':Value}(hv:VL ρ vs [x',y']){x:zdE}
  (hl:zgs e n by_ z.cells b vs=some x) (hx:h.get b=some x.o):zic P Z ρ h w b (do pure (.value (<- Instr.makeSlice t x' y'))) x.v:=by
 unfold zgs at hl
 split at hl
 ·rename_i u v
  split at hl
  ·rename_i m c hm hc0;obtain⟨h0,hl⟩:=zM hl;obtain⟨h1,hl⟩:=zM hl;obtain⟨h2,hl⟩:=zM hl;injection hl with hl;subst hl;have hmc:=zBC9 h0;have hc1:=zBC9 h1;have hc2:=zBC9 h2;obtain⟨ru,rv⟩:=hv.two rfl;obtain⟨k1,_,rfl⟩:=zfL hm ru;obtain⟨k2,_,rfl⟩:=zfL hc0 rv;obtain⟨zv,hzv,hzr⟩:=zfP (ρ:=ρ) hz w;obtain⟨i,hi,hib⟩:=zo2 hby;have hn0:=(zej hs).1;have hcn:z.cells ≠ []:=by intro e;rw[e]at hzl;simp at hzl;omega
   obtain⟨hc,h1'⟩:=hzr.cells (.inl hcn);have hsz:zv.cells.size=n:=by have:=hc.1;rw[hzl]at this;simpa using this.symm
   have hlen:(zeb z.cells m).length=m*n:=by rw[zhW,hzl]
   have hmn:m*n<=c*n:=zCF9 n hmc;refine .of (zeb z.cells m).length (c*n) (v':=.slice (some ⟨w.heap.size,0,none⟩) m c) (o:=.cells ((Array.range (c*n)).map (fun j=>zv.cells[j%zv.cells.size]!)) e) ?_ ?_ ?_
   ·have w1:IntKind.i64.wrap (m:Int)=m:=by simp[IntKind.wrap,IntKind.bits,IntKind.signed];omega
    have w2:IntKind.i64.wrap (c:Int)=c:=by simp[IntKind.wrap,IntKind.bits,IntKind.signed];omega
    have hbc:¬((by_:Int)*(c:Int)>2 ^ 48):=by
     have:((by_*c:Nat):Int)<=140737488355328:=by rw[Nat.mul_comm];omega
     rw[Int.natCast_mul]at this;omega
    have hbm:¬((c:Int)<(m:Int)):=by omega
    have hask:∀(x:Nat) (w:World),(askRoom x).run P w=.ok () w:=fun x w=>by unfold askRoom;split<;>simp[mark,Sem.run]
    by_cases h00:c*n=0
    ·have hz0:(Array.range (c*n)).map (fun j=>zv.cells[j%zv.cells.size]!)=(Array.range (c*n)).map (fun j=>(#[]:Array Value)[j%(#[]:Array Value).size]!):=by rw[h00];simp
     rw[hz0];simp[Instr.makeSlice,run_underlying hu,asInt,asIntOf,typeInfo,hi,hib,w1,w2,hbm,zbP hs,h00,hask,zeV];omega
    ·simp[Instr.makeSlice,run_underlying hu,asInt,asIntOf,typeInfo,hi,hib,w1,w2,hbm,zbP hs,h00,hzv,hask,zeV];omega
   ·have:=zhB k hn hb hZ hx (cs:=(Array.range (c*n)).map (fun j=>zv.cells[j%zv.cells.size]!)) (by simp[hlen];omega) (fun i x y hx hy=>by
     have:=zrF hzr hcn m c hmc i x y hx;rw[hsz]at this hy;exact this hy) (fun x hx=>h1' x (zmf hx))
    simpa using this
   ·refine .sl (loc:=⟨w.heap.size,(zeb z.cells m).length,c*n⟩) (Rho.add_same _ _ _ _) (by omega) (by omega) ?_ (.inl rfl) (fun _=>?_) ?_
    ·have:2*m/2=m:=by omega
     simp only[this,hlen];omega
    ·simp
    ·simp only[maxLen];omega
  ·cases hl
 ·cases hl
theorem zpO (k:WR P Z ρ h w){b:Nat}(hn:∀g,ρ b g=none)(hb:b<h.next)(hZ:Z<=w.heap.size){t a1 a2:TypeId}(hu:P.underlying t=some (.map a1 a2)){r:Option Value}{vs:List TV}(hv:VL ρ vs r.toList){x:zdE}(hl:zkm b vs=some x)(hx:h.get b=some x.o) :
  zic P Z ρ h w b (do pure (.value (<- Instr.makeMap t r))) x.v:=by
 have hm:=Rho.add_more (loc:=⟨w.heap.size,0,0⟩) (hn 0);have hw:∀{x:zdE},x=⟨.map [] 0,.map b⟩->h.get b=some x.o->WR P Z (ρ.add b 0 ⟨w.heap.size,0,0⟩) h (w.alloc (.map #[] 0)):=fun e hx=>by
  subst e;exact k.real hn hb hZ hx ⟨_,#[],Rho.add_same _ _ _ _,World.alloc_heap_new w _,rfl,fun i e e' he=>by simp at he⟩
 have hvr:VR (ρ.add b 0 ⟨w.heap.size,0,0⟩) (.map b) (.map (some w.heap.size)):=.map (loc:=⟨w.heap.size,0,0⟩) (Rho.add_same _ _ _ _);unfold zkm at hl
 split at hl
 ·injection hl with hl;subst hl
  cases r with
  | some _=>have:=hv.1;simp at this
  | none=>exact .of 0 0 (o:=.map #[] 0) (by simp[Instr.makeMap,run_newObj_alloc]) (hw rfl hx) hvr
 ·injection hl with hl;subst hl
  cases r with
  | none=>have:=hv.1;simp at this
  | some y =>
   have:=hv.uno rfl
   cases this
   exact .of 0 0 (o:=.map #[] 0) (by simp[Instr.makeMap,run_underlying hu,asInt,asIntOf,run_newObj_alloc]) (hw rfl hx) hvr
 ·cases hl
end Tw
end Go.Proofs.YtfomlmhnmheenaaGreat
namespace Go.Proofs.YtfomlmhnmheenaaGreat
open Go.RowKit
namespace Tw
variable {P:Program}{ρ ρ':Rho}{Z:Nat}{h:TH}{w:World}
theorem WR.change (k:WR P Z ρ h w){b:Nat}{x':TO}(hm:∀c g loc,ρ c g=some loc->ρ' c g=some loc)(hsame:∀c,c≠b->∀g,ρ' c g=ρ c g){g0:Nat}{loc0:Loc}(hex:ρ b g0=some loc0){w':World}(hs:w.heap.size<=w'.heap.size)
  (hb:∀c g loc,c≠b->ρ c g=some loc->w'.heap[loc.r]?=w.heap[loc.r]?) (hr:OR P ρ' b w' x') (hdom:∀g loc,ρ' b g=some loc->Z<=loc.r/\loc.r<w'.heap.size) (hsep:∀g loc,ρ' b g=some loc->∀c g' loc',c≠b->ρ c g'=some loc'->loc.r≠loc'.r):WR P Z ρ' (h.set b x') w':=by
 have hlt:=(k.dom b g0 loc0 hex).1;refine⟨fun c g loc hl=>?_,fun c g loc hl=>?_,fun c c' g g' loc loc' hl hl' e hZ1=>?_⟩
 ·by_cases hc:c=b
  ·subst hc;exact⟨hlt,.inl (hdom g loc hl).1,(hdom g loc hl).2⟩
  ·rw[hsame c hc]at hl;obtain⟨a1,a2,a3⟩:=k.dom c g loc hl;exact⟨a1,a2.imp id fun⟨cs,h1⟩=>⟨cs,by rw[TH.get_set _ _ _ _ hlt,if_neg hc];exact h1⟩,by omega⟩
 ·by_cases hc:c=b
  ·subst hc;exact⟨x',by rw[TH.get_set _ _ _ _ hlt,if_pos rfl],hr⟩
  ·rw[hsame c hc]at hl;obtain⟨o,ho,hor⟩:=k.obj c g loc hl;exact⟨o,by rw[TH.get_set _ _ _ _ hlt,if_neg hc];exact ho,hor.move hm (hsame c hc) fun g loc hg=>hb c g loc hc hg⟩
 ·by_cases hc:c=b<;>by_cases hc':c'=b
  ·rw[hc,hc']
  ·subst hc;rw[hsame c' hc']at hl';exact absurd e (hsep g loc hl c' g' loc' hc' hl')
  ·subst hc';rw[hsame c hc]at hl;exact absurd e.symm (hsep g' loc' hl' c g loc hc hl)
  ·rw[hsame c hc]at hl;rw[hsame c' hc']at hl';exact k.sep c c' g g' loc loc' hl hl' e hZ1
theorem zpH {g:Nat}(hg:Z<=g)(cs:Array Value):Below Z w (w.setRow g cs):=⟨rfl,rfl,rfl,by simp,fun k hk=>setRow_other w g k cs (by omega)⟩
theorem zi1 {α:Type}(l m:List α)(o i:Nat)(h:o+m.length<=l.length):(l.take o++m++l.drop (o+m.length))[i]?=if o<=i/\i<o+m.length then m[i-o]? else l[i]?:=by
 rw[zAG9,zDZ9];have h1:(l.take o).length=o:=by simp;omega
 rw[h1]
 split
 ·rename_i hi;rw[if_neg (by omega),zBH9,if_pos hi]
 ·rename_i hi;rw[zDZ9]
  split
  ·rename_i h2;rw[if_pos (by omega)]
  ·rename_i h2;rw[if_neg (by omega),zBU9]
   congr 1;omega
theorem zju (k:WR P Z ρ h w){b g o:Nat}{loc:Loc}(hρ:ρ b g=some loc){l:List TV}{cs:List Value}(hl:VL ρ l cs)(h1:∀x∈l,x.one=true){h':TH}(hw:zdL h b g o l=some h') :
  ∃w',(storeCells ⟨loc.r,o,none⟩ cs).run P w=.ok () w'/\WR P Z ρ h' w'/\Below Z w w'/\h'.next=h.next:=by
 unfold zdL at hw
 split at hw
 ·rename_i x hx;unfold zmN at hw
  split at hw
  ·rename_i e G M len cells;obtain⟨ha,hw⟩:=zM hw;obtain⟨hb,hw⟩:=zM hw;injection hw with hw;obtain rfl:=zAN9 ha;have hfit:=zBC9 hb;obtain⟨y,hy,hr⟩:=k.obj b g loc hρ;rw[hx]at hy;injection hy with hy;subst hy;obtain⟨hM,hg0,hr⟩:=hr
   ·obtain⟨loc',cur,hρ',hheap,r1,r2,r3,r4,r5⟩:=hr g hM (zAJ9 _);rw[hρ]at hρ';injection hρ' with hρ';subst hρ';have hL:=r4 rfl;have hcl:cs.length=l.length:=hl.1.symm;have hfit':o+cs.length<=cur.size:=by omega
    have hst:=run_storeCells_at P loc.r o e cs 0 cur w hheap (by simpa using hfit') (fun v hv=>by
     obtain⟨i,hi,rfl⟩:=zBO9.1 hv;have hi':i<l.length:=by rw[hl.1];exact hi
     exact(hl.2 i l[i] cs[i] (zAB9 hi') (zAB9 hi)).oneCell (h1 _ (zBN9 hi')))
    simp only[zDF9]at hst;have hnew:=setRow_heap w loc.r cur (cur.toList.take o++cs++cur.toList.drop (o+cs.length)).toArray e (0,0) hheap;have hZo:∀g' loc',ρ b g'=some loc'->Z<=loc'.r:=fun g' loc' hl'=>k.own hl' hx (fun cs h=>by cases h);have hZr:=hZo g loc hρ;refine⟨_,hst,?_,zpH hZr _,by rw[<- hw];rfl⟩;rw[<- hw];refine k.change (fun _ _ _ h=>h) (fun _ _ _=>rfl) hρ (by simp) (fun c g' loc' hc hl'=>setRow_other w loc.r loc'.r _ (fun e=>hc (k.sep c b g' g loc' loc hl' hρ e (by omega)))) ⟨zAJ9 _,hg0,fun g' h1' h2'=>?_⟩ (fun g' loc' hl'=>⟨hZo g' loc' hl',by have:=(k.dom b g' loc' hl').2.2;simpa using this⟩) (fun g' loc' hl' c g'' loc'' hc hl'' e=>hc ((k.sep b c g' g'' loc' loc'' hl' hl'' e (hZo g' loc' hl')).symm));obtain rfl:g'=g:=by omega
    refine⟨loc,_,hρ,hnew,fun _=>?_,r2,?_,fun _=>hL,fun i hi=>?_⟩
    ·have:=r1 rfl;simp;omega
    ·simp;omega
    ·have hil:i<cur.size:=by omega
     have e1:((cur.toList.take o++cs++cur.toList.drop (o+cs.length)).toArray)[i]?=if o<=i/\i<o+cs.length then cs[i-o]? else cur[i]?:=by
      rw[zGA9,zi1 _ _ _ _ (by simpa using hfit'),zBZ9 (xs:=cur)]
     rw[e1,Tr.get_putL,hcl]
     by_cases hio:o<=i/\i<o+l.length
     ·rw[if_pos hio,if_pos hio];have hi1:i-o<l.length:=by omega
      have hi2:i-o<cs.length:=by omega
      exact⟨_,_,zAB9 hi1,zAB9 hi2,h1 _ (zBN9 hi1),hl.2 (i-o) _ _ (zAB9 hi1) (zAB9 hi2)⟩
     ·rw[if_neg hio,if_neg hio];exact r5 i hi
  ·cases hw
 ·cases hw
end Tw
end Go.Proofs.YtfomlmhnmheenaaGreat
namespace Go.Proofs.YtfomlmhnmheenaaGreat
open Go.RowKit
namespace Tw
variable {P:Program}{ρ ρ':Rho}{Z:Nat}{h h':TH}{w:World}
def zg9 (P:Program)(Z:Nat)(ρ:Rho)(h h':TH)(w:World)(s:Sem Next)(v:TV):Prop :=
 ∃n v' w' ρ',s.run P w=.ok n w'/\(n=.value v'\/(n=.skip/\v'=undef))/\Rho.le h.next ρ ρ'/\WR P Z ρ' h' w'/\Below Z w w'/\VR ρ' v v'/\h.next<=h'.next
theorem zg9.val {s:Sem Value}{v:TV}{v':Value}{w':World}(hs:s.run P w=.ok v' w')(hle:Rho.le h.next ρ ρ')(hw:WR P Z ρ' h' w')(hb:Below Z w w')(hv:VR ρ' v v')(hn:h.next<=h'.next):zg9 P Z ρ h h' w (do pure (.value (<- s))) v :=
 ⟨_,v',w',ρ',ze1 hs,.inl rfl,hle,hw,hb,hv,hn⟩
theorem zg9.skip {s:Sem Unit}{w':World}(hs:s.run P w=.ok () w')(hle:Rho.le h.next ρ ρ')(hw:WR P Z ρ' h' w')(hb:Below Z w w')(hn:h.next<=h'.next):zg9 P Z ρ h h' w (do s;pure .skip) (.tuple []) :=
 ⟨_,undef,w',ρ',by simp[hs],.inr ⟨rfl,rfl⟩,hle,hw,hb,VR.undef _,hn⟩
theorem zwy (k:WR P Z ρ h w){t:TypeId}{n:Nat}(hs:zb0 P t=some n){vs:List TV}{p' v':Value}(hv:VL ρ vs [p',v']){v:TV}(ha:zgW n h vs=some (.ok v h')):v=.tuple []/\zg9 P Z ρ h h' w (do Instr.storeAt t p' v';pure .skip) v:=by
 unfold zgW at ha
 split at ha
 ·rename_i b g o e u;obtain⟨h0,ha⟩:=zM ha;obtain⟨h1,ha⟩:=zM ha;have hlen:=zAN9 h0;have hle:=zBC9 h1
  split at ha
  ·rename_i h2 hw;injection ha with ha;injection ha with ha1 ha2;subst ha1;subst ha2;obtain⟨hp,hu⟩:=hv.two rfl;have hn0:=(zej hs).1;obtain⟨hc,hone⟩:=hu.cells (.inl (by intro e;rw[e]at hlen;simp at hlen;omega))
   cases hp with
   | ptr hρ hcov =>
    rename_i loc;obtain⟨w',hst,hw',hb,hnx⟩:=zju k hρ hc hone hw;have hsz:v'.cells.size=n:=by have:=hc.1;rw[hlen]at this;simpa using this.symm
    exact⟨rfl,.skip (by simp[Instr.storeAt,Instr.sureAddr,storeVar,zbP hs,hsz,hst]) (Rho.le.refl _ _) hw' hb (by rw[hnx];exact zAJ9 _)⟩
  ·cases ha
 ·cases ha
theorem zBi {x y:TV}(h:zid x y=some true):x=y:=by
 unfold zid at h
 split at h
 ·split at h
  ·rename_i k a _ k' b;obtain⟨hk,h1⟩:=zM h;have:=zht hk;subst this;injection h1 with h1;rw[zc1]at h1;have:=beq_iff_eq.1 h1;subst this;rfl
  ·cases h
 ·split at h
  ·rename_i a _ b;injection h with h;rw[zgl]at h;have:=beq_iff_eq.1 h;subst this;rfl
  ·cases h
 ·cases h
theorem VR.str_inv {l:List Nat}{v:Value}(h:VR ρ (.str l) v):∃s,v=.string s/\bts s=l:=by
 cases h with
 | str s=>exact⟨s,rfl,rfl⟩
theorem zko {x:TV}{a b:Value}(ha:VR ρ x a)(hb:VR ρ x b){d:TypeDesc}{kf:Nat}(hk:ze9 kf x=true)(w:World):(Instr.keyThatStays a b).run P w=.ok b w:=by
 have:Instr.sameBits 10000 a b=true:=by
  match kf,hk with
  | 1,hk =>
   cases x<;>simp[ze9,zhX]at hk
   cases ha;cases hb
   simp[Instr.sameBits]
  | 2,hk =>
   cases x<;>simp[ze9,zrU]at hk
   obtain⟨s1,rfl,e1⟩:=ha.str_inv;obtain⟨s2,rfl,e2⟩:=hb.str_inv;have h1:=zte (s:=s1) (t:=s2) (e1.trans e2.symm);have h2:(s1==s2)=true:=by rw[beq_toListBytes,h1];simp
   simp only[Instr.sameBits];exact h2
 simp[Instr.keyThatStays,this]
theorem EsR.push {es:List zcy}{es':List MapEntry}(h:EsR ρ es es'){e:zcy}{e':MapEntry}(hk:VR ρ e.k e'.key)(hv:VR ρ e.v e'.val)(hb:e'.born=e.n):EsR ρ (es++[e]) (es'++[e']):=by
 refine⟨by simp[h.1],fun i x y hx hy=>?_⟩;rw[zDZ9]at hx hy;rw[h.1]at hx
 split at hx
 ·rename_i hi;rw[if_pos hi]at hy;exact h.2 i x y hx hy
 ·rename_i hi;rw[if_neg hi]at hy;have:i-es'.length=0:=by have:=(zAC9.1 hx).1;simp at this;omega
  rw[this]at hx hy;simp at hx hy;subst hx;subst hy;exact⟨hk,hv,hb⟩
theorem zrE:∀(es:List zcy) (i:Nat) (k v:TV) (j:Nat),(setE i k v es)[j]?=if j=i then(es[j]?).map (fun e=>⟨k,v,e.n⟩)else es[j]?
 | [],i,k,v,j=>by simp[setE]
 | e::es,0,k,v,j=>by cases j<;>simp[setE]
 | e::es,i+1,k,v,j=>by
  cases j with
  | zero=>simp[setE]
  | succ j=>simp only[setE,zAY9];rw[zrE es i k v j];simp
theorem zrh:∀(es:List zcy) (i:Nat) (k v:TV),(setE i k v es).length=es.length
 | [],i,k,v=>by simp[setE]
 | e::es,0,k,v=>by simp[setE]
 | e::es,i+1,k,v=>by simp[setE,zrh es i k v]
theorem EsR.setE {es:List zcy}{es':Array MapEntry}(h:EsR ρ es es'.toList){i:Nat}{k v:TV}{f:MapEntry->MapEntry}(hf:∀e e',es[i]?=some e->es'[i]?=some e'->VR ρ k (f e').key/\VR ρ v (f e').val/\(f e').born=e'.born):EsR ρ (setE i k v es) (es'.modify i f).toList:=by
 refine⟨by rw[zrh];simpa using h.1,fun j x y hx hy=>?_⟩;rw[zrE]at hx;rw[zBZ9,zGB9]at hy
 by_cases hj:j=i
 ·subst hj;rw[if_pos rfl]at hx hy
  cases he:es[j]? with
  | none=>rw[he]at hx;cases hx
  | some e =>
   cases he':es'[j]? with
   | none=>rw[he']at hy;cases hy
   | some e' =>
    rw[he]at hx;rw[he']at hy;simp at hx hy;subst hx;subst hy;obtain⟨a,b,c⟩:=hf e e' he he';exact⟨a,b,c.trans (h.2 j e e' he (by simpa using he')).2.2⟩
 ·rw[if_neg hj]at hx;rw[if_neg (fun e=>hj e.symm)]at hy;exact h.2 j x y hx (by simpa using hy)
theorem zfT {r:Nat}{es:Array MapEntry}{ck:Nat}(hh:w.heap[r]?=some (.map es ck))(o:Obj):(setObj r o).run P w=.ok () (w.putObj r o):=by
 simp[setObj,Sem.run,hh,World.putObj]
theorem WR.setMap (k:WR P Z ρ h w){b:Nat}{loc:Loc}(hρ:ρ b 0=some loc){es:List zcy}{ck:Nat}{es':Array MapEntry}(hh:∃es0 ck0,w.heap[loc.r]?=some (.map es0 ck0))(he:EsR ρ es es'.toList){x0:TO}(hx0:h.get b=some x0)(hn0:∀cs,x0 ≠ .ro cs):WR P Z ρ (h.set b (.map es ck)) (w.putObj loc.r (.map es' ck))/\Below Z w (w.putObj loc.r (.map es' ck)):=by
 have hZo:∀g' loc',ρ b g'=some loc'->Z<=loc'.r:=fun g' loc' hl'=>k.own hl' hx0 hn0;obtain⟨es0,ck0,hh⟩:=hh;have hlt:loc.r<w.heap.size:=(zCG9.1 hh).1;have hZ:=hZo 0 loc hρ;refine⟨k.change (fun _ _ _ h=>h) (fun _ _ _=>rfl) hρ (by simp[World.putObj]) (fun c g' loc' hc hl'=>World.putObj_heap_other (fun e=>hc (k.sep c b g' 0 loc' loc hl' hρ e (by omega)))) ⟨loc,es',hρ,World.putObj_heap_same hlt,he⟩
  (fun g' loc' hl'=>⟨hZo g' loc' hl',by have:=(k.dom b g' loc' hl').2.2;simpa[World.putObj]using this⟩) (fun g' loc' hl' c g'' loc'' hc hl'' e=>hc ((k.sep b c g' g'' loc' loc'' hl' hl'' e (hZo g' loc' hl')).symm)),?_⟩
 exact⟨rfl,rfl,rfl,by simp[World.putObj],fun j hj=>World.putObj_heap_other (by omega)⟩
theorem VL.three {l:List TV}{a b c:Value}(h:VL ρ l [a,b,c]){x y z:TV}(e:l=[x,y,z]):VR ρ x a/\VR ρ y b/\VR ρ z c:=by
 subst e;exact⟨h.2 0 x a rfl rfl,h.2 1 y b rfl rfl,h.2 2 z c rfl rfl⟩
theorem zjc (k:WR P Z ρ h w){t key e:TypeId}{kf:Nat}{d:TypeDesc}(hu:P.underlying t=some (.map key e))(hd:P.underlying key=some d)(hkf:kfT kf d){vs:List TV}{m' x' y':Value}(hv:VL ρ vs [m',x',y']){v:TV}(ha:zjb kf h vs=some (.ok v h')) :
  v=.tuple []/\zg9 P Z ρ h h' w (do Instr.mapUpdate t m' x' y';pure .skip) v:=by
 have hkt:=zoj hd hkf;unfold zjb at ha
 split at ha
 ·rename_i b x y;obtain⟨h0,ha⟩:=zM ha;have hkv:=zl5 hkf h0;obtain⟨hm,hx,hy⟩:=hv.three rfl;have hck:∀b,(Instr.checkKey b 10000 key x').run P w=.ok () w:=fun b=>zhV hkt b 9999 x' w
  split at ha
  ·rename_i o ho;unfold zt4 at ha
   split at ha
   ·rename_i es ck
    cases hm with
    | map hρ =>
     rename_i loc;obtain⟨es',he,her⟩:=zks k hρ ho
     split at ha
     ·cases ha
     ·rename_i hf;injection ha with ha;injection ha with ha1 ha2;subst ha1;subst ha2;obtain⟨r',hr',hc⟩:=zfC hd hkt hx hkv her hf;rcases hc with⟨_,rfl⟩|⟨j',a,b,c1,_⟩
      ·obtain⟨hw,hb⟩:=k.setMap hρ ⟨_,_,he⟩ (es:=es++[⟨x,y,ck⟩]) (ck:=ck+1) (es':=es'.push { key:=x',val:=y',born:=ck }) (by simpa using her.push hx hy rfl) ho (fun cs h=>by cases h);exact⟨rfl,.skip (by simp[Instr.mapUpdate,run_underlying hu,zdO he,hck,Instr.findKey,run_underlying hd,hr',zfT he]) (Rho.le.refl _ _) hw hb (zAJ9 _)⟩
      ·cases c1
     ·rename_i j e0 hf;injection ha with ha;injection ha with ha1 ha2;subst ha1;subst ha2;obtain⟨r',hr',hc⟩:=zfC hd hkt hx hkv her hf;rcases hc with⟨hc,_⟩|⟨j',a,b,c1,c2,c3,c4,c5⟩
      ·cases hc
      ·injection c1 with c1;injection c1 with c1 c1';subst c1';simp at c1;subst c1;simp at c2;subst c2;have hxe:=zBi c5;obtain⟨hek,_,_⟩:=her.2 j e0 b c3 c4;rw[<- hxe]at hek;have c4':es'[j]?=some b:=by simpa using c4
       have hks:=zko (P:=P) hek hx (d:=d) h0 w;obtain⟨hw,hb⟩:=k.setMap hρ ⟨_,_,he⟩ (es:=setE j x y es) (ck:=ck) (es':=es'.modify j fun e=>{ e with key:=x',val:=y' }) (her.setE fun e e' _ _=>⟨hx,hy,rfl⟩) ho (fun cs h=>by cases h);exact⟨rfl,.skip (by simp[Instr.mapUpdate,run_underlying hu,zdO he,hck,Instr.findKey,run_underlying hd,hr',zfT he,c4',hks]) (Rho.le.refl _ _) hw hb (zAJ9 _)⟩
   ·cases ha
  ·cases ha
 ·cases ha
theorem zqy (k:WR P Z ρ h w){t key e:TypeId}{kf:Nat}{d:TypeDesc}(hu:P.underlying t=some (.map key e))(hd:P.underlying key=some d)(hkf:kfT kf d){z:TV}(hz:zdu P e=some z){vs:List TV}{m' x':Value}(hv:VL ρ vs [m',x']){v:TV}(ha:zqk kf z h vs=some (.ok v h')) :
  zg9 P Z ρ h h' w (do pure (.value (<- Instr.mapEntry t m' x'))) v:=by
 have hkt:=zoj hd hkf;obtain⟨zv,hzv,hzr⟩:=zfP (ρ:=ρ) hz w;unfold zqk at ha
 split at ha
 ·rename_i b x;obtain⟨h0,ha⟩:=zM ha;have hkv:=zl5 hkf h0;obtain⟨hm,hx⟩:=hv.two rfl;have hck:∀b,(Instr.checkKey b 10000 key x').run P w=.ok () w:=fun b=>zhV hkt b 9999 x' w
  split at ha
  ·rename_i o ho;unfold zuE at ha
   split at ha
   ·rename_i es ck
    cases hm with
    | map hρ =>
     rename_i loc;obtain⟨es',he,her⟩:=zks k hρ ho
     split at ha
     ·cases ha
     ·rename_i hf;injection ha with ha;injection ha with ha1 ha2;subst ha1;subst ha2;obtain⟨r',hr',hc⟩:=zfC hd hkt hx hkv her hf;rcases hc with⟨_,rfl⟩|⟨j',a,b,c1,_⟩
      ·obtain⟨hw,hb⟩:=k.setMap hρ ⟨_,_,he⟩ (es:=es++[⟨x,z,ck⟩]) (ck:=ck+1) (es':=es'.push { key:=x',val:=zv,born:=ck }) (by simpa using her.push hx hzr rfl) ho (fun cs h=>by cases h);exact .val (v':=.tuple #[zv,.int .i64 (ck:Nat)]) (by simp[Instr.mapEntry,run_underlying hu,zdO he,hck,Instr.findKey,run_underlying hd,hr',zfT he,hzv,goInt]) (Rho.le.refl _ _) hw hb (VR.tupL (.cons hzr (VL.one (.int _ _)))) (zAJ9 _)
      ·cases c1
     ·rename_i j e0 hf;injection ha with ha;injection ha with ha1 ha2;subst ha1;subst ha2;obtain⟨r',hr',hc⟩:=zfC hd hkt hx hkv her hf;rcases hc with⟨hc,_⟩|⟨j',a,b,c1,c2,c3,c4,c5⟩
      ·cases hc
      ·injection c1 with c1;injection c1 with c1 c1';subst c1';simp at c1;subst c1;simp at c2;subst c2;have hxe:=zBi c5;obtain⟨hek,hev,hen⟩:=her.2 j e0 b c3 c4;rw[<- hxe]at hek;have c4':es'[j]?=some b:=by simpa using c4
       have hks:=zko (P:=P) hek hx (d:=d) h0 w;have hsame:EsR ρ es (es'.modify j fun e=>{ e with key:=x' }).toList:=by
        refine⟨by simpa using her.1,fun i p q hp hq=>?_⟩;rw[zBZ9,zGB9]at hq
        split at hq
        ·rename_i hji;subst hji;rw[c4']at hq;simp at hq;subst hq;rw[c3]at hp;injection hp with hp;subst hp;exact⟨by rw[<- hxe];exact hx,hev,hen⟩
        ·exact her.2 i p q hp (by simpa using hq)
       obtain⟨hw,hb⟩:=k.setMap hρ ⟨_,_,he⟩ (es:=es) (ck:=ck) (es':=es'.modify j fun e=>{ e with key:=x' }) hsame ho (fun cs h=>by cases h);have hh:WR P Z ρ h (w.putObj loc.r (.map (es'.modify j fun e=>{ e with key:=x' }) ck)):=by
        refine⟨fun c g l hl=>?_,fun c g l hl=>?_,hw.sep⟩
        ·obtain⟨a1,a2,a3⟩:=hw.dom c g l hl;refine⟨a1,a2.imp id fun⟨cs,h1⟩=>?_,a3⟩;rw[TH.get_set _ _ _ _ (TH.get_lt ho)]at h1
         split at h1
         ·cases h1
         ·exact⟨cs,h1⟩
        obtain⟨o',ho',hor⟩:=hw.obj c g l hl;rw[TH.get_set _ _ _ _ (TH.get_lt ho)]at ho'
        split at ho'
        ·rename_i hcb;subst hcb;injection ho' with ho';subst ho';exact⟨_,ho,hor⟩
        ·exact⟨o',ho',hor⟩
       refine .val (v':=.tuple #[b.val,.int .i64 (e0.n:Nat)]) ?_ (Rho.le.refl _ _) hh hb (VR.tupL (.cons hev (VL.one (.int _ _)))) (zAJ9 _);simp[Instr.mapEntry,run_underlying hu,zdO he,hck,Instr.findKey,run_underlying hd,hr',zfT he,c4',hks,goInt,hen]
   ·cases ha
  ·cases ha
 ·cases ha
theorem zpL {n:Nat}{v:TV}{v':Value}(hv:VR ρ v v'):∀{es:List zcy} {es':List MapEntry} {r:List zcy},EsR ρ es es'->zmR n v es=some r->∃i,es'.findIdx? (fun e=>(e.born:Int)==(n:Int))=some i/\EsR ρ r (es'.modify i fun e=>{ e with val:=v' })
 | [],_,_,_,hs=>by cases hs
 | e::es,es',r,he,hs=>by
  obtain⟨e',rr,rfl,h1,h2,h3,h4⟩:=he.of_cons;simp only[zmR]at hs
  cases hb:Nat.beq e.n n<;>rw[hb]at hs
  ·simp only[cond_false]at hs
   split at hs
   ·cases hs
   ·rename_i l hl;injection hs with hs;subst hs;obtain⟨i,hi,her⟩:=zpL hv h4 hl;have hne:¬((e'.born:Int)==(n:Int))=true:=by
     rw[h3];intro hh;have:=beq_iff_eq.1 hh;have:e.n=n:=by omega
     rw[this]at hb;simp at hb
    refine⟨i+1,by rw[zFM9];simp only[hne,if_false,zCH9];rw[hi];rfl,?_⟩;refine⟨by have:=her.1;simpa using this,fun j p q hp hq=>?_⟩
    cases j with
    | zero=>simp at hp hq;subst hp;subst hq;exact⟨h1,h2,h3⟩
    | succ j=>simp at hp hq;exact her.2 j p q hp (by simpa using hq)
  ·simp only[cond_true]at hs;injection hs with hs;subst hs;have hen:=zAN9 hb;refine⟨0,by rw[zFM9];simp[h3,hen],?_⟩;refine⟨by have:=h4.1;simpa using this,fun j p q hp hq=>?_⟩
   cases j with
   | zero=>simp at hp hq;subst hp;subst hq;exact⟨h1,hv,h3⟩
   | succ j=>simp at hp hq;exact h4.2 j p q hp hq
theorem zub (k:WR P Z ρ h w){t:TypeId}{vs:List TV}{m' s' y':Value}(hv:VL ρ vs [m',s',y']){v:TV}(ha:zk7 h vs=some (.ok v h')):v=.tuple []/\zg9 P Z ρ h h' w (do Instr.entryStore t m' s' y';pure .skip) v:=by
 unfold zk7 at ha
 split at ha
 ·rename_i b s y;obtain⟨hm,hs,hy⟩:=hv.three rfl
  split at ha
  ·rename_i n hn;obtain⟨kk,_,rfl⟩:=zfL hn hs
   split at ha
   ·rename_i o ho;unfold zxW at ha
    split at ha
    ·rename_i es ck
     split at ha
     ·cases ha
     ·rename_i es2 hst;injection ha with ha;injection ha with ha1 ha2;subst ha1;subst ha2
      cases hm with
      | map hρ =>
       rename_i loc;obtain⟨es',he,her⟩:=zks k hρ ho;obtain⟨i,hi,hr⟩:=zpL hy her hst;obtain⟨hw,hb⟩:=k.setMap hρ ⟨_,_,he⟩ (es:=es2) (ck:=ck) (es':=es'.modify i fun e=>{ e with val:=y' }) (by rw[Array.toList_modify];exact hr) ho (fun cs h=>by cases h);have hi':es'.findIdx? (fun e=>(e.born:Int)==(n:Int))=some i:=by obtain⟨l⟩:=es';rw[List.findIdx?_toArray];exact hi
       exact⟨rfl,.skip (by simp[Instr.entryStore,zdO he,asInt,asIntOf,hi',zfT he]) (Rho.le.refl _ _) hw hb (zAJ9 _)⟩
    ·cases ha
   ·cases ha
  ·cases ha
 ·cases ha
theorem ziu (k:WR P Z ρ h w){esz n:Nat}{x:TV}{x':Value}(hx:VR ρ x x'){l:List TV}(hl:zeT h esz x n=some l)(hn:n<=lenV x) :
  ∃A m c cs,x'=.slice A m c/\m=lenV x/\VL ρ l cs/\cs.length=n*esz/\(∀y∈l,y.one=true)/\(n≠0->∃a,A=some a/\∀(j:Nat) v,cs[j]?=some v->w.cell? (a.add j)=some v):=by
 unfold zeT at hl
 split at hl
 ·injection hl with hl;subst hl
  cases hx
  have:n=0:=by simp[lenV]at hn;exact hn
  subst this;exact⟨none,0,0,[],rfl,rfl,VL.nil ρ,by simp,fun y hy=>(by cases hy),fun h=>absurd rfl h⟩
 ·rename_i b g o n0 q z;obtain⟨hz,hl⟩:=zM hl;obtain rfl:=zAN9 hz
  cases hx with
  | sl hρ h1 h2 h3 h4 h5 h6 =>
   rename_i o' c loc;have hn':n<=n0:=hn;have:n*esz<=q/2*esz:=zCF9 esz (by omega);obtain⟨cs,c1,c2,c3,c4⟩:=znz k hl hρ (by omega);refine⟨_,n0,c,cs,rfl,rfl,c1,c2,c4,fun hne=>⟨_,rfl,fun j v hj=>?_⟩⟩;have ho:o'=o:=by rcases h4 with h|⟨h,_⟩;exact h;omega
   rw[zd0,ho];exact c3 j v hj
 ·cases hl
theorem zkP {t ty e:TypeId}(ht:P.underlying t=some (.slice e)){z:Nat}(hz:zb0 P e=some z){base A:Option Addr}{n c m c2:Nat}(hn:n<=c)(hm:m=0):(Builtin.append_ #[t,t] ty #[.slice base n c,.slice A m c2]).run P w=.ok (.slice base n c) w:=by
 subst hm;obtain⟨_,i,hi,rfl⟩:=zej hz
 cases A<;>cases base<;>simp[Builtin.append_,run_underlying ht,sizeOf,typeInfo,hi,Builtin.lenOf,Builtin.firstCells,hn,loadCells,loadCellsFrom,storeCells]
theorem zzk (k:WR P Z ρ h w)(hZ:Z<=w.heap.size){t e ty:TypeId}{esz by_:Nat}(ht:P.underlying t=some (.slice e))(hs:zb0 P e=some esz)(hby:zi6 P e=some by_){zt:TV}(hzt:zdu P e=some zt)(hzl:zt.cells.length=esz){vs:List TV}{s' x':Value}(hv:VL ρ vs [s',x']){v:TV}
  (ha:zfM e esz by_ h vs=some (.ok v h')):∃v' w' ρ',(Builtin.append_ #[t,t] ty #[s',x']).run P w=.ok v' w'/\Rho.le h.next ρ ρ'/\WR P Z ρ' h' w'/\Below Z w w'/\VR ρ' v v'/\h.next<=h'.next:=by
 obtain⟨hn0,i,hi,hisz⟩:=zej hs;obtain⟨i2,hi2,hib⟩:=zo2 hby;rw[hi]at hi2;injection hi2 with hi2;subst hi2;obtain⟨i3,zv,hi3,hzv,hzr⟩:=zlT hzt;rw[hi]at hi3;injection hi3 with hi3;subst hi3;have hzr:=hzr ρ;have hzvs:zv.cells.size=esz:=by
  obtain⟨hc,_⟩:=hzr.cells (.inl (by intro e;rw[e]at hzl;simp at hzl;omega));have:=hc.1;rw[hzl]at this;simpa using this.symm
 unfold zfM at ha
 split at ha
 ·rename_i s x;obtain⟨hsr,hxr⟩:=hv.two rfl;unfold ztY at ha
  split at ha
  ·cases ha
  ·rename_i news hnews;obtain⟨A,m,c,cs,rfl,hm,hcs,hcl,hone,hmem⟩:=ziu k hxr hnews (zAJ9 _);have hcl':cs.length=m*i.size:=by rw[hcl,hm,hisz]
   have hnl:news.length=m*esz:=by rw[hcs.1,hcl,hm]
   have hone':∀u∈cs,u.oneCell'=true:=fun u hu=>by
    obtain⟨j,hj,rfl⟩:=zBO9.1 hu;have hj':j<news.length:=by rw[hcs.1];exact hj
    exact(hcs.2 j news[j] cs[j] (zAB9 hj') (zAB9 hj)).oneCell (hone _ (zBN9 hj'))
   rw[<- hm]at ha
   cases s<;>simp only at ha<;>first|(cases ha;done)|skip
   case nilsl =>
    cases hsr
    cases hm0:Nat.beq m 0<;>rw[hm0]at ha
    ·-- a new block
     have hmne:m≠0:=fun e=>by subst e;simp at hm0
     simp only[cond_false]at ha;unfold zkM at ha;obtain⟨hfit,ha⟩:=zM ha;injection ha with ha;injection ha with ha1 ha2;subst ha1;subst ha2;have hfit:=zBC9 hfit;rw[Nat.mul_add]at hfit;obtain⟨a,hA,hmem2⟩:=hmem (by omega);subst hA;have hr:=run_append_nil (P:=P) w t ty e i zv ht hi hzv a m c cs hcl' hmem2 (by omega) (by omega) (by rw[hib];omega);have hcap:=grownCap_ge w m 0 e;have hcap2:=grownCap_le_maxLen w m 0 e (by simp only[maxLen];omega);have hnone:∀g,ρ h.next g=none:=fun g=>by
      cases hg:ρ h.next g with
      | none=>rfl
      | some loc=>have:=(k.dom _ _ _ hg).1;omega
     have hbsz:(cs.toArray++Builtin.zeroCells zv.cells (grownCap w m 0 e-m)).size=grownCap w m 0 e*esz:=by
      simp only[zFS9,zEE9,size_zeroCells,hzvs,hcl',hisz,<- zCX9]
      congr 1;omega
     have hwr:=zhB (k.drew.push (zcq e news)) (b:=h.next) hnone (by rw[TH.next_push];omega) (by exact hZ) (by rw[TH.get_push,if_pos rfl]) (cs:=cs.toArray++Builtin.zeroCells zv.cells (grownCap w m 0 e-m)) (by rw[hbsz,hnl];exact zCF9 _ hcap) (fun j x y hx hy=>by
      have hj:j<cs.length:=by rw[<- hcs.1];exact(zAC9.1 hx).1
      rw[zFH9 (by simpa using hj)]at hy;exact hcs.2 j x y hx (by simpa using hy)) hone
     refine⟨_,_,_,hr,⟨Rho.add_more (hnone 0),fun c hc hn g=>by rw[Rho.add_ne (by omega)];exact hn g⟩,hwr,?_,?_,by rw[TH.next_push];omega⟩
     ·exact⟨rfl,rfl,rfl,by simp,fun j hj=>Below.heap_alloc w.drew _ j (by show j<w.heap.size;omega)⟩
     ·refine .sl (Rho.add_same _ _ _ _) (by omega) (by omega) ?_ (.inl rfl) (fun _=>?_) hcap2
      ·show 0+2*m/2*esz<=news.length;have:2*m/2=m:=by omega
       rw[this,hnl];omega
      ·exact(zAR9 _).trans hbsz.symm
    ·have hm0':=zAN9 hm0;simp only[cond_true]at ha;injection ha with ha;injection ha with ha1 ha2;subst ha1;subst ha2;exact⟨_,_,ρ,zkP ht hs (zAJ9 _) hm0',Rho.le.refl _ _,k,Below.refl _ _,.nilsl,zAJ9 _⟩
   case sl b g o n q z =>
    cases hm0:Nat.beq m 0<;>rw[hm0]at ha
    ·have hmne:m≠0:=fun e=>by subst e;simp at hm0
     simp only[cond_false]at ha;obtain⟨hoz,hb1⟩:=zM ha;clear ha;obtain⟨hq2,hb2⟩:=zM hb1;clear hb1;obtain⟨hzz,ha⟩:=zM hb2;clear hb2;have hoz':=zAN9 hoz;have hq2':=zAN9 hq2;have hzz':=zAN9 hzz;clear hoz hq2 hzz;have hq2:=hq2';clear hq2';subst hoz';subst hzz'
     split at ha
     ·rename_i r hr0;unfold zmD at ha
      split at ha
      ·rename_i e' G M len cells;obtain⟨he,hb1⟩:=zM ha;clear ha;obtain⟨hg,hb2⟩:=zM hb1;clear hb1;obtain⟨hlen,hb3⟩:=zM hb2;clear hb2;obtain⟨hfit,ha⟩:=zM hb3;clear hb3;injection ha with ha;injection ha with ha1 ha2;subst ha1;subst ha2;have he':=zAN9 he;have hg':=zAN9 hg;have hlen':=zAN9 hlen;have hfit':=zBC9 hfit;rw[Nat.mul_add]at hfit';clear he hg hlen hfit;have hlen:=hlen';have hfit:=hfit';clear hlen' hfit';subst he';subst hg';obtain⟨a,hA,hmem2⟩:=hmem (by omega);subst hA
       cases hsr with
       | sl hρ s1 s2 s3 s4 s5 s6 =>
        rename_i o' cc loc;have ho':o'=0:=by rcases s4 with h|⟨_,_,h⟩;exact h;exact absurd rfl h
        subst ho';obtain⟨y,hy,hr⟩:=k.obj b g loc hρ;rw[hr0]at hy;injection hy with hy;subst hy;obtain⟨hMG,hg0,hrow⟩:=hr;obtain⟨loc',cur,hρ',hheap,r1,r2,r3,r4,r5⟩:=hrow g hMG (zAJ9 _);rw[hρ]at hρ';injection hρ' with hρ';subst hρ';have hS:=s5 hq2;have hcur:cur.size=cc*esz:=by rw[r1 rfl,<- hS];omega
        have hL:loc.L=len:=r4 rfl;have hnone:ρ b (g+1)=none:=by
         cases hq:ρ b (g+1)with
         | none=>rfl
         | some l=>have:=hg0 _ _ hq;omega
        have hZo:∀g' loc',ρ b g'=some loc'->Z<=loc'.r:=fun g' loc' hl'=>k.own hl' hr0 (fun cs h=>by cases h);have hZr:=hZo g loc hρ;have hrlt:=(k.dom b g loc hρ).2.2
        by_cases hroom:n+m<=cc
        ·-- in place
         have hfits:n*i.size+cs.length<=cur.size:=by rw[hcl',hcur,hisz,<- zCX9];exact zCF9 _ hroom
         have hrun:=run_append_room (P:=P) w t ty e i ht hi loc.r n cc cur hheap a m c cs hcl' hmem2 hone' hroom hfits;have hnew:=setRow_heap w loc.r cur (cur.toList.take (n*i.size)++cs++cur.toList.drop (n*i.size+cs.length)).toArray e (0,0) hheap;have hnsz:((cur.toList.take (n*i.size)++cs++cur.toList.drop (n*i.size+cs.length)).toArray).size=cur.size:=by simp;omega
         have hget:∀j,((cur.toList.take (n*i.size)++cs++cur.toList.drop (n*i.size+cs.length)).toArray)[j]?=if n*i.size<=j/\j<n*i.size+cs.length then cs[j-n*i.size]? else cur[j]?:=fun j=>by
          rw[zGA9,zi1 _ _ _ _ (by simpa using hfits),zBZ9 (xs:=cur)]
         have hm:=Rho.add_more (loc:=⟨loc.r,len+news.length,loc.S⟩) hnone;refine⟨_,_,ρ.add b (g+1) ⟨loc.r,len+news.length,loc.S⟩,hrun,⟨hm,fun c' hc' hn' g'=>?_⟩,?_,zpH hZr _,?_,zAJ9 _⟩
         ·have:c'≠b:=fun e=>by subst e;rw[hn']at hρ;cases hρ
          rw[Rho.add_ne this];exact hn' g'
         ·refine k.change hm (fun c' hc' g'=>Rho.add_ne hc' g') hρ (by simp) (fun c' g' loc' hc' hl'=>setRow_other w loc.r loc'.r _ (fun e=>hc' (k.sep c' b g' g loc' loc hl' hρ e (by omega)))) ⟨by omega,fun g' l hl=>?_,fun g' h1' h2'=>?_⟩ (fun g' l hl=>?_) (fun g' l hl c' g'' loc'' hc' hl'' e=>?_)
          ·rcases Rho.add_inv hl with⟨_,rfl,_⟩|hl
           ·exact zAJ9 _
           ·have:=hg0 _ _ hl;omega
          ·by_cases hgg:g'=g+1
           ·subst hgg;refine⟨_,_,Rho.add_same _ _ _ _,hnew,fun _=>by rw[hnsz];exact r1 rfl,zAJ9 _,by dsimp only;rw[hnsz,hnl];rw[hcl',hisz]at hfits;omega,fun _=>rfl,fun j hj=>?_⟩;dsimp only at hj;rw[hget,Tr.get_putL];have e1:len=n*i.size:=by rw[hisz,hlen]
            by_cases hjn:len<=j/\j<len+news.length
            ·rw[if_pos hjn,if_pos (by rw[<- e1,<- hcs.1];exact hjn)];have hi1:j-len<news.length:=by omega
             have hi2:j-n*i.size<cs.length:=by rw[<- e1,<- hcs.1];exact hi1
             rw[<- e1]at hi2⊢;exact⟨_,_,zAB9 hi1,zAB9 hi2,hone _ (zBN9 hi1),(hcs.2 (j-len) _ _ (zAB9 hi1) (zAB9 hi2)).mono hm⟩
            ·rw[if_neg hjn,if_neg (by rw[<- e1,<- hcs.1];exact hjn)];obtain⟨x,u,q1,q2,q3,q4⟩:=r5 j (by omega);exact⟨x,u,q1,q2,q3,q4.mono hm⟩
           ·obtain⟨l,cu,p1,p2,p3,p4,p5,p6,p7⟩:=hrow g' h1' (by omega)
            by_cases hlr:l.r=loc.r
            ·rw[hlr]at p2;rw[hheap]at p2;injection p2 with p2;injection p2 with p2;subst p2;refine⟨l,_,hm _ _ _ p1,by rw[hlr];exact hnew,fun h=>absurd h hgg,by omega,by rw[hnsz];exact p5,fun h=>absurd h hgg,fun j hj=>?_⟩;obtain⟨x,u,q1,q2,q3,q4⟩:=p7 j hj;have e1:len=n*i.size:=by rw[hisz,hlen]
             exact⟨x,u,by rw[Tr.get_putL,if_neg (by omega)];exact q1,by rw[hget,if_neg (by omega)];exact q2,q3,q4.mono hm⟩
            ·refine⟨l,cu,hm _ _ _ p1,by rw[setRow_other w loc.r l.r _ hlr];exact p2,fun h=>absurd h hgg,by omega,p5,fun h=>absurd h hgg,fun j hj=>?_⟩;obtain⟨x,u,q1,q2,q3,q4⟩:=p7 j hj;exact⟨x,u,by rw[Tr.get_putL,if_neg (by omega)];exact q1,q2,q3,q4.mono hm⟩
          ·rcases Rho.add_inv hl with⟨_,_,rfl⟩|hl
           ·exact⟨hZr,by simpa using hrlt⟩
           ·exact⟨hZo _ _ hl,by have:=(k.dom _ _ _ hl).2.2;simpa using this⟩
          ·rcases Rho.add_inv hl with⟨_,_,rfl⟩|hl
           ·exact hc' (k.sep _ _ _ _ _ _ hl'' hρ e.symm (by dsimp only at e;omega))
           ·exact hc' (k.sep _ _ _ _ _ _ hl'' hl e.symm (by have:=hZo _ _ hl;omega))
         ·refine .sl (loc:=⟨loc.r,len+news.length,loc.S⟩) (Rho.add_same _ _ _ _) (by omega) (by omega) ?_ (.inl rfl) (fun _=>?_) s6
          ·show 0+2*(n+m)/2*esz<=len+news.length;have:2*(n+m)/2=n+m:=by omega
           rw[this,zAR9,zCX9,hnl,hlen];exact zAJ9 _
          ·exact hS
        ·-- moved
         have hxl:(cur.toList.take (n*esz)).length=n*i.size:=by
          have:n*esz<=cur.size:=by rw[hcur];exact zCF9 _ (by omega)
          simp[hisz];omega
         have hrun:=run_append_grow (P:=P) w t ty e i zv ht hi hzv ⟨loc.r,0,none⟩ n cc (cur.toList.take (n*esz)) hxl (fun j u hj=>by
          rw[zd0,zAR9];have hjn:j<n*esz:=by have:=(zAC9.1 hj).1;simp at this;omega
          rw[zBH9,if_pos hjn,zBZ9]at hj;simp[World.cell?,hheap,hj]) a m c cs hcl' hmem2 (by omega) (by omega) (growslice_fits (by omega) (by rw[hib];omega))
         have hcap:=grownCap_ge w (n+m) cc e;have hcap2:=grownCap_le_maxLen w (n+m) cc e (by simp only[maxLen];omega);obtain⟨bl,hbl⟩:∃bl,bl=(cur.toList.take (n*esz)).toArray++cs.toArray++Builtin.zeroCells zv.cells (grownCap w (n+m) cc e-(n+m)):=⟨_,rfl⟩
         rw[<- hbl]at hrun;have hbsz:bl.size=grownCap w (n+m) cc e*esz:=by
          rw[hbl];simp only[zFS9,zEE9,size_zeroCells,hzvs,hcl',hxl,hisz,<- zCX9]
          congr 1;omega
         have hget:∀j,j<len+news.length->bl[j]?=if j<len then cur[j]? else cs[j-len]?:=fun j hj=>by
          rw[hbl,zFH9 (by simp only[zFS9,zEE9,hxl,hcl',hisz];rw[hlen,<- hnl];exact hj)];rw[List.append_toArray,zGA9,zDZ9,hxl,hisz,hlen]
          by_cases hjl:j<len
          ·rw[if_pos hjl,if_pos hjl,zBH9,if_pos hjl,zBZ9]
          ·rw[if_neg hjl,if_neg hjl]
         have hm:=Rho.add_more (loc:=⟨w.heap.size,len+news.length,bl.size⟩) hnone;have hnew:(w.drew.alloc (.cells bl e)).heap[w.heap.size]?=some (.cells bl e):=World.alloc_heap_new w.drew _;have hold:∀r,r<w.heap.size->(w.drew.alloc (.cells bl e)).heap[r]?=w.heap[r]?:=fun r hr=>Below.heap_alloc w.drew _ r hr;refine⟨_,_,ρ.add b (g+1) ⟨w.heap.size,len+news.length,bl.size⟩,hrun,⟨hm,fun c' hc' hn' g'=>?_⟩,?_,?_,?_,zAJ9 _⟩
         ·have:c'≠b:=fun e=>by subst e;rw[hn']at hρ;cases hρ
          rw[Rho.add_ne this];exact hn' g'
         ·refine k.change hm (fun c' hc' g'=>Rho.add_ne hc' g') hρ (by simp) (fun c' g' loc' hc' hl'=>hold _ (k.dom _ _ _ hl').2.2) ⟨by omega,fun g' l hl=>?_,fun g' h1' h2'=>?_⟩ (fun g' l hl=>?_) (fun g' l hl c' g'' loc'' hc' hl'' e=>?_)
          ·rcases Rho.add_inv hl with⟨_,rfl,_⟩|hl
           ·exact zAJ9 _
           ·have:=hg0 _ _ hl;omega
          ·by_cases hgg:g'=g+1
           ·subst hgg;have hle:len+news.length<=bl.size:=by
             rw[hbsz,hnl,<- hlen,<- zCX9];exact zCF9 _ hcap
            refine⟨_,_,Rho.add_same _ _ _ _,hnew,fun _=>rfl,zAJ9 _,hle,fun _=>rfl,fun j hj=>?_⟩;dsimp only at hj;rw[hget j hj,Tr.get_putL]
            by_cases hjn:len<=j/\j<len+news.length
            ·rw[if_pos hjn,if_neg (by omega)];have hi1:j-len<news.length:=by omega
             have hi2:j-len<cs.length:=by rw[<- hcs.1];exact hi1
             exact⟨_,_,zAB9 hi1,zAB9 hi2,hone _ (zBN9 hi1),(hcs.2 (j-len) _ _ (zAB9 hi1) (zAB9 hi2)).mono hm⟩
            ·rw[if_neg hjn,if_pos (by omega)];obtain⟨x,u,q1,q2,q3,q4⟩:=r5 j (by omega);exact⟨x,u,q1,q2,q3,q4.mono hm⟩
           ·obtain⟨l,cu,p1,p2,p3,p4,p5,p6,p7⟩:=hrow g' h1' (by omega);refine⟨l,cu,hm _ _ _ p1,by rw[hold _ (k.dom _ _ _ p1).2.2];exact p2,fun h=>absurd h hgg,by omega,p5,fun h=>absurd h hgg,fun j hj=>?_⟩;obtain⟨x,u,q1,q2,q3,q4⟩:=p7 j hj;exact⟨x,u,by rw[Tr.get_putL,if_neg (by omega)];exact q1,q2,q3,q4.mono hm⟩
          ·rcases Rho.add_inv hl with⟨_,_,rfl⟩|hl
           ·exact⟨hZ,by simp⟩
           ·exact⟨hZo _ _ hl,by have:=(k.dom _ _ _ hl).2.2;simp;omega⟩
          ·rcases Rho.add_inv hl with⟨_,_,rfl⟩|hl
           ·have:=(k.dom _ _ _ hl'').2.2;dsimp only at e;omega
           ·exact hc' (k.sep _ _ _ _ _ _ hl'' hl e.symm (by have:=hZo _ _ hl;omega))
         ·exact⟨rfl,rfl,rfl,by simp,fun j hj=>hold j (by omega)⟩
         ·refine .sl (Rho.add_same _ _ _ _) (by omega) (by omega) ?_ (.inl rfl) (fun _=>?_) hcap2
          ·show 0+2*(n+m)/2*esz<=len+news.length;have:2*(n+m)/2=n+m:=by omega
           rw[this,zAR9,zCX9,hnl,hlen];exact zAJ9 _
          ·exact(zAR9 _).trans hbsz.symm
      ·cases ha
     ·cases ha
    ·have hm0':=zAN9 hm0;simp only[cond_true]at ha;injection ha with ha;injection ha with ha1 ha2;subst ha1;subst ha2
     cases hsr with
     | sl hρ s1 s2 s3 s4 s5 s6=>exact⟨_,_,ρ,zkP ht hs (by omega) hm0',Rho.le.refl _ _,k,Below.refl _ _,.sl hρ s1 s2 s3 s4 s5 s6,zAJ9 _⟩
 ·cases ha
theorem zw3 (k:WR P Z ρ h w){dT sT e ty:TypeId}{esz:Nat}(ht:P.underlying dT=some (.slice e))(hs:zb0 P e=some esz){vs:List TV}{d' x':Value}(hv:VL ρ vs [d',x']){v:TV}
  (ha:zf4 esz h vs=some (.ok v h')):∃v' w',(Builtin.copy_ #[dT,sT] ty #[d',x']).run P w=.ok v' w'/\WR P Z ρ h' w'/\Below Z w w'/\VR ρ v v'/\h.next<=h'.next:=by
 unfold zf4 at ha
 split at ha
 ·rename_i d x;obtain⟨hdr,hxr⟩:=hv.two rfl;dsimp only at ha
  split at ha
  ·cases ha
  ·rename_i news hnews;obtain⟨A,m,c,cs,hx',hm,hcs,hcl,hone,hmem⟩:=ziu k hxr hnews (Nat.min_le_left _ _);subst hx'
   split at ha
   ·injection ha with ha;injection ha with ha1 ha2;subst ha1;subst ha2
    cases hdr
    refine⟨goInt 0,w,?_,k,Below.refl _ _,.int _ _,zAJ9 _⟩
    cases A<;>simp[Builtin.copy_,run_underlying ht,Builtin.lenOf,Builtin.firstCells,zbP hs,loadCells,loadCellsFrom]
   ·rename_i b g o n q z
    cases hdr with
    | sl hρ s1 s2 s3 s4 s5 s6 =>
     rename_i o' cc loc;have hmin:Nat.min m n=min (lenV x) (lenV (.sl b g o n q z)):=by rw[hm];rfl
     cases hm0:Nat.beq (min (lenV x) (lenV (.sl b g o n q z))) 0<;>rw[hm0]at ha
     ·simp only[cond_false]at ha;have hne:min (lenV x) (lenV (.sl b g o n q z))≠0:=fun e=>by rw[e]at hm0;simp at hm0
      obtain⟨hz,ha2⟩:=zM ha;have hz':=zAN9 hz;clear ha hz;subst hz'
      split at ha2
      ·rename_i h2 hw;injection ha2 with ha2;injection ha2 with ha1 ha3;subst ha1;subst ha3;obtain⟨a,hA,hmem2⟩:=hmem hne;subst hA;have ho:o'=o:=by
        rcases s4 with hh|⟨hh,_⟩
        ·exact hh
        ·subst hh;simp[lenV]at hne
       subst ho;obtain⟨w',hst,hw',hb,hnx⟩:=zju k hρ hcs hone hw;have hl:=run_loadCells_list (P:=P) w a cs hmem2;refine⟨.int .i64 (Int.ofNat (min (lenV x) (lenV (.sl b g o' n q esz)))),w',?_,hw',hb,.int _ _,by rw[hnx];exact zAJ9 _⟩;rw[hcl,<- hmin]at hl;rw[<- hmin];simp[Builtin.copy_,run_underlying ht,Builtin.lenOf,Builtin.firstCells,zbP hs,hl,hst,goInt]
      ·cases ha2
     ·simp only[cond_true]at ha;injection ha with ha;injection ha with ha1 ha2;subst ha1;subst ha2;have he:=zAN9 hm0;rw[<- hmin]at he;refine⟨goInt 0,w,?_,k,Below.refl _ _,.int _ _,zAJ9 _⟩;have hz0:∀a:Addr,(storeCells a [] 0).run P w=.ok () w:=fun a=>by simp[storeCells]
      cases A<;>simp[Builtin.copy_,run_underlying ht,Builtin.lenOf,Builtin.firstCells,zbP hs,he,loadCells,loadCellsFrom,hz0]
   ·cases ha
 ·cases ha
theorem znb (k:WR P Z ρ h w)(hZ:Z<=w.heap.size){o:Oper}{kd:zX}{args:List TOp}(ho:opK P o.op=some (kd,args))(hc:kd.cls=2)(hn:kd ≠ .call/\kd ≠ .panic/\kd ≠ .defer){a:Act}{tm:Tr TV}(ht:TmR ρ tm a.tmps){vs:List TV}(hv:zdP tm args=some vs){C:zbA}{ca:Tr Unit}{v:TV}(hp:act C ca kd vs h=some (.ok v h')) :
  zg9 P Z ρ h h' w (execOp a.eval o) v:=by
 have key:∀{k0:zX} {xs:List Operand},mk k0 xs=some (kd,args)->kd=k0/\VL ρ vs (xs.map a.eval):=fun hm=>by
  obtain⟨h1,h2⟩:=zjN hm;exact⟨h1,zeL ht h2 hv⟩
 obtain⟨dst,op,ty,pos,after,guard⟩:=o
 cases op with
 | move x=>obtain⟨rfl,_⟩:=key ho;cases hc
 | assign x=>obtain⟨rfl,_⟩:=key ho;cases hc
 | pick c x y=>obtain⟨rfl,_⟩:=key ho;cases hc
 | alloc e=>simp only[opK]at ho;split at ho<;>first|(cases ho;done)|skip;split at ho<;>first|(cases ho;done)|skip;obtain⟨rfl,_⟩:=key ho;cases hc
 | box e x=>simp only[opK]at ho;split at ho<;>first|(cases ho;done)|skip;obtain⟨rfl,_⟩:=key ho;cases hc
 | build t parts=>simp only[opK]at ho;split at ho<;>first|(cases ho;done)|skip;obtain⟨rfl,_⟩:=key ho;cases hc
 | buildSlice t len parts =>
  simp only[opK]at ho
  split at ho<;>first|(cases ho;done)|skip
  split at ho<;>first|(cases ho;done)|skip
  split at ho<;>first|(cases ho;done)|skip
  obtain⟨rfl,_⟩:=key ho;cases hc
 | insert t m x y =>
  simp only[opK]at ho
  split at ho<;>first|(cases ho;done)|skip
  rename_i hu
  split at ho<;>first|(cases ho;done)|skip
  all_goals
   rename_i hd;obtain⟨rfl,hl⟩:=key ho
  ·obtain⟨rfl,h1⟩:=zjc k hu hd (.inl ⟨rfl,_,rfl⟩) hl hp;exact h1
  ·obtain⟨rfl,h1⟩:=zjc k hu hd (.inr ⟨rfl,rfl⟩) hl hp;exact h1
 | load t x=>simp only[opK]at ho;split at ho<;>first|(cases ho;done)|skip;obtain⟨rfl,_⟩:=key ho;cases hc
 | store t x y =>
  simp only[opK]at ho
  split at ho<;>first|(cases ho;done)|skip
  rename_i hs;obtain⟨rfl,hl⟩:=key ho;obtain⟨rfl,h1⟩:=zwy k hs hl hp;exact h1
 | ready g=>cases ho
 | waits g=>cases ho
 | nilCheck x=>obtain⟨rfl,_⟩:=key ho;cases hc
 | binOp op t x y yt =>
  simp only[opK]at ho
  repeat' (split at ho)
  all_goals first|(cases ho;done)|(obtain⟨rfl,_⟩:=key ho;cases hc)
 | unOp op t x=>obtain⟨rfl,_⟩:=key ho;cases hc
 | convert src dst' x=>simp only[opK]at ho;split at ho<;>first|(cases ho;done)|(obtain⟨rfl,_⟩:=key ho;cases hc)
 | sliceToArrayPointer t x=>cases ho
 | makeInterface t x=>simp only[opK]at ho;split at ho<;>first|(cases ho;done)|(obtain⟨rfl,_⟩:=key ho;cases hc)
 | makeFunc fn first captured =>
  cases fn<;>simp only[opK]at ho<;>first|(cases ho;done)|skip
  split at ho
  ·obtain⟨rfl,_⟩:=key ho;cases hc
  ·cases ho
 | makeMap t r=>simp only[opK]at ho;split at ho<;>first|(cases ho;done)|(obtain⟨rfl,_⟩:=key ho;cases hc)
 | makeChan t s=>cases ho
 | makeSlice t l c =>
  simp only[opK]at ho
  repeat' (split at ho)
  all_goals first|(cases ho;done)|(obtain⟨rfl,_⟩:=key ho;cases hc)
 | slice t x lo hi mx =>
  simp only[opK]at ho
  repeat' (split at ho)
  all_goals first|(cases ho;done)|(obtain⟨rfl,_⟩:=key ho;cases hc)
 | fieldAddr t x f=>simp only[opK]at ho;split at ho<;>first|(cases ho;done)|(obtain⟨rfl,_⟩:=key ho;cases hc)
 | field t x f=>simp only[opK]at ho;split at ho<;>first|(cases ho;done)|(obtain⟨rfl,_⟩:=key ho;cases hc)
 | indexAddr t x i =>
  simp only[opK]at ho
  repeat' (split at ho)
  all_goals first|(cases ho;done)|(obtain⟨rfl,_⟩:=key ho;cases hc)
 | index t x i =>
  simp only[opK]at ho
  repeat' (split at ho)
  all_goals first|(cases ho;done)|(obtain⟨rfl,_⟩:=key ho;cases hc)
 | lookup t m x ok =>
  simp only[opK]at ho
  repeat' (split at ho)
  all_goals first|(cases ho;done)|(obtain⟨rfl,_⟩:=key ho;cases hc)
 | mapUpdate t m x y =>
  simp only[opK]at ho
  split at ho<;>first|(cases ho;done)|skip
  rename_i hu
  split at ho<;>first|(cases ho;done)|skip
  all_goals
   rename_i hd;obtain⟨rfl,hl⟩:=key ho
  ·obtain⟨rfl,h1⟩:=zjc k hu hd (.inl ⟨rfl,_,rfl⟩) hl hp;exact h1
  ·obtain⟨rfl,h1⟩:=zjc k hu hd (.inr ⟨rfl,rfl⟩) hl hp;exact h1
 | mapEntry t m x =>
  simp only[opK]at ho
  split at ho<;>first|(cases ho;done)|skip
  rename_i hu
  split at ho<;>first|(cases ho;done)|skip
  all_goals
   rename_i hd hz;obtain⟨rfl,hl⟩:=key ho
  ·exact zqy k hu hd (.inl ⟨rfl,_,rfl⟩) hz hl hp
  ·exact zqy k hu hd (.inr ⟨rfl,rfl⟩) hz hl hp
 | entryStore t m s x =>
  obtain⟨rfl,hl⟩:=key ho;obtain⟨rfl,h1⟩:=zub (t:=t) k hl hp;exact h1
 | range t x=>cases ho
 | next i b=>cases ho
 | entry i=>cases ho
 | typeAssert x xt t ok=>simp only[opK]at ho;split at ho<;>first|(cases ho;done)|(obtain⟨rfl,_⟩:=key ho;cases hc)
 | extract x i=>obtain⟨rfl,_⟩:=key ho;cases hc
 | call c =>
  obtain⟨callee,cargs,ts⟩:=c
  cases callee with
  | value f=>obtain⟨rfl,_⟩:=key ho;exact absurd rfl hn.1
  | invoke r m=>cases ho
  | builtin b =>
   simp only[opK]at ho
   split at ho
   ·rename_i t u hts
    split at ho<;>first|(cases ho;done)|skip
    rename_i e he
    split at ho<;>first|(cases ho;done)|skip
    rename_i n by_ z hs hby hz
    split at ho<;>first|(cases ho;done)|skip
    rename_i hzl
    split at ho<;>first|(cases ho;done)|skip
    rename_i hut;subst hut;obtain⟨rfl,hl⟩:=key ho;obtain⟨xs⟩:=cargs;obtain⟨ts⟩:=ts;simp at hts;subst hts;have hlen:xs.length=2:=by
     have h1:=hl.1;change zfM _ _ _ h vs=_ at hp;unfold zfM at hp
     split at hp
     ·simpa using h1.symm
     ·cases hp
    match xs,hlen with
    | [x0,x1],_ =>
     obtain⟨v',w',ρ',h1,h2,h3,h4,h5,h6⟩:=zzk (ty:=ty) k hZ (zje he) hs hby hz hzl hl hp;refine⟨_,v',w',ρ',?_,.inl rfl,h2,h3,h4,h5,h6⟩;simp only[execOp,zc7];simpa[builtin]using ze1 h1
   ·rename_i t u hts
    split at ho<;>first|(cases ho;done)|skip
    rename_i e he
    split at ho<;>first|(cases ho;done)|skip
    rename_i n hs;obtain⟨rfl,hl⟩:=key ho;obtain⟨xs⟩:=cargs;obtain⟨ts⟩:=ts;simp at hts;subst hts;have hlen:xs.length=2:=by
     have h1:=hl.1;change zf4 _ h vs=_ at hp;unfold zf4 at hp
     split at hp
     ·simpa using h1.symm
     ·cases hp
    match xs,hlen with
    | [x0,x1],_ =>
     obtain⟨v',w',h1,h3,h4,h5,h6⟩:=zw3 (ty:=ty) (sT:=u) k (zje he) hs hl hp;refine⟨_,v',w',ρ,?_,.inl rfl,Rho.le.refl _ _,h3,h4,h5,h6⟩;simp only[execOp,zc7];simpa[builtin]using ze1 h1
   ·repeat' (split at ho)
    all_goals first|(cases ho;done)|(obtain⟨rfl,_⟩:=key ho;cases hc)
   ·split at ho<;>first|(cases ho;done)|(obtain⟨rfl,_⟩:=key ho;cases hc)
   ·split at ho<;>first|(cases ho;done)|(obtain⟨rfl,_⟩:=key ho;cases hc)
   ·split at ho
    ·obtain⟨rfl,_⟩:=key ho;exact absurd rfl hn.2.1
    ·cases ho
   ·cases ho
 | go c=>cases ho
 | defer c =>
  obtain⟨callee,cargs,ts⟩:=c
  cases callee<;>first|(cases ho;done)|(obtain⟨rfl,_⟩:=key ho;exact absurd rfl hn.2.2)
 | panic x=>obtain⟨rfl,_⟩:=key ho;exact absurd rfl hn.2.1
 | send c x=>cases ho
 | recv t c b=>cases ho
 | select cs b=>cases ho
theorem zmV (k:WR P Z ρ h w){b:Nat}(hnone:∀g,ρ b g=none)(hb:b<h.next)(hZ:Z<=w.heap.size){o:Oper}{kd:zX}{args:List TOp}(ho:opK P o.op=some (kd,args))(hc:kd.cls=1){a:Act}{tm:Tr TV}(ht:TmR ρ tm a.tmps){vs:List TV}(hv:zdP tm args=some vs){x:zdE}(hp:lay kd vs b=some x)(hx:h.get b=some x.o) :
  zic P Z ρ h w b (execOp a.eval o) x.v:=by
 have key:∀{k0:zX} {xs:List Operand},mk k0 xs=some (kd,args)->kd=k0/\VL ρ vs (xs.map a.eval):=fun hm=>by
  obtain⟨h1,h2⟩:=zjN hm;exact⟨h1,zeL ht h2 hv⟩
 obtain⟨dst,op,ty,pos,after,guard⟩:=o
 cases op with
 | alloc e =>
  simp only[opK]at ho
  split at ho<;>first|(cases ho;done)|skip
  rename_i hz hs
  split at ho<;>first|(cases ho;done)|skip
  rename_i hzl;obtain⟨rfl,hl⟩:=key ho;exact zwJ k hnone hb hZ hs hz hzl hp hx
 | box e y =>
  simp only[opK]at ho
  split at ho<;>first|(cases ho;done)|skip
  rename_i hs;obtain⟨rfl,hl⟩:=key ho;exact zy9 k hnone hb hZ hs hl hp hx
 | buildSlice t len parts =>
  simp only[opK]at ho
  split at ho<;>first|(cases ho;done)|skip
  rename_i e he
  split at ho<;>first|(cases ho;done)|skip
  rename_i hs hz
  split at ho<;>first|(cases ho;done)|skip
  rename_i hzl;obtain⟨rfl,hl⟩:=key ho;exact zva k hnone hb hZ (zje he) hs hz hzl hl hp hx
 | makeSlice t l c =>
  simp only[opK]at ho
  split at ho<;>first|(cases ho;done)|skip
  rename_i e he
  split at ho<;>first|(cases ho;done)|skip
  rename_i hs hby hz
  split at ho<;>first|(cases ho;done)|skip
  rename_i hzl;obtain⟨rfl,hl⟩:=key ho;exact zsr k hnone hb hZ (zje he) hs hby hz hzl hl hp hx
 | makeMap t r =>
  simp only[opK]at ho
  split at ho<;>first|(cases ho;done)|skip
  ·rename_i hu;obtain⟨rfl,hl⟩:=key ho;exact zpO k hnone hb hZ hu (r:=none) hl hp hx
  ·rename_i y hu;obtain⟨rfl,hl⟩:=key ho;exact zpO k hnone hb hZ hu (r:=some (a.eval y)) hl hp hx
 | move x=>obtain⟨rfl,_⟩:=key ho;cases hc
 | assign x=>obtain⟨rfl,_⟩:=key ho;cases hc
 | pick c x y=>obtain⟨rfl,_⟩:=key ho;cases hc
 | build t parts=>simp only[opK]at ho;split at ho<;>first|(cases ho;done)|skip;obtain⟨rfl,_⟩:=key ho;cases hc
 | insert t m x y=>simp only[opK]at ho;(repeat' (split at ho))<;>first|(cases ho;done)|(obtain⟨rfl,_⟩:=key ho;cases hc)
 | load t x=>simp only[opK]at ho;split at ho<;>first|(cases ho;done)|skip;obtain⟨rfl,_⟩:=key ho;cases hc
 | store t x y=>simp only[opK]at ho;split at ho<;>first|(cases ho;done)|skip;obtain⟨rfl,_⟩:=key ho;cases hc
 | ready g=>cases ho
 | waits g=>cases ho
 | nilCheck x=>obtain⟨rfl,_⟩:=key ho;cases hc
 | binOp op t x y yt=>simp only[opK]at ho;(repeat' (split at ho))<;>first|(cases ho;done)|(obtain⟨rfl,_⟩:=key ho;cases hc)
 | unOp op t x=>obtain⟨rfl,_⟩:=key ho;cases hc
 | convert src dst' x=>simp only[opK]at ho;split at ho<;>first|(cases ho;done)|(obtain⟨rfl,_⟩:=key ho;cases hc)
 | sliceToArrayPointer t x=>cases ho
 | makeInterface t x=>simp only[opK]at ho;split at ho<;>first|(cases ho;done)|(obtain⟨rfl,_⟩:=key ho;cases hc)
 | makeFunc fn first captured =>
  cases fn<;>simp only[opK]at ho<;>first|(cases ho;done)|skip
  split at ho
  ·obtain⟨rfl,_⟩:=key ho;cases hc
  ·cases ho
 | makeChan t s=>cases ho
 | slice t x lo hi mx=>simp only[opK]at ho;(repeat' (split at ho))<;>first|(cases ho;done)|(obtain⟨rfl,_⟩:=key ho;cases hc)
 | fieldAddr t x f=>simp only[opK]at ho;split at ho<;>first|(cases ho;done)|(obtain⟨rfl,_⟩:=key ho;cases hc)
 | field t x f=>simp only[opK]at ho;split at ho<;>first|(cases ho;done)|(obtain⟨rfl,_⟩:=key ho;cases hc)
 | indexAddr t x i=>simp only[opK]at ho;(repeat' (split at ho))<;>first|(cases ho;done)|(obtain⟨rfl,_⟩:=key ho;cases hc)
 | index t x i=>simp only[opK]at ho;(repeat' (split at ho))<;>first|(cases ho;done)|(obtain⟨rfl,_⟩:=key ho;cases hc)
 | lookup t m x ok=>simp only[opK]at ho;(repeat' (split at ho))<;>first|(cases ho;done)|(obtain⟨rfl,_⟩:=key ho;cases hc)
 | mapUpdate t m x y=>simp only[opK]at ho;(repeat' (split at ho))<;>first|(cases ho;done)|(obtain⟨rfl,_⟩:=key ho;cases hc)
 | mapEntry t m x=>simp only[opK]at ho;(repeat' (split at ho))<;>first|(cases ho;done)|(obtain⟨rfl,_⟩:=key ho;cases hc)
 | entryStore t m s x=>obtain⟨rfl,_⟩:=key ho;cases hc
 | range t x=>cases ho
 | next i b=>cases ho
 | entry i=>cases ho
 | typeAssert x xt t ok=>simp only[opK]at ho;split at ho<;>first|(cases ho;done)|(obtain⟨rfl,_⟩:=key ho;cases hc)
 | extract x i=>obtain⟨rfl,_⟩:=key ho;cases hc
 | call c =>
  obtain⟨callee,cargs,ts⟩:=c
  cases callee with
  | value f=>obtain⟨rfl,_⟩:=key ho;cases hc
  | invoke r m=>cases ho
  | builtin b=>simp only[opK]at ho;(repeat' (split at ho))<;>first|(cases ho;done)|(obtain⟨rfl,_⟩:=key ho;cases hc)
 | go c=>cases ho
 | defer c =>
  obtain⟨callee,cargs,ts⟩:=c
  cases callee<;>first|(cases ho;done)|(obtain⟨rfl,_⟩:=key ho;cases hc)
 | panic x=>obtain⟨rfl,_⟩:=key ho;cases hc
 | send c x=>cases ho
 | recv t c b=>cases ho
 | select cs b=>cases ho
def Fr (r:Option Nat):Fence:={ Fence.wide with round:=r }
theorem zuV {r:Option Nat}{n:Nat}{f:FuncId}{args:Array Value}{w:World}{R:Ending->World->Prop}:CallsIn (Fr r) n P f args w R↔CallsIn (Fr none) n P f args w R:=Iff.rfl
theorem zt6 {r:Option Nat}{n l f:Nat}{tmps:Array Value}{assign body:Code}{w:World}{R:Ending->World->Prop}:RoundIn (Fr r) n P l f tmps assign body w R↔RoundIn (Fr none) n P l f tmps assign body w R:=Iff.rfl
def ziC (P:Program)(Z:Nat)(ρ:Rho)(h h':TH)(w:World)(r:TE)(e:Ending)(w':World):Prop :=
 ∃ρ',Rho.le h.next ρ ρ'/\WR P Z ρ' h' w'/\Below Z w w'/\h.next<=h'.next/\match r with
  | .ret v=>∃v',e=.returned v'/\VR ρ' v v'
  | .panic v=>∃v',e=.panicked [{ v:=v',recovered:=false }]/\VR ρ' v v'
def zfV (P:Program)(C:zbA):Prop:=∀f args h r h',C.fn f args h=some (r,h')->∀(Z:Nat) ρ w (args':List Value),WR P Z ρ h w->Z<=w.heap.size->VL ρ args args' ->
 (∀w,(callFunc f args'.toArray).run P w=.ok (.enter f args'.toArray) w)/\CallsIn (Fr none) 0 P f args'.toArray w (ziC P Z ρ h h' w r)
def zhU (P:Program)(C:zbA):Prop:=∀l args h b h',C.rd l args h=some (b,h')->∀(Z:Nat) ρ w (args':List Value) loc,WR P Z ρ h w->Z<=w.heap.size->ρ l 0=some loc->VL ρ args args' ->
 ∃fn tmps assign body,(Instr.yield loc.r args'.toArray).run P w=.ok (.round loc.r fn tmps assign body) w/\RoundIn (Fr none) 0 P loc.r fn tmps assign body w (ziC P Z ρ h h' w (.ret (.bool b)))
inductive DfR (ρ:Rho)(ca:Tr Unit):List TD->List Deferred->Prop
 | nil:DfR ρ ca [] []
 | mark {b:Nat} {loc:Loc} {l:List TD} {ds:List Deferred} (h:ρ b 0=some loc) (hl:DfR ρ ca l ds):DfR ρ ca (.mark b::l) ({ target:=.collected loc.r,args:=#[] }::ds)
 | caught {f:Nat} {p c:TV} {p' c':Value} {l:List TD} {ds:List Deferred} (h:ca.get f=some ()) (hp:VR ρ p p') (hc:VR ρ c c') (hl:DfR ρ ca l ds):DfR ρ ca (.caught p c::l) ({ target:=.fn (.func f) #[],args:=#[p',c'] }::ds)
theorem DfR.mono {ca:Tr Unit}(hρ:∀b g loc,ρ b g=some loc->ρ' b g=some loc){l:List TD}{ds:List Deferred}(k:DfR ρ ca l ds):DfR ρ' ca l ds:=by
 induction k with
 | nil=>exact .nil
 | mark h _ ih=>exact .mark (hρ _ _ _ h) ih
 | caught h hp hc _ ih=>exact .caught h (hp.mono hρ) (hc.mono hρ) ih
structure StR (P:Program)(Z:Nat)(ρ:Rho)(N:Nat)(ca:Tr Unit)(s:St)(a:Act)(w:World):Prop where
 wr:WR P Z ρ s.h w
 tm:TmR ρ s.tm a.tmps
 sz:N<=a.tmps.size
 df:DfR ρ ca s.df a.defers
 hZ:Z<=w.heap.size
theorem TmR.put {tm:Tr TV}{a:Act}(k:TmR ρ tm a.tmps){d:Option Nat}{v:TV}{v':Value}(hv:VR ρ v v')(hd:∀t,d=some t->t<a.tmps.size):TmR ρ (match d with|none=>tm|some d=>tm.set d (some v)) (a.put d v').tmps:=by
 cases d with
 | none=>exact k
 | some d =>
  intro t u hu;have hlt:=hd d rfl;simp only[Tr.get_set]at hu;simp only[Act.put]
  by_cases ht:t=d
  ·subst ht;rw[if_pos rfl]at hu;injection hu with hu;subst hu;exact⟨v',by simp[hlt],hv⟩
  ·rw[if_neg ht]at hu;obtain⟨u',h1,h2⟩:=k t u hu;exact⟨u',by rw[zDY9 (fun e=>ht e.symm)];exact h1,h2⟩
theorem zbV (a:Act)(d:Option Nat)(v:Value):(a.put d v).tmps.size=a.tmps.size:=by cases d<;>simp[Act.put]
theorem ziN (a:Act)(d:Option Nat)(v:Value):(a.put d v).defers=a.defers:=by cases d<;>rfl
theorem St.put_df (s:St)(d:Option Nat)(v:TV):(s.put d v).df=s.df:=by cases d<;>rfl
theorem St.put_h (s:St)(d:Option Nat)(v:TV):(s.put d v).h=s.h:=by cases d<;>rfl
theorem StR.put {N:Nat}{ca:Tr Unit}{s:St}{a:Act}(k:StR P Z ρ N ca s a w){d:Option Nat}{v:TV}{v':Value}(hv:VR ρ v v')(hd:∀t,d=some t->t<N):StR P Z ρ N ca (s.put d v) (a.put d v') w :=
 ⟨by rw[St.put_h];exact k.wr,by have:=k.tm.put (d:=d) hv (fun t ht=>zBK9 (hd t ht) k.sz);cases d<;>exact this,by rw[zbV];exact k.sz,by rw[St.put_df,ziN];exact k.df,k.hZ⟩
structure OpR (P:Program)(N:Nat)(ops:Array Oper)(o:Oper)(t:zaw):Prop where
 op:opK P o.op=some (t.kind,t.args)
 dst:t.dst=o.dst
 lt:∀d,t.dst=some d->d<N
 guard:(o.guard=none/\t.guard=none)\/∃j b d,o.guard=some (j,b)/\(ops[j]?).bind (·.dst)=some d/\t.guard=some (.tmp d,b)
theorem zqD {N:Nat}{ops:Array Oper}{o:Oper}{t:zaw}(ht:zkY P N ops o=some t):OpR P N ops o t:=by
 unfold zkY at ht
 split at ht
 ·cases ht
 ·rename_i hb;have hlt:∀d,o.dst=some d->d<N:=fun d hd=>by
   simp[hd]at hb;exact hb
  split at ht
  ·cases ht
  ·rename_i kd args hk
   split at ht
   ·rename_i hg;injection ht with ht;subst ht;exact⟨hk,rfl,hlt,.inl ⟨hg,rfl⟩⟩
   ·rename_i j b hg
    split at ht
    ·rename_i d hd;injection ht with ht;subst ht;exact⟨hk,rfl,hlt,.inr ⟨j,b,d,hg,hd,rfl⟩⟩
    ·cases ht
def zq6:Option Value->Option Bool
 | some (.bool b)=>some b
 | _=>none
theorem ztU (ops:Array Oper)(tmps:Array Value)(j:Nat):yielded ops tmps j=zq6 (((ops[j]?).bind (·.dst)).bind (tmps[·]?)):=by
 unfold yielded zq6
 split<;>simp_all
theorem zyl {x:Option TV}{c b:Bool}(hw:zgL c x=some b){y:Option Value}(hxy:∀v,x=some v->∃v',y=some v'/\VR ρ v v'):(zq6 y==some c)=b:=by
 unfold zgL at hw
 split at hw
 ·rename_i u;injection hw with hw;subst hw;obtain⟨v',e1,e2⟩:=hxy _ rfl
  cases e2
  rw[e1]
  cases c<;>cases u<;>rfl
 ·rename_i v hv;injection hw with hw;subst hw;obtain⟨v',e1,e2⟩:=hxy _ rfl;rw[e1]
  cases e2<;>first|rfl|(exact absurd rfl (hv _))
 ·cases hw
theorem zeB {N:Nat}{ops:Array Oper}{o:Oper}{t:zaw}(k:OpR P N ops o t){tm:Tr TV}{tmps:Array Value}(ht:TmR ρ tm tmps){b:Bool}(hw:zmj tm t.guard=some b):Region.wanted o (yielded ops tmps)=b:=by
 rcases k.guard with⟨h1,h2⟩|⟨j,c,d,h1,h2,h3⟩
 ·rw[h2]at hw;injection hw with hw;subst hw;simp[Region.wanted,h1]
 ·rw[h3]at hw;simp only[zmj,zeX]at hw;simp only[Region.wanted,h1];have:=zyl (ρ:=ρ) hw (y:=tmps[d]?) (fun v hv=>ht d v hv);rw[ztU,h2];exact this
def TSR (P:Program)(Z:Nat)(ρ:Rho)(N:Nat)(ca:Tr Unit)(h0:TH)(w0:World)(r:TS)(e:Exit)(a':Act)(w':World):Prop :=
 ∃ρ',Rho.le h0.next ρ ρ'/\Below Z w0 w'/\match r with
  | .go s=>h0.next<=s.h.next/\e=.normal/\StR P Z ρ' N ca s a' w'
  | .panic v s=>h0.next<=s.h.next/\∃v',e=.panic [{ v:=v',recovered:=false }]/\VR ρ' v v'/\StR P Z ρ' N ca s a' w'
theorem zee {r:Option Nat}{o:Oper}{a:Act}{K:Act->World->Prop}{Q:Exit->Act->World->Prop}(hd:∀c,o.op=.defer c->r=none)(h1:o.uponIn (Fr r) 0 P a K Q ((execOp a.eval o).run P w)):o.wpIn (Fr r) 0 P a w K Q:=by
 refine⟨fun _ _=>trivial,?_⟩;have:o.semAt (Fr r).round a.eval=execOp a.eval o:=by
  unfold Oper.semAt
  split
  ·rename_i l c hr ho;have:=hd c ho;simp[Fr,this]at hr
  ·rfl
 rw[this];exact h1
inductive zm2 (args:List TOp):zX->Op->Prop
 | call {f:Operand} {xs:Array Operand} {ts:Array TypeId} (hm:zcS opT (f::xs.toList)=some args):zm2 args .call (.call { callee:=.value f,args:=xs,argTypes:=ts })
 | panic {x:Operand} (hm:zcS opT [x]=some args):zm2 args .panic (.panic x)
 | panicB {x:Operand} {ts:Array TypeId} (hm:zcS opT [x]=some args):zm2 args .panic (.call { callee:=.builtin .panic,args:=#[x],argTypes:=ts })
 | defer {f:Operand} {xs:Array Operand} {ts:Array TypeId} (hm:zcS opT (f::xs.toList)=some args):zm2 args .defer (.defer { callee:=.value f,args:=xs,argTypes:=ts })
theorem zoF {op:Op}{kd:zX}{args:List TOp}(ho:opK P op=some (kd,args))(hk:kd=.call\/kd=.panic\/kd=.defer):zm2 args kd op:=by
 have key:∀{k0:zX} {xs:List Operand},mk k0 xs=some (kd,args)->kd=k0/\zcS opT xs=some args:=fun hm=>zjN hm;have no:∀{α:Prop} {k0:zX} {xs:List Operand},mk k0 xs=some (kd,args)->k0 ≠ .call->k0 ≠ .panic->k0 ≠ .defer->α:=fun hm h1 h2 h3=>by
  obtain⟨e,_⟩:=key hm;subst e;rcases hk with h|h|h<;>contradiction
 cases op with
 | move x=>exact no ho (by simp) (by simp) (by simp)
 | assign x=>exact no ho (by simp) (by simp) (by simp)
 | pick c x y=>exact no ho (by simp) (by simp) (by simp)
 | alloc e=>simp only[opK]at ho;(repeat' (split at ho))<;>first|(cases ho;done)|(exact no ho (by simp) (by simp) (by simp))
 | box e x=>simp only[opK]at ho;(repeat' (split at ho))<;>first|(cases ho;done)|(exact no ho (by simp) (by simp) (by simp))
 | build t parts=>simp only[opK]at ho;(repeat' (split at ho))<;>first|(cases ho;done)|(exact no ho (by simp) (by simp) (by simp))
 | buildSlice t len parts=>simp only[opK]at ho;(repeat' (split at ho))<;>first|(cases ho;done)|(exact no ho (by simp) (by simp) (by simp))
 | insert t m x y=>simp only[opK]at ho;(repeat' (split at ho))<;>first|(cases ho;done)|(exact no ho (by simp) (by simp) (by simp))
 | load t x=>simp only[opK]at ho;(repeat' (split at ho))<;>first|(cases ho;done)|(exact no ho (by simp) (by simp) (by simp))
 | store t x y=>simp only[opK]at ho;(repeat' (split at ho))<;>first|(cases ho;done)|(exact no ho (by simp) (by simp) (by simp))
 | ready g=>cases ho
 | waits g=>cases ho
 | nilCheck x=>exact no ho (by simp) (by simp) (by simp)
 | binOp op t x y yt=>simp only[opK]at ho;(repeat' (split at ho))<;>first|(cases ho;done)|(exact no ho (by simp) (by simp) (by simp))
 | unOp op t x=>exact no ho (by simp) (by simp) (by simp)
 | convert src dst' x=>simp only[opK]at ho;(repeat' (split at ho))<;>first|(cases ho;done)|(exact no ho (by simp) (by simp) (by simp))
 | sliceToArrayPointer t x=>cases ho
 | makeInterface t x=>simp only[opK]at ho;(repeat' (split at ho))<;>first|(cases ho;done)|(exact no ho (by simp) (by simp) (by simp))
 | makeFunc fn first captured =>
  cases fn<;>simp only[opK]at ho<;>first|(cases ho;done)|skip
  split at ho
  ·exact no ho (by simp) (by simp) (by simp)
  ·cases ho
 | makeMap t r=>simp only[opK]at ho;(repeat' (split at ho))<;>first|(cases ho;done)|(exact no ho (by simp) (by simp) (by simp))
 | makeChan t s=>cases ho
 | makeSlice t l c=>simp only[opK]at ho;(repeat' (split at ho))<;>first|(cases ho;done)|(exact no ho (by simp) (by simp) (by simp))
 | slice t x lo hi mx=>simp only[opK]at ho;(repeat' (split at ho))<;>first|(cases ho;done)|(exact no ho (by simp) (by simp) (by simp))
 | fieldAddr t x f=>simp only[opK]at ho;(repeat' (split at ho))<;>first|(cases ho;done)|(exact no ho (by simp) (by simp) (by simp))
 | field t x f=>simp only[opK]at ho;(repeat' (split at ho))<;>first|(cases ho;done)|(exact no ho (by simp) (by simp) (by simp))
 | indexAddr t x i=>simp only[opK]at ho;(repeat' (split at ho))<;>first|(cases ho;done)|(exact no ho (by simp) (by simp) (by simp))
 | index t x i=>simp only[opK]at ho;(repeat' (split at ho))<;>first|(cases ho;done)|(exact no ho (by simp) (by simp) (by simp))
 | lookup t m x ok=>simp only[opK]at ho;(repeat' (split at ho))<;>first|(cases ho;done)|(exact no ho (by simp) (by simp) (by simp))
 | mapUpdate t m x y=>simp only[opK]at ho;(repeat' (split at ho))<;>first|(cases ho;done)|(exact no ho (by simp) (by simp) (by simp))
 | mapEntry t m x=>simp only[opK]at ho;(repeat' (split at ho))<;>first|(cases ho;done)|(exact no ho (by simp) (by simp) (by simp))
 | entryStore t m s x=>exact no ho (by simp) (by simp) (by simp)
 | range t x=>cases ho
 | next i b=>cases ho
 | entry i=>cases ho
 | typeAssert x xt t ok=>simp only[opK]at ho;(repeat' (split at ho))<;>first|(cases ho;done)|(exact no ho (by simp) (by simp) (by simp))
 | extract x i=>exact no ho (by simp) (by simp) (by simp)
 | call c =>
  obtain⟨callee,cargs,ts⟩:=c
  cases callee with
  | value f=>obtain⟨rfl,hm⟩:=key ho;exact .call hm
  | invoke r m=>cases ho
  | builtin b =>
   simp only[opK]at ho
   split at ho
   ·(repeat' (split at ho))<;>first|(cases ho;done)|(exact no ho (by simp) (by simp) (by simp))
   ·(repeat' (split at ho))<;>first|(cases ho;done)|(exact no ho (by simp) (by simp) (by simp))
   ·(repeat' (split at ho))<;>first|(cases ho;done)|(exact no ho (by simp) (by simp) (by simp))
   ·(repeat' (split at ho))<;>first|(cases ho;done)|(exact no ho (by simp) (by simp) (by simp))
   ·(repeat' (split at ho))<;>first|(cases ho;done)|(exact no ho (by simp) (by simp) (by simp))
   ·split at ho
    ·rename_i hsz;obtain⟨rfl,hm⟩:=key ho;obtain⟨xs⟩:=cargs
     match xs,hsz with
     | [x],_=>exact .panicB hm
    ·cases ho
   ·cases ho
 | go c=>cases ho
 | defer c =>
  obtain⟨callee,cargs,ts⟩:=c
  cases callee with
  | value f=>obtain⟨rfl,hm⟩:=key ho;exact .defer hm
  | invoke r m=>cases ho
  | builtin b=>cases ho
 | panic x=>obtain⟨rfl,hm⟩:=key ho;exact .panic hm
 | send c x=>cases ho
 | recv t c b=>cases ho
 | select cs b=>cases ho
theorem zph {C:zbA}{ca:Tr Unit}{kd:zX}(hn:kd ≠ .call/\kd ≠ .panic/\kd ≠ .defer){vs:List TV}{h:TH}{r:TR}(ha:act C ca kd vs h=some r):∃v h',r=.ok v h':=by
 have orr:∀{b:Bool} {x y:Option TR},(bif b then x else y)=some r->x=some r\/y=some r:=fun{b} _ _ e=>by cases b;exact .inr e;exact .inl e
 have fin:∀{v h'} {r:TR},some (TR.ok v h')=some r->∃v h',r=.ok v h':=fun e=>by injection e with e;exact⟨_,_,e.symm⟩
 cases kd<;>simp only[act]at ha<;>first|(cases ha;done)|(exact absurd rfl hn.1)|(exact absurd rfl hn.2.1)|(exact absurd rfl hn.2.2)|skip
 case store n =>
  unfold zgW at ha
  split at ha
  ·obtain⟨_,ha1⟩:=zM ha;obtain⟨_,ha2⟩:=zM ha1
   split at ha2
   ·exact fin ha2
   ·cases ha2
  ·cases ha
 case mupd kf =>
  unfold zjb at ha
  split at ha
  ·obtain⟨_,ha1⟩:=zM ha
   split at ha1
   ·unfold zt4 at ha1
    split at ha1
    ·split at ha1
     ·cases ha1
     ·exact fin ha1
     ·exact fin ha1
    ·cases ha1
   ·cases ha1
  ·cases ha
 case ment kf z =>
  unfold zqk at ha
  split at ha
  ·obtain⟨_,ha1⟩:=zM ha
   split at ha1
   ·unfold zuE at ha1
    split at ha1
    ·split at ha1
     ·cases ha1
     ·exact fin ha1
     ·exact fin ha1
    ·cases ha1
   ·cases ha1
  ·cases ha
 case estore =>
  unfold zk7 at ha
  split at ha
  ·split at ha
   ·split at ha
    ·unfold zxW at ha
     split at ha
     ·split at ha
      ·cases ha
      ·exact fin ha
     ·cases ha
    ·cases ha
   ·cases ha
  ·cases ha
 case append e n b =>
  unfold zfM at ha
  split at ha
  ·unfold ztY at ha
   split at ha
   ·cases ha
   ·split at ha
    ·rcases orr ha with ha|ha
     ·exact fin ha
     ·simp only[zkM]at ha;obtain⟨_,ha1⟩:=zM ha;exact fin ha1
    ·rcases orr ha with ha|ha
     ·exact fin ha
     ·obtain⟨_,ha1⟩:=zM ha;obtain⟨_,ha2⟩:=zM ha1;obtain⟨_,ha3⟩:=zM ha2
      split at ha3
      ·unfold zmD at ha3
       split at ha3
       ·obtain⟨_,ha4⟩:=zM ha3;obtain⟨_,ha5⟩:=zM ha4;obtain⟨_,ha6⟩:=zM ha5;obtain⟨_,ha7⟩:=zM ha6;exact fin ha7
       ·cases ha3
      ·cases ha3
    ·cases ha
  ·cases ha
 case copy n =>
  unfold zf4 at ha
  split at ha
  ·dsimp only at ha
   split at ha
   ·cases ha
   ·split at ha
    ·exact fin ha
    ·rcases orr ha with ha|ha
     ·exact fin ha
     ·obtain⟨_,ha1⟩:=zM ha
      split at ha1
      ·exact fin ha1
      ·cases ha1
    ·cases ha
  ·cases ha
theorem zxq {k:zX}(h0:k.cls≠0)(h1:k.cls≠1):k.cls=2:=by cases k<;>simp[zX.cls]at h0 h1⊢
theorem zwG {r:Option Nat}{o:Oper}{a:Act}{K:Act->World->Prop}{Q:Exit->Act->World->Prop}{f:FuncId}{args:Array Value}(h:CallsIn (Fr none) 0 P f args w fun
  | .returned v,w''=>K (a.put o.dst v) w''
  | .panicked chain,w''=>Q (.panic chain) a w''
  | .outgrown,_=>LetsOut Q):o.uponIn (Fr r) 0 P a K Q (.ok (.enter f args) w):=⟨fun h=>by simp[Fr,Fence.wide]at h,h⟩
theorem StR.world {N:Nat}{ca:Tr Unit}{s:St}{a:Act}(k:StR P Z ρ N ca s a w){n:Nat}{h':TH}{w':World}(hle:Rho.le n ρ ρ')(hw:WR P Z ρ' h' w')(hb:Below Z w w'):StR P Z ρ' N ca ⟨s.tm,s.df,h'⟩ a w' :=
 ⟨hw,k.tm.mono hle.more,k.sz,k.df.mono hle.more,zBQ9 k.hZ hb.size⟩
theorem ztj {rnd:Option Nat}{N:Nat}{ops:Array Oper}{tm:Tr TV}{a:Act}(k:WR P Z ρ h w)(ktm:TmR ρ tm a.tmps){o:Oper}{t:zaw}(ko:OpR P N ops o t){vs:List TV}(hv:zdP tm t.args=some vs)(h0:t.kind.cls=0){v:TV}(hp:pas t.kind vs h=some v)
  {K:Act->World->Prop} {Q:Exit->Act->World->Prop} (hK:∀v',VR ρ v v'->K (a.put o.dst v') w):o.wpIn (Fr rnd) 0 P a w K Q:=by
 obtain⟨v',h1,h2⟩:=zny k ko.op h0 ktm hv hp;refine zee (fun c hc=>?_) ?_
 ·exfalso
  have hk:=ko.op;rw[hc]at hk;obtain⟨callee,xs,ts⟩:=c
  cases callee<;>first|(cases hk;done)|(obtain⟨e,_⟩:=zjN hk;rw[e]at h0;cases h0)
 ·rw[h1,Oper.uponIn_value];exact hK v' h2
theorem ztr {rnd:Option Nat}{N:Nat}{ops:Array Oper}{tm:Tr TV}{a:Act}(k:WR P Z ρ h w)(hZ:Z<=w.heap.size)(ktm:TmR ρ tm a.tmps){o:Oper}{t:zaw}(ko:OpR P N ops o t){vs:List TV}(hv:zdP tm t.args=some vs)(h1:t.kind.cls=1){b:Nat}(hnone:∀g,ρ b g=none)(hb:b<h.next){x:zdE}(hp:lay t.kind vs b=some x)(hx:h.get b=some x.o)
  {K:Act->World->Prop} {Q:Exit->Act->World->Prop} (hK:∀v' ob L S,WR P Z (ρ.add b 0 ⟨w.heap.size,L,S⟩) h (w.alloc ob)->VR (ρ.add b 0 ⟨w.heap.size,L,S⟩) x.v v'->K (a.put o.dst v') (w.alloc ob)):o.wpIn (Fr rnd) 0 P a w K Q:=by
 obtain⟨v',ob,L,S,g1,g2,g3⟩:=zmV k hnone hb hZ ko.op h1 ktm hv hp hx;refine zee (fun c hc=>?_) ?_
 ·exfalso
  have hk:=ko.op;rw[hc]at hk;obtain⟨callee,xs,ts⟩:=c
  cases callee<;>first|(cases hk;done)|(obtain⟨e,_⟩:=zjN hk;rw[e]at h1;cases h1)
 ·rw[g1,Oper.uponIn_value];exact hK v' ob L S g2 g3
theorem ztM {C:zbA}(hC:zfV P C)(hR:zhU P C){rnd:Option Nat}{ca:Tr Unit}(hrnd:rnd=none\/∀f,ca.get f=none){N:Nat}{ops:Array Oper}{tm:Tr TV}{df:List TD}{a:Act}(k:WR P Z ρ h w)(hZ:Z<=w.heap.size)(ktm:TmR ρ tm a.tmps)(kdf:DfR ρ ca df a.defers){o:Oper}{t:zaw}(ko:OpR P N ops o t){vs:List TV}(hv:zdP tm t.args=some vs)(h2:t.kind.cls=2){r:TR}(hd:act C ca t.kind vs h=some r)
  {K:Act->World->Prop} {Q:Exit->Act->World->Prop} (hOk:∀v h',r=.ok v h'->∀v' w' ρ',Rho.le h.next ρ ρ'->WR P Z ρ' h' w'->Below Z w w'->VR ρ' v v'->h.next<=h'.next->K (a.put o.dst v') w')
  (hPan:∀v h',r=.panic v h'->∀v' w' ρ',Rho.le h.next ρ ρ'->WR P Z ρ' h' w'->Below Z w w'->VR ρ' v v'->h.next<=h'.next->Q (.panic [{ v:=v',recovered:=false }]) a w')
  (hDfr:∀d,r=.dfr d->∀d',DfR ρ ca (d::df) (d'::a.defers)->K ({ a with defers:=d'::a.defers }.put o.dst undef) w):o.wpIn (Fr rnd) 0 P a w K Q:=by
 by_cases hcall:t.kind=.call
 ·-- a call
  have hop:=zoF ko.op (.inl hcall);rw[hcall]at hop hd;generalize hoo:o.op=op at hop
  cases hop with
  | call hm =>
   rename_i f xs ts;have hl:=zeL ktm hm hv;simp only[zCC9]at hl;simp only[act]at hd;unfold zlj at hd
   split at hd
   ·rename_i g cap args;obtain⟨f',cs',e1,hf,hargs⟩:=hl.of_cons;injection e1 with e1 e2;subst e1;subst e2;generalize hfv:a.eval f=fv at hf
    cases hf with
    | fn hcl hcr =>
     rename_i caps
     cases hcr0:C.fn g (args++cap) h with
     | none=>rw[hcr0]at hd;cases hd
     | some res =>
      obtain⟨te,h'⟩:=res;rw[hcr0]at hd;obtain⟨hent,hcalls⟩:=hC g _ _ te h' hcr0 Z ρ w (xs.toList.map a.eval++caps) k hZ (hargs.app ⟨hcl,hcr⟩);have hrun:(execOp a.eval o).run P w=.ok (.enter g (xs.toList.map a.eval++caps).toArray) w:=by
       have hargsA:xs.map a.eval++caps.toArray=(xs.toList.map a.eval++caps).toArray:=by
        obtain⟨xs⟩:=xs;simp
       simp only[execOp,hoo,resolve,hfv,Deferred.ofValue,Sem.run_bind,Sem.run_pure,Result.andThen_ok,invoke,Array.empty_append,hargsA];exact hent w
      refine zee (fun c hc=>by rw[hoo]at hc;cases hc) ?_;rw[hrun];refine zwG (hcalls.mono ?_);rintro e w' ⟨ρ',hle,hwr,hb,hn,he⟩
      cases te with
      | ret v =>
       obtain⟨v',rfl,hvr⟩:=he;simp only[zjI]at hd;injection hd with hd;subst hd;exact hOk v h' rfl v' w' ρ' hle hwr hb hvr hn
      | panic v =>
       obtain⟨v',rfl,hvr⟩:=he;simp only[zjI]at hd;injection hd with hd;subst hd;exact hPan v h' rfl v' w' ρ' hle hwr hb hvr hn
   ·rename_i l args;obtain⟨f',cs',e1,hf,hargs⟩:=hl.of_cons;injection e1 with e1 e2;subst e1;subst e2;generalize hfv:a.eval f=fv at hf
    cases hf with
    | yield hloc =>
     rename_i loc
     cases hcr0:C.rd l args h with
     | none=>rw[hcr0]at hd;cases hd
     | some res =>
      obtain⟨b,h'⟩:=res;rw[hcr0]at hd;simp only[zBj]at hd;injection hd with hd;subst hd;obtain⟨fn,tmps,assign,body,hy,hrd⟩:=hR l _ _ b h' hcr0 Z ρ w (xs.toList.map a.eval) loc k hZ hloc hargs;have hrun:(execOp a.eval o).run P w=.ok (.round loc.r fn tmps assign body) w:=by
       have hargsA:xs.map a.eval=(xs.toList.map a.eval).toArray:=by
        obtain⟨xs⟩:=xs;simp
       simp only[execOp,hoo,resolve,hfv,Deferred.ofValue,Sem.run_bind,Sem.run_pure,Result.andThen_ok,invoke,Array.empty_append,hargsA];exact hy
      refine zee (fun c hc=>by rw[hoo]at hc;cases hc) ?_;rw[hrun,Oper.uponIn_round];refine⟨fun h=>by simp[Fr,Fence.wide]at h,zt6.2 (hrd.mono ?_)⟩;rintro e w' ⟨ρ',hle,hwr,hb,hn,v',rfl,hvr⟩;exact hOk _ h' rfl v' w' ρ' hle hwr hb hvr hn
   ·cases hd
 ·by_cases hpan:t.kind=.panic
  ·have hop:=zoF ko.op (.inr (.inl hpan));rw[hpan]at hop hd;simp only[act]at hd;unfold zvk at hd
   split at hd
   ·rename_i ty u;injection hd with hd;subst hd;have fin:∀x:Operand,zcS opT [x]=some t.args->(execOp a.eval o).run P w=.halt (.panic (a.eval x)) w->(∀c,o.op ≠ .defer c)->o.wpIn (Fr rnd) 0 P a w K Q:=fun x hm hrun hnd=>by
     have hl:=zeL ktm hm hv;have hx:=hl.uno rfl;refine zee (fun c hc=>absurd hc (hnd c)) ?_;rw[hrun,Oper.uponIn_panic];exact hPan _ _ rfl _ w ρ (Rho.le.refl _ _) k (Below.refl _ _) hx (zAJ9 _)
    have hpr:∀x:Operand,zcS opT [x]=some t.args->(Instr.panic (a.eval x)).run P w=.halt (.panic (a.eval x)) w:=fun x hm=>by
     have hl:=zeL ktm hm hv;have hx:=hl.uno rfl;generalize a.eval x=xv at hx
     cases hx
     simp[Instr.panic,goPanic,Sem.run]
    generalize hoo:o.op=op at hop
    cases hop with
    | panic hm =>
     refine fin _ hm ?_ (fun c hc=>by rw[hoo]at hc;cases hc);simp only[execOp,hoo,Sem.run_bind,hpr _ hm];rfl
    | panicB hm =>
     refine fin _ hm ?_ (fun c hc=>by rw[hoo]at hc;cases hc);simp only[execOp,hoo,zc7];simp[builtin,hpr _ hm]
   ·cases hd
  ·by_cases hdef:t.kind=.defer
   ·have hop:=zoF ko.op (.inr (.inr hdef));rw[hdef]at hop hd;simp only[act]at hd;unfold zrV at hd
    split at hd
    ·rename_i g p c
     split at hd
     ·rename_i u hca;injection hd with hd;subst hd;generalize hoo:o.op=op at hop
      cases hop with
      | defer hm =>
       rename_i f xs ts;have hl:=zeL ktm hm hv;simp only[zCC9]at hl;obtain⟨f',cs',e1,hf,hargs⟩:=hl.of_cons;injection e1 with e1 e2;subst e1;obtain⟨p',cs2,e3,hp,hargs⟩:=hargs.of_cons;obtain⟨c',cs3,e4,hc,hargs⟩:=hargs.of_cons;obtain rfl:=hargs.of_nil;subst e4;subst e3;have hrn:rnd=none:=by
        rcases hrnd with h|h
        ·exact h
        ·rw[h]at hca;cases hca
       generalize hfv:a.eval f=fv at hf
       cases hf with
       | fn hcl hcr =>
        rename_i caps;have hcaps:caps=[]:=by cases caps;rfl;simp at hcl
        subst hcaps;have hrun:(execOp a.eval o).run P w=.ok (.defer { target:=.fn (.func g) #[],args:=#[p',c'] }) w:=by
         have hargsA:xs.map a.eval=#[p',c']:=by
          obtain⟨xs⟩:=xs;simpa using e2
         simp only[execOp,hoo,resolve,hfv,Deferred.ofValue,Sem.run_bind,Sem.run_pure,Result.andThen_ok,hargsA];rfl
        refine zee (fun _ _=>hrn) ?_;rw[hrun,Oper.uponIn_defer];exact hDfr _ rfl _ (.caught hca hp hc kdf)
     ·cases hd
    ·cases hd
   ·-- what calls nothing
    cases r with
    | ok v h' =>
     obtain⟨n,v',w',ρ',g1,g2,g3,g4,g5,g6,g7⟩:=znb k hZ ko.op h2 ⟨hcall,hpan,hdef⟩ ktm hv hd;refine zee (fun c hc=>?_) ?_
     ·exfalso
      have hk:=ko.op;rw[hc]at hk;obtain⟨callee,xs,ts⟩:=c
      cases callee<;>first|(cases hk;done)|(obtain⟨e,_⟩:=zjN hk;exact hdef e)
     ·have hfin:K (a.put o.dst v') w':=hOk _ _ rfl v' w' ρ' g3 g4 g5 g6 g7;rcases g2 with rfl|⟨rfl,rfl⟩
      ·rw[g1,Oper.uponIn_value];exact hfin
      ·rw[g1,Oper.uponIn_skip];exact hfin
    | panic v h'=>obtain⟨_,_,e⟩:=zph ⟨hcall,hpan,hdef⟩ hd;cases e
    | dfr d=>obtain⟨_,_,e⟩:=zph ⟨hcall,hpan,hdef⟩ hd;cases e
theorem zzD {C:zbA}(hC:zfV P C)(hR:zhU P C){rnd:Option Nat}{ca:Tr Unit}(hrnd:rnd=none\/∀f,ca.get f=none){N:Nat}{ops:Array Oper}{s:St}{a:Act}(k:StR P Z ρ N ca s a w){o:Oper}{t:zaw}(ko:OpR P N ops o t){vs:List TV}(hv:zdP s.tm t.args=some vs){r:TS}(hd:ziI C ca t s vs=some r)
  {K:Act->World->Prop} {Q:Exit->Act->World->Prop} (hK:∀a' w',TSR P Z ρ N ca s.h w r .normal a' w'->K a' w') (hQ:∀ch a' w',TSR P Z ρ N ca s.h w r (.panic ch) a' w'->Q (.panic ch) a' w'):o.wpIn (Fr rnd) 0 P a w K Q:=by
 have hdst:∀{ρ':Rho} {s':St} {a:Act} {w':World} {v:TV} {v':Value},StR P Z ρ' N ca s' a w'->VR ρ' v v'->StR P Z ρ' N ca (s'.put t.dst v) (a.put o.dst v') w':=fun k' hv'=>by
  rw[<- ko.dst];exact k'.put hv' ko.lt
 unfold ziI at hd
 by_cases h0:t.kind.cls=0
 ·rw[h0]at hd;simp only[zz0]at hd
  split at hd
  ·rename_i v hp;injection hd with hd;subst hd;exact ztj k.wr k.tm ko hv h0 hp fun v' h2=>hK _ _ ⟨ρ,Rho.le.refl _ _,Below.refl _ _,by rw[St.put_h];exact zAJ9 _,rfl,hdst k h2⟩
  ·cases hd
 ·by_cases h1:t.kind.cls=1
  ·rw[h1]at hd;simp only[zAd]at hd
   split at hd
   ·rename_i x hp;injection hd with hd;subst hd;have hnone:∀g,ρ s.h.next g=none:=fun g=>by
     cases hg:ρ s.h.next g with
     | none=>rfl
     | some loc=>have:=(k.wr.dom _ _ _ hg).1;omega
    refine ztr (k.wr.push x.o) k.hZ k.tm ko hv h1 hnone (by rw[TH.next_push];omega) hp (by rw[TH.get_push,if_pos rfl]) fun v' ob L S g2 g3=>?_;have hm:=Rho.add_more (loc:=⟨w.heap.size,L,S⟩) (hnone 0);have hle:Rho.le s.h.next ρ (ρ.add s.h.next 0 ⟨w.heap.size,L,S⟩):=⟨hm,fun c hc hn g=>by rw[Rho.add_ne (by omega)];exact hn g⟩
    have hbl:Below Z w (w.alloc ob):=((Below.refl Z w).alloc k.hZ ob)
    exact hK _ _ ⟨_,hle,hbl,by rw[St.put_h,TH.next_push];omega,rfl,hdst (k.world hle g2 hbl) g3⟩
   ·cases hd
  ·have h2:=zxq h0 h1;rw[h2]at hd;change zoo t.dst s (act C ca t.kind vs s.h)=some r at hd
   cases hact:act C ca t.kind vs s.h with
   | none=>rw[hact]at hd;cases hd
   | some tr =>
    rw[hact]at hd;refine ztM hC hR hrnd k.wr k.hZ k.tm k.df ko hv h2 hact (fun v h' e v' w' ρ' hle hwr hb hvr hn=>?_) (fun v h' e v' w' ρ' hle hwr hb hvr hn=>?_) (fun d e d' hdf=>?_)
    ·subst e;simp only[zoo]at hd;injection hd with hd;subst hd;exact hK _ _ ⟨ρ',hle,hb,by rw[St.put_h];exact hn,rfl,hdst (k.world hle hwr hb) hvr⟩
    ·subst e;simp only[zoo]at hd;injection hd with hd;subst hd;exact hQ _ _ _ ⟨ρ',hle,hb,hn,v',rfl,hvr,k.world hle hwr hb⟩
    ·subst e;simp only[zoo]at hd;injection hd with hd;subst hd;have k2:StR P Z ρ N ca ⟨s.tm,d::s.df,s.h⟩ { a with defers:=d'::a.defers } w:=⟨k.wr,k.tm,k.sz,hdf,k.hZ⟩
     exact hK _ _ ⟨ρ,Rho.le.refl _ _,Below.refl _ _,by rw[St.put_h];exact zAJ9 _,rfl,hdst k2 (VR.undef ρ)⟩
theorem TSR.trans {N:Nat}{ca:Tr Unit}{h0 h1:TH}{w0 w1:World}(hle:Rho.le h0.next ρ ρ')(hb:Below Z w0 w1)(hn:h0.next<=h1.next){r:TS}{e:Exit}{a':Act}{w':World}(k:TSR P Z ρ' N ca h1 w1 r e a' w'):TSR P Z ρ N ca h0 w0 r e a' w':=by
 obtain⟨ρ2,h1,h2,h3⟩:=k;refine⟨ρ2,hle.trans h1 hn,hb.trans h2,?_⟩
 cases r with
 | go s=>exact⟨zBQ9 hn h3.1,h3.2⟩
 | panic v s=>exact⟨zBQ9 hn h3.1,h3.2⟩
theorem zqI {C:zbA}(hC:zfV P C)(hR:zhU P C){rnd:Option Nat}{ca:Tr Unit}(hrnd:rnd=none\/∀f,ca.get f=none){N:Nat}{ops:Array Oper}{s:St}{a:Act}(k:StR P Z ρ N ca s a w){o:Oper}{t:zaw}(ko:OpR P N ops o t){r:TS}(hs:zfs C ca t s=some r)
  {K:Act->World->Prop} {Q:Exit->Act->World->Prop} (hK:∀a' w',TSR P Z ρ N ca s.h w r .normal a' w'->K a' w') (hQ:∀ch a' w',TSR P Z ρ N ca s.h w r (.panic ch) a' w'->Q (.panic ch) a' w') :
  (if Region.wanted o (yielded ops a.tmps)then o.wpIn (Fr rnd) 0 P a w K Q else(∀f,o.about P w a.eval=some f->(Fr rnd).fn f)/\K (a.put o.dst undef) w):=by
 unfold zfs at hs
 split at hs
 ·cases hs
 ·rename_i hw;injection hs with hs;subst hs;rw[zeB ko k.tm hw];simp only[zCH9,if_false];refine⟨fun _ _=>trivial,hK _ _ ⟨ρ,Rho.le.refl _ _,Below.refl _ _,by rw[St.put_h];exact zAJ9 _,rfl,?_⟩⟩;rw[<- ko.dst];exact k.put (VR.undef ρ) ko.lt
 ·rename_i hw;rw[zeB ko k.tm hw];simp only[if_true]
  split at hs
  ·cases hs
  ·rename_i vs hv;exact zzD hC hR hrnd k ko hv hs hK hQ
theorem zrO {C:zbA}(hC:zfV P C)(hR:zhU P C){rnd:Option Nat}{ca:Tr Unit}(hrnd:rnd=none\/∀f,ca.get f=none){N:Nat}{ops:Array Oper}{Q:Exit->Act->World->Prop}:∀(ts:List zaw) (is:List Nat) (s:St) (a:Act) (w:World) (ρ:Rho) (r:TS),
  is.length=ts.length->(∀(j:Nat) t,ts[j]?=some t->∃i o,is[j]?=some i/\ops[i]?=some o/\OpR P N ops o t)->StR P Z ρ N ca s a w->zbC C ca ts s=some r->(∀e a' w',TSR P Z ρ N ca s.h w r e a' w'->Q e a' w')->wpOpsIn (Fr rnd) 0 P ops Q is a w
 | [],is,s,a,w,ρ,r,hl,_,k,hs,hQ=>by
  have:is=[]:=by cases is;rfl;simp at hl
  subst this;simp only[zbC]at hs;injection hs with hs;subst hs;exact hQ _ _ _ ⟨ρ,Rho.le.refl _ _,Below.refl _ _,zAJ9 _,rfl,k⟩
 | t::ts,is,s,a,w,ρ,r,hl,hop,k,hs,hQ=>by
  cases is with
  | nil=>simp at hl
  | cons i is =>
   obtain⟨i',o,hi,ho,ko⟩:=hop 0 t rfl;simp at hi;subst hi;rw[wpOpsIn_cons];unfold wpOpIn;rw[ho];simp only[zbC]at hs;have hop':∀(j:Nat) t,ts[j]?=some t->∃i o,is[j]?=some i/\ops[i]?=some o/\OpR P N ops o t:=fun j t' ht=>hop (j+1) t' (by simpa using ht)
   split at hs
   ·rename_i s' hs1;refine zqI hC hR hrnd k ko hs1 (fun a' w' hr=>?_) (fun ch a' w' hr=>?_)
    ·obtain⟨ρ',hle,hb,hn,_,k'⟩:=hr;exact zrO hC hR hrnd ts is s' a' w' ρ' r (by simpa using hl) hop' k' hs fun e a2 w2 hr2=>hQ e a2 w2 (hr2.trans hle hb hn)
    ·obtain⟨_,_,_,_,e,_⟩:=hr
     cases e
   ·rename_i hs1;refine zqI (r:=r) hC hR hrnd k ko hs (fun a' w' hr=>?_) (fun ch a' w' hr=>hQ _ _ _ hr)
    cases r with
    | go s'=>exact absurd hs (hs1 s')
    | panic v s'=>obtain⟨_,_,_,_,_,e,_⟩:=hr;cases e
def XR (ρ:Rho)(x:TX)(e:Exit):Prop:=match x with
 | .norm=>e=.normal
 | .exit id=>e=.exit id
 | .goto l=>e=.goto l
 | .ret=>e=.ret
 | .panic v=>∃v',e=.panic [{ v:=v',recovered:=false }]/\VR ρ v v'
def CR (P:Program)(Z:Nat)(ρ:Rho)(N:Nat)(ca:Tr Unit)(h0:TH)(w0:World)(x:TX)(s:St)(e:Exit)(a':Act)(w':World):Prop :=
 ∃ρ',Rho.le h0.next ρ ρ'/\Below Z w0 w'/\h0.next<=s.h.next/\XR ρ' x e/\StR P Z ρ' N ca s a' w'
theorem CR.trans {N:Nat}{ca:Tr Unit}{h0 h1:TH}{w0 w1:World}(hle:Rho.le h0.next ρ ρ')(hb:Below Z w0 w1)(hn:h0.next<=h1.next){x:TX}{s:St}{e:Exit}{a':Act}{w':World}(k:CR P Z ρ' N ca h1 w1 x s e a' w'):CR P Z ρ N ca h0 w0 x s e a' w':=by
 obtain⟨ρ2,h1,h2,h3,h4,h5⟩:=k;exact⟨ρ2,hle.trans h1 hn,hb.trans h2,zBQ9 hn h3,h4,h5⟩
theorem zjZ:∀(ts:List zaw) (tm:Tr TV) (t:Nat) v,(zdT ts tm).get t=some v->tm.get t=some v
 | [],tm,t,v,h=>h
 | o::ts,tm,t,v,h=>by
  simp only[zdT]at h;have:=zjZ ts _ t v h
  split at this
  ·rw[Tr.get_set]at this
   split at this
   ·cases this
   ·exact this
  ·exact this
theorem StR.forget {N:Nat}{ca:Tr Unit}{s:St}{a:Act}(k:StR P Z ρ N ca s a w){tm:Tr TV}(ht:∀t v,tm.get t=some v->s.tm.get t=some v):StR P Z ρ N ca ⟨tm,s.df,s.h⟩ a w :=
 ⟨k.wr,fun t v hv=>k.tm t v (ht t v hv),k.sz,k.df,k.hZ⟩
theorem zwM {C:zbA}(hC:zfV P C)(hR:zhU P C){rnd:Option Nat}{ca:Tr Unit}(hrnd:rnd=none\/∀f,ca.get f=none){N:Nat}{id:Nat}{ops:Array Oper}{ts:List zaw}(hts:zcS (zkY P N ops) ops.toList=some ts){s:St}{a:Act}(k:StR P Z ρ N ca s a w){x:TX}{s':St}(hs:zm6 (zdT ts) (zbC C ca ts s)=some (x,s')) :
  (Code.region id ops false).wpIn (Fr rnd) 0 P (CR P Z ρ N ca s.h w x s') a w:=by
 obtain⟨h1,h2⟩:=zi0 hts;refine wpIn_region ?_
 cases hst:zbC C ca ts s with
 | none=>rw[hst]at hs;cases hs
 | some r =>
  rw[hst]at hs;refine zrO hC hR hrnd ts _ s a w ρ r (by simp[h1]) (fun j t ht=>?_) k hst fun e a' w' hr=>?_
  ·have hj:j<ops.size:=by have:=(zAC9.1 ht).1;rw[h1]at this;simpa using this
   refine⟨j,ops[j],by simp[hj],zCR9 hj,zqD (h2 j ops[j] t (by simp[hj]) ht)⟩
  ·obtain⟨ρ',hle,hb,hr⟩:=hr
   cases r with
   | go s2 =>
    obtain⟨hn,rfl,k'⟩:=hr;simp only[zm6]at hs;injection hs with hs;injection hs with hs1 hs2;subst hs1;subst hs2;exact⟨ρ',hle,hb,hn,rfl,k'⟩
   | panic v s2 =>
    obtain⟨hn,v',rfl,hv,k'⟩:=hr;simp only[zm6]at hs;injection hs with hs;injection hs with hs1 hs2;subst hs1;subst hs2;exact⟨ρ',hle,hb,hn,⟨v',rfl,hv⟩,k'.forget fun t u hu=>zjZ ts _ t u hu⟩
theorem zhj {f:TV->TV->Bool}(hf:∀a b,f a b=true->a=b):∀{l m:List TV},zkK f l m=true->l=m
 | [],[],_=>rfl
 | a::l,b::m,h=>by
  simp only[zkK]at h
  cases hab:f a b
  ·rw[hab]at h;cases h
  ·rw[hab]at h;rw[hf a b hab,zhj hf h]
 | [],_::_,h=>by cases h
 | _::_,[],h=>by cases h
theorem zhx {b:TV}{n:Nat}(h:Nat.beq (zfo b) n=true):zfo b=n:=zAN9 h
theorem bnd {a b:Bool}(h:(bif a then b else false)=true):a=true/\b=true:=by cases a<;>simp_all
theorem TV.beq_sound:∀(n:Nat) (a b:TV),TV.beq n a b=true->a=b
 | 0,_,_,h=>by cases h
 | n+1,a,b,h=>by
  have ih:=TV.beq_sound n
  cases a with
  | bool x =>
   cases b<;>simp only[TV.beq,ztI]at h<;>try cases h
   rename_i y
   cases x<;>cases y<;>simp_all
  | int k x =>
   cases b<;>simp only[TV.beq,zrN]at h<;>try cases h
   obtain⟨h1,h2⟩:=bnd h;rw[zc1]at h2;rw[zht h1,eq_of_beq h2]
  | str s =>
   cases b<;>simp only[TV.beq,zv7]at h<;>try cases h
   rw[zgl]at h;rw[eq_of_beq h]
  | ptr c g o e =>
   cases b<;>simp only[TV.beq,zns]at h<;>try cases h
   obtain⟨h1,h⟩:=bnd h;obtain⟨h2,h⟩:=bnd h;obtain⟨h3,h⟩:=bnd h;rw[zAN9 h1,zAN9 h2,zAN9 h3,zAN9 h]
  | sl c g o m q z =>
   cases b<;>simp only[TV.beq,zql]at h<;>try cases h
   obtain⟨h1,h⟩:=bnd h;obtain⟨h2,h⟩:=bnd h;obtain⟨h3,h⟩:=bnd h;obtain⟨h4,h⟩:=bnd h;obtain⟨h5,h⟩:=bnd h;rw[zAN9 h1,zAN9 h2,zAN9 h3,zAN9 h4,zAN9 h5,zAN9 h]
  | map c =>
   cases b<;>simp only[TV.beq,zvz]at h<;>try cases h
   rw[zAN9 h]
  | yield c =>
   cases b<;>simp only[TV.beq,zqC]at h<;>try cases h
   rw[zAN9 h]
  | fn f l =>
   cases b<;>simp only[TV.beq,zt5]at h<;>try cases h
   obtain⟨h1,h⟩:=bnd h;rw[zAN9 h1,zhj ih h]
  | iface t v =>
   cases b<;>simp only[TV.beq,zl3]at h<;>try cases h
   obtain⟨h1,h⟩:=bnd h;rw[zAN9 h1,ih _ _ h]
  | agg l =>
   cases b<;>simp only[TV.beq,zvU]at h<;>try cases h
   rw[zhj ih h]
  | tuple l =>
   cases b<;>simp only[TV.beq,zrP]at h<;>try cases h
   rw[zhj ih h]
  | nilptr=>have:=zhx (by simpa only[TV.beq]using h);cases b<;>simp[zfo]at this;rfl
  | nilsl=>have:=zhx (by simpa only[TV.beq]using h);cases b<;>simp[zfo]at this;rfl
  | nilmap=>have:=zhx (by simpa only[TV.beq]using h);cases b<;>simp[zfo]at this;rfl
  | nilfn=>have:=zhx (by simpa only[TV.beq]using h);cases b<;>simp[zfo]at this;rfl
  | niliface=>have:=zhx (by simpa only[TV.beq]using h);cases b<;>simp[zfo]at this;rfl
theorem zlO:∀{n i:Nat} {a b:Tr TV},zlh i n a b=true->∀j,i<=j->j<i+n->∃x,a.get j=some x/\b.get j=some x
 | 0,i,a,b,_,j,h1,h2=>by omega
 | n+1,i,a,b,h,j,h1,h2=>by
  unfold zlh at h
  split at h
  ·rename_i x y hx hy;obtain⟨e1,e2⟩:=bnd h;have e:=TV.beq_sound _ _ _ e1
   by_cases hj:j=i
   ·subst hj;exact⟨x,hx,by rw[hy,e]⟩
   ·exact zlO e2 j (by omega) (by omega)
  ·cases h
def OEq (a b:TO):Prop:=(∀cs,a ≠ .ro cs)/\∀(P:Program) (ρ:Rho) (c:Nat) (w:World),OR P ρ c w a->OR P ρ c w b
theorem OEq.refl (a:TO)(hn:∀cs,a ≠ .ro cs):OEq a a:=⟨hn,fun _ _ _ _ h=>h⟩
theorem zuX {a b:TO}(h:zoH a b=true):OEq a b:=by
 unfold zoH at h
 split at h
 ·rename_i e G M n c e' G' M' n' c';obtain⟨h1,hA⟩:=bnd h;obtain⟨h2,hB⟩:=bnd hA;obtain⟨h3,hC⟩:=bnd hB;obtain⟨h4,hD⟩:=bnd hC;have e1:=zAN9 h1;have e2:=zAN9 h2;have e3:=zAN9 h3;have e4:=zAN9 h4;subst e1;subst e2;subst e3;subst e4;refine⟨fun cs h=>(by cases h),?_⟩;intro P ρ b w k;refine⟨k.1,k.2.1,fun g g1 g2=>?_⟩;obtain⟨loc,cur,r1,r2,r3,r4,r5,r6,r7⟩:=k.2.2 g g1 g2;refine⟨loc,cur,r1,r2,r3,r4,r5,r6,fun i hi=>?_⟩;obtain⟨x,v,c1,c2,c3,c4⟩:=r7 i hi;obtain⟨y,y1,y2⟩:=zlO hD i (zAS9 _) (by omega);rw[c1]at y1;injection y1 with y1;subst y1;exact⟨_,v,y2,c2,c3,c4⟩
 ·rename_i c c';have e:=zAN9 h;subst e;exact .refl _ (fun cs h=>by cases h)
 ·cases h
theorem zxY {k:zX}{vs:List TV}{b:Nat}{x:zdE}(hx:lay k vs b=some x):∀cs,x.o ≠ .ro cs:=by
 have h1:∀(e:Nat) (l:List TV) cs,zcq e l ≠ .ro cs:=fun e l cs h=>by cases h
 intro cs h
 cases k<;>simp only[lay]at hx<;>try cases hx
 case box e n =>
  unfold zn3 at hx
  split at hx
  ·obtain⟨_,hx⟩:=zM hx;injection hx with hx;subst hx;cases h
  ·cases hx
 case alloc e z =>
  unfold zkG at hx
  split at hx
  ·injection hx with hx;subst hx;cases h
  ·cases hx
 case bslice e esz len z p =>
  unfold zho at hx;obtain⟨_,hx⟩:=zM hx
  split at hx
  ·injection hx with hx;subst hx;cases h
  ·cases hx
 case mkslice e esz by_ z =>
  unfold zgs at hx
  split at hx
  ·split at hx
   ·obtain⟨_,hx⟩:=zM hx;obtain⟨_,hx⟩:=zM hx;obtain⟨_,hx⟩:=zM hx;injection hx with hx;subst hx;cases h
   ·cases hx
  ·cases hx
 case mkmap =>
  unfold zkm at hx
  split at hx
  ·injection hx with hx;subst hx;cases h
  ·injection hx with hx;subst hx;cases h
  ·cases hx
theorem zvA {k:zX}{vs:List TV}{b:Nat}{x:zdE}(hx:lay k vs b=some x):zd9 x.v=some b:=by
 cases k<;>simp only[lay]at hx<;>try cases hx
 case box e n =>
  unfold zn3 at hx
  split at hx
  ·obtain⟨_,hx⟩:=zM hx;injection hx with hx;subst hx;rfl
  ·cases hx
 case alloc e z =>
  unfold zkG at hx
  split at hx
  ·injection hx with hx;subst hx;rfl
  ·cases hx
 case bslice e n l z p =>
  unfold zho at hx;obtain⟨_,hx⟩:=zM hx
  split at hx
  ·injection hx with hx;subst hx;rfl
  ·cases hx
 case mkslice e n b z =>
  unfold zgs at hx
  split at hx
  ·split at hx
   ·obtain⟨_,hx⟩:=zM hx;obtain⟨_,hx⟩:=zM hx;obtain⟨_,hx⟩:=zM hx;injection hx with hx;subst hx;rfl
   ·cases hx
  ·cases hx
 case mkmap =>
  unfold zkm at hx
  split at hx
  ·injection hx with hx;subst hx;rfl
  ·injection hx with hx;subst hx;rfl
  ·cases hx
def TH.sub (h h':TH):Prop:=∀b o,h.get b=some o->h'.get b=some o
theorem TH.sub.refl (h:TH):h.sub h:=fun _ _ k=>k
theorem TH.sub.trans {h1 h2 h3:TH}(k:h1.sub h2)(l:h2.sub h3):h1.sub h3:=fun b o hb=>l b o (k b o hb)
theorem TH.sub_push (h:TH)(o:TO):h.sub (h.push o):=fun b x hb=>by rw[TH.get_push,if_neg (by have:=TH.get_lt hb;omega)];exact hb
theorem zr1 (k:h.sub h'){b g o n:Nat}{l:List TV}(hl:zbw h b g o n=some l):zbw h' b g o n=some l:=by
 unfold zbw at hl⊢
 split at hl
 ·rename_i x hx;rw[k _ _ hx];exact hl
 ·cases hl
theorem znB {vs:List TV}{f g:TV->Option TV}(hfg:∀x v,f x=some v->g x=some v){v:TV}(hv:zA3 vs f=some v):zA3 vs g=some v:=by
 unfold zA3 at *
 split at hv
 ·exact hfg _ _ hv
 ·cases hv
theorem zuy {vs:List TV}{f g:TV->TV->Option TV}(hfg:∀x y v,f x y=some v->g x y=some v){v:TV}(hv:zcj vs f=some v):zcj vs g=some v:=by
 unfold zcj at *
 split at hv
 ·exact hfg _ _ _ hv
 ·cases hv
theorem zym (k:h.sub h'){kd:zX}{vs:List TV}{v:TV}(hv:pas kd vs h=some v):pas kd vs h'=some v:=by
 cases kd<;>first|exact hv|skip
 case load agg n =>
  refine znB (fun x v hv=>?_) hv;unfold zgg at hv⊢
  split at hv
  ·obtain⟨h1,hv⟩:=zM hv
   split at hv
   ·rename_i l hl;rw[h1,zr1 k hl];exact hv
   ·cases hv
  ·cases hv
 case look kf z ok =>
  refine zuy (fun x y v hv=>?_) hv;unfold zhf at hv⊢;obtain⟨h1,hv⟩:=zM hv;rw[h1];simp only[cond_true]
  split at hv
  ·exact hv
  ·split at hv
   ·rename_i o ho;rw[k _ _ ho];exact hv
   ·cases hv
  ·cases hv
 case len f =>
  refine znB (fun x v hv=>?_) hv;unfold zou at hv⊢
  split at hv
  ·exact hv
  ·unfold zuY at hv⊢
   split at hv
   ·exact hv
   ·split at hv
    ·rename_i o ho;rw[k _ _ ho];exact hv
    ·cases hv
   ·cases hv
  ·exact hv
  ·cases hv
def Tr.sub (a b:Tr TV):Prop:=∀t v,a.get t=some v->b.get t=some v
theorem Tr.sub.refl (a:Tr TV):a.sub a:=fun _ _ k=>k
theorem Tr.sub.trans {a b c:Tr TV}(k:a.sub b)(l:b.sub c):a.sub c:=fun t v h=>l t v (k t v h)
theorem zhk {nm nm':Tr TV}{d:Option Nat}{v:TV}(hd:zgh nm d v=some nm'):nm.sub nm'/\(∀t,d=some t->nm.get t=none/\nm'.get t=some v)/\∀t,d≠some t->nm'.get t=nm.get t:=by
 unfold zgh at hd
 split at hd
 ·injection hd with hd;subst hd;exact⟨.refl _,fun t h=>(by cases h),fun t _=>rfl⟩
 ·rename_i d
  split at hd
  ·rename_i hn;injection hd with hd;subst hd;refine⟨fun t u hu=>?_,fun t h=>?_,fun t h=>?_⟩
   ·rw[Tr.get_set]
    split
    ·rename_i e;subst e;rw[hn]at hu;cases hu
    ·exact hu
   ·injection h with h;subst h;exact⟨hn,by rw[Tr.get_set,if_pos rfl]⟩
   ·rw[Tr.get_set,if_neg (fun e=>h (by rw[e]))]
  ·cases hd
theorem zhs {df:List TD}{h:TH}{x:Option (Tr TV)}{s:DS}(hd:dput df h x=some s):∃nm,x=some nm/\s=⟨nm,df,h⟩:=by
 cases x with
 | none=>cases hd
 | some nm=>simp only[dput]at hd;injection hd with hd;exact⟨nm,rfl,hd.symm⟩
theorem znv {tm nm nm':Tr TV}(k:nm.sub nm'){x:TOp}{v:TV}(hv:zfR tm nm x=some v):zfR tm nm' x=some v:=by
 cases x<;>first|exact hv|exact k _ _ hv
theorem zdW {tm nm nm':Tr TV}(k:nm.sub nm'):∀{xs:List TOp} {vs:List TV},zdt tm nm xs=some vs->zdt tm nm' xs=some vs
 | [],vs,hv=>hv
 | x::xs,vs,hv=>by
  unfold zdt at hv⊢
  split at hv
  ·cases hv
  ·rename_i v h1
   split at hv
   ·cases hv
   ·rename_i us h2;rw[znv k h1,zdW k h2];exact hv
theorem zeW {tm nm nm':Tr TV}(k:nm.sub nm'){g:Option (TOp×Bool)}{b:Bool}(hv:zer tm nm g=some b):zer tm nm' g=some b:=by
 unfold zer at hv⊢
 split at hv
 ·exact hv
 ·rename_i x c
  cases hx:zfR tm nm x with
  | none=>rw[hx]at hv;cases hv
  | some v=>rw[hx]at hv;rw[znv k hx];exact hv
theorem znu (f:Nat->Option TV):∀(l:List Nat),∃tx:Tr TV,(∀t∈l,tx.get t=f t)/\∀t v,tx.get t=some v->t∈l/\f t=some v
 | []=>⟨.nil,fun t h=>by simp at h,fun t v h=>by simp[Tr.get_nil]at h⟩
 | t::l=>by
  obtain⟨tx,h1,h2⟩:=znu f l;refine⟨tx.set t (f t),fun u hu=>?_,fun u v hu=>?_⟩
  ·rw[Tr.get_set]
   split
   ·rename_i e;rw[e]
   ·rename_i e;rcases zAX9.1 hu with h|h
    ·exact absurd h e
    ·exact h1 u h
  ·rw[Tr.get_set]at hu
   split at hu
   ·rename_i e;subst e;exact⟨zAU9,hu⟩
   ·obtain⟨a,b⟩:=h2 u v hu;exact⟨zAT9 _ a,b⟩
def zm0 (all:List Item)(x:Item)(tm nm:Tr TV)(t:Nat):Option TV:=zfR tm nm (zma all x (.tmp t))
theorem zls {all:List Item}{x:Item}{tm nm tx:Tr TV}{y:TOp}(hy:zhO y=true)(ht:∀t,zqp y=some t->tx.get t=zm0 all x tm nm t):zeX tx y=zfR tm nm (zma all x y):=by
 cases y with
 | tmp t=>exact ht t rfl
 | new t=>cases hy
 | const v=>rfl
 | fn f=>rfl
theorem zlB {all:List Item}{x:Item}{tm nm tx:Tr TV}:∀{ys:List TOp},ys.all zhO=true->(∀y∈ys,∀t,zqp y=some t->tx.get t=zm0 all x tm nm t)->zdP tx ys=zdt tm nm (ys.map (zma all x))
 | [],_,_=>rfl
 | y::ys,hy,ht=>by
  simp only[List.all_cons,zAQ9]at hy;simp only[zdP,zdt,zCC9];rw[zls hy.1 (ht y zAU9),zlB hy.2 fun z hz=>ht z (zAT9 _ hz)]
theorem zu8 {all:List Item}{x:Item}{tm nm tx:Tr TV}{g:Option (TOp×Bool)}(hy:∀p b,g=some (p,b)->zhO p=true)(ht:∀p b t,g=some (p,b)->zqp p=some t->tx.get t=zm0 all x tm nm t):zmj tx g=zer tm nm (g.map fun p=>(zma all x p.1,p.2)):=by
 cases g with
 | none=>rfl
 | some p =>
  obtain⟨p,b⟩:=p;simp only[zmj,zer,Option.map_some];rw[zls (hy p b rfl) fun t h=>ht p b t rfl h]
theorem WR.set_none (k:WR P Z ρ h w){b:Nat}(hn:∀g,ρ b g=none)(x:TO):WR P Z ρ (h.set b x) w :=
 ⟨fun c g loc hl=>by
  obtain⟨a1,a2,a3⟩:=k.dom c g loc hl;have hcb:c≠b:=fun e=>by rw[e,hn g]at hl;cases hl
  refine⟨a1,a2.imp id fun⟨cs,h1⟩=>⟨cs,?_⟩,a3⟩;unfold TH.get TH.set at *
  dsimp only at *
  rw[Tr.get_set,if_neg hcb];exact h1,fun c g loc hl=>by
  obtain⟨o,ho,hr⟩:=k.obj c g loc hl;have hcb:c≠b:=fun e=>by rw[e,hn g]at hl;cases hl
  refine⟨o,?_,hr⟩;unfold TH.get TH.set at *
  dsimp only at *
  rw[Tr.get_set,if_neg hcb];exact ho,k.sep⟩
theorem WR.unset {b:Nat}{x y:TO}(k:WR P Z ρ (h.set b x) w)(hy:h.get b=some y)(he:OEq x y):WR P Z ρ h w :=
 ⟨fun c g loc hl=>by
  obtain⟨a1,a2,a3⟩:=k.dom c g loc hl;refine⟨a1,a2.imp id fun⟨cs,h1⟩=>?_,a3⟩;rw[TH.get_set _ _ _ _ (TH.get_lt hy)]at h1
  split at h1
  ·rename_i e;subst e;injection h1 with h1;exact absurd h1 (he.1 cs)
  ·exact⟨cs,h1⟩,fun c g loc hl=>by
  obtain⟨o,ho,hr⟩:=k.obj c g loc hl;rw[TH.get_set _ _ _ _ (TH.get_lt hy)]at ho
  split at ho
  ·rename_i e;subst e;injection ho with ho;subst ho;exact⟨y,hy,he.2 _ _ _ _ hr⟩
  ·exact⟨o,ho,hr⟩,k.sep⟩
end Tw
end Go.Proofs.YtfomlmhnmheenaaGreat
