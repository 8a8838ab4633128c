/- part 1 of the proof of dir_from. -/
import Derived.KernelRfl
import Derived.CallsIn
import Derived.RangeFuncLeaves
import Derived.OrdersIn
import Derived.Maps.AppendAt
import Derived.Below
import Derived.Laws.CopyOwn
import Derived.RangeFuncRecord
import Derived.Lib.Hide
import Derived.Laws.StructEq
import Derived.ChangeKeysEq
import Derived.Laws.Tables
import Derived.Laws.BytesString
import Derived.Lib.ConvBytes
import Derived.Lib.AppendZerosOnto
set_option linter.unusedSimpArgs false
set_option linter.unusedVariables false
set_option linter.defProp false
namespace Go.Proofs.YtkeknmgnoceogaaGreat
def zAA9:=@List.getElem?_eq_getElem
def zAB9:=@List.length_append
def zAD9:=@List.append_assoc
def zAC9:=@List.getElem?_eq_some_iff
def zAE9:=@Nat.le_refl
def zAF9:=@Nat.eq_of_beq_eq_true
def zAG9:=@List.length_cons
def zAH9:=@List.length_nil
def zAI9:=@List.getElem?_map
def zAJ9:=@List.mem_of_getElem?
def zAK9:=@List.mem_map
def zAL9:=@Nat.zero_le
def zAM9:=@Nat.le_of_ble_eq_true
def zAS9:=@List.getElem?_append_left
def zAT9:=@List.getElem?_set_ne
def zAU9:=@List.getElem?_append_right
def zAO9:=@List.mem_cons_of_mem
def zAR9:=@List.cons_append
def zAP9:=@List.getD_eq_getElem?_getD
def zAN9:=@List.length_take
def zAQ9:=@List.drop_eq_getElem_cons
def zAV9:=@List.mem_cons_self
def zAW9:=@Bool.and_eq_true
def zAX9:=@List.length_map
def zBL9:=@List.getElem?_cons_succ
def zAY9:=@List.getElem?_set_self
def zBA9:=@List.mem_cons
def zAZ9:=@List.map_nil
def zBB9:=@List.nil_append
def zBC9:=@Nat.lt_of_lt_of_le
def zBD9:=@List.map_append
def zBE9:=@List.mem_flatMap
def zBF9:=@List.mem_append
def zBJ9:=@Nat.le_trans
def zBG9:=@List.length_drop
def zBH9:=@List.mem_iff_getElem
def zBI9:=@List.take_of_length_le
def zBK9:=@List.getElem_mem
def zBM9:=@List.mem_of_mem_drop
def zBN9:=@Nat.zero_add
def zBO9:=@List.mem_singleton
def zBS9:=@List.take_length
def zBX9:=@Array.getElem?_toList
def zBQ9:=@List.take_add_one
def zBP9:=@List.mem_of_mem_take
def zBR9:=@List.flatMap_cons
def zDC9:=@List.set_cons_succ
def zBT9:=@Array.getElem?_eq_some_iff
def zBU9:=@List.length_set
def zBV9:=@Nat.mul_le_mul_right
def zBW9:=@Array.getElem?_eq_getElem
def zBY9:=@List.eq_nil_of_length_eq_zero
def zBZ9:=@List.map_cons
def zCG9:=@List.set_append_right
def zCA9:=@Nat.blt_eq
def zCB9:=@List.all_eq_true
def zCD9:=@Bool.false_eq_true
def zCE9:=@Nat.lt_succ_self
def zCF9:=@List.length_replicate
def zCH9:=@Nat.add_mul
def zCI9:=@List.length_pos_iff
def zCJ9:=@Nat.mod_eq_of_lt
def zCC9:=@List.drop_length
def zCK9:=@Int.eq_ofNat_of_zero_le
def zCY9:=@List.getElem?_take
def zDB9:=@List.set_cons_zero
def zCL9:=@List.mem_filter
def zCM9:=@List.replicate_succ
def zCX9:=@List.getElem?_eq_none
def zCN9:=@List.map_drop
def zCO9:=@Nat.pow_le_pow_right
def zDG9:=@List.append_nil
def zCP9:=@Nat.succ_pos
def zCQ9:=@List.set_append_left
def zCR9:=@List.not_mem_nil
def zCS9:=@List.drop_of_length_le
def zCT9:=@List.getLast?_eq_none_iff
def zCV9:=@Nat.succ_mul
def zCW9:=@List.eq_of_mem_replicate
def zCZ9:=@Int.natCast_nonneg
def zDA9:=@Array.getD_eq_getD_getElem?
def zDD9:=@Nat.add_zero
def zCU9:=@List.map_take
def zDE9:=@Nat.add_comm
def zDF9:=@List.mem_range
def zDH9:=@Nat.min_eq_left
def zDI9:=@List.range_succ
def zDJ9:=@List.take_append_of_le_length
def zDP9:=@Nat.lt_or_ge
def zDK9:=@List.drop_take
def zDL9:=@Int.toNat_natCast
def zDM9:=@Bool.true_and
def zDN9:=@List.drop_drop
def zDO9:=@List.getLast?_eq_getElem?
def zDQ9:=@List.dropLast_concat
def zDR9:=@List.set_set
def zDS9:=@List.size_toArray
def zDT9:=@List.drop_append_of_le_length
def zDU9:=@List.length_eq_zero_iff
def zDV9:=@Nat.add_sub_cancel_left
def zDW9:=@Array.length_toList
def zDX9:=@Array.toList_map
def zGB9:=@Nat.le_add_right
def zDY9:=@Nat.xor_lt_two_pow
def zDZ9:=@List.map_replicate
def zEP9:=@List.take_append_drop
def zEA9:=@Array.size_append
def zEB9:=@List.getElem?_zip_eq_some
def zEC9:=@List.getLast?_concat
def zED9:=@List.drop_zero
def zEE9:=@List.take_take
def zEF9:=@Bool.cond_eq_ite
def zEG9:=@List.map_map
def zEH9:=@List.map_set
def zEI9:=@List.flatMap_append
def zEJ9:=@List.map_congr_left
def zEK9:=@Nat.add_assoc
def zEL9:=@List.any_cons
def zEM9:=@Nat.mod_lt
def zFP9:=@List.nodup_cons
def zEN9:=@Bool.false_ne_true
def zEO9:=@List.length_eq_one_iff
def zEQ9:=@List.mem_append_right
def zER9:=@Nat.mul_comm
def zES9:=@List.length_singleton
def zET9:=@List.getElem?_append
def zEU9:=@Array.toList_setIfInBounds
def zEV9:=@Array.getElem?_append_left
def zEW9:=@Int.tdiv_eq_ediv_of_nonneg
def zEX9:=@Int.tmod_eq_emod_of_nonneg
def zEY9:=@List.drop_succ_cons
def zEZ9:=@List.foldl_cons
def zFA9:=@Nat.div_le_self
def zFB9:=@List.getElem?_drop
def zFC9:=@Bool.or_true
def zGC9:=@List.getElem?_cons_zero
def zFD9:=@Nat.testBit_mul_two_pow
def zFE9:=@Bool.not_eq_true'
def zFF9:=@List.foldl_append
def zFG9:=@Bool.false_or
def zFH9:=@Bool.or_false
def zFI9:=@Array.getElem?_modify
def zFJ9:=@List.mem_iff_getElem?
def zFK9:=@Array.getElem?_setIfInBounds_ne
def zFL9:=@Nat.beq_eq
def zFM9:=@Int.natCast_mul
def zFN9:=@List.mem_append_left
def zFO9:=@Nat.pow_succ
def zFQ9:=@List.of_mem_zip
def zFR9:=@List.mem_of_getLast?
def zFS9:=@List.dropLast_subset
def zFT9:=@Bool.true_or
def zFU9:=@List.take_succ_cons
def zFV9:=@Nat.mul_add
def zFW9:=@Nat.pow_pos
def zFX9:=@Nat.and_lt_two_pow
def zFY9:=@List.findIdx?_cons
def zFZ9:=@Nat.pos_of_ne_zero
def zGA9:=@List.mem_filterMap
def zGD9:=@Nat.lt_of_le_of_lt
def zGE9:=@Nat.add_sub_cancel
def zGG9:=@Bool.eq_false_iff
def zGK9:=@List.ext_getElem?
def zGH9:=@List.reverse_cons
end Go.Proofs.YtkeknmgnoceogaaGreat
namespace Go.Proofs.YtkeknmgnoceogaaGreat
theorem zo {P:Prop}(h:P:=by omega):P:=h
namespace Tw
noncomputable section
inductive Tr (α:Type) where
 | nil
 | node (l:Tr α) (v:Option α) (r:Tr α)
def Tr.get {α:Type}(t:Tr α):Nat->Option α :=
 Tr.rec (motive:=fun _=>Nat->Option α) (fun _=>none) (fun _ v _ gl gr n=>bif Nat.beq n 0 then v else bif Nat.beq (n%2) 1 then gl (n/2)else gr (n/2-1)) t
def Tr.setN {α:Type}(x:Option α)(d:Nat):Tr α->Nat->Tr α :=
 Nat.rec (motive:=fun _=>Tr α->Nat->Tr α) (fun t _=>t) (fun _ f t n=>Tr.rec (motive:=fun _=>Tr α)
  (bif Nat.beq n 0 then .node .nil x .nil else bif Nat.beq (n%2) 1 then .node (f .nil (n/2)) none .nil else .node .nil none (f .nil (n/2-1)))
  (fun l v r _ _=>bif Nat.beq n 0 then .node l x r else bif Nat.beq (n%2) 1 then .node (f l (n/2)) v r else .node l v (f r (n/2-1))) t) d
theorem Tr.get_none {α:Type}(n:Nat):(Tr.nil:Tr α).get n=none:=rfl
theorem Tr.get_node {α:Type}(l r:Tr α)(v:Option α)(n:Nat):(Tr.node l v r).get n=bif Nat.beq n 0 then v else bif Nat.beq (n%2) 1 then l.get (n/2)else r.get (n/2-1):=rfl
theorem Tr.setN_none {α:Type}(x:Option α)(d n:Nat):Tr.setN x (d+1) .nil n=bif Nat.beq n 0 then .node .nil x .nil else bif Nat.beq (n%2) 1 then .node (Tr.setN x d .nil (n/2)) none .nil else .node .nil none (Tr.setN x d .nil (n/2-1)):=rfl
theorem Tr.setN_node {α:Type}(x:Option α)(d:Nat)(l r:Tr α)(v:Option α)(n:Nat):Tr.setN x (d+1) (.node l v r) n=bif Nat.beq n 0 then .node l x r else bif Nat.beq (n%2) 1 then .node (Tr.setN x d l (n/2)) v r else .node l v (Tr.setN x d r (n/2-1)):=rfl
def Tr.set {α:Type}(t:Tr α)(n:Nat)(x:Option α):Tr α:=Tr.setN x (n+1) t n
def Tr.putL {α:Type}:Tr α->Nat->List α->Tr α
 | t,_,[]=>t
 | t,n,x::l=>Tr.putL (t.set n (some x)) (n+1) l
def Tr.getL {α:Type}(t:Tr α):Nat->Nat->Option (List α)
 | _,0=>some []
 | i,n+1=>match t.get i with
  | none=>none
  | some x=>match Tr.getL t (i+1) n with
   | none=>none
   | some l=>some (x::l)
inductive TV where
 | bool (b:Bool)
 | int (k:IntKind) (n:Int)
 | str (s:List Nat)
 | nilptr
 | ptr (b g o e:Nat)
 | nilsl
 | sl (b g o n q z:Nat)
 | nilmap
 | map (b:Nat)
 | fn (f:Nat) (cap:List TV)
 | yield (l:Nat)
 | nilfn
 | iface (t:Nat) (v:TV)
 | niliface
 | agg (vs:List TV)
 | tuple (vs:List TV)
 deriving Inhabited
def TV.cells:TV->List TV
 | .agg l=>l
 | .tuple _=>[]
 | v=>[v]
inductive TOp where
 | tmp (t:Nat)
 | new (t:Nat)
 | const (v:TV)
 | fn (f:Nat)
inductive zZ where
 | mov
 | pick
 | load (agg:Bool) (n:Nat)
 | nilchk
 | bin (op:BinOp)
 | eqnil (neg:Bool) (f:Nat)
 | eqB (neg:Bool)
 | cstr
 | eqagg (neg:Bool) (ks:List Nat)
 | un (op:UnOp)
 | conv (k:IntKind)
 | mkif (t:Nat)
 | mkfn (f:Nat)
 | slice (esz:Nat) (lo hi mx:Bool)
 | slstr (lo hi:Bool)
 | slarr (len esz:Nat) (lo hi:Bool)
 | faddr (off size:Nat)
 | fld (agg:Bool) (off size:Nat)
 | iaddr (esz:Nat)
 | iaddrA (len esz:Nat)
 | idxstr
 | idxagg (len:Nat) (agg:Bool) (esz:Nat)
 | look (kf:Nat) (zero:TV) (ok:Bool)
 | tassert (t:Nat) (zero:TV) (ok:Bool)
 | extr (i:Nat)
 | len (f:Nat)
 | maxI
 | minI
 | build (zero:List TV) (places:List (Nat×Nat))
 | box (e n:Nat)
 | alloc (e:Nat) (zero:List TV)
 | bslice (e esz len:Nat) (zero:List TV) (places:List (Nat×Nat))
 | mkslice (e esz bytes:Nat) (zero:List TV)
 | mkmap
 | store (n:Nat)
 | mupd (kf:Nat)
 | ment (kf:Nat) (zero:TV)
 | estore
 | append (e esz bytes:Nat)
 | appz (e esz bytes:Nat) (zero:List TV)
 | tobytes (e:Nat)
 | tostr
 | copy (esz:Nat)
 | call
 | panic
 | defer
def zZ.cls:zZ->Nat
 | .box .. | .alloc .. | .bslice .. | .mkslice .. | .mkmap | .tobytes ..=>1
 | .store .. | .mupd .. | .ment .. | .estore | .append .. | .appz .. | .copy .. | .call | .panic | .defer=>2
 | _=>0
structure zbo where
 dst:Option Nat
 kind:zZ
 args:List TOp
 guard:Option (TOp×Bool)
structure zcF where
 chk:List zbo
 exe:List zbo
 act:Option zbo
inductive zbI where
 | skip
 | region (ops:List zbo)
 | drawn (zc2:List zcF) (ds:List Nat)
 | seq (a b:zbI)
 | cond (c:TOp) (thn els:zbI)
 | block (id:Nat) (body:zbI)
 | loop (body:zbI)
 | rangef (f:TOp) (params:List Nat) (assign body:zbI)
 | exit (id:Nat)
 | scope (body:zbI) (l:Nat) (rest:zbI)
 | scope0 (body:zbI)
 | goto (l:Nat)
 | ret
inductive TX where
 | norm|exit (id:Nat)|goto (l:Nat)|ret|panic (v:TV)
inductive TD where
 | caught (p clear:TV)
 | mark (b:Nat)
structure zcD where
 k:TV
 v:TV
 n:Nat
inductive TO where
 | row (e G M len:Nat) (cells:Tr TV)
 | map (es:List zcD) (clock:Nat)
 | dfr (shut:Bool)
 | loop (st:LoopState) (pending:TX) (tm:Tr TV) (params:List Nat) (assign body:zbI) (df:Nat)
 | ro (cells:Tr TV)
structure TH where
 next:Nat
 objs:Tr TO
structure St where
 tm:Tr TV
 df:List TD
 h:TH
def TH.push (h:TH)(o:TO):TH:=⟨h.next+1,h.objs.set h.next (some o)⟩
def TH.get (h:TH)(b:Nat):Option TO:=bif Nat.blt b h.next then h.objs.get b else none
def TH.set (h:TH)(b:Nat)(o:TO):TH:=⟨h.next,h.objs.set b (some o)⟩
def St.put (s:St)(d:Option Nat)(v:TV):St:=match d with
 | none=>s
 | some d=>⟨s.tm.set d (some v),s.df,s.h⟩
def zhp:Int->Int->Bool
 | .ofNat a,.ofNat b=>Nat.beq a b
 | .negSucc a,.negSucc b=>Nat.beq a b
 | _,_=>false
def ile (a b:Int):Bool:=match b-a with
 | .ofNat _=>true
 | .negSucc _=>false
def kno:IntKind->Nat
 | .i8=>0 | .i16=>1 | .i32=>2 | .i64=>3 | .u8=>4 | .u16=>5 | .u32=>6 | .u64=>7
def zdH:List Nat->List Nat->Bool
 | [],[]=>true
 | a::l,b::m=>bif Nat.beq a b then zdH l m else false
 | _,_=>false
def zkS (f:TV->TV->Bool):List TV->List TV->Bool
 | [],[]=>true
 | a::l,b::m=>bif f a b then zkS f l m else false
 | _,_=>false
def zsQ (x:Bool):TV->Bool
 | .bool y=>bif x then y else bif y then false else true
 | _=>false
def zrw (k:IntKind)(x:Int):TV->Bool
 | .int k' y=>bif Nat.beq (kno k) (kno k')then zhp x y else false
 | _=>false
def zvh (s:List Nat):TV->Bool
 | .str t=>zdH s t
 | _=>false
def zm4 (b g o e:Nat):TV->Bool
 | .ptr b' g' o' e'=>bif Nat.beq b b' then bif Nat.beq g g' then bif Nat.beq o o' then Nat.beq e e' else false else false else false
 | _=>false
def zqd (b g o n q z:Nat):TV->Bool
 | .sl b' g' o' n' q' z'=>bif Nat.beq b b' then bif Nat.beq g g' then bif Nat.beq o o' then bif Nat.beq n n' then bif Nat.beq q q' then Nat.beq z z' else false else false else false else false else false
 | _=>false
def zvt (b:Nat):TV->Bool
 | .map b'=>Nat.beq b b'
 | _=>false
def zq0 (l:Nat):TV->Bool
 | .yield m=>Nat.beq l m
 | _=>false
def ztV (f:TV->TV->Bool)(g:Nat)(l:List TV):TV->Bool
 | .fn g' l'=>bif Nat.beq g g' then zkS f l l' else false
 | _=>false
def zl6 (f:TV->TV->Bool)(t:Nat)(v:TV):TV->Bool
 | .iface t' v'=>bif Nat.beq t t' then f v v' else false
 | _=>false
def zvn (f:TV->TV->Bool)(l:List TV):TV->Bool
 | .agg l'=>zkS f l l'
 | _=>false
def zqV (f:TV->TV->Bool)(l:List TV):TV->Bool
 | .tuple l'=>zkS f l l'
 | _=>false
def zfI:TV->Nat
 | .nilptr=>1 | .nilsl=>2 | .nilmap=>3 | .nilfn=>4 | .niliface=>5|_=>0
def TV.beq:Nat->TV->TV->Bool
 | 0,_,_=>false
 | n+1,a,b=>match a with
  | .bool x=>zsQ x b
  | .int k x=>zrw k x b
  | .str s=>zvh s b
  | .ptr c g o e=>zm4 c g o e b
  | .sl c g o n q z=>zqd c g o n q z b
  | .map c=>zvt c b
  | .fn f l=>ztV (TV.beq n) f l b
  | .iface t v=>zl6 (TV.beq n) t v b
  | .agg l=>zvn (TV.beq n) l b
  | .tuple l=>zqV (TV.beq n) l b
  | .yield l=>zq0 l b
  | .nilptr=>Nat.beq (zfI b) 1
  | .nilsl=>Nat.beq (zfI b) 2
  | .nilmap=>Nat.beq (zfI b) 3
  | .nilfn=>Nat.beq (zfI b) 4
  | .niliface=>Nat.beq (zfI b) 5
def zfl (tm:Tr TV):TOp->Option TV
 | .tmp t=>tm.get t
 | .new _=>none
 | .const v=>some v
 | .fn f=>some (.fn f [])
def zd8 (tm:Tr TV):List TOp->Option (List TV)
 | []=>some []
 | x::l=>match zfl tm x with
  | none=>none
  | some v=>match zd8 tm l with
   | none=>none
   | some vs=>some (v::vs)
def zgk (tm nm:Tr TV):TOp->Option TV
 | .tmp t=>tm.get t
 | .new t=>nm.get t
 | .const v=>some v
 | .fn f=>some (.fn f [])
def zdF (tm nm:Tr TV):List TOp->Option (List TV)
 | []=>some []
 | x::l=>match zgk tm nm x with
  | none=>none
  | some v=>match zdF tm nm l with
   | none=>none
   | some vs=>some (v::vs)
def zg4 (g o n:Nat):TO->Option (List TV)
 | .row _ G M _ cells=>bif Nat.ble M g then bif Nat.ble g G then cells.getL o n else none else none
 | .ro cells=>bif Nat.beq g 0 then cells.getL o n else none
 | _=>none
def zbL (h:TH)(b g o n:Nat):Option (List TV) :=
 match h.get b with
 | some x=>zg4 g o n x
 | none=>none
def zgI:IntKind->Nat
 | .i8=>7 | .i16=>15 | .i32=>31 | .i64=>63 | .u8=>8 | .u16=>16 | .u32=>32 | .u64=>64
def zjJ (f:Nat->Nat->Nat)(k:IntKind):Int->Int->Option TV
 | .ofNat a,.ofNat b=>bif Nat.blt a (2 ^ zgI k)then bif Nat.blt b (2 ^ zgI k)then some (.int k (.ofNat (f a b)))else none else none
 | _,_=>none
def zzU (k:IntKind)(a:Int):Int->Option TV
 | .ofNat n=>bif Nat.ble n 64 then some (.int k (k.wrap (a*2 ^ (min n k.bits))))else none
 | _=>none
def zzw (k:IntKind):Int->Int->Option TV
 | .ofNat a,.ofNat n=>bif Nat.ble n 64 then some (.int k (.ofNat (a/2 ^ (min n k.bits))))else none
 | _,_=>none
def zfy (op:BinOp)(k k':IntKind)(x y:Int):Option TV :=
 match op with
 | .shl=>zzU k x y
 | .shr=>zzw k x y
 | .add=>bif Nat.beq (kno k) (kno k')then some (.int k (k.wrap (x+y)))else none
 | .sub=>bif Nat.beq (kno k) (kno k')then some (.int k (k.wrap (x-y)))else none
 | .mul=>bif Nat.beq (kno k) (kno k')then some (.int k (k.wrap (x*y)))else none
 | .quo=>bif Nat.beq (kno k) (kno k')then(bif zhp y 0 then none else some (.int k (k.wrap (x.tdiv y))))else none
 | .rem=>bif Nat.beq (kno k) (kno k')then(bif zhp y 0 then none else some (.int k (x.tmod y)))else none
 | .and=>bif Nat.beq (kno k) (kno k')then zjJ Nat.land k x y else none
 | .or=>bif Nat.beq (kno k) (kno k')then zjJ Nat.lor k x y else none
 | .xor=>bif Nat.beq (kno k) (kno k')then zjJ Nat.xor k x y else none
 | .eql=>bif Nat.beq (kno k) (kno k')then some (.bool (zhp x y))else none
 | .neq=>bif Nat.beq (kno k) (kno k')then some (.bool (not (zhp x y)))else none
 | .lss=>bif Nat.beq (kno k) (kno k')then some (.bool (not (ile y x)))else none
 | .leq=>bif Nat.beq (kno k) (kno k')then some (.bool (ile x y))else none
 | .gtr=>bif Nat.beq (kno k) (kno k')then some (.bool (not (ile x y)))else none
 | .geq=>bif Nat.beq (kno k) (kno k')then some (.bool (ile y x))else none
 | .andNot=>none
def zg3:List Nat->List Nat->Bool
 | _,[]=>false
 | [],_::_=>true
 | a::l,b::m=>bif Nat.blt a b then true else bif Nat.beq a b then zg3 l m else false
def zxD (op:BinOp)(a b:List Nat):Option TV :=
 match op with
 | .eql=>some (.bool (zdH a b))
 | .neq=>some (.bool (not (zdH a b)))
 | .lss=>some (.bool (zg3 a b))
 | .gtr=>some (.bool (zg3 b a))
 | .leq=>some (.bool (not (zg3 b a)))
 | .geq=>some (.bool (not (zg3 a b)))
 | .add=>bif Nat.ble (a.length+b.length) 1000000 then some (.str (a++b))else none
 | _=>none
def zek (op:BinOp)(k:IntKind)(x:Int):TV->Option TV
 | .int k' y=>zfy op k k' x y
 | _=>none
def zx1 (op:BinOp)(a:List Nat):TV->Option TV
 | .str b=>zxD op a b
 | _=>none
def zcu (op:BinOp)(x y:TV):Option TV :=
 match x with
 | .int k a=>zek op k a y
 | .str a=>zx1 op a y
 | _=>none
def zry:TV->Option Bool
 | .nilptr=>some true
 | .ptr ..=>some false
 | _=>none
def zsc:TV->Option Bool
 | .nilsl=>some true
 | .sl ..=>some false
 | _=>none
def zru:TV->Option Bool
 | .nilmap=>some true
 | .map _=>some false
 | _=>none
def zbh:TV->Option Bool
 | .nilfn=>some true
 | .fn ..=>some false
 | _=>none
def zrF:TV->Option Bool
 | .niliface=>some true
 | .iface ..=>some false
 | _=>none
def znL (f:Nat)(x:TV):Option Bool:=match f with
 | 1=>zry x
 | 2=>zsc x
 | 3=>zru x
 | 4=>zbh x
 | 5=>zrF x
 | _=>none
def zL:Option Bool->Option Bool->Option Bool
 | some a,some b=>bif a then some b else bif b then some false else none
 | _,_=>none
def ziz (f:Nat)(x y:TV):Option Bool:=zL (znL f x) (znL f y)
def zld (k:Nat)(x y:TV):Option Bool :=
 match x with
 | .int j a=>bif Nat.beq k 1 then(match y with | .int j' b=>bif Nat.beq (kno j) (kno j')then some (zhp a b)else none|_=>none)else none
 | .bool a=>bif Nat.beq k 2 then(match y with | .bool b=>some (bif a then b else not b)|_=>none)else none
 | .str a=>bif Nat.beq k 3 then(match y with | .str b=>some (zdH a b)|_=>none)else none
 | _=>none
def zcs:List Nat->List TV->List TV->Option Bool
 | [],[],[]=>some true
 | k::ks,x::l,y::m=>match zld k x y with
  | some true=>zcs ks l m
  | r=>r
 | _,_,_=>none
def zgZ (x y:TV):Option Bool :=
 match x with
 | .int k a=>(match y with | .int k' b=>bif Nat.beq (kno k) (kno k')then some (zhp a b)else none|_=>none)
 | .str a=>(match y with | .str b=>some (zdH a b)|_=>none)
 | _=>none
def zft (k:TV):List zcD->Nat->Option (Option (Nat×zcD))
 | [],_=>some none
 | e::l,i=>match zgZ k e.k with
  | none=>none
  | some true=>some (some (i,e))
  | some false=>zft k l (i+1)
def zko:TV->Bool
 | .int ..=>true
 | _=>false
def zkR:TV->Bool
 | .str ..=>true
 | _=>false
def zfv (kf:Nat)(x:TV):Bool:=match kf with
 | 1=>zko x
 | 2=>zkR x
 | _=>false
def zxB:Int->Option Nat
 | .ofNat n=>some n
 | _=>none
def zeA:TV->Option Nat
 | .int _ n=>zxB n
 | _=>none
def zdx (x:TV)(m:Nat):Option Nat :=
 match zeA x with
 | some n=>bif Nat.ble n m then some n else none
 | none=>none
def zit (cells:List TV):List (Nat×Nat)->List TV->Option (List TV)
 | [],[]=>some cells
 | (off,size)::ps,v::vs =>
  let cs:=v.cells
  bif Nat.beq cs.length size then bif Nat.ble (off+size) cells.length then zit (cells.take off++cs++cells.drop (off+size)) ps vs else none else none
 | _,_=>none
def zdM {α:Type}(l:List α):Nat->List α
 | 0=>[]
 | n+1=>l++zdM l n
def zce (vs:List TV)(f:TV->Option TV):Option TV:=match vs with
 | [x]=>f x
 | _=>none
def zcv (vs:List TV)(f:TV->TV->Option TV):Option TV:=match vs with
 | [x,y]=>f x y
 | _=>none
def zul (vs:List TV):Option TV:=match vs with
 | [.bool c,a,b]=>some (bif c then a else b)
 | _=>none
def ziN (agg:Bool)(l:List TV):Option TV:=bif agg then some (.agg l)else match l with
 | [x]=>some x
 | _=>none
def zgn (agg:Bool)(n:Nat)(h:TH):TV->Option TV
 | .ptr b g o e=>bif Nat.ble n e then(match zbL h b g o n with|some l=>ziN agg l|none=>none)else none
 | _=>none
def zoS:TV->Option TV
 | .ptr b g o e=>some (.ptr b g o e)
 | .fn f c=>some (.fn f c)
 | _=>none
def zm9 (neg:Bool):Option Bool->Option TV
 | some b=>some (.bool (bif neg then not b else b))
 | none=>none
def zkM (neg:Bool)(ks:List Nat)(x y:TV):Option TV:=match x with
 | .agg l=>(match y with | .agg m=>bif Nat.beq l.length ks.length then bif Nat.beq m.length ks.length then zm9 neg (zcs ks l m)else none else none|_=>none)
 | _=>none
def zn8 (neg:Bool)(x y:TV):Option TV:=match x with
 | .bool a=>(match y with | .bool b=>some (.bool (bif neg then(bif a then not b else b)else bif a then b else not b))|_=>none)
 | _=>none
def zt6:TV->Option TV
 | .str s=>some (.str s)
 | _=>none
def zwZ:TV->Option TV
 | .bool b=>some (.bool (not b))
 | _=>none
def zwW:TV->Option TV
 | .int k n=>some (.int k (k.wrap (0-n)))
 | _=>none
def zzL:TV->Option TV
 | .int .u64 n=>zfy .xor .u64 .u64 (.ofNat 18446744073709551615) n
 | _=>none
def pUn (op:UnOp)(x:TV):Option TV:=match op with
 | .not=>zwZ x
 | .neg=>zwW x
 | .xor=>zzL x
 | _=>none
def zlf (k:IntKind):TV->Option TV
 | .int _ n=>some (.int k (k.wrap n))
 | _=>none
def zho (b g o z:Nat)(x:TV)(h q:Nat):Option TV:=match zdx x h with
 | some l=>some (.sl b g (o+l*z) (h-l) (q-2*l) z)
 | none=>none
def zut (b g o q z:Nat)(x:TV):Option TV:=match zdx x (q/2)with
 | some h=>some (.sl b g o h q z)
 | none=>none
def znN (b g o q z:Nat)(x y:TV):Option TV:=match zdx y (q/2)with
 | some h=>zho b g o z x h q
 | none=>none
def zp8 (b g o q z:Nat)(x y m:TV):Option TV:=match zdx m (q/2)with
 | some m=>(match zdx y m with|some h=>zho b g o z x h (2*m+1)|none=>none)
 | none=>none
def zfV (lo hi mx:Bool)(b g o n q z:Nat)(bs:List TV):Option TV :=
 match bs with
 | []=>bif lo then none else bif hi then none else bif mx then none else some (.sl b g o n q z)
 | [x]=>bif mx then none else bif lo then(bif hi then none else zho b g o z x n q)else bif hi then zut b g o q z x else none
 | [x,y]=>bif mx then none else bif lo then bif hi then znN b g o q z x y else none else none
 | [x,y,m]=>bif lo then bif hi then bif mx then zp8 b g o q z x y m else none else none else none
 | _=>none
def zkr (lo hi mx:Bool)(bs:List TV):Option TV:=bif mx then none else
 match bs with
 | []=>bif lo then none else bif hi then none else some .nilsl
 | [x]=>(match zdx x 0 with|some _=>bif lo then(bif hi then none else some .nilsl)else bif hi then some .nilsl else none|none=>none)
 | _=>none
def zem (esz:Nat)(lo hi mx:Bool)(x:TV)(bs:List TV):Option TV:=match x with
 | .nilsl=>zkr lo hi mx bs
 | .sl b g o n q z=>bif Nat.beq esz z then zfV lo hi mx b g o n q z bs else none
 | _=>none
def zhS (esz:Nat)(lo hi mx:Bool)(vs:List TV):Option TV:=match vs with
 | x::bs=>zem esz lo hi mx x bs
 | []=>none
def ztl (lo hi:Bool)(s:List Nat)(bs:List TV):Option TV:=match bs with
 | []=>bif lo then none else bif hi then none else some (.str s)
 | [x]=>bif lo then(bif hi then none else match zdx x s.length with|some l=>some (.str (s.drop l))|none=>none)else bif hi then(match zdx x s.length with|some l=>some (.str (s.take l))|none=>none)else none
 | [x,y]=>bif lo then bif hi then(match zdx y s.length with|some h=>(match zdx x h with|some l=>some (.str ((s.take h).drop l))|none=>none)|none=>none)else none else none
 | _=>none
def zku (lo hi:Bool)(vs:List TV):Option TV:=match vs with
 | .str s::bs=>ztl lo hi s bs
 | _=>none
def zmx (len esz:Nat)(lo hi:Bool)(vs:List TV):Option TV:=match vs with
 | [.ptr b g o e]=>bif lo then none else bif hi then none else bif Nat.ble (len*esz) e then some (.sl b g o len (2*len+1) esz)else none
 | _=>none
def ziW (off size:Nat):TV->Option TV
 | .ptr b g o e=>bif Nat.ble (off+size) e then some (.ptr b g (o+off) size)else none
 | _=>none
def nth:List TV->Nat->Option TV
 | [],_=>none
 | x::l,n=>match n with
  | 0=>some x
  | n+1=>nth l n
def zla (agg:Bool)(off size:Nat)(l:List TV):Option TV :=
 bif agg then(bif Nat.ble (off+size) l.length then some (.agg ((l.drop off).take size))else none)else nth l off
def zwC (agg:Bool)(off size:Nat):TV->Option TV
 | .agg l=>zla agg off size l
 | _=>none
def ziU (esz:Nat)(x y:TV):Option TV:=match x with
 | .sl b g o n _ z=>bif Nat.beq esz z then(match zeA y with|some i=>bif Nat.blt i n then some (.ptr b g (o+i*z) z)else none|none=>none)else none
 | _=>none
def zhI (len esz:Nat)(x y:TV):Option TV:=match x with
 | .ptr b g o e=>(match zeA y with|some i=>bif Nat.blt i len then bif Nat.ble (len*esz) e then some (.ptr b g (o+i*esz) esz)else none else none|none=>none)
 | _=>none
def zjV:List Nat->Nat->Option Nat
 | [],_=>none
 | x::l,n=>match n with
  | 0=>some x
  | n+1=>zjV l n
def zi1 (x y:TV):Option TV:=match x with
 | .str s=>(match zeA y with|some i=>(match zjV s i with|some c=>some (.int .u8 (.ofNat c))|none=>none)|none=>none)
 | _=>none
def znY (len:Nat)(agg:Bool)(esz:Nat)(x y:TV):Option TV:=match x with
 | .agg l=>(match zeA y with|some i=>bif Nat.blt i len then zla agg (i*esz) esz l else none|none=>none)
 | _=>none
def okT (ok:Bool)(v:TV)(b:Bool):TV:=bif ok then .tuple [v,.bool b]else v
def znz (zero:TV)(ok:Bool)(k:TV):TO->Option TV
 | .map es _=>(match zft k es 0 with
  | some (some (_,e))=>some (okT ok e.v true)
  | some none=>some (okT ok zero false)
  | none=>none)
 | _=>none
def zhu (kf:Nat)(zero:TV)(ok:Bool)(h:TH)(x k:TV):Option TV:=bif zfv kf k then(match x with
 | .nilmap=>some (okT ok zero false)
 | .map b=>(match h.get b with|some o=>znz zero ok k o|none=>none)
 | _=>none)else none
def zjg (t:Nat)(zero:TV)(ok:Bool):TV->Option TV
 | .iface t' v=>bif Nat.beq t t' then some (okT ok v true)else bif ok then some (.tuple [zero,.bool false])else none
 | .niliface=>bif ok then some (.tuple [zero,.bool false])else none
 | _=>none
def zp5 (i:Nat):TV->Option TV
 | .tuple l=>nth l i
 | _=>none
def zAa:TO->Option TV
 | .map es _=>some (.int .i64 (.ofNat es.length))
 | _=>none
def zyg:TV->Option TV
 | .nilsl=>some (.int .i64 (.ofNat 0))
 | .sl _ _ _ n _ _=>some (.int .i64 (.ofNat n))
 | _=>none
def zud (h:TH):TV->Option TV
 | .nilmap=>some (.int .i64 (.ofNat 0))
 | .map b=>(match h.get b with|some o=>zAa o|none=>none)
 | _=>none
def zp7:TV->Option TV
 | .str s=>some (.int .i64 (.ofNat s.length))
 | _=>none
def zou (f:Nat)(h:TH)(x:TV):Option TV:=match f with
 | 1=>zyg x
 | 2=>zud h x
 | 3=>zp7 x
 | _=>none
def ziR (mx:Bool)(x y:TV):Option TV:=match x with
 | .int k a=>(match y with | .int k' b=>bif Nat.beq (kno k) (kno k')then some (.int k (bif mx then(bif ile b a then a else b)else(bif ile a b then a else b)))else none|_=>none)
 | _=>none
def zmJ (zero:List TV)(places:List (Nat×Nat))(vs:List TV):Option TV:=match zit zero places vs with
 | some l=>some (.agg l)
 | none=>none
def zbs:List TV->Option (List Nat)
 | []=>some []
 | .int .u8 (.ofNat n)::l=>bif Nat.blt n 256 then(match zbs l with
  | some s=>some (n::s)
  | none=>none)else none
 | _=>none
def zgr (h:TH):TV->Option TV
 | .nilsl=>some (.str [])
 | .sl b g o n _ 1=>(match zbL h b g o n with
  | some l=>(match zbs l with
   | some s=>some (.str s)
   | none=>none)
  | none=>none)
 | _=>none
def pas (k:zZ)(vs:List TV)(h:TH):Option TV :=
 match k with
 | .mov=>zce vs some
 | .pick=>zul vs
 | .load agg n=>zce vs (zgn agg n h)
 | .nilchk=>zce vs zoS
 | .bin op=>zcv vs (zcu op)
 | .eqnil neg f=>zcv vs fun x y=>zm9 neg (ziz f x y)
 | .eqagg neg ks=>zcv vs (zkM neg ks)
 | .eqB neg=>zcv vs (zn8 neg)
 | .cstr=>zce vs zt6
 | .un op=>zce vs (pUn op)
 | .conv k=>zce vs (zlf k)
 | .mkif t=>zce vs fun x=>some (.iface t x)
 | .mkfn f=>some (.fn f vs)
 | .slice esz lo hi mx=>zhS esz lo hi mx vs
 | .slstr lo hi=>zku lo hi vs
 | .slarr len esz lo hi=>zmx len esz lo hi vs
 | .faddr off size=>zce vs (ziW off size)
 | .fld agg off size=>zce vs (zwC agg off size)
 | .iaddr esz=>zcv vs (ziU esz)
 | .iaddrA len esz=>zcv vs (zhI len esz)
 | .idxstr=>zcv vs zi1
 | .idxagg len agg esz=>zcv vs (znY len agg esz)
 | .look kf zero ok=>zcv vs (zhu kf zero ok h)
 | .tassert t zero ok=>zce vs (zjg t zero ok)
 | .extr i=>zce vs (zp5 i)
 | .len f=>zce vs (zou f h)
 | .maxI=>zcv vs (ziR true)
 | .minI=>zcv vs (ziR false)
 | .build zero places=>zmJ zero places vs
 | .tostr=>zce vs (zgr h)
 | _=>none
def zcd (e:Nat)(l:List TV):TO:=.row e 0 0 l.length (Tr.putL .nil 0 l)
structure zdy where
 o:TO
 v:TV
def zoi (e n b:Nat)(vs:List TV):Option zdy:=match vs with
 | [v]=>bif Nat.beq v.cells.length n then some ⟨zcd e v.cells,.ptr b 0 0 n⟩else none
 | _=>none
def zkx (e:Nat)(zero:List TV)(b:Nat)(vs:List TV):Option zdy:=match vs with
 | []=>some ⟨zcd e zero,.ptr b 0 0 zero.length⟩
 | _=>none
def zhG (e esz len:Nat)(zero:List TV)(places:List (Nat×Nat))(b:Nat)(vs:List TV):Option zdy :=
 bif Nat.ble (len*esz) 16777216 then(match zit (zdM zero len) places vs with
  | some l=>some ⟨zcd e l,.sl b 0 0 len (2*len) esz⟩
  | none=>none)else none
def zgH (e esz bytes:Nat)(zero:List TV)(b:Nat)(vs:List TV):Option zdy:=match vs with
 | [x,y]=>(match zeA x,zeA y with
  | some n,some c=>bif Nat.ble n c then bif Nat.ble c 1000000 then bif Nat.ble (c*bytes) 140737488355328 then some ⟨zcd e (zdM zero n),.sl b 0 0 n (2*n) esz⟩else none else none else none
  | _,_=>none)
 | _=>none
def zkI (b:Nat)(vs:List TV):Option zdy:=match vs with
 | []=>some ⟨.map [] 0,.map b⟩
 | [.int _ _]=>some ⟨.map [] 0,.map b⟩
 | _=>none
def zgR (e b:Nat)(vs:List TV):Option zdy:=match vs with
 | [.str s]=>bif Nat.ble s.length 1000000 then some ⟨zcd e (s.map fun n=>.int .u8 (.ofNat n)),.sl b 0 0 s.length (2*s.length) 1⟩else none
 | _=>none
def lay (k:zZ)(vs:List TV)(b:Nat):Option zdy :=
 match k with
 | .box e n=>zoi e n b vs
 | .alloc e zero=>zkx e zero b vs
 | .bslice e esz len zero places=>zhG e esz len zero places b vs
 | .mkslice e esz bytes zero=>zgH e esz bytes zero b vs
 | .mkmap=>zkI b vs
 | .tobytes e=>zgR e b vs
 | _=>none
inductive TE where
 | ret (v:TV)
 | panic (v:TV)
structure zbS where
 fn:Nat->List TV->TH->Option (TE×TH)
 rd:Nat->List TV->TH->Option (Bool×TH)
def znd (h:TH)(b g o:Nat)(l:List TV):TO->Option TH
 | .row e G _ len cells=>bif Nat.beq g G then bif Nat.ble (o+l.length) len then some (h.set b (.row e G G len (cells.putL o l)))else none else none
 | _=>none
def zet (h:TH)(b g o:Nat)(l:List TV):Option TH :=
 match h.get b with
 | some x=>znd h b g o l x
 | none=>none
def zeG (h:TH)(esz:Nat)(x:TV)(n:Nat):Option (List TV):=match x with
 | .nilsl=>some []
 | .sl b g o _ _ z=>bif Nat.beq esz z then zbL h b g o (n*z)else none
 | _=>none
def lenV:TV->Nat
 | .sl _ _ _ n _ _=>n
 | .str s=>s.length
 | _=>0
inductive TR where
 | ok (v:TV) (h:TH)
 | panic (v:TV) (h:TH)
 | dfr (d:TD)
def zkm (h:TH)(e esz bytes m:Nat)(news:List TV):Option TR :=
 bif Nat.ble (m*(bytes+1)) 140737488355328 then some (.ok (.sl h.next 0 0 m (2*m) esz) (h.push (zcd e news)))else none
def zmw (h:TH)(e bytes b g n z m:Nat)(news:List TV):TO->Option TR
 | .row e' G M len cells =>
  bif Nat.beq e e' then bif Nat.beq g G then bif Nat.beq (n*z) len then bif Nat.ble ((n+m)*(bytes+1)) 140737488355328 then
   some (.ok (.sl b (G+1) 0 (n+m) (2*(n+m)) z) (h.set b (.row e' (G+1) M (len+news.length) (cells.putL len news))))
  else none else none else none else none
 | _=>none
def zhm (h:TH)(e esz bytes:Nat)(s:TV)(m:Nat)(news:List TV):Option TR :=
 match s with
 | .nilsl=>bif Nat.beq m 0 then some (.ok .nilsl h)else zkm h e esz bytes m news
 | .sl b g o n q z=>bif Nat.beq m 0 then some (.ok (.sl b g o n q z) h)else
  bif Nat.beq o 0 then bif Nat.beq (q%2) 0 then bif Nat.beq esz z then(match h.get b with
  | some r=>zmw h e bytes b g n z m news r
  | none=>none)else none else none else none
 | _=>none
def ztH (h:TH)(e esz bytes:Nat)(s x:TV):Option TR :=
 match zeG h esz x (lenV x)with
 | none=>none
 | some news=>zhm h e esz bytes s (lenV x) news
def setE (i:Nat)(k v:TV)(es:List zcD):List zcD:=match es with
 | []=>[]
 | e::l=>match i with
  | 0=>⟨k,v,e.n⟩::l
  | i+1=>e::setE i k v l
def znw (n:Nat)(v:TV):List zcD->Option (List zcD)
 | []=>none
 | e::l=>bif Nat.beq e.n n then some (⟨e.k,v,e.n⟩::l)else match znw n v l with
  | none=>none
  | some l'=>some (e::l')
def zhi (n:Nat)(h:TH)(vs:List TV):Option TR:=match vs with
 | [.ptr b g o e,v]=>bif Nat.beq v.cells.length n then bif Nat.ble n e then(match zet h b g o v.cells with
  | some h=>some (.ok (.tuple []) h)
  | none=>none)else none else none
 | _=>none
def zrr (h:TH)(b:Nat)(k v:TV):TO->Option TR
 | .map es clock=>(match zft k es 0 with
   | none=>none
   | some none=>some (.ok (.tuple []) (h.set b (.map (es++[⟨k,v,clock⟩]) (clock+1))))
   | some (some (i,_))=>some (.ok (.tuple []) (h.set b (.map (setE i k v es) clock))))
 | _=>none
def zg0 (kf:Nat)(h:TH)(vs:List TV):Option TR:=match vs with
 | [.map b,k,v]=>bif zfv kf k then(match h.get b with|some o=>zrr h b k v o|none=>none)else none
 | _=>none
def zuq (zero:TV)(h:TH)(b:Nat)(k:TV):TO->Option TR
 | .map es clock=>(match zft k es 0 with
   | none=>none
   | some none=>some (.ok (.tuple [zero,.int .i64 (.ofNat clock)]) (h.set b (.map (es++[⟨k,zero,clock⟩]) (clock+1))))
   | some (some (_,e))=>some (.ok (.tuple [e.v,.int .i64 (.ofNat e.n)]) h))
 | _=>none
def zqi (kf:Nat)(zero:TV)(h:TH)(vs:List TV):Option TR:=match vs with
 | [.map b,k]=>bif zfv kf k then(match h.get b with|some o=>zuq zero h b k o|none=>none)else none
 | _=>none
def zwV (h:TH)(b n:Nat)(v:TV):TO->Option TR
 | .map es clock=>(match znw n v es with
   | none=>none
   | some es=>some (.ok (.tuple []) (h.set b (.map es clock))))
 | _=>none
def zlq (h:TH)(vs:List TV):Option TR:=match vs with
 | [.map b,s,v]=>(match zeA s with|some n=>(match h.get b with|some o=>zwV h b n v o|none=>none)|none=>none)
 | _=>none
def zfY (e esz bytes:Nat)(h:TH)(vs:List TV):Option TR:=match vs with
 | [s,x]=>ztH h e esz bytes s x
 | _=>none
def zjn (e esz bytes:Nat)(zero:List TV)(h:TH)(vs:List TV):Option TR:=match vs with
 | [s,.int _ (.ofNat m)]=>bif Nat.ble m 1000000 then bif Nat.ble (m*(bytes+1)) 140737488355328 then zhm h e esz bytes s m (zdM zero m)else none else none
 | _=>none
def zgp (esz:Nat)(h:TH)(vs:List TV):Option TR:=match vs with
 | [d,x]=>let m:=min (lenV x) (lenV d);(match zeG h esz x m with
  | none=>none
  | some news=>match d with
   | .nilsl=>some (.ok (.int .i64 (.ofNat 0)) h)
   | .sl b g o _ _ z=>bif Nat.beq m 0 then some (.ok (.int .i64 (.ofNat 0)) h)else bif Nat.beq esz z then(match zet h b g o news with
    | some h=>some (.ok (.int .i64 (.ofNat m)) h)
    | none=>none)else none
   | _=>none)
 | _=>none
def zk9:Option (TE×TH)->Option TR
 | some (.ret v,h)=>some (.ok v h)
 | some (.panic v,h)=>some (.panic v h)
 | none=>none
def zqH:Option (Bool×TH)->Option TR
 | some (b,h)=>some (.ok (.bool b) h)
 | none=>none
def zk2 (C:zbS)(h:TH)(vs:List TV):Option TR:=match vs with
 | .fn f cap::args=>zk9 (C.fn f (args++cap) h)
 | .yield l::args=>zqH (C.rd l args h)
 | _=>none
def zvi (h:TH)(vs:List TV):Option TR:=match vs with
 | [.iface t v]=>some (.panic (.iface t v) h)
 | _=>none
def zqr (caught:Tr Unit)(vs:List TV):Option TR:=match vs with
 | [.fn f [],p,c]=>(match caught.get f with
  | some _=>some (.dfr (.caught p c))
  | none=>none)
 | _=>none
def act (C:zbS)(caught:Tr Unit)(k:zZ)(vs:List TV)(h:TH):Option TR :=
 match k with
 | .store n=>zhi n h vs
 | .mupd kf=>zg0 kf h vs
 | .ment kf zero=>zqi kf zero h vs
 | .estore=>zlq h vs
 | .append e esz bytes=>zfY e esz bytes h vs
 | .appz e esz bytes zero=>zjn e esz bytes zero h vs
 | .copy esz=>zgp esz h vs
 | .call=>zk2 C h vs
 | .panic=>zvi h vs
 | .defer=>zqr caught vs
 | _=>none
def zg8 (b:Bool):Option TV->Option Bool
 | some (.bool c)=>some (bif b then c else not c)
 | some _=>some false
 | none=>none
def zmf (tm:Tr TV):Option (TOp×Bool)->Option Bool
 | none=>some true
 | some (x,b)=>zg8 b (zfl tm x)
def zev (tm nm:Tr TV):Option (TOp×Bool)->Option Bool
 | none=>some true
 | some (x,b)=>zg8 b (zgk tm nm x)
inductive TS where
 | go (s:St)
 | panic (v:TV) (s:St)
def znR (d:Option Nat)(s:St):Option TR->Option TS
 | some (.ok v h)=>some (.go ((⟨s.tm,s.df,h⟩:St).put d v))
 | some (.panic v h)=>some (.panic v ⟨s.tm,s.df,h⟩)
 | some (.dfr x)=>some (.go ((⟨s.tm,x::s.df,s.h⟩:St).put d (.tuple [])))
 | none=>none
def zzX (d:Option Nat)(s:St):Option zdy->Option TS
 | some x=>some (.go ((⟨s.tm,s.df,s.h.push x.o⟩:St).put d x.v))
 | none=>none
def zzQ (d:Option Nat)(s:St):Option TV->Option TS
 | some v=>some (.go (s.put d v))
 | none=>none
def ziO (C:zbS)(caught:Tr Unit)(o:zbo)(s:St)(vs:List TV):Option TS :=
 match o.kind.cls with
 | 0=>zzQ o.dst s (pas o.kind vs s.h)
 | 1=>zzX o.dst s (lay o.kind vs s.h.next)
 | _=>znR o.dst s (act C caught o.kind vs s.h)
def zfH (C:zbS)(caught:Tr Unit)(o:zbo)(s:St):Option TS :=
 match zmf s.tm o.guard with
 | none=>none
 | some false=>some (.go (s.put o.dst (.tuple [])))
 | some true=>match zd8 s.tm o.args with
  | none=>none
  | some vs=>ziO C caught o s vs
def zeD (C:zbS)(caught:Tr Unit):List zbo->St->Option TS
 | [],s=>some (.go s)
 | o::l,s=>match zfH C caught o s with
  | some (.go s')=>zeD C caught l s'
  | r=>r
def zll:Nat->Nat->Tr TV->Tr TV->Bool
 | _,0,_,_=>true
 | i,n+1,a,b=>match a.get i,b.get i with
  | some x,some y=>bif TV.beq 4 x y then zll (i+1) n a b else false
  | _,_=>false
def zoW (a b:TO):Bool :=
 match a,b with
 | .row e G M n c,.row e' G' M' n' c'=>bif Nat.beq e e' then bif Nat.beq G G' then bif Nat.beq M M' then bif Nat.beq n n' then zll 0 n c c' else false else false else false else false
 | .map [] c,.map [] c'=>Nat.beq c c'
 | _,_=>false
def zeo:TV->Option Nat
 | .ptr b _ _ _ | .sl b _ _ _ _ _ | .map b=>some b
 | _=>none
def zgx (nm:Tr TV)(d:Option Nat)(v:TV):Option (Tr TV):=match d with
 | none=>some nm
 | some d=>match nm.get d with
  | none=>some (nm.set d (some v))
  | some _=>none
structure DS where
 nm:Tr TV
 df:List TD
 h:TH
def dput (df:List TD)(h:TH):Option (Tr TV)->Option DS
 | some nm=>some ⟨nm,df,h⟩
 | none=>none
def zqe (h:TH)(k:zZ)(vs:List TV)(u:TV):Bool:=match pas k vs h with
 | some v=>TV.beq 4 v u
 | none=>false
def zqj (h:TH)(k:zZ)(vs:List TV)(u:TV):Bool:=match zeo u with
 | none=>false
 | some b=>match lay k vs b with
  | some x=>(match h.get b with
   | some y=>bif TV.beq 4 x.v u then zoW x.o y else false
   | none=>false)
  | none=>false
def zqf (h:TH)(k:zZ)(vs:List TV):Option TV->Bool
 | some u=>(match k.cls with
  | 0=>zqe h k vs u
  | 1=>zqj h k vs u
  | _=>false)
 | none=>false
def zqg (tm:Tr TV)(s:DS)(o:zbo):Bool:=match o.dst with
 | none=>false
 | some d=>match zdF tm s.nm o.args with
  | some vs=>zqf s.h o.kind vs (s.nm.get d)
  | none=>false
def zg5 (tm:Tr TV)(s:DS)(o:zbo):Bool:=match zev tm s.nm o.guard with
 | none=>false
 | some false=>true
 | some true=>zqg tm s o
def zgF (tm:Tr TV)(s:DS):List zbo->Bool
 | []=>true
 | o::l=>bif zg5 tm s o then zgF tm s l else false
def zwp (s:DS)(d:Option Nat):Option TV->Option DS
 | some v=>dput s.df s.h (zgx s.nm d v)
 | none=>none
def zwy (s:DS)(d:Option Nat):Option zdy->Option DS
 | some x=>dput s.df (s.h.push x.o) (zgx s.nm d x.v)
 | none=>none
def zrZ (tm:Tr TV)(o:zbo)(s:DS):Option DS:=match zdF tm s.nm o.args with
 | none=>none
 | some vs=>match o.kind.cls with
  | 0=>zwp s o.dst (pas o.kind vs s.h)
  | 1=>zwy s o.dst (lay o.kind vs s.h.next)
  | _=>none
def zkd (tm:Tr TV)(o:zbo)(s:DS):Option DS:=match zev tm s.nm o.guard with
 | none=>none
 | some false=>dput s.df s.h (zgx s.nm o.dst (.tuple []))
 | some true=>zrZ tm o s
def ziG (tm:Tr TV):List zbo->DS->Option DS
 | [],s=>some s
 | o::l,s=>match zkd tm o s with
  | some s=>ziG tm l s
  | none=>none
inductive DR where
 | go (s:DS)
 | panic (v:TV) (df:List TD) (h:TH)
def dgo:Option DS->Option DR
 | some s=>some (.go s)
 | none=>none
def zka (d:Option Nat)(s:DS):Option TR->Option DR
 | some (.ok v h)=>dgo (dput s.df h (zgx s.nm d v))
 | some (.panic v h)=>some (.panic v s.df h)
 | some (.dfr x)=>dgo (dput (x::s.df) s.h (zgx s.nm d (.tuple [])))
 | none=>none
def zkH (C:zbS)(caught:Tr Unit)(tm:Tr TV)(o:zbo)(s:DS):Option DR:=match zev tm s.nm o.guard with
 | none=>none
 | some false=>dgo (dput s.df s.h (zgx s.nm o.dst (.tuple [])))
 | some true=>match zdF tm s.nm o.args with
  | none=>none
  | some vs=>zka o.dst s (act C caught o.kind vs s.h)
def zc2 (C:zbS)(caught:Tr Unit)(tm:Tr TV):List zcF->DS->Option DR
 | [],s=>some (.go s)
 | g::l,s=>bif zgF tm s g.chk then(match ziG tm g.exe s with
  | some s=>match g.act with
   | none=>zc2 C caught tm l s
   | some o=>match zkH C caught tm o s with
    | some (.go s)=>zc2 C caught tm l s
    | r=>r
  | none=>none)else none
def zjR (nm:Tr TV):List Nat->Tr TV->Tr TV
 | [],tm=>tm
 | d::l,tm=>zjR nm l (tm.set d (nm.get d))
def zgC:List Nat->Tr TV->Tr TV
 | [],tm=>tm
 | d::l,tm=>zgC l (tm.set d none)
def zij (f:St->Option (TX×St)):Nat->St->Option (TX×St)
 | 0,_=>none
 | n+1,s=>match f s with
  | some (.norm,s')=>zij f n s'
  | r=>r
def znH (dsts:Tr TV->Tr TV):Option TS->Option (TX×St)
 | some (.go s)=>some (.norm,s)
 | some (.panic v s)=>some (.panic v,{ s with tm:=dsts s.tm })
 | none=>none
def zkU (ds:List Nat)(tm:Tr TV):Option DR->Option (TX×St)
 | some (.go s)=>some (.norm,⟨zjR s.nm ds tm,s.df,s.h⟩)
 | some (.panic v df h)=>some (.panic v,⟨zgC ds tm,df,h⟩)
 | none=>none
def zd2:List zbo->Tr TV->Tr TV
 | [],tm=>tm
 | o::l,tm=>zd2 l (match o.dst with|some d=>tm.set d none|none=>tm)
structure zyi where
 h:TH
 df:List TD
 d:Nat
 l:Nat
def zyj:TO->Option Nat
 | .loop _ _ _ _ _ _ d=>some d
 | _=>none
def zkg (rnd:Option Nat)(s:St):Option zyi:=match rnd with
 | none=>some ⟨s.h.push (.dfr false),.mark s.h.next::s.df,s.h.next,s.h.next+1⟩
 | some l0=>match s.h.get l0 with
  | some o=>(match zyj o with
   | some d=>some ⟨s.h,s.df,d,s.h.next⟩
   | none=>none)
  | none=>none
def zyb (h:TH)(l:Nat)(tm:Tr TV)(df:List TD):TO->Option (TX×St)
 | .loop st pe tm' ps aS bo d=>(match st with
  | .busy=>none
  | _=>some (pe,⟨tm,df,h.set l (.loop .exhausted pe tm' ps aS bo d)⟩))
 | _=>none
def zq3 (l:Nat)(tm:Tr TV)(df:List TD):Option (TE×TH)->Option (TX×St)
 | some (.ret _,h)=>(match h.get l with
  | some o=>zyb h l tm df o
  | none=>none)
 | _=>none
def zmQ (C:zbS)(rnd:Option Nat)(g:Nat)(cap:List TV)(params:List Nat)(assign body:zbI)(s:St):Option (TX×St) :=
 match zkg rnd s with
 | none=>none
 | some x=>zq3 x.l s.tm x.df (C.fn g (.yield x.l::cap) (x.h.push (.loop .ready .norm s.tm params assign body x.d)))
def zbK (C:zbS)(caught:Tr Unit)(N:Nat)(rnd:Option Nat):zbI->St->Option (TX×St)
 | .skip,s=>some (.norm,s)
 | .region ops,s=>znH (zd2 ops) (zeD C caught ops s)
 | .drawn gs ds,s=>zkU ds s.tm (zc2 C caught s.tm gs ⟨.nil,s.df,s.h⟩)
 | .seq a b,s=>match zbK C caught N rnd a s with
  | some (.norm,s')=>zbK C caught N rnd b s'
  | r=>r
 | .cond c a b,s=>match zfl s.tm c with
  | some (.bool true)=>zbK C caught N rnd a s
  | some (.bool false)=>zbK C caught N rnd b s
  | _=>none
 | .block id b,s=>match zbK C caught N rnd b s with
  | some (.exit j,s')=>bif Nat.beq j id then some (.norm,s')else some (.exit j,s')
  | r=>r
 | .loop b,s=>zij (zbK C caught N rnd b) N s
 | .exit id,s=>some (.exit id,s)
 | .goto l,s=>some (.goto l,s)
 | .ret,s=>some (.ret,s)
 | .scope b l rest,s=>match zbK C caught N rnd b s with
  | some (.goto j,s')=>bif Nat.beq j l then(match zbK C caught N rnd rest s' with
   | some (.goto _,_)=>none
   | r=>r)else none
  | r=>r
 | .scope0 b,s=>match zbK C caught N rnd b s with
  | some (.goto _,_)=>none
  | r=>r
 | .rangef f params assign body,s =>
  match zfl s.tm f with
  | some (.fn g cap)=>zmQ C rnd g cap params assign body s
  | _=>none
inductive zl9 where
 | tmp (t:Nat)
 | cell (t:Nat) (agg:Bool) (n:Nat)
structure zc where
 body:zbI
 res:List zl9
 N:Nat
structure Env where
 funcs:Tr zc
 spec:Nat->Option (List TV->TH->Option (TE×TH))
 caught:Tr Unit
 errno:Nat
 N:Nat
def zhX (tm:Tr TV)(h:TH):List zl9->Option (List TV)
 | []=>some []
 | r::l=>match(match r with
   | .tmp t=>tm.get t
   | .cell t agg n=>match tm.get t with
    | some p=>pas (.load agg n) [p] h
    | none=>none)with
  | none=>none
  | some v=>match zhX tm h l with
   | none=>none
   | some vs=>some (v::vs)
def tup:List TV->TV
 | [v]=>v
 | l=>.tuple l
inductive TM where
 | returning
 | panicking (v:TV)
def zc5 (E:Env)(C:zbS):List TD->TM->TH->Option (TM×TH)
 | [],m,h=>some (m,h)
 | .mark b::l,m,h=>match h.get b with
  | some (.dfr false)=>zc5 E C l m (h.set b (.dfr true))
  | _=>none
 | .caught p c::l,m,h=>match m with
  | .returning=>zc5 E C l m h
  | .panicking (.iface t (.int .i64 n))=>bif Nat.beq t E.errno then(match c with
   | .fn g cap=>match C.fn g cap h with
    | some (.ret (.tuple []),h)=>match p with
     | .ptr b g 0 _=>match zet h b g 0 [.int .i64 n]with
      | some h=>zc5 E C l .returning h
      | none=>none
     | _=>none
    | _=>none
   | _=>none)else none
  | _=>none
def zim (E:Env)(F:zc)(tm:Tr TV):Option (TM×TH)->Option (TE×TH)
 | some (.returning,h)=>(match zhX tm h F.res with
  | some vs=>some (.ret (tup vs),h)
  | none=>none)
 | some (.panicking v,h)=>some (.panic v,h)
 | none=>none
def zxP (E:Env)(C:zbS)(F:zc):Option (TX×St)->Option (TE×TH)
 | some (x,s)=>(match x with
  | .norm=>zim E F s.tm (zc5 E C s.df .returning s.h)
  | .ret=>zim E F s.tm (zc5 E C s.df .returning s.h)
  | .panic v=>zim E F s.tm (zc5 E C s.df (.panicking v) s.h)
  | _=>none)
 | none=>none
def zbe (E:Env)(C:zbS)(f:Nat)(args:List TV)(h:TH):Option (TE×TH) :=
 match E.funcs.get f with
 | some F=>bif Nat.ble args.length F.N then zxP E C F (zbK C E.caught E.N none F.body ⟨Tr.putL .nil 0 args,[],h⟩)else none
 | none=>match E.spec f with
  | some g=>g args h
  | none=>none
def zhy:List Nat->List TV->Tr TV->Tr TV
 | p::ps,v::vs,t=>zhy ps vs (t.set p (some v))
 | _,_,t=>t
def ztR (x:TX)(h:TH)(l:Nat):TO->Option (Bool×TH)
 | .loop _ _ tm ps aS bo d=>(match x with
  | .norm=>some (true,h.set l (.loop .ready .norm tm ps aS bo d))
  | .panic _=>none
  | x=>some (false,h.set l (.loop .done x tm ps aS bo d)))
 | _=>none
def zjj (l:Nat):Option (TX×St)->Option (Bool×TH)
 | some (x,s)=>(match s.df with
  | []=>(match s.h.get l with
   | some o=>ztR x s.h l o
   | none=>none)
  | _=>none)
 | none=>none
def zqv (E:Env)(C:zbS)(l:Nat)(bo:zbI)(s:St):TO->Option (Bool×TH)
 | .loop st pe tm ps aS bo' d=>(match st with
  | .ready=>zjj l (zbK C .nil E.N (some l) bo ⟨s.tm,s.df,s.h.set l (.loop .busy pe tm ps aS bo' d)⟩)
  | _=>none)
 | _=>none
def zxh (E:Env)(C:zbS)(l:Nat)(bo:zbI):Option (TX×St)->Option (Bool×TH)
 | some (x,s)=>(match x with
  | .norm=>(match s.h.get l with
   | some o=>zqv E C l bo s o
   | none=>none)
  | _=>none)
 | none=>none
def zq6 (E:Env)(C:zbS)(l:Nat)(args:List TV)(h:TH):TO->Option (Bool×TH)
 | .loop _ _ tm ps aS bo _=>bif Nat.beq ps.length args.length then zxh E C l bo (zbK C .nil E.N (some l) aS ⟨zhy ps args tm,[],h⟩)else none
 | _=>none
def zoA (E:Env)(C:zbS)(l:Nat)(args:List TV)(h:TH):Option (Bool×TH) :=
 match h.get l with
 | some o=>zq6 E C l args h o
 | none=>none
def zdq (E:Env):Nat->zbS
 | 0=>⟨fun _ _ _=>none,fun _ _ _=>none⟩
 | d+1=>⟨zbe E (zdq E d),zoA E (zdq E d)⟩
end
end Tw
end Go.Proofs.YtkeknmgnoceogaaGreat
namespace Go.Proofs.YtkeknmgnoceogaaGreat
namespace Tw
def zjA:Value->Option TV
 | .bool b=>some (.bool b)
 | .int k n=>some (.int k n)
 | .string s=>some (.str (s.data.toList.map (·.toNat)))
 | .pointer none=>some .nilptr
 | .slice none 0 0=>some .nilsl
 | .map none=>some .nilmap
 | .nilFunc=>some .nilfn
 | .nilIface=>some .niliface
 | _=>none
def zcZ {α β:Type}(f:α->Option β):List α->Option (List β)
 | []=>some []
 | a::l=>match f a with
  | none=>none
  | some b=>match zcZ f l with
   | none=>none
   | some bs=>some (b::bs)
def znq:Value->Option TV
 | .agg cs=>match zcZ zjA cs.toList with
  | some l=>some (.agg l)
  | none=>none
 | .tuple cs=>match zcZ zjA cs.toList with
  | some l=>some (.tuple l)
  | none=>none
 | .iface t v=>match zjA v with
  | some v=>some (.iface t v)
  | none=>none
 | v=>zjA v
def opT:Operand->Option TOp
 | .tmp t=>some (.tmp t)
 | .const v=>(znq v).map .const
 | .func f=>some (.fn f)
 | .global _=>none
section
variable (P:Program)
def zdm (t:TypeId):Option Bool:=match P.underlying t with
 | some (.struct _)|some (.array ..)=>some true
 | some _=>some false
 | none=>none
def zbZ (t:TypeId):Option Nat:=match P.info? t with
 | some i=>if i.size=0 then none else some i.size
 | none=>none
def zh9 (t:TypeId):Option Nat:=(P.info? t).map (·.bytes)
def zdw (t:TypeId):Option TV:=match P.info? t with
 | some i=>match i.zero with
  | some z=>znq z
  | none=>none
 | none=>none
def zi4 (t:TypeId)(f:Nat):Option (Nat×Bool×Nat):=match P.underlying t with
 | some (.struct fs)=>match fs[f]? with
  | some x=>match zdm P x.type,zbZ P x.type with
   | some a,some n=>some (x.offset,a,n)
   | _,_=>none
  | none=>none
 | _=>none
def zlt (t:TypeId):Option TypeId:=match P.underlying t with
 | some (.slice e)=>some e
 | _=>none
def zkj (f:TypeId->Option (List Nat)):List Field->Nat->Option (List Nat)
 | [],_=>some []
 | x :: l, n => if x.name = "_" then none else if x.offset ≠ n then none else match f x.type, zbZ P x.type with
  | some ks,some z=>if ks.length=z then(match zkj f l (n+z)with
   | some ms=>some (ks++ms)
   | none=>none)else none
  | _,_=>none
def zj4 (ks:List Nat):Nat->List Nat
 | 0=>[]
 | n+1=>ks++zj4 ks n
def zeK:Nat->TypeId->Option (List Nat)
 | 0,_=>none
 | d+1,t=>match P.underlying t with
  | some (.int _)=>some [1]
  | some .bool=>some [2]
  | some .string=>some [3]
  | some (.struct fs)=>if P.stoodInHeld t then none else zkj P (zeK d) fs.toList 0
  | some (.array n e)=>match zeK d e,zbZ P e with
   | some ks,some z=>if ks.length=z then some (zj4 ks n)else none
   | _,_=>none
  | _=>none
def zmC (t:TypeId):Option (List Nat):=match P.underlying t with
 | some (.struct _)|some (.array ..)=>if P.eqGuardType P.depth t then none else zeK P 8 t
 | _=>none
def zyo (fs:List Field):Option (List (Nat×Nat)):=fs.mapM fun f=>(P.info? f.type).map fun i=>(f.offset,i.size)
def zol (pl:List (Nat×Nat))(p:Nat×Operand):Option (Nat×Nat):=match pl[p.1]? with
 | some q=>if q.2=0 then none else some q
 | none=>none
def zn3 (t:TypeId)(parts:List (Nat×Operand)):Option (List (Nat×Nat)):=match P.underlying t with
 | some (.struct fs)=>match zyo P fs.toList with
  | some pl=>zcZ (zol pl) parts
  | none=>none
 | some (.array _ e)=>match zbZ P e with
  | some n=>some (parts.map fun p=>(p.1*n,n))
  | none=>none
 | _=>none
def mk (k:zZ)(xs:List Operand):Option (zZ×List TOp):=match zcZ opT xs with
 | some l=>some (k,l)
 | none=>none
def zfO:Operand->Bool
 | .const _=>true
 | _=>false
def zrq (t:TypeId):Bool:=match P.underlying t with
 | some (.int _)=>true
 | _=>false
def zkY (t:TypeId):Bool:=match P.underlying t with
 | some (.int .u8)=>match zbZ P t with
  | some 1=>true
  | _=>false
 | _=>false
def opK (o:Op):Option (zZ×List TOp) :=
 match o with
 | .move x | .assign x=>mk .mov [x]
 | .pick c a b=>mk .pick [c,a,b]
 | .load t a=>match zdm P t,zbZ P t with
  | some g,some n=>mk (.load g n) [a]
  | _,_=>none
 | .store t a v=>match zbZ P t with
  | some n=>mk (.store n) [a,v]
  | none=>none
 | .nilCheck x=>mk .nilchk [x]
 | .binOp op t x y _=>match op,P.underlying t with
  | .eql,some (.int _) | .eql,some .string=>mk (.bin .eql) [x,y]
  | .neq,some (.int _) | .neq,some .string=>mk (.bin .neq) [x,y]
  | .eql,some .bool=>mk (.eqB false) [x,y]
  | .neq,some .bool=>mk (.eqB true) [x,y]
  | .eql,some (.struct _) | .eql,some (.array ..)=>match zmC P t with|some n=>mk (.eqagg false n) [x,y]|none=>none
  | .neq,some (.struct _) | .neq,some (.array ..)=>match zmC P t with|some n=>mk (.eqagg true n) [x,y]|none=>none
  | .eql,some (.pointer _)=>mk (.eqnil false 1) [x,y]
  | .eql,some (.slice _)=>mk (.eqnil false 2) [x,y]
  | .eql,some (.map ..)=>mk (.eqnil false 3) [x,y]
  | .eql,some (.func ..)=>mk (.eqnil false 4) [x,y]
  | .eql,some (.interface _)=>if zfO x||zfO y then mk (.eqnil false 5) [x,y]else none
  | .neq,some (.pointer _)=>mk (.eqnil true 1) [x,y]
  | .neq,some (.slice _)=>mk (.eqnil true 2) [x,y]
  | .neq,some (.map ..)=>mk (.eqnil true 3) [x,y]
  | .neq,some (.func ..)=>mk (.eqnil true 4) [x,y]
  | .neq,some (.interface _)=>if zfO x||zfO y then mk (.eqnil true 5) [x,y]else none
  | .eql,_ | .neq,_=>none
  | op,_=>mk (.bin op) [x,y]
 | .unOp op _ x=>mk (.un op) [x]
 | .convert src dst x=>match P.underlying src,P.underlying dst with
  | some (.int _),some (.int k)=>mk (.conv k) [x]
  | some .string,some .string=>mk .cstr [x]
  | some .string,some (.slice e)=>if zkY P e then mk (.tobytes e) [x]else none
  | some (.slice e),some .string=>if zkY P e then mk .tostr [x]else none
  | _,_=>none
 | .makeInterface t x=>match P.underlying t with
  | some (.interface _)|none=>none
  | _=>mk (.mkif t) [x]
 | .makeFunc (.func f) first captured=>if first.size=0 then mk (.mkfn f) captured.toList else none
 | .makeMap t r=>match P.underlying t,r with
  | some (.map ..),none=>mk .mkmap []
  | some (.map ..),some x=>mk .mkmap [x]
  | _,_=>none
 | .makeSlice t l c=>match zlt P t with
  | some e=>match zbZ P e,zh9 P e,zdw P e with
   | some n,some b,some z=>if z.cells.length=n then mk (.mkslice e n b z.cells) [l,c]else none
   | _,_,_=>none
  | none=>none
 | .slice t x lo hi mx=>match P.underlying t with
  | some (.slice e)=>match zbZ P e with
   | some n=>mk (.slice n lo.isSome hi.isSome mx.isSome) ([x]++lo.toList++hi.toList++mx.toList)
   | none=>none
  | some .string=>if mx.isSome then none else mk (.slstr lo.isSome hi.isSome) ([x]++lo.toList++hi.toList)
  | some (.array len e)=>if mx.isSome then none else match zbZ P e with
   | some n=>if len<=1000000 then mk (.slarr len n lo.isSome hi.isSome) ([x]++lo.toList++hi.toList)else none
   | none=>none
  | _=>none
 | .fieldAddr t x f=>match zi4 P t f with
  | some (o,_,n)=>mk (.faddr o n) [x]
  | none=>none
 | .field t x f=>match zi4 P t f with
  | some (o,a,n)=>mk (.fld a o n) [x]
  | none=>none
 | .indexAddr t x i=>match P.underlying t with
  | some (.slice e)=>match zbZ P e with
   | some n=>mk (.iaddr n) [x,i]
   | none=>none
  | some (.array len e)=>match zbZ P e with
   | some n=>mk (.iaddrA len n) [x,i]
   | none=>none
  | _=>none
 | .index t x i=>match P.underlying t with
  | some .string=>mk .idxstr [x,i]
  | some (.array len e)=>match zdm P e,zbZ P e with
   | some a,some n=>mk (.idxagg len a n) [x,i]
   | _,_=>none
  | _=>none
 | .lookup t m k ok=>match P.underlying t with
  | some (.map key e)=>match P.underlying key,zdw P e with
   | some (.int _),some z=>mk (.look 1 z ok) [m,k]
   | some .string,some z=>mk (.look 2 z ok) [m,k]
   | _,_=>none
  | _=>none
 | .mapUpdate t m k v | .insert t m k v=>match P.underlying t with
  | some (.map key _)=>match P.underlying key with
   | some (.int _)=>mk (.mupd 1) [m,k,v]
   | some .string=>mk (.mupd 2) [m,k,v]
   | _=>none
  | _=>none
 | .mapEntry t m k=>match P.underlying t with
  | some (.map key e)=>match P.underlying key,zdw P e with
   | some (.int _),some z=>mk (.ment 1 z) [m,k]
   | some .string,some z=>mk (.ment 2 z) [m,k]
   | _,_=>none
  | _=>none
 | .entryStore _ m s v=>mk .estore [m,s,v]
 | .typeAssert x _ t ok=>match P.underlying t,zdw P t with
  | some (.interface _),_|none,_|_,none=>none
  | _,some z=>mk (.tassert t z ok) [x]
 | .extract t i=>mk (.extr i) [t]
 | .alloc e=>match zdw P e,zbZ P e with
  | some z,some n=>if z.cells.length=n then mk (.alloc e z.cells) []else none
  | _,_=>none
 | .box e v=>match zbZ P e with
  | some n=>mk (.box e n) [v]
  | none=>none
 | .build t parts=>match zdw P t,zn3 P t parts.toList with
  | some (.agg z),some ps=>mk (.build z ps) (parts.toList.map (·.2))
  | _,_=>none
 | .buildSlice t len parts=>match zlt P t with
  | some e=>match zbZ P e,zdw P e with
   | some n,some z=>if z.cells.length=n then mk (.bslice e n len z.cells (parts.toList.map fun p=>(p.1*n,n))) (parts.toList.map (·.2))else none
   | _,_=>none
  | none=>none
 | .panic x=>mk .panic [x]
 | .defer { callee:=.value f,args,.. }=>mk .defer (f::args.toList)
 | .call { callee:=.value f,args,.. }=>mk .call (f::args.toList)
 | .call { callee:=.builtin b,args,argTypes }=>match b,argTypes.toList with
  | .append,[t,u]=>match zlt P t with
   | some e=>match zbZ P e,zh9 P e,zdw P e with
    | some n,some b,some z=>if z.cells.length=n then if u=t then mk (.append e n b) args.toList else if zrq P u then mk (.appz e n b z.cells) args.toList else none else none
    | _,_,_=>none
   | none=>none
  | .copy,[t,_]=>match zlt P t with
   | some e=>match zbZ P e with
    | some n=>mk (.copy n) args.toList
    | none=>none
   | none=>none
  | .len,[t]=>match P.underlying t with
   | some (.slice _)=>mk (.len 1) args.toList
   | some (.map ..)=>mk (.len 2) args.toList
   | some .string=>mk (.len 3) args.toList
   | _=>none
  | .max,_=>if args.size=2 then mk .maxI args.toList else none
  | .min,_=>if args.size=2 then mk .minI args.toList else none
  | .panic,_=>if args.size=1 then mk .panic args.toList else none
  | _,_=>none
 | _=>none
def zk0 (N:Nat)(ops:Array Oper)(o:Oper):Option zbo:=if(o.dst.all fun d=>decide (d<N))=false then none else match opK P o.op with
 | none=>none
 | some (k,args)=>match o.guard with
  | none=>some ⟨o.dst,k,args,none⟩
  | some (j,b)=>match(ops[j]?).bind (·.dst)with
   | some t=>some ⟨o.dst,k,args,some (.tmp t,b)⟩
   | none=>none
end
def zcM:List Oper->List Nat->List Nat
 | [],acc=>acc.reverse
 | o::l,acc =>
  let m:=o.after.toList.foldl (fun s e=>if Region.binds .any e then Nat.lor (Nat.lor s (2 ^ e.on)) (acc.reverse.getD e.on 0)else s) 0
  zcM l (m::acc)
structure Item where
 i:Nat
 o:zbo
 m:Nat
def zgi:List zbo->List Nat->Nat->List Item
 | o::l,m::ms,i=>⟨i,o,m⟩::zgi l ms (i+1)
 | _,_,_=>[]
def zkT:List Item->Bool
 | a::b::l=>b.m.testBit a.i&&zkT (b::l)
 | _=>true
def zfM (acts:List Item)(x:Item):Nat:=(acts.filter fun a=>x.m.testBit a.i).length
def zh4:TOp->Bool
 | .new _=>false
 | _=>true
def zqh:TOp->Option Nat
 | .tmp t=>some t
 | _=>none
def zj5 (o:zbo):List Nat:=(o.args++(match o.guard with|some (x,_)=>[x]|none=>[])).filterMap zqh
def zli (all:List Item):Bool :=
  all.all fun x =>
    (match x.o.dst with
     | none=>x.o.kind.cls==2
     | some d=>all.all fun y=>y.i==x.i || !(y.o.dst==some d)) &&
    (x.o.args.all zh4&&(match x.o.guard with|some (p,_)=>zh4 p|none=>true)) &&
    (zj5 x.o).all fun t=>all.all fun y=>!(y.o.dst==some t)||x.m.testBit y.i||y.m.testBit x.i
def zma (all:List Item)(x:Item):TOp->TOp
 | .tmp t=>if all.any fun y=>y.o.dst==some t&&x.m.testBit y.i then .new t else .tmp t
 | a=>a
def zc7 (all:List Item)(x:Item):zbo:=⟨x.o.dst,x.o.kind,x.o.args.map (zma all x),x.o.guard.map fun p=>(zma all x p.1,p.2)⟩
def zxv (all acts:List Item)(s:Nat):List zbo:=(all.filter fun x=>x.o.kind.cls != 2&&decide (zfM acts x<s)&&(acts.take s).all fun a=>!a.m.testBit x.i).map (zc7 all)
def zqY (all acts:List Item)(s:Nat):List zbo:=(all.filter fun x=>x.o.kind.cls != 2&&zfM acts x==s).map (zc7 all)
def zeM (all acts:List Item):Nat->List Item->List zcF
 | s,[]=>[⟨zxv all acts s,zqY all acts s,none⟩]
 | s,a::l=>⟨zxv all acts s,zqY all acts s,some (zc7 all a)⟩::zeM all acts (s+1) l
def zlp:List Oper->Nat->Bool
 | [],_=>true
 | o::l,i=>(o.after.all fun e=>!Region.binds .any e||decide (e.on<i))&&zlp l (i+1)
def znl (ops:List Oper)(os:List zbo):Option zbI :=
 let all:=zgi os (zcM ops []) 0
 let acts:=all.filter fun x=>x.o.kind.cls==2
 if zlp ops 0&&zkT acts&&zli all then some (.drawn (zeM all acts 0 acts) (all.filterMap fun x=>x.o.dst))else none
def zqE:Code->Option Nat
 | .label l=>some l
 | .seq a b=>match zqE a with
  | some l=>some l
  | none=>zqE b
 | _=>none
section
variable (P:Program)
def zcq (N:Nat):Nat->Code->Option zbI
 | 0,_=>none
 | n+1,c=>match c with
  | .skip | .label _=>some .skip
  | .region _ ops draw=>match zcZ (zk0 P N ops) ops.toList with
   | none=>none
   | some os=>if draw then znl ops.toList os else some (.region os)
  | .seq a b=>match zcq N n a,zcq N n b with
   | some a,some b=>some (.seq a b)
   | _,_=>none
  | .cond c a b=>match opT c,zcq N n a,zcq N n b with
   | some c,some a,some b=>some (.cond c a b)
   | _,_,_=>none
  | .block id b=>match zcq N n b with
   | some b=>some (.block id b)
   | none=>none
  | .loop b=>match zcq N n b with
   | some b=>some (.loop b)
   | none=>none
  | .rangeFunc f ps a b=>if(ps.toList.all fun d=>decide (d<N))=false then none else match opT f,zcq N n a,zcq N n b with
   | some f,some a,some b=>some (.rangef f ps.toList a b)
   | _,_,_=>none
  | .exit id=>some (.exit id)
  | .goto l=>some (.goto l)
  | .ret=>some .ret
  | .scope b=>match zqE b with
   | none=>match zcq N n b with
    | some b=>some (.scope0 b)
    | none=>none
   | some l=>match findLabel b l with
    | none=>none
    | some r=>match zcq N n b,zcq N n r with
     | some b,some r=>some (.scope b l r)
     | _,_=>none
  | .refuse _=>none
def zhA:ResultVar->Option zl9
 | .tmp t=>some (.tmp t)
 | .cell t ty=>match zdm P ty,zbZ P ty with
  | some a,some n=>some (.cell t a n)
  | _,_=>none
def zjr (F:Func):Option zc:=match F.body with
 | none=>none
 | some c=>match zcq P F.ntmps 1000 c,zcZ (zhA P) F.results.toList with
  | some c,some r=>some ⟨c,r,F.ntmps⟩
  | _,_=>none
end
end Tw
end Go.Proofs.YtkeknmgnoceogaaGreat
namespace Go.Proofs.YtkeknmgnoceogaaGreat
open Go.RowKit
namespace Tw
section tries
variable {α:Type}
theorem Tr.get_setN (x:Option α):∀(d:Nat) (t:Tr α) (n m:Nat),n<d->(Tr.setN x d t n).get m=if m=n then x else t.get m
 | 0,_,_,_,h=>absurd h (Nat.not_lt_zero _)
 | d+1,.nil,n,m,h=>by
  have ih1:=Tr.get_setN x d .nil (n/2) (m/2);have ih2:=Tr.get_setN x d .nil (n/2-1) (m/2-1);simp only[Tr.setN_none,Tr.get_none,zEF9,zFL9]at ih1 ih2⊢;have h2:(Tr.node .nil x .nil:Tr α).get m=if m=0 then x else none:=by simp only[Tr.get_node,Tr.get_none,zEF9,zFL9];grind
  have h3:∀t:Tr α,(Tr.node t none .nil).get m=if m=0 then none else if m%2=1 then t.get (m/2)else none:=fun t=>by simp only[Tr.get_node,Tr.get_none,zEF9,zFL9]
  have h4:∀t:Tr α,(Tr.node .nil none t).get m=if m=0 then none else if m%2=1 then none else t.get (m/2-1):=fun t=>by simp only[Tr.get_node,Tr.get_none,zEF9,zFL9]
  grind
 | d+1,.node l v r,n,m,h=>by
  have ih1:=Tr.get_setN x d l (n/2) (m/2);have ih2:=Tr.get_setN x d r (n/2-1) (m/2-1);simp only[Tr.setN_node,zEF9,zFL9]at ih1 ih2⊢;have h2:∀(l r:Tr α) (v:Option α),(Tr.node l v r).get m=if m=0 then v else if m%2=1 then l.get (m/2)else r.get (m/2-1):=fun l r v=>by simp only[Tr.get_node,zEF9,zFL9]
  grind
theorem Tr.get_set (t:Tr α)(n:Nat)(x:Option α)(m:Nat):(t.set n x).get m=if m=n then x else t.get m:=Tr.get_setN x (n+1) t n m (zCE9 _)
theorem Tr.get_nil (n:Nat):(Tr.nil:Tr α).get n=none:=rfl
theorem Tr.get_putL:∀(l:List α) (t:Tr α) (n m:Nat),(Tr.putL t n l).get m=if n<=m/\m<n+l.length then l[m-n]? else t.get m
 | [],t,n,m=>by simp only[Tr.putL,zAH9];rw[if_neg zo]
 | x::l,t,n,m=>by
  rw[Tr.putL,Tr.get_putL l _ (n+1) m,Tr.get_set]
  grind
theorem Tr.getL_some:∀{n i:Nat} {t:Tr α} {l:List α},Tr.getL t i n=some l->l.length=n/\∀j,j<n->l[j]?=t.get (i+j)
 | 0,i,t,l,h=>by simp[Tr.getL]at h;subst h;exact⟨rfl,fun j hj=>absurd hj (Nat.not_lt_zero _)⟩
 | n+1,i,t,l,h=>by
  unfold Tr.getL at h
  split at h
  ·cases h
  ·rename_i x hx
   split at h
   ·cases h
   ·rename_i l' hl';injection h with h;subst h;obtain⟨h1,h2⟩:=Tr.getL_some hl'
    grind
end tries
theorem zif {a b:Nat}(h:a<b):Nat.blt a b=true:=zCA9.mpr h
theorem zx9 {a b:Nat}(h:¬a<b):Nat.blt a b=false:=by
 cases hb:Nat.blt a b
 ·rfl
 ·exact absurd (zCA9.mp hb) h
theorem TH.get_push (h:TH)(o:TO)(b:Nat):(h.push o).get b=if b=h.next then some o else h.get b:=by
 unfold TH.get TH.push;dsimp only;rw[Tr.get_set]
 by_cases e:b=h.next
 ·subst e;rw[if_pos rfl,if_pos rfl,zif (zCE9 _)];rfl
 ·rw[if_neg e,if_neg e]
  by_cases hlt:b<h.next
  ·rw[zif hlt,zif (Nat.lt_succ_of_lt hlt)]
  ·rw[zx9 hlt,zx9 zo]
theorem TH.get_set (h:TH)(b:Nat)(o:TO)(c:Nat)(hb:b<h.next):(h.set b o).get c=if c=b then some o else h.get c:=by
 unfold TH.get TH.set;dsimp only;rw[Tr.get_set]
 by_cases e:c=b
 ·subst e;rw[if_pos rfl,if_pos rfl,zif hb];rfl
 grind
theorem TH.get_lt {h:TH}{b:Nat}{o:TO}(hg:h.get b=some o):b<h.next:=by
 unfold TH.get at hg
 cases hb:Nat.blt b h.next
 all_goals simp_all
theorem TH.next_push (h:TH)(o:TO):(h.push o).next=h.next+1:=rfl
theorem TH.next_set (h:TH)(b:Nat)(o:TO):(h.set b o).next=h.next:=rfl
structure Loc where
 r:Nat
 L:Nat
 S:Nat
abbrev Rho:=Nat->Nat->Option Loc
def TV.one:TV->Bool
 | .agg _ | .tuple _=>false
 | _=>true
inductive VR (ρ:Rho):TV->Value->Prop
 | bool (b:Bool):VR ρ (.bool b) (.bool b)
 | int (k:IntKind) (n:Int):VR ρ (.int k n) (.int k n)
 | str (s:ByteArray):VR ρ (.str (s.data.toList.map (·.toNat))) (.string s)
 | nilptr:VR ρ .nilptr (.pointer none)
 | ptr {b g o e:Nat} {loc:Loc} (h:ρ b g=some loc) (hc:o+e<=loc.L):VR ρ (.ptr b g o e) (.pointer (some ⟨loc.r,o,none⟩))
 | nilsl:VR ρ .nilsl (.slice none 0 0)
 | sl {b g o n q z o' c:Nat} {loc:Loc} (h:ρ b g=some loc) (hn:n<=q/2) (hq:q/2<=c) (hc:o+q/2*z<=loc.L) (ho:o'=o\/n=0/\c=0/\o≠0) (hs:q%2=0->o+c*z=loc.S) (hm:c<=maxLen) :
   VR ρ (.sl b g o n q z) (.slice (some ⟨loc.r,o',none⟩) n c)
 | nilmap:VR ρ .nilmap (.map none)
 | map {b:Nat} {loc:Loc} (h:ρ b 0=some loc):VR ρ (.map b) (.map (some loc.r))
 | fn {f:Nat} {l:List TV} {cs:List Value} (hl:l.length=cs.length) (h:∀(i:Nat) (x:TV) (y:Value),l[i]?=some x->cs[i]?=some y->VR ρ x y):VR ρ (.fn f l) (.func (.func f) #[] cs.toArray)
 | yield {l:Nat} {loc:Loc} (h:ρ l 0=some loc):VR ρ (.yield l) (.func (.yield loc.r) #[] #[])
 | nilfn:VR ρ .nilfn .nilFunc
 | iface {t:Nat} {v:TV} {v':Value} (h:VR ρ v v'):VR ρ (.iface t v) (.iface t v')
 | niliface:VR ρ .niliface .nilIface
 | agg {l:List TV} {cs:List Value} (hl:l.length=cs.length) (h1:∀x∈l,x.one=true) (h:∀(i:Nat) (x:TV) (y:Value),l[i]?=some x->cs[i]?=some y->VR ρ x y):VR ρ (.agg l) (.agg cs.toArray)
 | tuple {l:List TV} {cs:List Value} (hl:l.length=cs.length) (h:∀(i:Nat) (x:TV) (y:Value),l[i]?=some x->cs[i]?=some y->VR ρ x y):VR ρ (.tuple l) (.tuple cs.toArray)
def VL (ρ:Rho)(l:List TV)(cs:List Value):Prop:=l.length=cs.length/\∀(i:Nat) (x:TV) (y:Value),l[i]?=some x->cs[i]?=some y->VR ρ x y
theorem VL.nil (ρ:Rho):VL ρ [] []:=⟨rfl,fun i x y h=>by simp at h⟩
theorem VL.cons {ρ:Rho}{x:TV}{y:Value}{l:List TV}{cs:List Value}(h:VR ρ x y)(hl:VL ρ l cs):VL ρ (x::l) (y::cs) :=
 ⟨by simp[hl.1],fun i a b ha hb=>by
  cases i with
  | zero=>simp at ha hb;subst ha;subst hb;exact h
  | succ i=>simp at ha hb;exact hl.2 i a b ha hb⟩
theorem VL.of_cons {ρ:Rho}{x:TV}{l:List TV}{cs:List Value}(h:VL ρ (x::l) cs):∃y cs',cs=y::cs'/\VR ρ x y/\VL ρ l cs':=by
 cases cs with
 | nil=>have:=h.1;simp at this
 | cons y cs'=>exact⟨y,cs',rfl,h.2 0 x y rfl rfl,by have:=h.1;simpa using this,fun i a b ha hb=>h.2 (i+1) a b (by simpa using ha) (by simpa using hb)⟩
theorem VL.of_nil {ρ:Rho}{cs:List Value}(h:VL ρ [] cs):cs=[]:=by
 cases cs with
 | nil=>rfl
 | cons y cs'=>have:=h.1;simp at this
theorem VL.one {ρ:Rho}{x:TV}{y:Value}(h:VR ρ x y):VL ρ [x] [y]:=.cons h (.nil ρ)
theorem VL.app {ρ:Rho}{l m:List TV}{cs ds:List Value}(h:VL ρ l cs)(k:VL ρ m ds):VL ρ (l++m) (cs++ds):=by
 refine⟨by simp[h.1,k.1],fun i x y hx hy=>?_⟩;rw[zET9]at hx hy;rw[h.1]at hx
 split at hx
 ·rename_i hi;rw[if_pos hi]at hy;exact h.2 i x y hx hy
 ·rename_i hi;rw[if_neg hi]at hy;exact k.2 _ x y hx hy
theorem VL.drop {ρ:Rho}{l:List TV}{cs:List Value}(h:VL ρ l cs)(k:Nat):VL ρ (l.drop k) (cs.drop k) :=
 ⟨by simp[h.1],fun i x y hx hy=>h.2 (k+i) x y (by simpa using hx) (by simpa using hy)⟩
theorem VL.take {ρ:Rho}{l:List TV}{cs:List Value}(h:VL ρ l cs)(k:Nat):VL ρ (l.take k) (cs.take k):=by
 refine⟨by simp[h.1],fun i x y hx hy=>?_⟩;rw[zCY9]at hx hy
 split at hx
 ·rename_i hi;rw[if_pos hi]at hy;exact h.2 i x y hx hy
 ·cases hx
theorem VL.at {ρ:Rho}{l:List TV}{cs:List Value}(h:VL ρ l cs){i:Nat}{x:TV}(hx:l[i]?=some x):∃y,cs[i]?=some y/\VR ρ x y:=by
 have hi:i<cs.length:=by rw[<- h.1];exact(zAC9.1 hx).1
 exact⟨cs[i],zAA9 hi,h.2 i x _ hx (zAA9 hi)⟩
theorem VR.aggL {ρ:Rho}{l:List TV}{cs:List Value}(h:VL ρ l cs)(h1:∀x∈l,x.one=true):VR ρ (.agg l) (.agg cs.toArray):=.agg h.1 h1 h.2
theorem VR.tupL {ρ:Rho}{l:List TV}{cs:List Value}(h:VL ρ l cs):VR ρ (.tuple l) (.tuple cs.toArray):=.tuple h.1 h.2
theorem VR.fnL {ρ:Rho}{f:Nat}{l:List TV}{cs:List Value}(h:VL ρ l cs):VR ρ (.fn f l) (.func (.func f) #[] cs.toArray):=.fn h.1 h.2
theorem VR.undef (ρ:Rho):VR ρ (.tuple []) Go.undef:=VR.tupL (VL.nil ρ)
structure Rho.le (n:Nat)(ρ ρ':Rho):Prop where
 more:∀b g loc,ρ b g=some loc->ρ' b g=some loc
 none:∀b,b<n->(∀g,ρ b g=none)->∀g,ρ' b g=none
theorem Rho.le.refl (n:Nat)(ρ:Rho):Rho.le n ρ ρ:=⟨fun _ _ _ h=>h,fun _ _ h=>h⟩
theorem Rho.le.trans {n m:Nat}{ρ ρ' ρ'':Rho}(h:Rho.le n ρ ρ')(k:Rho.le m ρ' ρ'')(hnm:n<=m):Rho.le n ρ ρ'' :=
 ⟨fun b g loc hb=>k.more b g loc (h.more b g loc hb),fun b hb hn=>k.none b (zBC9 hb hnm) (h.none b hb hn)⟩
theorem VR.mono {ρ ρ':Rho}(hρ:∀b g loc,ρ b g=some loc->ρ' b g=some loc){v:TV}{v':Value}(h:VR ρ v v'):VR ρ' v v':=by
 induction h with
 | bool b=>exact .bool b
 | int k n=>exact .int k n
 | str s=>exact .str s
 | nilptr=>exact .nilptr
 | ptr h hc=>exact .ptr (hρ _ _ _ h) hc
 | nilsl=>exact .nilsl
 | sl h hn hq hc ho hs hm=>exact .sl (hρ _ _ _ h) hn hq hc ho hs hm
 | nilmap=>exact .nilmap
 | map h=>exact .map (hρ _ _ _ h)
 | fn hl _ ih=>exact .fn hl ih
 | yield h=>exact .yield (hρ _ _ _ h)
 | nilfn=>exact .nilfn
 | iface _ ih=>exact .iface ih
 | niliface=>exact .niliface
 | agg hl h1 _ ih=>exact .agg hl h1 ih
 | tuple hl _ ih=>exact .tuple hl ih
theorem VL.mono {ρ ρ':Rho}(hρ:∀b g loc,ρ b g=some loc->ρ' b g=some loc){l:List TV}{cs:List Value}(h:VL ρ l cs):VL ρ' l cs:=⟨h.1,fun i x y hx hy=>(h.2 i x y hx hy).mono hρ⟩
theorem VR.oneCell {ρ:Rho}{v:TV}{v':Value}(h:VR ρ v v')(h1:v.one=true):v'.oneCell'=true:=by
 cases h<;>first|rfl|(simp[TV.one]at h1)
theorem VR.cells {ρ:Rho}{v:TV}{v':Value}(h:VR ρ v v')(hn:v.cells ≠ []\/∃l,v=.agg l):VL ρ v.cells v'.cells.toList/\(∀x∈v.cells,x.one=true):=by
 cases h with
 | agg hl h1 h=>exact⟨⟨by simpa[TV.cells,Value.cells]using hl,by simpa[TV.cells,Value.cells]using h⟩,h1⟩
 | tuple hl h=>rcases hn with hn|⟨l,hn⟩<;>simp[TV.cells]at hn
 | bool b=>exact⟨VL.one (.bool b),by simp[TV.cells,TV.one]⟩
 | int k n=>exact⟨VL.one (.int k n),by simp[TV.cells,TV.one]⟩
 | str s=>exact⟨VL.one (.str s),by simp[TV.cells,TV.one]⟩
 | nilptr=>exact⟨VL.one .nilptr,by simp[TV.cells,TV.one]⟩
 | ptr h hc=>exact⟨VL.one (.ptr h hc),by simp[TV.cells,TV.one]⟩
 | nilsl=>exact⟨VL.one .nilsl,by simp[TV.cells,TV.one]⟩
 | sl h hn' hq hc ho hs hm=>exact⟨VL.one (.sl h hn' hq hc ho hs hm),by simp[TV.cells,TV.one]⟩
 | nilmap=>exact⟨VL.one .nilmap,by simp[TV.cells,TV.one]⟩
 | map h=>exact⟨VL.one (.map h),by simp[TV.cells,TV.one]⟩
 | fn hl h=>exact⟨VL.one (.fn hl h),by simp[TV.cells,TV.one]⟩
 | yield h=>exact⟨VL.one (.yield h),by simp[TV.cells,TV.one]⟩
 | nilfn=>exact⟨VL.one .nilfn,by simp[TV.cells,TV.one]⟩
 | iface h=>exact⟨VL.one (.iface h),by simp[TV.cells,TV.one]⟩
 | niliface=>exact⟨VL.one .niliface,by simp[TV.cells,TV.one]⟩
def EsR (ρ:Rho)(es:List zcD)(es':List MapEntry):Prop:=es.length=es'.length/\∀(i:Nat) (e:zcD) (e':MapEntry),es[i]?=some e->es'[i]?=some e'->VR ρ e.k e'.key/\VR ρ e.v e'.val/\e'.born=e.n
def PeR:TX->Option Code->Prop
 | .norm,c=>c=none
 | .exit id,c=>c=some (.exit id)
 | .goto l,c=>c=some (.goto l)
 | .ret,c=>c=some .ret
 | .panic _,_=>False
def TmR (ρ:Rho)(tm:Tr TV)(tmps:Array Value):Prop:=∀t v,tm.get t=some v->∃v',tmps[t]?=some v'/\VR ρ v v'
def znS (P:Program)(e:TypeId)(fz:Nat×Nat)(n:Nat):Prop:=fz=(0,0)\/zkY P e=true/\n<=fz.1
def zf6 (P:Program)(w:World)(r:Nat)(cur:Array Value)(e:TypeId):Prop:=∃fz,w.heap[r]?=some (.cells cur e fz)/\znS P e fz cur.size
theorem zf6.of {P:Program}{w:World}{r:Nat}{cur:Array Value}{e:TypeId}(h:w.heap[r]?=some (.cells cur e (0,0))):zf6 P w r cur e:=⟨_,h,.inl rfl⟩
theorem zf6.move {P:Program}{w w':World}{r:Nat}{cur:Array Value}{e:TypeId}(h:zf6 P w r cur e)(k:w'.heap[r]?=w.heap[r]?):zf6 P w' r cur e:=let ⟨fz,a,b⟩:=h;⟨fz,k.trans a,b⟩
theorem zf6.plain {P:Program}{w:World}{r:Nat}{cur:Array Value}{e:TypeId}(h:zf6 P w r cur e)(he:zkY P e=false):w.heap[r]?=some (.cells cur e (0,0)):=by
 obtain⟨fz,a,rfl|⟨b,_⟩⟩:=h
 ·exact a
 ·rw[he]at b;cases b
def OR (P:Program)(ρ:Rho)(b:Nat)(w:World):TO->Prop
 | .row e G M len cells=>M<=G/\(∀g loc,ρ b g=some loc->g<=G)/\∀g,M<=g->g<=G->∃loc cur,ρ b g=some loc/\zf6 P w loc.r cur e/\(g=G->cur.size=loc.S)/\loc.L<=len/\loc.L<=cur.size/\(g=G->loc.L=len) /\
   ∀i,i<loc.L->∃x v,cells.get i=some x/\cur[i]?=some v/\x.one=true/\VR ρ x v
 | .map es ck=>∃loc es',ρ b 0=some loc/\w.heap[loc.r]?=some (.map es' ck)/\EsR ρ es es'.toList
 | .dfr shut=>∃loc,ρ b 0=some loc/\w.heap[loc.r]?=some (.deferred (if shut=true then none else some []))
 | .loop st pe tm ps aS bo d=>∃loc rec locd N n m,ρ b 0=some loc/\ρ d 0=some locd/\w.heap[loc.r]?=some (.loop rec)/\rec.state=st/\PeR pe rec.pending/\TmR ρ tm rec.tmps/\N<=rec.tmps.size /\
   rec.params.toList=ps/\(∀p∈ps,p<N)/\zcq P N n rec.assign=some aS/\zcq P N m rec.body=some bo/\rec.defers=locd.r
 | .ro cells=>∀g loc,ρ b g=some loc->g=0/\∀i x,cells.get i=some x->∃v,w.cell? ⟨loc.r,i,none⟩=some v/\x.one=true/\VR ρ x v
def RO (h:TH)(b:Nat):Prop:=∃cs,h.get b=some (.ro cs)
structure WR (P:Program)(Z:Nat)(ρ:Rho)(h:TH)(w:World):Prop where
 dom:∀b g loc,ρ b g=some loc->b<h.next/\(Z<=loc.r\/RO h b)/\loc.r<w.heap.size
 obj:∀b g loc,ρ b g=some loc->∃o,h.get b=some o/\OR P ρ b w o
 sep:∀b b' g g' loc loc',ρ b g=some loc->ρ b' g'=some loc'->loc.r=loc'.r->Z<=loc.r->b=b'
theorem EsR.mono {ρ ρ':Rho}(hρ:∀b g loc,ρ b g=some loc->ρ' b g=some loc){es es'}(h:EsR ρ es es'):EsR ρ' es es' :=
 ⟨h.1,fun i e e' he he'=>let ⟨a,b,c⟩:=h.2 i e e' he he';⟨a.mono hρ,b.mono hρ,c⟩⟩
theorem TmR.mono {ρ ρ':Rho}(hρ:∀b g loc,ρ b g=some loc->ρ' b g=some loc){tm tmps}(h:TmR ρ tm tmps):TmR ρ' tm tmps :=
 fun t v hv=>let ⟨v',h1,h2⟩:=h t v hv;⟨v',h1,h2.mono hρ⟩
theorem OR.move {P:Program}{ρ ρ':Rho}(hρ:∀b g loc,ρ b g=some loc->ρ' b g=some loc){b:Nat}{w w':World}{o:TO}(hsame:∀g,ρ' b g=ρ b g)(hb:∀g loc,ρ b g=some loc->w'.heap[loc.r]?=w.heap[loc.r]?)(h:OR P ρ b w o):OR P ρ' b w' o:=by
 cases o with
 | row e G M len cells =>
  refine⟨h.1,fun g loc hg=>h.2.1 g loc (by rw[<- hsame];exact hg),fun g h1 h2=>?_⟩;obtain⟨loc,cur,hl,hc,r1,r2,r3,r4,r5⟩:=h.2.2 g h1 h2;refine⟨loc,cur,hρ _ _ _ hl,hc.move (hb _ _ hl),r1,r2,r3,r4,fun i hi=>?_⟩;obtain⟨x,v,c1,c2,c3,c4⟩:=r5 i hi;exact⟨x,v,c1,c2,c3,c4.mono hρ⟩
 | map es ck =>
  obtain⟨loc,es',hl,hc,he⟩:=h;exact⟨loc,es',hρ _ _ _ hl,(hb _ _ hl).trans hc,he.mono hρ⟩
 | dfr shut =>
  obtain⟨loc,hl,hc⟩:=h;exact⟨loc,hρ _ _ _ hl,(hb _ _ hl).trans hc⟩
 | loop st pe tm ps aS bo d =>
  obtain⟨loc,rec,locd,N,n,m,hl,hd,hc,r1,r2,r3,r4⟩:=h;exact⟨loc,rec,locd,N,n,m,hρ _ _ _ hl,hρ _ _ _ hd,(hb _ _ hl).trans hc,r1,r2,r3.mono hρ,r4⟩
 | ro cells =>
  intro g loc hl;rw[hsame]at hl;obtain⟨h1,h2⟩:=h g loc hl;refine⟨h1,fun i x hx=>?_⟩;obtain⟨v,v1,v2,v3⟩:=h2 i x hx;exact⟨v,by rw[World.cell?,hb _ _ hl];exact v1,v2,v3.mono hρ⟩
theorem WR.own {P:Program}{Z:Nat}{ρ:Rho}{h:TH}{w:World}(k:WR P Z ρ h w){b g:Nat}{loc:Loc}(hl:ρ b g=some loc){x:TO}(hx:h.get b=some x)(hn:∀cs,x ≠ .ro cs):Z<=loc.r:=by
 rcases(k.dom b g loc hl).2.1 with h1|⟨cs,h1⟩
 all_goals grind
theorem WR.drew {P:Program}{Z:Nat}{ρ:Rho}{h:TH}{w:World}(k:WR P Z ρ h w):WR P Z ρ h w.drew :=
 ⟨k.dom,fun b g loc hl=>let ⟨o,ho,hr⟩:=k.obj b g loc hl;⟨o,ho,hr.move (fun _ _ _ h=>h) (fun _=>rfl) (fun _ _ _=>rfl)⟩,k.sep⟩
theorem WR.world {P:Program}{Z:Nat}{ρ:Rho}{h:TH}{w w':World}(k:WR P Z ρ h w)(hs:w.heap.size<=w'.heap.size)(hb:∀r,r<w.heap.size->w'.heap[r]?=w.heap[r]?):WR P Z ρ h w' :=
  ⟨fun b g loc hl=>let ⟨a,b,c⟩:=k.dom b g loc hl;⟨a,b,zBC9 c hs⟩,
   fun b g loc hl=>let ⟨o,ho,hr⟩:=k.obj b g loc hl;⟨o,ho,hr.move (fun _ _ _ h=>h) (fun _=>rfl) (fun g loc hg=>hb _ (k.dom b g loc hg).2.2)⟩,k.sep⟩
theorem WR.push {P:Program}{Z:Nat}{ρ:Rho}{h:TH}{w:World}(k:WR P Z ρ h w)(o:TO):WR P Z ρ (h.push o) w :=
  ⟨fun b g loc hl=>let ⟨a,b,c⟩:=k.dom b g loc hl;⟨Nat.lt_succ_of_lt a,b.imp id fun⟨cs,h⟩=>⟨cs,by rw[TH.get_push,if_neg zo];exact h⟩,c⟩,
   fun b g loc hl=>by
    obtain⟨x,hx,hr⟩:=k.obj b g loc hl;have hlt:=(k.dom b g loc hl).1;exact⟨x,by rw[TH.get_push,if_neg zo];exact hx,hr⟩,k.sep⟩
def Rho.add (ρ:Rho)(b:Nat)(g:Nat)(loc:Loc):Rho:=fun c k=>if c=b/\k=g then some loc else ρ c k
theorem Rho.add_same (ρ:Rho)(b g:Nat)(loc:Loc):ρ.add b g loc b g=some loc:=by simp[Rho.add]
theorem Rho.add_more {ρ:Rho}{b g:Nat}{loc:Loc}(hn:ρ b g=none):∀c k l,ρ c k=some l->ρ.add b g loc c k=some l:=fun c k l h=>by
 unfold Rho.add
 grind
theorem Rho.add_ne {ρ:Rho}{b g:Nat}{loc:Loc}{c:Nat}(hc:c≠b)(k:Nat):ρ.add b g loc c k=ρ c k:=by
 unfold Rho.add;rw[if_neg (fun e=>hc e.1)]
theorem Rho.add_inv {ρ:Rho}{b g:Nat}{loc:Loc}{c k:Nat}{l:Loc}(h:ρ.add b g loc c k=some l):(c=b/\k=g/\l=loc)\/ρ c k=some l:=by
 unfold Rho.add at h
 grind
theorem WR.real {P:Program}{Z:Nat}{ρ:Rho}{h:TH}{w:World}(k:WR P Z ρ h w){b:Nat}(hn:∀g,ρ b g=none)(hb:b<h.next)(hZ:Z<=w.heap.size){x:TO}(hx:h.get b=some x){o:Obj}{L S:Nat}
  (hr:OR P (ρ.add b 0 ⟨w.heap.size,L,S⟩) b (w.alloc o) x):WR P Z (ρ.add b 0 ⟨w.heap.size,L,S⟩) h (w.alloc o):=by
 have hm:=Rho.add_more (loc:=⟨w.heap.size,L,S⟩) (hn 0);refine⟨fun c g loc hl=>?_,fun c g loc hl=>?_,fun c c' g g' loc loc' hl hl' e hZ1=>?_⟩
 ·rcases Rho.add_inv hl with⟨rfl,rfl,rfl⟩|hl
  ·simp_all
  ·obtain⟨a,b,d⟩:=k.dom c g loc hl;exact⟨a,b,by simp;omega⟩
 ·by_cases hc:c=b
  ·grind
  ·have hl':ρ c g=some loc:=by rw[<- hl,Rho.add_ne hc]
   obtain⟨y,hy,hor⟩:=k.obj c g loc hl';refine⟨y,hy,hor.move hm (fun g=>Rho.add_ne hc g) fun g loc hg=>?_⟩;exact Below.heap_alloc w o _ (k.dom c g loc hg).2.2
 ·rcases Rho.add_inv hl with⟨h1,h2,h3⟩|ha
  ·rcases Rho.add_inv hl' with⟨h4,h5,h6⟩|ha'
   ·omega
   ·have:=(k.dom c' g' loc' ha').2.2;subst h3;dsimp only at e;omega
  ·rcases Rho.add_inv hl' with⟨h4,h5,h6⟩|ha'
   ·have:=(k.dom c g loc ha).2.2;subst h6;dsimp only at e;omega
   ·exact k.sep c c' g g' loc loc' ha ha' e hZ1
end Tw
end Go.Proofs.YtkeknmgnoceogaaGreat
namespace Go.Proofs.YtkeknmgnoceogaaGreat
open Go.RowKit
namespace Tw
variable {P:Program}{ρ:Rho}{Z:Nat}{h:TH}{w:World}
theorem zkZ {t:TypeId}{g:Bool}(hg:zdm P t=some g)(w:World):(isAgg t).run P w=.ok g w:=by
 unfold zdm at hg
 split at hg<;>first|(cases hg;done)|skip
 all_goals (injection hg with hg;subst hg)
 ·rename_i hu;simp[isAgg,run_underlying hu]
 ·rename_i hu;simp[isAgg,run_underlying hu]
 ·rename_i d _ _ hu
  cases d<;>simp_all [isAgg,run_underlying hu]
theorem zdB {t:TypeId}{n:Nat}(hn:zbZ P t=some n):n≠0/\∃i,P.info? t=some i/\i.size=n:=by
 unfold zbZ at hn
 grind
theorem zbW {t:TypeId}{n:Nat}(hn:zbZ P t=some n)(w:World):(sizeOf t).run P w=.ok n w:=by
 obtain⟨_,i,hi,rfl⟩:=zdB hn;simp[sizeOf,typeInfo,hi]
theorem zkn {t:TypeId}{n:Nat}(hn:zh9 P t=some n):∃i,P.info? t=some i/\i.bytes=n:=by
 unfold zh9 at hn
 simp_all
theorem zjw {v:Value}{t:TV}(hv:zjA v=some t):VR ρ t v/\t.one=true:=by
 unfold zjA at hv
 split at hv<;>first|(cases hv;done)|(injection hv with hv;subst hv;exact⟨by constructor,rfl⟩)
theorem zi3 {α β:Type}{f:α->Option β}:∀{l:List α} {m:List β},zcZ f l=some m->m.length=l.length/\∀(i:Nat) a b,l[i]?=some a->m[i]?=some b->f a=some b
 | [],m,hm=>by simp[zcZ]at hm;subst hm;exact⟨rfl,fun i a b ha=>by simp at ha⟩
 | x::l,m,hm=>by
  unfold zcZ at hm
  split at hm
  ·cases hm
  ·rename_i b hb
   split at hm
   ·cases hm
   ·rename_i bs hbs;injection hm with hm;subst hm;obtain⟨h1,h2⟩:=zi3 hbs
    grind
theorem zpj {l:List Value}{m:List TV}(hm:zcZ zjA l=some m):VL ρ m l/\∀x∈m,x.one=true:=by
 obtain⟨h1,h2⟩:=zi3 hm;refine⟨⟨h1,fun i x y hx hy=>(zjw (h2 i y x hy hx)).1⟩,fun x hx=>?_⟩;obtain⟨i,hi,rfl⟩:=zBH9.1 hx;have hi':i<l.length:=by rw[<- h1];exact hi
 exact(zjw (ρ:=ρ) (h2 i l[i] m[i] (zAA9 hi') (zAA9 hi))).2
theorem zpy {v:Value}{t:TV}(hv:znq v=some t):VR ρ t v:=by
 unfold znq at hv
 split at hv
 ·split at hv<;>first|(cases hv;done)|skip
  rename_i cs _ l hl;injection hv with hv;subst hv;have:=zpj (ρ:=ρ) hl;have:=VR.aggL this.1 this.2;omega
 ·split at hv<;>first|(cases hv;done)|skip
  rename_i cs _ l hl;injection hv with hv;subst hv;have:=zpj (ρ:=ρ) hl;have:=VR.tupL this.1;omega
 ·split at hv<;>first|(cases hv;done)|skip
  rename_i hl;injection hv with hv;subst hv;exact .iface (zjw hl).1
 ·exact(zjw hv).1
theorem zjQ {t:TypeId}{z:TV}(hz:zdw P t=some z):∃i zv,P.info? t=some i/\i.zero=some zv/\∀ρ,VR ρ z zv:=by
 unfold zdw at hz
 split at hz
 ·rename_i i hi
  split at hz
  ·rename_i zv hzv;exact⟨i,zv,hi,hzv,fun ρ=>zpy hz⟩
  ·cases hz
 ·cases hz
theorem zfT {t:TypeId}{z:TV}(hz:zdw P t=some z)(w:World):∃zv,(zeroValue t).run P w=.ok zv w/\VR ρ z zv:=by
 obtain⟨i,zv,hi,hzv,hr⟩:=zjQ hz;exact⟨zv,by simp[zeroValue,typeInfo,hi,hzv],hr ρ⟩
theorem zh0 {t e:TypeId}(he:zlt P t=some e):P.underlying t=some (.slice e):=by
 unfold zlt at he
 grind
theorem zjl {a:Act}{tm:Tr TV}(ht:TmR ρ tm a.tmps){x:Operand}{y:TOp}(hx:opT x=some y){v:TV}(hv:zfl tm y=some v):VR ρ v (a.eval x):=by
 cases x with
 | tmp t =>
  simp[opT]at hx;subst hx;obtain⟨v',h1,h2⟩:=ht t v hv;simpa[Act.eval,h1]using h2
 | const c =>
  simp[opT]at hx;obtain⟨u,hu,rfl⟩:=hx;simp[zfl]at hv;subst hv;exact zpy hu
 | global g=>simp[opT]at hx
 | func f =>
  simp[opT]at hx;subst hx;simp[zfl]at hv;subst hv;exact VR.fnL (VL.nil ρ)
theorem ze3 {a:Act}{tm:Tr TV}(ht:TmR ρ tm a.tmps):∀{xs:List Operand} {ys:List TOp},zcZ opT xs=some ys->∀{vs:List TV},zd8 tm ys=some vs->VL ρ vs (xs.map a.eval)
 | [],ys,hy,vs,hv=>by simp[zcZ]at hy;subst hy;simp[zd8]at hv;subst hv;exact VL.nil ρ
 | x::xs,ys,hy,vs,hv=>by
  unfold zcZ at hy
  split at hy
  ·cases hy
  ·rename_i b hb
   split at hy
   ·cases hy
   ·rename_i bs hbs;injection hy with hy;subst hy;unfold zd8 at hv
    split at hv
    ·cases hv
    ·rename_i u hu
     split at hv
     ·cases hv
     ·rename_i us hus;injection hv with hv;subst hv;exact .cons (zjl ht hb hu) (ze3 ht hbs hus)
theorem zjP (k:WR P Z ρ h w){b g o n:Nat}{l:List TV}{loc:Loc}(hl:zbL h b g o n=some l)(hρ:ρ b g=some loc)(hc:o+n<=loc.L) :
  ∃cs,VL ρ l cs/\cs.length=n/\(∀(j:Nat) v,cs[j]?=some v->w.cell? ⟨loc.r,o+j,none⟩=some v)/\∀x∈l,x.one=true:=by
 unfold zbL at hl
 split at hl
 ·rename_i x hx;obtain⟨y,hy,hr⟩:=k.obj b g loc hρ;rw[hx]at hy;injection hy with hy;subst hy;unfold zg4 at hl
  split at hl
  ·rename_i e G M len cells;have h1:Nat.ble M g=true:=by cases hq:Nat.ble M g<;>simp[hq]at hl⊢
   have h2:Nat.ble g G=true:=by cases hq:Nat.ble g G<;>simp[h1,hq]at hl⊢
   simp only[h1,h2,cond_true]at hl;obtain⟨hlen,hget⟩:=Tr.getL_some hl;obtain⟨loc',cur,hρ',hheap,r1,r2,r3,r4,r5⟩:=hr.2.2 g (zAM9 h1) (zAM9 h2);rw[hρ]at hρ';injection hρ' with hρ';subst hρ';refine⟨(cur.toList.drop o).take n,⟨by simp[hlen];omega,fun i x y hx hy=>?_⟩,by simp;omega,fun j v hv=>?_,fun x hx=>?_⟩
   ·have hi:i<n:=by rw[<- hlen];exact(zAC9.1 hx).1
    rw[hget i hi]at hx;obtain⟨x',v',c1,c2,c3,c4⟩:=r5 (o+i) zo
    grind
   ·have hj:j<n:=by grind
    rw[zCY9,if_pos hj,zFB9,zBX9]at hv;obtain⟨fz,hheap,_⟩:=hheap;simp[World.cell?,hheap,hv]
   ·obtain⟨i,hi,rfl⟩:=zBH9.1 hx;have hx':=zAA9 hi;rw[hget i zo]at hx';obtain⟨x',v',c1,c2,c3,c4⟩:=r5 (o+i) zo
    grind
  ·rename_i cells;have h1:Nat.beq g 0=true:=by cases hq:Nat.beq g 0<;>simp[hq]at hl⊢
   rw[h1]at hl;simp only[cond_true]at hl;obtain⟨hlen,hget⟩:=Tr.getL_some hl;have hrow:=(hr g loc hρ).2;have hex:∀j,j<n->∃v,w.cell? ⟨loc.r,o+j,none⟩=some v/\∃x,l[j]?=some x/\x.one=true/\VR ρ x v:=fun j hj=>by grind
   have hd:∀j,j<n->∃v,w.cell? ⟨loc.r,o+j,none⟩=some v:=fun j hj=>by obtain⟨v,v1,_⟩:=hex j hj;exact⟨v,v1⟩
   refine⟨(List.range n).map fun j=>(w.cell? ⟨loc.r,o+j,none⟩).getD undef,⟨by simp[hlen],fun i x y hx hy=>?_⟩,by simp,fun j v hv=>?_,fun x hx=>?_⟩
   ·grind
   ·grind
   ·obtain⟨i,hi,rfl⟩:=zBH9.1 hx
    grind
  ·cases hl
 ·cases hl
theorem znx {agg:Bool}{l:List TV}{v:TV}(hv:ziN agg l=some v):(agg=true/\v=.agg l)\/(agg=false/\l=[v]):=by
 unfold ziN at hv
 grind
theorem zc0 (r o j:Nat):(⟨r,o,none⟩:Addr).add j=⟨r,o+j,none⟩:=by unfold Addr.add;split<;>simp_all
theorem zqu (k:WR P Z ρ h w){t:TypeId}{g:Bool}{n:Nat}(hg:zdm P t=some g)(hn:zbZ P t=some n){p:TV}{p':Value}(hp:VR ρ p p'){v:TV}(hv:zgn g n h p=some v) :
  ∃v',(Instr.loadAt t p').run P w=.ok v' w/\VR ρ v v':=by
 unfold zgn at hv
 split at hv
 ·rename_i b g' o e
  cases hb:Nat.ble n e<;>simp only[hb,cond_true,cond_false]at hv
  ·cases hv
  ·have hne:=zAM9 hb
   split at hv
   ·rename_i l hl
    cases hp with
    | ptr hρ hc =>
     rename_i loc;obtain⟨cs,h1,h2,h3,h4⟩:=zjP k hl hρ zo;have hload:=run_loadCells_list (P:=P) w ⟨loc.r,o,none⟩ cs (fun j v hv=>by rw[zc0];exact h3 j v hv);rw[h2]at hload;rcases znx hv with⟨rfl,rfl⟩|⟨rfl,rfl⟩
     ·refine⟨.agg cs.toArray,?_,VR.aggL h1 h4⟩;simp[Instr.loadAt,Instr.sureAddr,loadVar,zkZ hg,zbW hn,hload]
     ·obtain⟨y,cs',rfl,hy,hr⟩:=h1.of_cons;obtain rfl:=hr.of_nil;have:=h3 0 y rfl;rw[zDD9]at this;exact⟨y,by simp[Instr.loadAt,Instr.sureAddr,loadVar,zkZ hg,load,Sem.run,this],hy⟩
   ·cases hv
 ·cases hv
theorem zhE {k k':IntKind}(h:Nat.beq (kno k) (kno k')=true):k=k':=by
 have:=zAF9 h
 cases k<;>cases k'<;>first|rfl|(simp[kno]at this)
theorem zcX (a b:Int):zhp a b=(a==b):=by
 cases a<;>cases b<;>simp only[zhp]
 ·rename_i x y;show Nat.beq x y=_
  by_cases h:x=y
  ·simp_all
  ·have:Nat.beq x y=false:=by cases hb:Nat.beq x y;rfl;exact absurd (zAF9 hb) h
   grind
 ·simp
 ·simp
 ·rename_i x y
  by_cases h:x=y
  ·simp_all
  ·have:Nat.beq x y=false:=by cases hb:Nat.beq x y;rfl;exact absurd (zAF9 hb) h
   grind
theorem zeJ (a b:Int):ile a b=decide (a<=b):=by
 unfold ile
 split
 all_goals grind
theorem zgS:∀(a b:List Nat),zdH a b=(a==b)
 | [],[]=>rfl
 | [],_::_=>rfl
 | _::_,[]=>rfl
 | a::l,b::m=>by
  unfold zdH;rw[zgS l m]
  cases hb:Nat.beq a b
  ·have:a≠b:=fun e=>by subst e;simp at hb
   simp[this]
  simp_all
def bts (s:ByteArray):List Nat:=s.data.toList.map (·.toNat)
theorem zsV {s t:ByteArray}(h:bts s=bts t):s.toList=t.toList:=by
 rw[ByteArray.toList_eq,ByteArray.toList_eq];exact List.map_inj_right (f:=fun x:UInt8=>x.toNat) (fun x y=>UInt8.toNat_inj.1) |>.1 h
theorem zqX (s t:ByteArray):(bts s==bts t)=(s.toList==t.toList):=by
 by_cases e:s.toList=t.toList
 ·have:bts s=bts t:=by unfold bts;rw[<- ByteArray.toList_eq,<- ByteArray.toList_eq,e]
  grind
 ·have:bts s≠bts t:=fun h=>e (zsV h)
  grind
theorem zlW:∀(a b:List UInt8),zg3 (a.map (·.toNat)) (b.map (·.toNat))=Op.bytesLess a b
 | [],[]=>rfl
 | [],_::_=>rfl
 | _::_,[]=>by simp[zg3,Op.bytesLess]
 | a::l,b::m=>by
  simp only[zBZ9,zg3,Op.bytesLess,zlW l m];have h1:Nat.blt a.toNat b.toNat=decide (a<b):=by
   by_cases h:a<b
   ·rw[zCA9.mpr (UInt8.lt_iff_toNat_lt.1 h)];simp[h]
   ·cases hb:Nat.blt a.toNat b.toNat
    ·simp[h]
    ·exact absurd (UInt8.lt_iff_toNat_lt.2 (zCA9.mp hb)) h
  have h2:Nat.beq a.toNat b.toNat=(a==b):=by
   cases hb:Nat.beq a.toNat b.toNat
   ·have:a≠b:=fun e=>by subst e;simp at hb
    simp[this]
   ·have:=UInt8.toNat_inj.1 (zAF9 hb);simp[this]
  grind
theorem zzo {α:Type}{k k':IntKind}{x:Option α}{y:α}(h:(bif Nat.beq (kno k) (kno k')then x else none)=some y):k=k'/\x=some y:=by
 cases hb:Nat.beq (kno k) (kno k')<;>rw[hb]at h
 ·cases h
 ·exact⟨zhE hb,h⟩
theorem zi {α:Type}{b:Bool}{x:Option α}{y:α}(h:(bif b then x else none)=some y):b=true/\x=some y:=by grind
theorem zmc {k:IntKind}{n:Nat}(h:n<2 ^ zgI k):k.wrap (n:Int)=n:=by
 cases k<;>simp only[zgI]at h<;>simp[IntKind.wrap,IntKind.bits,IntKind.signed]<;>omega
theorem zgQ (k:IntKind):2 ^ zgI k<=2 ^ k.bits:=zCO9 zo (by cases k<;>simp[zgI,IntKind.bits])
theorem zsy (op:BinOp)(t:TypeId)(x y:Operand)(k k':IntKind)(a b:Int)(w:World):(eqGuard op t x y (.int k a) (.int k' b)).run P w=.ok () w:=by
 cases op<;>simp[eqGuard]
theorem zsw (op:BinOp)(t:TypeId)(x y:Operand)(a b:ByteArray)(w:World):(eqGuard op t x y (.string a) (.string b)).run P w=.ok () w:=by
 cases op<;>simp[eqGuard]
theorem zos {f:Nat->Nat->Nat}{k:IntKind}{x y:Int}{v:TV}(hv:zjJ f k x y=some v):∃a b:Nat,x=a/\y=b/\a<2 ^ zgI k/\b<2 ^ zgI k/\v=.int k (f a b:Nat):=by
 unfold zjJ at hv
 split at hv
 ·rename_i a b;obtain⟨h1,hv⟩:=zi hv;obtain⟨h2,hv⟩:=zi hv;injection hv with hv;exact⟨a,b,rfl,rfl,zCA9.mp h1,zCA9.mp h2,hv.symm⟩
 ·cases hv
theorem zxy (a n:Nat):(a:Int).fdiv (2 ^ n)=((a/2 ^ n:Nat):Int):=by grind
theorem zs9 {op:BinOp}{t:TypeId}{k k':IntKind}{a b:Int}{v:TV}(hv:zfy op k k' a b=some v)(w:World):∃v',(binOp op t (.int k a) (.int k' b)).run P w=.ok v' w/\VR ρ v v':=by
 cases op<;>simp only[zfy]at hv<;>try(obtain⟨hk,hv2⟩:=zzo hv;clear hv;subst hk;have hv:=hv2;clear hv2)
 case add=>injection hv with hv;subst hv;exact⟨_,by simp[binOp,Op.intArith],.int _ _⟩
 case sub=>injection hv with hv;subst hv;exact⟨_,by simp[binOp,Op.intArith],.int _ _⟩
 case mul=>injection hv with hv;subst hv;exact⟨_,by simp[binOp,Op.intArith],.int _ _⟩
 case quo =>
  cases hb:zhp b 0<;>rw[hb]at hv
  ·injection hv with hv;subst hv;rw[zcX]at hb;exact⟨_,by simp[binOp,Op.intDiv,(by simpa using hb:b≠0)],.int _ _⟩
  ·cases hv
 case rem =>
  cases hb:zhp b 0<;>rw[hb]at hv
  ·injection hv with hv;subst hv;rw[zcX]at hb;exact⟨_,by simp[binOp,Op.intDiv,(by simpa using hb:b≠0)],.int _ _⟩
  ·cases hv
 case and =>
  obtain⟨x,y,rfl,rfl,hx,hy,rfl⟩:=zos hv;refine⟨.int k ((Nat.land x y:Nat):Int),?_,.int _ _⟩;have:Nat.land x y<2 ^ zgI k:=zFX9 _ hy;have ex:x%2 ^ k.bits=x:=zCJ9 (zBC9 hx (zgQ k));have ey:y%2 ^ k.bits=y:=zCJ9 (zBC9 hy (zgQ k));simp[binOp,Op.intBits,BitVec.toNat_and,ex,ey];exact zmc this
 case or =>
  obtain⟨x,y,rfl,rfl,hx,hy,rfl⟩:=zos hv;refine⟨.int k ((Nat.lor x y:Nat):Int),?_,.int _ _⟩;have:Nat.lor x y<2 ^ zgI k:=Nat.or_lt_two_pow hx hy;have ex:x%2 ^ k.bits=x:=zCJ9 (zBC9 hx (zgQ k));have ey:y%2 ^ k.bits=y:=zCJ9 (zBC9 hy (zgQ k));simp[binOp,Op.intBits,BitVec.toNat_or,ex,ey];exact zmc this
 case xor =>
  obtain⟨x,y,rfl,rfl,hx,hy,rfl⟩:=zos hv;refine⟨.int k ((Nat.xor x y:Nat):Int),?_,.int _ _⟩;have:Nat.xor x y<2 ^ zgI k:=zDY9 hx hy;have ex:x%2 ^ k.bits=x:=zCJ9 (zBC9 hx (zgQ k));have ey:y%2 ^ k.bits=y:=zCJ9 (zBC9 hy (zgQ k));simp[binOp,Op.intBits,BitVec.toNat_xor,ex,ey];exact zmc this
 case shl =>
  unfold zzU at hv
  split at hv
  ·rename_i n;obtain⟨_,hv⟩:=zi hv;injection hv with hv;subst hv;exact⟨_,by simp[binOp,Op.shift,Int.not_lt.2 (zCZ9 n)],.int _ _⟩
  ·cases hv
 case shr =>
  unfold zzw at hv
  split at hv
  ·rename_i a n;obtain⟨_,hv⟩:=zi hv;injection hv with hv;subst hv;refine⟨_,?_,.int _ _⟩;simp[binOp,Op.shift,Int.not_lt.2 (zCZ9 n)];exact zxy a _
  ·cases hv
 case andNot=>cases hv
 case eql=>injection hv with hv;subst hv;exact⟨_,by simp[binOp,Op.intCmp];rfl,by rw[zcX];exact .bool _⟩
 case neq=>injection hv with hv;subst hv;exact⟨_,by simp[binOp,Op.intCmp];rfl,by rw[zcX];exact .bool _⟩
 case lss =>
  injection hv with hv;subst hv;refine⟨.bool (decide (a<b)),by simp[binOp,Op.intCmp],?_⟩;have:(decide (a<b))=!(ile b a):=by rw[zeJ];by_cases h:b<=a<;>simp[h]<;>omega
  rw[this];exact .bool _
 case leq=>injection hv with hv;subst hv;exact⟨.bool (decide (a<=b)),by simp[binOp,Op.intCmp],by rw[<- zeJ];exact .bool _⟩
 case gtr =>
  injection hv with hv;subst hv;refine⟨.bool (decide (a>b)),by simp[binOp,Op.intCmp],?_⟩;have:(decide (a>b))=!(ile a b):=by rw[zeJ];by_cases h:a<=b<;>simp[h]<;>omega
  rw[this];exact .bool _
 case geq=>injection hv with hv;subst hv;exact⟨.bool (decide (a ≥ b)),by simp[binOp,Op.intCmp],by rw[show decide (a ≥ b)=ile b a by rw[zeJ]];exact .bool _⟩
theorem zsS (a b:List UInt8):(Op.bytesLess a b||(a==b))=!(Op.bytesLess b a):=by
 induction a generalizing b with
 | nil=>cases b<;>simp[Op.bytesLess]
 | cons x l ih =>
  cases b with
  | nil=>simp[Op.bytesLess]
  | cons y m =>
   simp only[Op.bytesLess];have:=ih m
   by_cases h1:x<y
   ·have h2:¬y<x:=fun h=>by have:=UInt8.lt_trans h1 h;simp at this
    have h3:(y==x)=false:=by simp;rintro rfl;simp at h1
    simp[h1,h2,h3]
   ·by_cases h2:x=y
    ·subst h2;simp[this]
    ·have h3:y<x:=by grind
     simp[h1,h2,h3]
theorem zy6 {op:BinOp}{t:TypeId}{a b:ByteArray}{v:TV}(hv:zxD op (bts a) (bts b)=some v)(w:World):∃v',(binOp op t (.string a) (.string b)).run P w=.ok v' w/\VR ρ v v':=by
 have h1:zdH (bts a) (bts b)=(a.toList==b.toList):=by rw[zgS,zqX]
 have h2:zg3 (bts a) (bts b)=Op.bytesLess a.toList b.toList:=by unfold bts;rw[zlW,ByteArray.toList_eq,ByteArray.toList_eq]
 have h3:zg3 (bts b) (bts a)=Op.bytesLess b.toList a.toList:=by unfold bts;rw[zlW,ByteArray.toList_eq,ByteArray.toList_eq]
 cases op<;>simp only[zxD]at hv<;>first|(cases hv;done)|skip
 case eql=>injection hv with hv;subst hv;rw[h1];exact⟨_,by simp[binOp,Op.stringOp],.bool _⟩
 case neq=>injection hv with hv;subst hv;rw[h1];exact⟨_,by simp[binOp,Op.stringOp],.bool _⟩
 case lss=>injection hv with hv;subst hv;rw[h2];exact⟨_,by simp[binOp,Op.stringOp],.bool _⟩
 case leq=>injection hv with hv;subst hv;rw[h3];exact⟨.bool (!(Op.bytesLess b.toList a.toList)),by simp[binOp,Op.stringOp,zsS],.bool _⟩
 case gtr=>injection hv with hv;subst hv;rw[h3];exact⟨.bool (Op.bytesLess b.toList a.toList),by simp[binOp,Op.stringOp,zsS],.bool _⟩
 case geq=>injection hv with hv;subst hv;rw[h2];exact⟨_,by simp[binOp,Op.stringOp],.bool _⟩
 case add =>
  obtain⟨h0,hv⟩:=zi hv;injection hv with hv;subst hv;have hle:=zAM9 h0;have e1:(bts a).length=a.size:=by simp[bts]
  have e2:(bts b).length=b.size:=by simp[bts]
  refine⟨.string (a++b),?_,?_⟩
  ·have:¬(((a.size+b.size:Nat):Int)>IntKind.i64.max):=by simp[IntKind.max,IntKind.signed,IntKind.bits];omega
   simp only[binOp,Op.stringOp];rw[if_neg this];simp
  ·have:bts a++bts b=bts (a++b):=by simp[bts]
   rw[this];exact .str _
theorem zzg {op:BinOp}{t:TypeId}{X Y:Operand}{x y:TV}{x' y':Value}(hx:VR ρ x x')(hy:VR ρ y y'){v:TV}(hv:zcu op x y=some v)(w:World) :
  ∃v',(do eqGuard op t X Y x' y';binOp op t x' y':Sem Value).run P w=.ok v' w/\VR ρ v v':=by
 unfold zcu at hv
 split at hv
 ·unfold zek at hv
  split at hv
  ·cases hx;cases hy
   obtain⟨v',h1,h2⟩:=zs9 (P:=P) (ρ:=ρ) (t:=t) hv w;exact⟨v',by simp[zsy,h1],h2⟩
  ·cases hv
 ·unfold zx1 at hv
  split at hv
  ·cases hx with
   | str a=>cases hy with
    | str b =>
     obtain⟨v',h1,h2⟩:=zy6 (P:=P) (ρ:=ρ) (t:=t) hv w;exact⟨v',by simp[zsw,h1],h2⟩
  ·cases hv
 ·cases hv
theorem zqP {neg:Bool}{x:Option Bool}{v:TV}(hv:zm9 neg x=some v):∃b,x=some b/\v=.bool (neg ^^ b):=by
 unfold zm9 at hv
 split at hv
 ·rename_i b;injection hv with hv;exact⟨b,rfl,by rw[<- hv];cases neg<;>cases b<;>rfl⟩
 ·cases hv
theorem zge {x y:Option Bool}{b:Bool}(hb:zL x y=some b):(x=some true/\y=some true/\b=true)\/(x=some true/\y=some false/\b=false)\/(x=some false/\y=some true/\b=false):=by
 cases x with
 | none=>cases hb
 | some x=>cases y with
  | none=>cases hb
  | some y=>cases x<;>cases y<;>simp[zL]at hb<;>simp[<- hb]
theorem znv {x:TV}(h:zry x=some true):x=.nilptr:=by cases x<;>simp[zry]at h;rfl
theorem zvV {x:TV}(h:zry x=some false):∃b g o e,x=.ptr b g o e:=by cases x<;>simp[zry]at h;exact⟨_,_,_,_,rfl⟩
theorem znr {x:TV}(h:zsc x=some true):x=.nilsl:=by cases x<;>simp[zsc]at h;rfl
theorem zvf {x:TV}(h:zsc x=some false):∃b g o n q z,x=.sl b g o n q z:=by cases x<;>simp[zsc]at h;exact⟨_,_,_,_,_,_,rfl⟩
theorem znF {x:TV}(h:zru x=some true):x=.nilmap:=by cases x<;>simp[zru]at h;rfl
theorem zvs {x:TV}(h:zru x=some false):∃b,x=.map b:=by cases x<;>simp[zru]at h;exact⟨_,rfl⟩
theorem zmv {x:TV}(h:zbh x=some true):x=.nilfn:=by cases x<;>simp[zbh]at h;rfl
theorem zuO {x:TV}(h:zbh x=some false):∃f l,x=.fn f l:=by cases x<;>simp[zbh]at h;exact⟨_,_,rfl⟩
theorem zm2 {x:TV}(h:zrF x=some true):x=.niliface:=by cases x<;>simp[zrF]at h;rfl
theorem zuH {x:TV}(h:zrF x=some false):∃t v,x=.iface t v:=by cases x<;>simp[zrF]at h;exact⟨_,_,rfl⟩
theorem zig (t:TypeId)(x y:Value):Op.equal t x y=Op.equalIn (9999+1) t x y:=rfl
def zhd (P:Program)(t:TypeId)(X Y:Operand)(x y:Value)(b:Bool)(w:World):Prop :=
 (∀op,(eqGuard op t X Y x y).run P w=.ok () w)/\(binOp .eql t x y).run P w=.ok (.bool b) w/\(binOp .neq t x y).run P w=.ok (.bool (!b)) w
theorem zcH {t:TypeId}{X Y:Operand}{x y:Value}{b:Bool}(hg:∀op,(eqGuard op t X Y x y).run P w=.ok () w)(he:∀d,(Op.equalIn (d+1) t x y).run P w=.ok b w)
  (h1:binOp .eql t x y=(do pure (.bool (<- Op.equal t x y)))) (h2:binOp .neq t x y=(do pure (.bool (!(<- Op.equal t x y))))):zhd P t X Y x y b w :=
 ⟨hg,by rw[h1,zig];simp[he 9999],by rw[h2,zig];simp[he 9999]⟩
theorem zpd {t e:TypeId}(hu:P.underlying t=some (.pointer e)){X Y:Operand}{x y:TV}{x' y':Value}(hx:VR ρ x x')(hy:VR ρ y y'){b:Bool}(hb:ziz 1 x y=some b):zhd P t X Y x' y' b w:=by
 rcases zge hb with⟨h1,h2,rfl⟩|⟨h1,h2,rfl⟩|⟨h1,h2,rfl⟩
 ·obtain rfl:=znv h1;obtain rfl:=znv h2
  cases hx;cases hy
  exact zcH (fun op=>by cases op<;>simp[eqGuard]) (fun d=>by simp[Op.equalIn,run_underlying hu]) rfl rfl
 ·obtain rfl:=znv h1;obtain⟨_,_,_,_,rfl⟩:=zvV h2
  cases hx;cases hy
  exact zcH (fun op=>by cases op<;>simp[eqGuard]) (fun d=>by simp[Op.equalIn,run_underlying hu]) rfl rfl
 ·obtain⟨_,_,_,_,rfl⟩:=zvV h1;obtain rfl:=znv h2
  cases hx;cases hy
  exact zcH (fun op=>by cases op<;>simp[eqGuard]) (fun d=>by simp[Op.equalIn,run_underlying hu]) rfl rfl
theorem zpa {t e:TypeId}(hu:P.underlying t=some (.slice e)){X Y:Operand}{x y:TV}{x' y':Value}(hx:VR ρ x x')(hy:VR ρ y y'){b:Bool}(hb:ziz 2 x y=some b):zhd P t X Y x' y' b w:=by
 rcases zge hb with⟨h1,h2,rfl⟩|⟨h1,h2,rfl⟩|⟨h1,h2,rfl⟩
 ·obtain rfl:=znr h1;obtain rfl:=znr h2
  cases hx;cases hy
  exact zcH (fun op=>by cases op<;>simp[eqGuard]) (fun d=>by simp[Op.equalIn,run_underlying hu]) rfl rfl
 ·obtain rfl:=znr h1;obtain⟨_,_,_,_,_,_,rfl⟩:=zvf h2
  cases hx;cases hy
  exact zcH (fun op=>by cases op<;>simp[eqGuard]) (fun d=>by simp[Op.equalIn,run_underlying hu]) rfl rfl
 ·obtain⟨_,_,_,_,_,_,rfl⟩:=zvf h1;obtain rfl:=znr h2
  cases hx;cases hy
  exact zcH (fun op=>by cases op<;>simp[eqGuard]) (fun d=>by simp[Op.equalIn,run_underlying hu]) rfl rfl
theorem zpW {t e e':TypeId}(hu:P.underlying t=some (.map e e')){X Y:Operand}{x y:TV}{x' y':Value}(hx:VR ρ x x')(hy:VR ρ y y'){b:Bool}(hb:ziz 3 x y=some b):zhd P t X Y x' y' b w:=by
 rcases zge hb with⟨h1,h2,rfl⟩|⟨h1,h2,rfl⟩|⟨h1,h2,rfl⟩
 ·obtain rfl:=znF h1;obtain rfl:=znF h2
  cases hx;cases hy
  exact zcH (fun op=>by cases op<;>simp[eqGuard]) (fun d=>by simp[Op.equalIn,run_underlying hu]) rfl rfl
 ·obtain rfl:=znF h1;obtain⟨_,rfl⟩:=zvs h2
  cases hx;cases hy
  exact zcH (fun op=>by cases op<;>simp[eqGuard]) (fun d=>by simp[Op.equalIn,run_underlying hu]) rfl rfl
 ·obtain⟨_,rfl⟩:=zvs h1;obtain rfl:=znF h2
  cases hx;cases hy
  exact zcH (fun op=>by cases op<;>simp[eqGuard]) (fun d=>by simp[Op.equalIn,run_underlying hu]) rfl rfl
theorem zpC {t:TypeId}{ps rs:Array TypeId}{vr:Bool}(hu:P.underlying t=some (.func ps rs vr)){X Y:Operand}{x y:TV}{x' y':Value}(hx:VR ρ x x')(hy:VR ρ y y'){b:Bool}(hb:ziz 4 x y=some b):zhd P t X Y x' y' b w:=by
 rcases zge hb with⟨h1,h2,rfl⟩|⟨h1,h2,rfl⟩|⟨h1,h2,rfl⟩
 ·obtain rfl:=zmv h1;obtain rfl:=zmv h2
  cases hx;cases hy
  exact zcH (fun op=>by cases op<;>simp[eqGuard]) (fun d=>by simp[Op.equalIn,run_underlying hu]) rfl rfl
 ·obtain rfl:=zmv h1;obtain⟨_,_,rfl⟩:=zuO h2
  cases hx;cases hy
  exact zcH (fun op=>by cases op<;>simp[eqGuard]) (fun d=>by simp[Op.equalIn,run_underlying hu]) rfl rfl
 ·obtain⟨_,_,rfl⟩:=zuO h1;obtain rfl:=zmv h2
  cases hx;cases hy
  exact zcH (fun op=>by cases op<;>simp[eqGuard]) (fun d=>by simp[Op.equalIn,run_underlying hu]) rfl rfl
theorem zpi {t:TypeId}{ms:Array (String×TypeId)}(hu:P.underlying t=some (.interface ms)){X Y:Operand}(hXY:(zfO X||zfO Y)=true){x y:TV}{x' y':Value}(hx:VR ρ x x')(hy:VR ρ y y'){b:Bool}(hb:ziz 5 x y=some b):zhd P t X Y x' y' b w:=by
 rcases zge hb with⟨h1,h2,rfl⟩|⟨h1,h2,rfl⟩|⟨h1,h2,rfl⟩
 ·obtain rfl:=zm2 h1;obtain rfl:=zm2 h2
  cases hx;cases hy
  refine zcH (fun op=>?_) (fun d=>by simp[Op.equalIn,run_underlying hu]) rfl rfl
  cases X<;>cases Y<;>simp[zfO]at hXY<;>cases op<;>simp[eqGuard]
 ·obtain rfl:=zm2 h1;obtain⟨_,_,rfl⟩:=zuH h2
  cases hx;cases hy
  exact zcH (fun op=>by cases op<;>simp[eqGuard]) (fun d=>by simp[Op.equalIn,run_underlying hu]) rfl rfl
 ·obtain⟨_,_,rfl⟩:=zuH h1;obtain rfl:=zm2 h2
  cases hx;cases hy
  exact zcH (fun op=>by cases op<;>simp[eqGuard]) (fun d=>by simp[Op.equalIn,run_underlying hu]) rfl rfl
theorem zfZ {x:TV}{n:Nat}(hx:zeA x=some n){x':Value}(hr:VR ρ x x'):∃k,x=.int k (n:Nat)/\x'=.int k (n:Nat):=by
 cases x<;>simp[zeA]at hx
 rename_i k i
 cases i<;>simp[zxB]at hx
 subst hx
 cases hr
 grind
theorem zdk {x:TV}{m l:Nat}(hx:zdx x m=some l){x':Value}(hr:VR ρ x x'):∃k,x'=.int k (l:Nat)/\l<=m:=by
 unfold zdx at hx
 split at hx
 ·rename_i n hn;obtain⟨h1,hx⟩:=zi hx;injection hx with hx;subst hx;obtain⟨k,_,rfl⟩:=zfZ hn hr
  simp_all
 ·cases hx
theorem zb9 {k:IntKind}{l y:Nat}(hl:l<=y)(code:BoundsCode)(w:World):(Instr.sliceBound (.int k (l:Nat)) y code).run P w=.ok l w:=by
 simp[Instr.sliceBound,asIntOf,hl]
theorem zhj {b g o n q z o' c:Nat}{loc:Loc}(hρ:ρ b g=some loc)(hn:n<=q/2)(hq:q/2<=c)(hc:o+q/2*z<=loc.L)(ho:o'=o\/n=0/\c=0/\o≠0)(hs:q%2=0->o+c*z=loc.S)(hm:c<=maxLen)
  {l j m q':Nat} (hlj:l<=j) (hjm:j<=m) (hmc:m<=c) (hq1:j-l<=q'/2) (hq2:q'/2<=m-l) (hq3:l+q'/2<=q/2) (hq4:q'%2=0->m=c/\q%2=0) :
  VR ρ (.sl b g (o+l*z) (j-l) q' z) (.slice (if m=l then some ⟨loc.r,o',none⟩else some ((⟨loc.r,o',none⟩:Addr).add (l*z))) (j-l) (m-l)):=by
 have hcov:o+l*z+q'/2*z<=loc.L:=by
  have:(l+q'/2)*z<=q/2*z:=zBV9 z hq3
  grind
 by_cases e:m=l
 ·rw[if_pos e];have e1:j-l=0:=zo;have e2:m-l=0:=zo;rw[e1]at hq1⊢;rw[e2]at hq2⊢;refine .sl hρ hq1 hq2 hcov ?_ (fun h0=>?_) (zAL9 _)
  all_goals grind
 ·rw[if_neg e,zc0];refine .sl hρ hq1 hq2 hcov ?_ (fun h0=>?_) zo
  ·omega
  ·obtain⟨h1,h2⟩:=hq4 h0;have:=hs h2;rw[<- this,h1,zEK9,<- zCH9]
   grind
theorem zmj {α:Type}{b:Bool}{x:Option α}{y:α}(h:(bif b then none else x)=some y):b=false/\x=some y:=by grind
theorem zvO {t e:TypeId}(hu:P.underlying t=some (.slice e))(x:Value)(lo hi mx:Option Value)(w:World):(Instr.sliceAt t x lo hi mx).run P w=(Instr.slice t x lo hi mx).run P w:=by
 simp[Instr.sliceAt,run_underlying hu]
theorem zvj {t e:TypeId}{z:Nat}(hu:P.underlying t=some (.slice e))(hz:zbZ P e=some z){lo hi mx:Option Value}{vs:List TV}{x':Value}(hv:VL ρ vs (x'::(lo.toList++hi.toList++mx.toList))){v:TV}(hp:zhS z lo.isSome hi.isSome mx.isSome vs=some v)(w:World) :
  ∃v',(Instr.sliceAt t x' lo hi mx).run P w=.ok v' w/\VR ρ v v':=by
 rw[zvO hu]
 cases vs with
 | nil=>cases hp
 | cons x bs =>
  obtain⟨_,cs',e,hx,hbs⟩:=hv.of_cons;injection e with e1 e2;subst e1;subst e2;simp only[zhS,zem]at hp
  cases x<;>simp only at hp<;>first|(cases hp;done)|skip
  case nilsl =>
   cases hx
   unfold zkr at hp;obtain⟨h0,hp⟩:=zmj hp
   cases mx with
   | some m=>simp at h0
   | none =>
    cases lo with
    | none=>cases hi with
     | none =>
      cases bs with
      | nil=>simp at hp;subst hp;exact⟨_,by simp[Instr.slice,run_underlying hu,Instr.sliceBounds,zbW hz],.nilsl⟩
      | cons _ _=>have:=hbs.1;simp at this
     | some hi =>
      cases bs with
      | nil=>have:=hbs.1;simp at this
      | cons y bs =>
       obtain⟨_,_,e,hy,hbs⟩:=hbs.of_cons;simp at e;obtain⟨rfl,rfl⟩:=e
       cases bs with
       | cons _ _=>have:=hbs.1;simp at this
       | nil =>
        simp only at hp
        split at hp
        ·rename_i l hl;obtain⟨k,rfl,hl0⟩:=zdk hl hy;simp at hp;subst hp;obtain rfl:l=0:=zo;exact⟨_,by simp[Instr.slice,run_underlying hu,Instr.sliceBounds,zb9,zbW hz,Instr.sliceBound,asIntOf],.nilsl⟩
        ·cases hp
    | some lo=>cases hi with
     | none =>
      cases bs with
      | nil=>have:=hbs.1;simp at this
      | cons y bs =>
       obtain⟨_,_,e,hy,hbs⟩:=hbs.of_cons;simp at e;obtain⟨rfl,rfl⟩:=e
       cases bs with
       | cons _ _=>have:=hbs.1;simp at this
       | nil =>
        simp only at hp
        split at hp
        ·rename_i l hl;obtain⟨k,rfl,hl0⟩:=zdk hl hy;simp at hp;subst hp;obtain rfl:l=0:=zo;exact⟨_,by simp[Instr.slice,run_underlying hu,Instr.sliceBounds,zbW hz,Instr.sliceBound,asIntOf],.nilsl⟩
        ·cases hp
     | some hi =>
      cases bs with
      | nil=>have:=hbs.1;simp at this
      | cons y bs=>cases bs with
       | nil=>have:=hbs.1;simp at this
       | cons _ _=>simp at hp
  case sl b g o n q z' =>
   obtain⟨hzz,hp⟩:=zi hp;obtain rfl:=zAF9 hzz
   cases hx with
   | sl hρ hn hq hc ho hs hm =>
    rename_i o' c loc;unfold zfV at hp
    cases mx with
    | none =>
     cases lo with
     | none=>cases hi with
      | none =>
       cases bs with
       | cons _ _=>have:=hbs.1;simp at this
       | nil =>
        simp at hp;subst hp;have:=zhj hρ hn hq hc ho hs hm (l:=0) (j:=n) (m:=c) (q':=q) (zAL9 _) zo (zAE9 _) zo zo zo (fun h=>⟨rfl,h⟩);simp only[Nat.zero_mul,zDD9,Nat.sub_zero]at this;exact⟨_,by simp[Instr.slice,run_underlying hu,Instr.sliceBounds,zbW hz],this⟩
      | some hi =>
       cases bs with
       | nil=>have:=hbs.1;simp at this
       | cons y bs =>
        obtain⟨_,_,e,hy,hbs⟩:=hbs.of_cons;simp at e;obtain⟨rfl,rfl⟩:=e
        cases bs with
        | cons _ _=>have:=hbs.1;simp at this
        | nil =>
         simp[zut]at hp
         split at hp
         ·rename_i j hj;injection hp with hp;subst hp;obtain⟨k,rfl,hj0⟩:=zdk hj hy;have:=zhj hρ hn hq hc ho hs hm (l:=0) (j:=j) (m:=c) (q':=q) (zAL9 _) zo (zAE9 _) zo zo zo (fun h=>⟨rfl,h⟩);simp only[Nat.zero_mul,zDD9,Nat.sub_zero]at this;exact⟨_,by simp[Instr.slice,run_underlying hu,Instr.sliceBounds,zbW hz,zb9 (show j<=c by omega)],this⟩
         ·cases hp
     | some lo=>cases hi with
      | none =>
       cases bs with
       | nil=>have:=hbs.1;simp at this
       | cons y bs =>
        obtain⟨_,_,e,hy,hbs⟩:=hbs.of_cons;simp at e;obtain⟨rfl,rfl⟩:=e
        cases bs with
        | cons _ _=>have:=hbs.1;simp at this
        | nil =>
         simp[zho]at hp
         split at hp
         ·rename_i l hl;injection hp with hp;subst hp;obtain⟨k,rfl,hl0⟩:=zdk hl hy;have:=zhj hρ hn hq hc ho hs hm (l:=l) (j:=n) (m:=c) (q':=q-2*l) hl0 zo (zAE9 _) zo zo zo (fun h=>⟨rfl,by omega⟩);refine⟨_,?_,this⟩;simp[Instr.slice,run_underlying hu,Instr.sliceBounds,zbW hz,zb9 hl0]
         ·cases hp
      | some hi =>
       cases bs with
       | nil=>have:=hbs.1;simp at this
       | cons y bs =>
        obtain⟨_,_,e,hy,hbs⟩:=hbs.of_cons;simp at e;obtain⟨rfl,rfl⟩:=e
        cases bs with
        | nil=>have:=hbs.1;simp at this
        | cons y2 bs =>
         obtain⟨_,_,e,hy2,hbs⟩:=hbs.of_cons;simp at e;obtain⟨rfl,rfl⟩:=e
         cases bs with
         | cons _ _=>have:=hbs.1;simp at this
         | nil =>
          simp[znN]at hp
          split at hp
          ·rename_i j hj;unfold zho at hp
           split at hp
           ·rename_i l hl;injection hp with hp;subst hp;obtain⟨k,rfl,hl0⟩:=zdk hl hy;obtain⟨k2,rfl,hj0⟩:=zdk hj hy2;have:=zhj hρ hn hq hc ho hs hm (l:=l) (j:=j) (m:=c) (q':=q-2*l) hl0 zo (zAE9 _) zo zo zo (fun h=>⟨rfl,by omega⟩);refine⟨_,?_,this⟩;simp[Instr.slice,run_underlying hu,Instr.sliceBounds,zbW hz,zb9 (show j<=c by omega),zb9 hl0]
           ·cases hp
          ·cases hp
    | some mx =>
     cases lo with
     | none=>cases hi with
      | none =>
       cases bs with
       | nil=>have:=hbs.1;simp at this
       | cons y bs=>cases bs with
        | nil=>simp at hp
        | cons _ _=>have:=hbs.1;simp at this
      | some hi =>
       cases bs with
       | nil=>have:=hbs.1;simp at this
       | cons y bs=>cases bs with
        | nil=>have:=hbs.1;simp at this
        | cons _ bs=>cases bs with
         | nil=>simp at hp
         | cons _ _=>have:=hbs.1;simp at this
     | some lo=>cases hi with
      | none =>
       cases bs with
       | nil=>have:=hbs.1;simp at this
       | cons y bs=>cases bs with
        | nil=>have:=hbs.1;simp at this
        | cons _ bs=>cases bs with
         | nil=>simp at hp
         | cons _ _=>have:=hbs.1;simp at this
      | some hi =>
       cases bs with
       | nil=>have:=hbs.1;simp at this
       | cons y bs =>
        obtain⟨_,_,e,hy,hbs⟩:=hbs.of_cons;simp at e;obtain⟨rfl,rfl⟩:=e
        cases bs with
        | nil=>have:=hbs.1;simp at this
        | cons y2 bs =>
         obtain⟨_,_,e,hy2,hbs⟩:=hbs.of_cons;simp at e;obtain⟨rfl,rfl⟩:=e
         cases bs with
         | nil=>have:=hbs.1;simp at this
         | cons y3 bs =>
          obtain⟨_,_,e,hy3,hbs⟩:=hbs.of_cons;simp at e;obtain⟨rfl,rfl⟩:=e
          cases bs with
          | cons _ _=>have:=hbs.1;simp at this
          | nil =>
           simp[zp8]at hp
           split at hp
           ·rename_i m hm'
            split at hp
            ·rename_i j hj;unfold zho at hp
             split at hp
             ·rename_i l hl;injection hp with hp;subst hp;obtain⟨k,rfl,hl0⟩:=zdk hl hy;obtain⟨k2,rfl,hj0⟩:=zdk hj hy2;obtain⟨k3,rfl,hm0⟩:=zdk hm' hy3;have:=zhj hρ hn hq hc ho hs hm (l:=l) (j:=j) (m:=m) (q':=2*m+1-2*l) hl0 zo zo zo zo zo (fun h=>by omega);refine⟨_,?_,this⟩;simp[Instr.slice,run_underlying hu,Instr.sliceBounds,zbW hz,zb9 (show m<=c by omega),zb9 hj0,zb9 hl0]
             ·cases hp
            ·cases hp
           ·cases hp
theorem zc9 {vs:List TV}{f:TV->Option TV}{v:TV}(hv:zce vs f=some v):∃x,vs=[x]/\f x=some v:=by
 unfold zce at hv
 grind
theorem zdC {vs:List TV}{f:TV->TV->Option TV}{v:TV}(hv:zcv vs f=some v):∃x y,vs=[x,y]/\f x y=some v:=by
 unfold zcv at hv
 grind
theorem zhW:∀(l:List TV) (n:Nat),nth l n=l[n]?
 | [],_=>by simp[nth]
 | _::_,0=>rfl
 | _::l,n+1=>by simp only[nth,zBL9];exact zhW l n
theorem zi9:∀(l:List Nat) (n:Nat),zjV l n=l[n]?
 | [],_=>by simp[zjV]
 | _::_,0=>rfl
 | _::l,n+1=>by simp only[zjV,zBL9];exact zi9 l n
theorem zq4 {t:TypeId}{g:Bool}{n off:Nat}(hg:zdm P t=some g)(hn:zbZ P t=some n){l:List TV}{cs:List Value}(hl:VL ρ l cs)(h1:∀x∈l,x.one=true){v:TV}(hv:zla g off n l=some v)(w:World) :
  ∃v',(part t cs.toArray off).run P w=.ok v' w/\VR ρ v v':=by
 unfold zla at hv
 cases g
 ·simp only[cond_false,zhW]at hv;obtain⟨y,hy,hr⟩:=hl.at hv;refine⟨y,?_,hr⟩;simp[part,zkZ hg,hy]
 ·simp only[cond_true]at hv;obtain⟨h0,hv⟩:=zi hv;injection hv with hv;subst hv;have hle:=zAM9 h0;refine⟨.agg ((cs.drop off).take n).toArray,?_,VR.aggL ((hl.drop off).take n) fun x hx=>h1 x (zBM9 (zBP9 hx))⟩;simp[part,zkZ hg,zbW hn]
theorem zpz {t:TypeId}{i off n:Nat}{g:Bool}(hf:zi4 P t i=some (off,g,n)):∃fs f,P.underlying t=some (.struct fs)/\fs[i]?=some f/\f.offset=off/\zdm P f.type=some g/\zbZ P f.type=some n:=by
 unfold zi4 at hf
 grind
theorem zuW {t:TypeId}{i off n:Nat}{g:Bool}(hf:zi4 P t i=some (off,g,n)){x v:TV}{x':Value}(hx:VR ρ x x')(hv:ziW off n x=some v)(w:World):∃v',(Instr.fieldAt t x' i).run P w=.ok v' w/\VR ρ v v':=by
 obtain⟨fs,f,hu,hfi,rfl,_,hm⟩:=zpz hf;unfold ziW at hv
 split at hv
 ·obtain⟨h0,hv⟩:=zi hv;injection hv with hv;subst hv;have hle:=zAM9 h0
  cases hx with
  | ptr hρ hc =>
   have:=(zdB hm).1;exact⟨_,by simp[Instr.fieldAt,run_underlying hu,hfi,Instr.sureAddr,fieldPlace,zbW hm,this,zc0],.ptr hρ zo⟩
 ·cases hv
theorem zyz {t:TypeId}{i off n:Nat}{g:Bool}(hf:zi4 P t i=some (off,g,n)){x v:TV}{x':Value}(hx:VR ρ x x')(hv:zwC g off n x=some v)(w:World):∃v',(Instr.field t x' i).run P w=.ok v' w/\VR ρ v v':=by
 obtain⟨fs,f,hu,hfi,rfl,hg,hm⟩:=zpz hf;unfold zwC at hv
 split at hv
 ·cases hx with
  | agg hl h1 hr =>
   obtain⟨v',h2,h3⟩:=zq4 hg hm ⟨hl,hr⟩ h1 hv w;exact⟨v',by simp[Instr.field,run_underlying hu,hfi,asAgg,h2],h3⟩
 ·cases hv
theorem zvJ {t e:TypeId}{z:Nat}(hu:P.underlying t=some (.slice e))(hz:zbZ P e=some z){x y v:TV}{x' y':Value}(hx:VR ρ x x')(hy:VR ρ y y')(hv:ziU z x y=some v)(w:World):∃v',(Instr.indexAt t x' y').run P w=.ok v' w/\VR ρ v v':=by
 unfold ziU at hv
 split at hv
 ·rename_i b g o n q zz;obtain⟨hzz,hv⟩:=zi hv;obtain rfl:=zAF9 hzz
  split at hv
  ·rename_i i hi;obtain⟨h0,hv⟩:=zi hv;injection hv with hv;subst hv;have hlt:=zCA9.mp h0;obtain⟨k,_,rfl⟩:=zfZ hi hy
   cases hx with
   | sl hρ hn hq hc ho hs hm =>
    rename_i o' c loc;have ho':o'=o:=by rcases ho with h|⟨h,_⟩;exact h;omega
    subst ho';refine⟨.pointer (some ⟨loc.r,o'+i*z,none⟩),?_,.ptr hρ ?_⟩
    ·simp[Instr.indexAt,asIntOf,run_underlying hu,zbW hz,hlt,zc0]
    ·have:(i+1)*z<=q/2*z:=zBV9 z zo;rw[zCH9]at this;omega
  ·cases hv
 ·cases hv
theorem ztM {t e:TypeId}{len z:Nat}(hu:P.underlying t=some (.array len e))(hz:zbZ P e=some z){x y v:TV}{x' y':Value}(hx:VR ρ x x')(hy:VR ρ y y')(hv:zhI len z x y=some v)(w:World):∃v',(Instr.indexAt t x' y').run P w=.ok v' w/\VR ρ v v':=by
 unfold zhI at hv
 split at hv
 ·rename_i b g o e
  split at hv
  ·rename_i i hi;obtain⟨h0,hv⟩:=zi hv;obtain⟨h1,hv⟩:=zi hv;injection hv with hv;subst hv;have hlt:=zCA9.mp h0;have hle:=zAM9 h1;obtain⟨k,_,rfl⟩:=zfZ hi hy
   cases hx with
   | ptr hρ hc =>
    rename_i loc;refine⟨.pointer (some ⟨loc.r,o+i*z,none⟩),?_,.ptr hρ ?_⟩
    ·simp[Instr.indexAt,asIntOf,run_underlying hu,zbW hz,hlt,zc0,Instr.sureAddr]
    ·have:(i+1)*z<=len*z:=zBV9 z zo;rw[zCH9]at this;omega
  ·cases hv
 ·cases hv
theorem zuf {t e:TypeId}{len z:Nat}{g:Bool}(hu:P.underlying t=some (.array len e))(hg:zdm P e=some g)(hz:zbZ P e=some z){x y v:TV}{x' y':Value}(hx:VR ρ x x')(hy:VR ρ y y')(hv:znY len g z x y=some v)(w:World) :
  ∃v',(Instr.index t x' y').run P w=.ok v' w/\VR ρ v v':=by
 unfold znY at hv
 split at hv
 ·split at hv
  ·rename_i i hi;obtain⟨h0,hv⟩:=zi hv;have hlt:=zCA9.mp h0;obtain⟨k,_,rfl⟩:=zfZ hi hy
   cases hx with
   | agg hl h1 hr =>
    obtain⟨v',h2,h3⟩:=zq4 hg hz ⟨hl,hr⟩ h1 hv w;exact⟨v',by simp[Instr.index,asIntOf,run_underlying hu,zbW hz,hlt,h2],h3⟩
  ·cases hv
 ·cases hv
theorem ztx {t:TypeId}(hu:P.underlying t=some .string){x y v:TV}{x' y':Value}(hx:VR ρ x x')(hy:VR ρ y y')(hv:zi1 x y=some v)(w:World):∃v',(Instr.index t x' y').run P w=.ok v' w/\VR ρ v v':=by
 unfold zi1 at hv
 split at hv
 ·split at hv
  ·rename_i i hi
   split at hv
   ·rename_i c hc;injection hv with hv;subst hv;obtain⟨k,_,rfl⟩:=zfZ hi hy
    cases hx with
    | str s =>
     rw[zi9]at hc;simp at hc;obtain⟨u,hu',rfl⟩:=hc;have:s[i]?=some u:=by
      have hlt:=(zBT9.1 hu').1;have h2:=(zBT9.1 hu').2;have hs:i<s.size:=hlt;rw[getElem?_pos s i hs];exact congrArg some h2
     exact⟨.int .u8 ((u.toNat:Nat):Int),by simp[Instr.index,asIntOf,run_underlying hu,this],.int _ _⟩
   ·cases hv
  ·cases hv
 ·cases hv
theorem zvl {t:TypeId}(hu:P.underlying t=some .string){lo hi:Option Value}{vs:List TV}{x':Value}(hv:VL ρ vs (x'::(lo.toList++hi.toList))){v:TV}(hp:zku lo.isSome hi.isSome vs=some v)(w:World) :
  ∃v',(Instr.sliceAt t x' lo hi none).run P w=.ok v' w/\VR ρ v v':=by
 have hunf:(Instr.sliceAt t x' lo hi none).run P w=(Instr.slice t x' lo hi none).run P w:=by simp[Instr.sliceAt,run_underlying hu]
 rw[hunf];unfold zku at hp
 split at hp
 ·rename_i s bs;obtain⟨_,cs',e,hx,hbs⟩:=hv.of_cons;injection e with e1 e2;subst e1;subst e2
  cases hx with
  | str s =>
   have hsz:(s.data.toList.map (·.toNat)).length=s.size:=by simp
   unfold ztl at hp;have hex:∀l j,l<=j->j<=s.size->VR ρ (.str (((s.data.toList.map (·.toNat)).take j).drop l)) (.string (s.extract l j)):=fun l j h1 h2=>by
    have:((s.data.toList.map (·.toNat)).take j).drop l=(s.extract l j).data.toList.map (·.toNat):=by
     simp[ByteArray.data_extract,Array.toList_extract,List.extract_eq_take_drop,zCU9,zCN9,zDK9]
    rw[this];exact .str _
   cases lo with
   | none=>cases hi with
    | none =>
     cases bs with
     | cons _ _=>have:=hbs.1;simp at this
     | nil =>
      simp at hp;subst hp;have:=hex 0 s.size (zAL9 _) (zAE9 _);rw[<- hsz,zBS9,zED9,hsz]at this;exact⟨.string s,by simp[Instr.slice,run_underlying hu,Instr.sliceBounds],by simpa using this⟩
    | some hi =>
     cases bs with
     | nil=>have:=hbs.1;simp at this
     | cons y bs =>
      obtain⟨_,_,e,hy,hbs⟩:=hbs.of_cons;simp at e;obtain⟨rfl,rfl⟩:=e
      cases bs with
      | cons _ _=>have:=hbs.1;simp at this
      | nil =>
       simp at hp
       split at hp
       ·rename_i j hj;injection hp with hp;subst hp;obtain⟨k,rfl,hj0⟩:=zdk hj hy;have:=hex 0 j (zAL9 _) hj0;rw[zED9]at this;exact⟨_,by simp[Instr.slice,run_underlying hu,Instr.sliceBounds,zb9 hj0];rfl,by simpa using this⟩
       ·cases hp
   | some lo=>cases hi with
    | none =>
     cases bs with
     | nil=>have:=hbs.1;simp at this
     | cons y bs =>
      obtain⟨_,_,e,hy,hbs⟩:=hbs.of_cons;simp at e;obtain⟨rfl,rfl⟩:=e
      cases bs with
      | cons _ _=>have:=hbs.1;simp at this
      | nil =>
       simp at hp
       split at hp
       ·rename_i j hj;injection hp with hp;subst hp;obtain⟨k,rfl,hj0⟩:=zdk hj hy;have:=hex j s.size hj0 (zAE9 _);rw[<- hsz,zBS9,hsz]at this;exact⟨_,by simp[Instr.slice,run_underlying hu,Instr.sliceBounds,zb9 hj0];rfl,by simpa using this⟩
       ·cases hp
    | some hi =>
     cases bs with
     | nil=>have:=hbs.1;simp at this
     | cons y bs =>
      obtain⟨_,_,e,hy,hbs⟩:=hbs.of_cons;simp at e;obtain⟨rfl,rfl⟩:=e
      cases bs with
      | nil=>have:=hbs.1;simp at this
      | cons y2 bs =>
       obtain⟨_,_,e,hy2,hbs⟩:=hbs.of_cons;simp at e;obtain⟨rfl,rfl⟩:=e
       cases bs with
       | cons _ _=>have:=hbs.1;simp at this
       | nil =>
        simp at hp
        split at hp
        ·rename_i j hj
         split at hp
         ·rename_i l hl;injection hp with hp;subst hp;obtain⟨k,rfl,hj0⟩:=zdk hj hy2;obtain⟨k2,rfl,hl0⟩:=zdk hl hy;have:=hex l j hl0 hj0;exact⟨_,by simp[Instr.slice,run_underlying hu,Instr.sliceBounds,zb9 hj0,zb9 hl0];rfl,by simpa using this⟩
         ·cases hp
        ·cases hp
 ·cases hp
theorem zuG {t e:TypeId}{len z:Nat}(hu:P.underlying t=some (.array len e))(hz:zbZ P e=some z)(hlen:len<=1000000){lo hi:Option Value}{vs:List TV}{x':Value}(hv:VL ρ vs (x'::(lo.toList++hi.toList))){v:TV}(hp:zmx len z lo.isSome hi.isSome vs=some v)(w:World) :
  ∃v',(Instr.sliceAt t x' lo hi none).run P w=.ok v' w/\VR ρ v v':=by
 unfold zmx at hp
 split at hp
 ·obtain⟨h0,hp⟩:=zmj hp;obtain⟨h1,hp⟩:=zmj hp;obtain⟨h2,hp⟩:=zi hp;injection hp with hp;subst hp;have hle:=zAM9 h2
  cases lo with
  | some _=>simp at h0
  | none=>cases hi with
   | some _=>simp at h1
   | none =>
    obtain⟨_,cs',e,hx,hbs⟩:=hv.of_cons;injection e with e1 e2;subst e1;subst e2
    cases hx with
    | ptr hρ hc =>
     refine⟨_,?_,.sl hρ (c:=len) zo zo ?_ (.inl rfl) (fun h=>by omega) (by simp only[maxLen];omega)⟩
     ·simp[Instr.sliceAt,run_underlying hu,Instr.sliceBounds,Instr.sureAddr,zbW hz,zc0]
     ·have:(2*len+1)/2=len:=zo;rw[this];omega
 ·cases hp
def zuo (P:Program)(t:TypeId):Prop:=(∃k,P.underlying t=some (.int k))\/P.underlying t=some .string
theorem zhY {key:TypeId}(hk:zuo P key)(b:Bool)(n:Nat)(v:Value)(w:World):(Instr.checkKey b (n+1) key v).run P w=.ok () w:=by
 rcases hk with⟨k,hu⟩|hu<;>simp[Instr.checkKey,run_underlying hu]
theorem EsR.of_cons {e:zcD}{es:List zcD}{es':List MapEntry}(h:EsR ρ (e::es) es'):∃e' r,es'=e'::r/\VR ρ e.k e'.key/\VR ρ e.v e'.val/\e'.born=e.n/\EsR ρ es r:=by
 cases es' with
 | nil=>have:=h.1;simp at this
 | cons e' r =>
  obtain⟨a,b,c⟩:=h.2 0 e e' rfl rfl;exact⟨e',r,rfl,a,b,c,by have:=h.1;simpa using this,fun i x y hx hy=>h.2 (i+1) x y (by simpa using hx) (by simpa using hy)⟩
theorem zmt {key:TypeId}{d:TypeDesc}(hu:P.underlying key=some d)(hk:zuo P key){x y:TV}{x' y':Value}(hx:VR ρ x x')(hy:VR ρ y y'){b:Bool}(he:zgZ x y=some b)(hx1:(∃k,d=.int k)->∃j n,x=.int j n)(hx2:d=.string->∃s,x=.str s):Instr.sameNow d x' y'=some b:=by
 unfold zgZ at he
 split at he
 ·split at he
  ·rename_i k a _ k' b';obtain⟨hk',he2⟩:=zi he;obtain rfl:=zhE hk';injection he2 with he2;subst he2
   cases hx;cases hy
   have:∃k,d=.int k:=by
    rcases hk with⟨j,hj⟩|hj
    all_goals grind
   obtain⟨j,rfl⟩:=this;simp[Instr.sameNow,zcX]
  ·cases he
 ·split at he
  ·injection he with he;subst he
   cases hx with
   | str a=>cases hy with
    | str c =>
     have:d=.string:=by
      rcases hk with⟨j,hj⟩|hj
      all_goals grind
     subst this;have h1:zdH (bts a) (bts c)=(a==c):=by rw[zgS,zqX,beq_toListBytes]
     simp only[Instr.sameNow];exact congrArg some h1.symm
  ·cases he
 ·cases he
def zzT (d:TypeDesc)(x:TV):Prop:=((∃k,d=.int k)->∃j n,x=.int j n)/\(d=.string->∃s,x=.str s)
theorem zfN {key:TypeId}{d:TypeDesc}(hu:P.underlying key=some d)(hk:zuo P key){x:TV}{x':Value}(hx:VR ρ x x')(hkv:zzT d x):∀{es:List zcD} {es':List MapEntry} {i:Nat} {r:Option (Nat×zcD)},EsR ρ es es'->zft x es i=some r ->
  ∃r',Instr.findNow d x' es' i=some r'/\((r=none/\r'=none)\/∃j e e',r=some (i+j,e)/\r'=some (i+j,e'.val)/\es[j]?=some e/\es'[j]?=some e'/\zgZ x e.k=some true)
 | [],es',i,r,he,hf=>by
  have:es'=[]:=by have:=he.1;cases es' with|nil=>rfl|cons _ _=>simp at this
  subst this;simp[zft]at hf;subst hf;exact⟨none,rfl,.inl ⟨rfl,rfl⟩⟩
 | e::es,es',i,r,he,hf=>by
  obtain⟨e',rr,rfl,h1,h2,h3,h4⟩:=he.of_cons;unfold zft at hf
  split at hf
  ·cases hf
  ·rename_i hq;injection hf with hf;subst hf;have:=zmt hu hk hx h1 hq hkv.1 hkv.2;refine⟨some (i,e'.val),by simp[Instr.findNow,this],.inr ⟨0,e,e',rfl,rfl,rfl,rfl,hq⟩⟩
  ·rename_i hq;have:=zmt hu hk hx h1 hq hkv.1 hkv.2;obtain⟨r',hr',hc⟩:=zfN hu hk hx hkv h4 hf;refine⟨r',by simp[Instr.findNow,this,hr'],?_⟩;rcases hc with hc|⟨j,a,b,c1,c2,c3,c4,c5⟩
   ·grind
   ·exact .inr ⟨j+1,a,b,by rw[c1];congr 2;omega,by rw[c2];congr 2;omega,by simpa using c3,by simpa using c4,c5⟩
def kfT (kf:Nat)(d:TypeDesc):Prop:=(kf=1/\∃k,d=.int k)\/(kf=2/\d=.string)
theorem zl0 {kf:Nat}{d:TypeDesc}(hk:kfT kf d){x:TV}(h:zfv kf x=true):zzT d x:=by
 rcases hk with⟨rfl,k,rfl⟩|⟨rfl,rfl⟩
 ·cases x<;>simp[zfv,zko]at h
  exact⟨fun _=>⟨_,_,rfl⟩,fun h=>by cases h⟩
 ·cases x<;>simp[zfv,zkR]at h
  exact⟨fun h=>(by obtain⟨_,h⟩:=h;cases h),fun _=>⟨_,rfl⟩⟩
theorem zob {kf:Nat}{key:TypeId}{d:TypeDesc}(hu:P.underlying key=some d)(hk:kfT kf d):zuo P key:=by
 rcases hk with⟨_,k,rfl⟩|⟨_,rfl⟩
 ·exact .inl ⟨k,hu⟩
 ·exact .inr hu
theorem zks (k:WR P Z ρ h w){b:Nat}{loc:Loc}(hρ:ρ b 0=some loc){es:List zcD}{ck:Nat}(hb:h.get b=some (.map es ck)):∃es',w.heap[loc.r]?=some (.map es' ck)/\EsR ρ es es'.toList:=by
 obtain⟨o,ho,hr⟩:=k.obj b 0 loc hρ;rw[hb]at ho;injection ho with ho;subst ho;obtain⟨loc',es',h1,h2,h3⟩:=hr
 grind
theorem zd1 {r:Nat}{es:Array MapEntry}{ck:Nat}(hh:w.heap[r]?=some (.map es ck)):(getObj r).run P w=.ok (.map es ck) w:=by
 simp[getObj,Sem.run,hh]
theorem zm8 {ok:Bool}{v:TV}{v':Value}(h:VR ρ v v')(b:Bool):VR ρ (okT ok v b) (if ok=true then .tuple #[v',.bool b]else v'):=by
 cases ok
 ·exact h
 ·exact VR.tupL (.cons h (VL.one (.bool b)))
theorem zqG (k:WR P Z ρ h w){t key e:TypeId}{kf:Nat}{d:TypeDesc}(hu:P.underlying t=some (.map key e))(hd:P.underlying key=some d)(hkf:kfT kf d){z:TV}(hz:zdw P e=some z){ok:Bool}{x y v:TV}{x' y':Value}(hx:VR ρ x x')(hy:VR ρ y y')(hv:zhu kf z ok h x y=some v) :
  ∃v',(Instr.lookup t x' y' ok).run P w=.ok v' w/\VR ρ v v':=by
 have hkt:=zob hd hkf;obtain⟨zv,hzv,hzr⟩:=zfT (ρ:=ρ) hz w;unfold zhu at hv;obtain⟨h0,hv⟩:=zi hv;have hkv:=zl0 hkf h0;have hck:∀b,(Instr.checkKey b 10000 key y').run P w=.ok () w:=fun b=>zhY hkt b 9999 y' w
 split at hv
 ·injection hv with hv;subst hv
  cases hx
  refine⟨_,?_,zm8 hzr false⟩;simp[Instr.lookup,run_underlying hu,hck,Instr.findKey,run_underlying hd,Instr.findNow,hzv]
 ·split at hv
  ·rename_i o ho;unfold znz at hv
   split at hv
   ·rename_i es ck
    cases hx with
    | map hρ =>
     obtain⟨es',he,her⟩:=zks k hρ ho
     split at hv
     ·rename_i j e hf;injection hv with hv;subst hv;obtain⟨r',hr',hc⟩:=zfN hd hkt hy hkv her hf;rcases hc with⟨hc,_⟩|⟨j',a,b,c1,c2,c3,c4,c5⟩
      ·cases hc
      ·injection c1 with c1;injection c1 with _ c1;subst c1;subst c2;obtain⟨_,hvv,_⟩:=her.2 j' e b c3 c4;refine⟨_,?_,zm8 hvv true⟩;simp[Instr.lookup,run_underlying hu,zd1 he,hck,Instr.findKey,run_underlying hd,hr']
     ·rename_i hf;injection hv with hv;subst hv;obtain⟨r',hr',hc⟩:=zfN hd hkt hy hkv her hf;rcases hc with⟨_,rfl⟩|⟨j',a,b,c1,_⟩
      ·refine⟨_,?_,zm8 hzr false⟩;simp[Instr.lookup,run_underlying hu,zd1 he,hck,Instr.findKey,run_underlying hd,hr',hzv]
      ·cases c1
     ·cases hv
   ·cases hv
  ·cases hv
 ·cases hv
theorem zsv {X:TypeId}{t:TypeId}{d:TypeDesc}(hu:P.underlying t=some d)(hd:∀ms,d ≠ .interface ms){z:TV}(hz:zdw P t=some z){ok:Bool}{x v:TV}{x':Value}(hx:VR ρ x x')(hv:zjg t z ok x=some v)(w:World) :
  ∃v',(Instr.typeAssert x' X t ok).run P w=.ok v' w/\VR ρ v v':=by
 obtain⟨zv,hzv,hzr⟩:=zfT (ρ:=ρ) hz w;unfold zjg at hv
 split at hv
 ·cases hx with
  | iface hr =>
   rename_i t' u u'
   cases hb:Nat.beq t t'<;>rw[hb]at hv
   ·have hne:t'≠t:=fun e=>by subst e;simp at hb
    simp only[cond_false]at hv;obtain⟨rfl,hv⟩:=zi hv;injection hv with hv;subst hv;refine⟨_,?_,VR.tupL (.cons hzr (VL.one (.bool false)))⟩
    cases d<;>first|(exact absurd rfl (hd _))|simp[Instr.typeAssert,run_underlying hu,hne,hzv]
   ·obtain rfl:=zAF9 hb;simp only[cond_true]at hv;injection hv with hv;subst hv;refine⟨_,?_,zm8 hr true⟩
    cases d<;>first|(exact absurd rfl (hd _))|simp[Instr.typeAssert,run_underlying hu]
 ·obtain⟨rfl,hv⟩:=zi hv;injection hv with hv;subst hv
  cases hx
  refine⟨_,?_,VR.tupL (.cons hzr (VL.one (.bool false)))⟩
  cases d<;>first|(exact absurd rfl (hd _))|simp[Instr.typeAssert,run_underlying hu,hzv]
 ·cases hv
theorem zpX (off:Nat):∀(cs:List Value) (k:Nat) (cells:Array Value),off+k+cs.length<=cells.size ->
  ((cs.zipIdx k).foldl (fun a (x:Value×Nat)=>a.setIfInBounds (off+x.2) x.1) cells).toList=cells.toList.take (off+k)++cs++cells.toList.drop (off+k+cs.length)
 | [],k,cells,_=>by simp
 | c::cs,k,cells,h=>by
  simp only[zAG9]at h;have hlt:off+k<cells.toList.length:=by simp;omega
  rw[List.zipIdx_cons,zEZ9,zpX off cs (k+1) _ (by simp;omega)];have h1:(cells.setIfInBounds (off+k) c).toList.take (off+(k+1))=cells.toList.take (off+k)++[c]:=by
   rw[zEU9,show off+(k+1)=(off+k)+1 by omega,zBQ9];rw[List.take_set_of_le (zAE9 _)]
   grind
  have h2:(cells.setIfInBounds (off+k) c).toList.drop (off+(k+1)+cs.length)=cells.toList.drop (off+k+(cs.length+1)):=by
   rw[zEU9,List.drop_set_of_lt zo]
   grind
  simp_all
theorem zxE (cells v:Array Value)(off:Nat)(h:off+v.size<=cells.size) :
  v.zipIdx.foldl (fun cs (x:Value×Nat)=>cs.setIfInBounds (off+x.2) x.1) cells=(cells.toList.take off++v.toList++cells.toList.drop (off+v.size)).toArray:=by
 apply Array.ext'
 have:=zpX off v.toList 0 cells (by simpa using h);simp only[zDD9,zDW9]at this;rw[<- this,<- Array.foldl_toList];simp
theorem zjO {place:Nat->Option (Nat×Nat)}:∀{parts:List (Nat×Value)} {places:List (Nat×Nat)} {vs:List TV} {cells:List TV} {cs:Array Value} {l:List TV},
  places.length=parts.length->(∀(i:Nat) p q,parts[i]?=some p->places[i]?=some q->place p.1=some q)->VL ρ vs (parts.map (·.2))->VL ρ cells cs.toList->(∀x∈cells,x.one=true)->(∀q∈places,q.2≠0)->zit cells places vs=some l ->
  ∃ds,Instr.fill place cs parts=some ds/\VL ρ l ds.toList/\(∀x∈l,x.one=true)/\l.length=cells.length
 | [],places,vs,cells,cs,l,hl,_,hv,hc,h1,_,hf=>by
  have:places=[]:=by cases places;rfl;simp at hl
  subst this;have:vs=[]:=by have:=hv.1;cases vs;rfl;simp at this
  subst this;simp[zit]at hf;subst hf;exact⟨cs,rfl,hc,h1,rfl⟩
 | (i,v)::parts,places,vs,cells,cs,l,hl,hp,hv,hc,h1,hz,hf=>by
  cases places with
  | nil=>simp at hl
  | cons q places =>
   cases vs with
   | nil=>have:=hv.1;simp at this
   | cons u vs =>
    obtain⟨_,_,e,hu,hvs⟩:=hv.of_cons;simp at e;obtain⟨rfl,rfl⟩:=e;obtain⟨off,size⟩:=q;simp only[zit]at hf;obtain⟨ha,hf⟩:=zi hf;obtain⟨hb,hf⟩:=zi hf;have hsz:=zAF9 ha;have hle:=zAM9 hb;have hz0:size≠0:=hz (off,size) (by simp);obtain⟨hcl,hc1⟩:=hu.cells (.inl (by intro e;rw[e]at hsz;simp at hsz;omega));have hvsz:v.cells.size=size:=by have:=hcl.1;rw[hsz]at this;simpa using this.symm
    have hcsz:cs.size=cells.length:=by have:=hc.1;simpa using this.symm
    have hpl:=hp 0 (i,v) (off,size) rfl rfl;dsimp only at hpl;have hstep:=zxE cs v.cells off zo;obtain⟨ds,hd,hd1,hd2,hd3⟩:=zjO (place:=place) (parts:=parts) (places:=places) (vs:=vs) (cs:=(cs.toList.take off++v.cells.toList++cs.toList.drop (off+v.cells.size)).toArray) (by simpa using hl) (fun j p q hj hq=>hp (j+1) p q (by simpa using hj) (by simpa using hq)) hvs
     (by rw[hvsz];exact((hc.take off).app hcl).app (hc.drop (off+size))) (fun x hx=>by
      rcases zBF9.1 hx with hx|hx
      ·rcases zBF9.1 hx with hx|hx
       ·exact h1 x (zBP9 hx)
       ·exact hc1 x hx
      ·exact h1 x (zBM9 hx)) (fun q hq=>hz q (zAO9 _ hq)) hf
    refine⟨ds,?_,hd1,hd2,by rw[hd3];simp[hsz];omega⟩;unfold Instr.fill;rw[hpl];simp only;rw[if_neg (by simp[hvsz];omega)];rw[<- hd]
    congr 1
theorem zvW {t:TypeId}{z:List TV}(hz:zdw P t=some (.agg z)){ops:Array (Nat×Operand)}{ps:List (Nat×Nat)}(hps:zn3 P t ops.toList=some ps){a:Act}{vs:List TV}(hv:VL ρ vs ((ops.toList.map (·.2)).map a.eval)){v:TV}(hp:zmJ z ps vs=some v)(w:World) :
  ∃v',(Instr.build t (ops.map fun(i,x)=>(i,a.eval x))).run P w=.ok v' w/\VR ρ v v':=by
 obtain⟨i,zv,hi,hzi,hzr⟩:=zjQ hz;have hzr:=hzr ρ;unfold zmJ at hp
 split at hp
 ·rename_i l hl;injection hp with hp;subst hp;unfold zn3 at hps
  split at hps
  ·rename_i fs hu
   split at hps
   ·rename_i pl hpl;obtain⟨m1,m2⟩:=zi3 hps
    cases hzr with
    | agg hl0 h1 hr =>
     rename_i cs;obtain⟨ds,hd,hd1,hd2,_⟩:=zjO (place:=fun i=>pl[i]?) (parts:=(ops.map fun(i,x)=>(i,a.eval x)).toList) (places:=ps) (vs:=vs) (cells:=z) (cs:=cs.toArray) (by simp[m1]) (fun j p q hj hq=>by
       simp only[zDX9,zAI9]at hj
       cases ho:ops.toList[j]? with
       | none=>rw[ho]at hj;cases hj
       | some o =>
        rw[ho]at hj;simp at hj;have:=m2 j o q ho hq;unfold zol at this
        split at this
        ·split at this
         ·cases this
         ·injection this with this;subst this;rw[<- hj];assumption
        ·cases this) (by simpa[Function.comp_def]using hv) ⟨by simpa using hl0,by simpa using hr⟩ h1 (fun q hq=>by
       obtain⟨j,hj,rfl⟩:=zBH9.1 hq;have hj':j<ops.toList.length:=by rw[<- m1];exact hj
       have:=m2 j ops.toList[j] ps[j] (zAA9 hj') (zAA9 hj);unfold zol at this
       split at this
       ·split at this
        ·cases this
        ·injection this with this;rw[<- this];assumption
       ·cases this) hl
     refine⟨.agg ds,?_,by have:=VR.aggL hd1 hd2;simpa using this⟩;simp only[zDX9]at hd;simp[Instr.build,run_underlying hu,typeInfo,zeroValue,hi,hzi,Array.mapM_eq_mapM_toList,run_places w _ _ hpl,Value.cells,hd]
   ·cases hps
  ·rename_i len e hu
   split at hps
   ·rename_i n hn;injection hps with hps;subst hps
    cases hzr with
    | agg hl0 h1 hr =>
     rename_i cs;obtain⟨ds,hd,hd1,hd2,_⟩:=zjO (place:=fun i=>some (i*n,n)) (parts:=(ops.map fun(i,x)=>(i,a.eval x)).toList) (places:=ops.toList.map fun p=>(p.1*n,n)) (vs:=vs) (cells:=z) (cs:=cs.toArray) (by simp) (fun j p q hj hq=>by
       simp only[zDX9,zAI9]at hj hq
       cases ho:ops.toList[j]? with
       | none=>rw[ho]at hj;cases hj
       | some o=>rw[ho]at hj hq;simp at hj hq;subst hj;subst hq;rfl) (by simpa[Function.comp_def]using hv) ⟨by simpa using hl0,by simpa using hr⟩ h1 (fun q hq=>by obtain⟨p,_,rfl⟩:=zAK9.1 hq;exact(zdB hn).1) hl
     refine⟨.agg ds,?_,by have:=VR.aggL hd1 hd2;simpa using this⟩;simp only[zDX9]at hd;simp[Instr.build,run_underlying hu,typeInfo,zeroValue,hi,hzi,zbW hn,Value.cells,hd]
   ·cases hps
  ·cases hps
 ·cases hp
theorem zrY {t:TypeId}{k:Nat}(hk:(k=1/\∃j,P.underlying t=some (.int j))\/(k=2/\P.underlying t=some .bool)\/(k=3/\P.underlying t=some .string)){x y:TV}{x' y':Value}(hx:VR ρ x x')(hy:VR ρ y y'){b:Bool}(he:zld k x y=some b)(d:Nat)(w:World) :
  (Op.equalIn (d+1) t x' y').run P w=.ok b w/\(isAgg t).run P w=.ok false w:=by
 unfold zld at he
 split at he
 ·obtain⟨hk1,he1⟩:=zi he;have hk0:=zAF9 hk1;clear he hk1;subst hk0;have he:=he1;clear he1;rcases hk with⟨_,j,hu⟩|⟨h,_⟩|⟨h,_⟩<;>first|omega|skip
  split at he
  ·obtain⟨hkk,he2⟩:=zi he;obtain rfl:=zhE hkk;injection he2 with he2;subst he2
   cases hx;cases hy
   exact⟨by rw[run_equalIn_int w d t _ j _ _ hu,zcX],by simp[isAgg,run_underlying hu]⟩
  ·cases he
 ·obtain⟨hk1,he1⟩:=zi he;have hk0:=zAF9 hk1;clear he hk1;subst hk0;have he:=he1;clear he1;rcases hk with⟨h,_⟩|⟨_,hu⟩|⟨h,_⟩<;>first|omega|skip
  split at he
  ·injection he with he;subst he
   cases hx;cases hy
   have hbc:∀a c:Bool,(a==c)=(bif a then c else not c):=by decide
   exact⟨by rw[run_equalIn_bool' w d t _ _ hu,hbc],by simp[isAgg,run_underlying hu]⟩
  ·cases he
 ·obtain⟨hk1,he1⟩:=zi he;have hk0:=zAF9 hk1;clear he hk1;subst hk0;have he:=he1;clear he1;rcases hk with⟨h,_⟩|⟨h,_⟩|⟨_,hu⟩<;>first|omega|skip
  split at he
  ·injection he with he;subst he
   cases hx with
   | str a=>cases hy with
    | str c =>
     refine⟨?_,by simp[isAgg,run_underlying hu]⟩;rw[run_equalIn_string w d t _ _ hu];have:zdH (bts a) (bts c)=(a.toList==c.toList):=by rw[zgS,zqX]
     exact congrArg (fun b=>Result.ok b w) this.symm
  ·cases he
 ·cases he
theorem ziI:∀{ks ms:List Nat} {l m:List TV} {b:Bool},zcs (ks++ms) l m=some b->∃b1,zcs ks (l.take ks.length) (m.take ks.length)=some b1/\(b1=true->zcs ms (l.drop ks.length) (m.drop ks.length)=some b)/\(b1=false->b=false)
 | [],ms,l,m,b,h=>⟨true,by simp[zcs],fun _=>by simpa using h,fun h=>by cases h⟩
 | k::ks,ms,l,m,b,h=>by
  rw[zAR9]at h;unfold zcs at h
  split at h
  ·grind
  ·rename_i k0 ks0 x l0 y m0 hkk;injection hkk with hk1 hk2;subst hk1;subst hk2
   split at h
   ·rename_i hsc;obtain⟨b1,h1,h2,h3⟩:=ziI h;exact⟨b1,by simp[zcs,hsc,h1],by simpa using h2,h3⟩
   ·rename_i r hsc;have hb:b=false:=by grind
    subst hb;exact⟨false,by simp[zcs,h],fun h=>(by cases h),fun _=>rfl⟩
  ·cases h
def zib (P:Program)(t:TypeId)(cs:List Value):Value:=if zdm P t=some true then .agg cs.toArray else cs.headD default
theorem zw8 {t:TypeId}{g:Bool}(h:zdm P t=some g)(w:World):(isAgg t).run P w=.ok g w:=by
 unfold zdm at h
 split at h
 ·rename_i hu;injection h with h;subst h;simp[isAgg,run_underlying hu]
 ·rename_i hu;injection h with h;subst h;simp[isAgg,run_underlying hu]
 ·rename_i u hn1 hn2 hu;injection h with h;subst h
  cases u<;>first|exact absurd rfl (hn1 _)|exact absurd rfl (hn2 _ _)|exact absurd hu (hn1 _)|exact absurd hu (hn2 _ _)|simp[isAgg,run_underlying hu]
 ·cases h
def EqD (P:Program)(ρ:Rho)(D:Nat)(t:TypeId)(ks:List Nat):Prop:=∀{l m:List TV} {cs ds:List Value},VL ρ l cs->VL ρ m ds->cs.length=ks.length->ds.length=ks.length->∀{b:Bool},zcs ks l m=some b->∀w,(Op.equalIn D t (zib P t cs) (zib P t ds)).run P w=.ok b w
theorem zin {t:TypeId}{g:Bool}{z:Nat}(hg:zdm P t=some g)(hz:zbZ P t=some z)(h1:g=false->z=1){cs:List Value}{o:Nat}(h:o+z<=cs.length)(w:World):(part t cs.toArray o).run P w=.ok (zib P t ((cs.drop o).take z)) w:=by
 unfold part;simp only[Sem.run_bind,zw8 hg w,Result.andThen_ok]
 cases g
 ·have hz1:=h1 rfl;subst hz1;have ho:o<cs.length:=zo;simp only[zCD9,if_false,zib,hg,Option.some.injEq];have e:cs.toArray[o]?=some cs[o]:=by simp[ho]
  rw[e];have e2:(cs.drop o).take 1=[cs[o]]:=by rw[zAQ9 ho];rfl
  rw[e2];rfl
 ·simp only[if_true,Sem.run_bind,zbW hz,Result.andThen_ok,zib,hg];have:cs.toArray.extract o (o+z)=((cs.drop o).take z).toArray:=by
   apply Array.ext'
   simp[List.take_drop]
  rw[this];rfl
theorem zmT {d:Nat}{t:TypeId}{ks:List Nat}(h:zeK P d t=some ks):∃g,zdm P t=some g/\(g=false->ks.length=1):=by
 cases d with
 | zero=>simp[zeK]at h
 | succ d =>
  unfold zeK at h;unfold zdm
  split at h
  ·rename_i hu;rw[hu];injection h with h;subst h;exact⟨false,rfl,fun _=>rfl⟩
  ·rename_i hu;rw[hu];injection h with h;subst h;exact⟨false,rfl,fun _=>rfl⟩
  ·rename_i hu;rw[hu];injection h with h;subst h;exact⟨false,rfl,fun _=>rfl⟩
  ·rename_i hu;rw[hu];exact⟨true,rfl,fun h=>(by cases h)⟩
  ·rename_i hu;rw[hu];exact⟨true,rfl,fun h=>(by cases h)⟩
  ·cases h
theorem zpJ {d D:Nat}(IH:∀t ks,zeK P d t=some ks->EqD P ρ D t ks):∀{fs:List Field} {n:Nat} {ks:List Nat},zkj P (zeK P d) fs n=some ks->∀{l m:List TV} {cs ds:List Value},VL ρ l (cs.drop n)->VL ρ m (ds.drop n)->cs.length=n+ks.length->ds.length=n+ks.length->∀{b:Bool},zcs ks l m=some b->∀w,(Op.eqFields D cs.toArray ds.toArray fs).run P w=.ok b w
 | [],n,ks,hf,l,m,cs,ds,hl,hm,hc,hd,b,he,w=>by
  simp[zkj]at hf;subst hf;unfold zcs at he
  split at he
  ·injection he with he;subst he;simp[Op.eqFields]
  all_goals grind
 | f::fs,n,ks,hf,l,m,cs,ds,hl,hm,hc,hd,b,he,w=>by
  unfold zkj at hf
  split at hf
  ·cases hf
  rename_i hname
  split at hf
  ·cases hf
  rename_i hoff;have hoff:f.offset=n:=Classical.not_not.1 hoff
  split at hf
  ·rename_i k1 z hk1 hz
   split at hf
   ·rename_i hkz
    split at hf
    ·rename_i ms hms;injection hf with hf;subst hf;subst hkz;simp only[zAB9]at hc hd;obtain⟨b1,e1,e2,e3⟩:=ziI he;obtain⟨g,hg,hg1⟩:=zmT hk1;have p1:=zin hg hz hg1 (cs:=cs) (o:=n) zo w;have p2:=zin hg hz hg1 (cs:=ds) (o:=n) zo w;have q:=IH _ _ hk1 (hl.take k1.length) (hm.take k1.length) (by simp;omega) (by simp;omega) e1 w;have hlr:=hl.drop k1.length;have hmr:=hm.drop k1.length;rw[zDN9]at hlr hmr
     cases b1 with
     | true =>
      have ih:=zpJ IH hms hlr hmr zo zo (e2 rfl) w;simp[Op.eqFields,hname,hoff,p1,p2,q,ih]
     | false =>
      obtain rfl:=e3 rfl;simp[Op.eqFields,hname,hoff,p1,p2,q]
    ·cases hf
   ·cases hf
  ·cases hf
theorem zo1 {D z:Nat}{e:TypeId}{ks:List Nat}{g:Bool}(hg:zdm P e=some g)(hg1:g=false->ks.length=1)(hz:zbZ P e=some z)(hkz:ks.length=z)(IH:EqD P ρ D e ks):∀{n i:Nat} {l m:List TV} {cs ds:List Value},VL ρ l (cs.drop (i*z))->VL ρ m (ds.drop (i*z))->cs.length=(i+n)*z->ds.length=(i+n)*z->∀{b:Bool},zcs (zj4 ks n) l m=some b->∀w,(Op.eqItems D e z cs.toArray ds.toArray (List.range' i n)).run P w=.ok b w
 | 0,i,l,m,cs,ds,hl,hm,hc,hd,b,he,w=>by
  unfold zj4 zcs at he
  split at he
  ·injection he with he;subst he;simp[Op.eqItems]
  all_goals grind
 | n+1,i,l,m,cs,ds,hl,hm,hc,hd,b,he,w=>by
  unfold zj4 at he;obtain⟨b1,e1,e2,e3⟩:=ziI he;rw[hkz]at e1 e2 hg1;have hlen:(i+(n+1))*z=i*z+z+n*z:=by rw[show i+(n+1)=i+1+n by omega,zCH9,zCH9,Nat.one_mul]
  have p1:=zin hg hz hg1 (cs:=cs) (o:=i*z) zo w;have p2:=zin hg hz hg1 (cs:=ds) (o:=i*z) zo w;have q:=IH (hl.take z) (hm.take z) (by simp;omega) (by simp;omega) e1 w;have hlr:=hl.drop z;have hmr:=hm.drop z;rw[zDN9]at hlr hmr;have e4:i*z+z=(i+1)*z:=by rw[zCH9,Nat.one_mul]
  rw[e4]at hlr hmr;rw[List.range'_succ]
  cases b1 with
  | true =>
   have ih:=zo1 hg (by rw[hkz];exact hg1) hz hkz IH hlr hmr (by rw[hc];congr 1;omega) (by rw[hd];congr 1;omega) (e2 rfl) w;simp[Op.eqItems,p1,p2,q,ih]
  | false =>
   obtain rfl:=e3 rfl;simp[Op.eqItems,p1,p2,q]
theorem zkh:∀(d D:Nat) (t:TypeId) (ks:List Nat),zeK P d t=some ks->EqD P ρ (D+d) t ks
 | 0,_,_,_,h=>by simp[zeK]at h
 | d+1,D,t,ks,h=>by
  rename_i l m cs ds;intro hl hm hc hd b he w;have hOne:∀k,ks=[k]->zdm P t=some false->((k=1/\∃j,P.underlying t=some (.int j))\/(k=2/\P.underlying t=some .bool)\/(k=3/\P.underlying t=some .string))->(Op.equalIn (D+(d+1)) t (zib P t cs) (zib P t ds)).run P w=.ok b w:=by
   intro k hk hg hkk;subst hk;unfold zcs at he
   split at he
   ·grind
   ·rename_i k0 ks0 x l0 y m0 hk0;injection hk0 with hk1 hk2;subst hk1;subst hk2;obtain⟨x',cs',rfl,hx,hl'⟩:=hl.of_cons;obtain⟨y',ds',rfl,hy,hm'⟩:=hm.of_cons;simp only[zib,hg,Option.some.injEq,zCD9,if_false,List.headD_cons]
    split at he
    ·rename_i hsc;unfold zcs at he
     split at he
     ·injection he with he;subst he;exact(zrY hkk hx hy hsc (D+d) w).1
     all_goals grind
    ·exact(zrY hkk hx hy he (D+d) w).1
   ·cases he
  unfold zeK at h
  split at h
  ·rename_i k hu;injection h with h;exact hOne 1 h.symm (by simp[zdm,hu]) (.inl ⟨rfl,_,hu⟩)
  ·rename_i hu;injection h with h;exact hOne 2 h.symm (by simp[zdm,hu]) (.inr (.inl ⟨rfl,hu⟩))
  ·rename_i hu;injection h with h;exact hOne 3 h.symm (by simp[zdm,hu]) (.inr (.inr ⟨rfl,hu⟩))
  ·rename_i fs hu
   split at h
   ·cases h
   rename_i hs;have hs:P.stoodInHeld t=false:=by simpa using hs
   have hfo:P.fieldsOf t=fs:=by simp[Program.fieldsOf,hu]
   have hg:zdm P t=some true:=by simp[zdm,hu]
   simp only[zib,hg,if_true];rw[show D+(d+1)=(D+d)+1 from rfl,run_equalIn_struct w (D+d) t cs.toArray ds.toArray (by rw[hfo];exact hu) hs,hfo];exact zpJ (fun t ks hk=>zkh d D t ks hk) h (by simpa using hl) (by simpa using hm) zo zo he w
  ·rename_i n e hu
   split at h
   ·rename_i k1 z hk1 hz
    split at h
    ·rename_i hkz;injection h with h;subst h;obtain⟨hz0,i,hi,hiz⟩:=zdB hz;have hg:zdm P t=some true:=by simp[zdm,hu]
     obtain⟨g,hg2,hg1⟩:=zmT hk1;simp only[zib,hg,if_true];have hco:P.cellsOf e=z:=by simp[Program.cellsOf,hi,hiz]
     rw[show D+(d+1)=(D+d)+1 from rfl,run_equalIn_array w (D+d) cs.toArray ds.toArray hu hi,hco,List.range_eq_range'];have hrl:∀n,(zj4 k1 n).length=n*z:=fun n=>by induction n with|zero=>simp[zj4]|succ n ih=>simp[zj4,ih,hkz,zCH9,zDE9]
     rw[hrl]at hc hd;exact zo1 hg2 hg1 hz hkz (zkh d D e k1 hk1) (by simpa using hl) (by simpa using hm) (by simpa using hc) (by simpa using hd) he w
    ·cases h
   ·cases h
  ·cases h
theorem zuX {t:TypeId}{ks:List Nat}(hf:zmC P t=some ks){neg:Bool}{x y v:TV}{x' y':Value}(hx:VR ρ x x')(hy:VR ρ y y')(hv:zkM neg ks x y=some v)(X Y:Operand)(w:World) :
  ∃v',(do eqGuard (if neg=true then .neq else .eql) t X Y x' y';binOp (if neg=true then .neq else .eql) t x' y':Sem Value).run P w=.ok v' w/\VR ρ v v':=by
 obtain⟨hg,hfl,ha⟩:P.eqGuardType P.depth t=false/\zeK P 8 t=some ks/\zdm P t=some true:=by
  unfold zmC at hf;unfold zdm
  grind
 unfold zkM at hv
 split at hv
 ·split at hv
  ·obtain⟨hll,hv⟩:=zi hv;obtain⟨hmm,hv⟩:=zi hv;have hll:=zAF9 hll;have hmm:=zAF9 hmm;obtain⟨b,hb,rfl⟩:=zqP hv
   cases hx with
   | agg hl h1 hr =>
    cases hy with
    | agg hm h2 hq =>
     rename_i cs ds;have heq:∀w,(Op.equalIn 10000 t (.agg cs.toArray) (.agg ds.toArray)).run P w=.ok b w:=fun w=>by
      have:=zkh 8 9992 t ks hfl (ρ:=ρ) (cs:=cs) (ds:=ds) ⟨hl,hr⟩ ⟨hm,hq⟩ zo zo hb w;simpa[zib,ha]using this
     have hgr:∀op,(eqGuard op t X Y (.agg cs.toArray) (.agg ds.toArray)).run P w=.ok () w:=fun op=>run_eqGuard_agg w op t X Y _ _ hg
     cases neg
     ·refine⟨.bool b,?_,by simpa using VR.bool (ρ:=ρ) b⟩;have h4:=run_eql_struct (P:=P) w t cs.toArray ds.toArray;rw[heq]at h4;simp only[zCD9,if_false,Sem.run_bind,hgr,Result.andThen_ok];exact h4
     ·refine⟨.bool (!b),?_,by simpa using VR.bool (ρ:=ρ) (!b)⟩;have h4:=run_neq_struct (P:=P) w t cs.toArray ds.toArray;rw[heq]at h4;simp only[if_true,Sem.run_bind,hgr,Result.andThen_ok];exact h4
  ·cases hv
 ·cases hv
theorem zjE {k:zZ}{xs:List Operand}{kd:zZ}{args:List TOp}(hm:mk k xs=some (kd,args)):kd=k/\zcZ opT xs=some args:=by
 unfold mk at hm
 grind
theorem zen {s:Sem Value}{v:Value}{w':World}(hs:s.run P w=.ok v w'):(do pure (Next.value (<- s)):Sem Next).run P w=.ok (.value v) w':=by simp[hs]
theorem VL.two {l:List TV}{a b:Value}(h:VL ρ l [a,b]){x y:TV}(e:l=[x,y]):VR ρ x a/\VR ρ y b:=by
 subst e;exact⟨h.2 0 x a rfl rfl,h.2 1 y b rfl rfl⟩
theorem VL.uno {l:List TV}{a:Value}(h:VL ρ l [a]){x:TV}(e:l=[x]):VR ρ x a:=by
 subst e;exact h.2 0 x a rfl rfl
theorem toV {k:WR P Z ρ h w}{op:BinOp}{t:TypeId}{x y:Operand}{x' y':Value}{b neg:Bool}(hc:zhd P t x y x' y' b w)(hop:op=if neg=true then .neq else .eql) :
  (do eqGuard op t x y x' y';binOp op t x' y':Sem Value).run P w=.ok (.bool (neg ^^ b)) w:=by
 subst hop;obtain⟨h1,h2,h3⟩:=hc
 cases neg
 all_goals simp_all
theorem zyF {t:TypeId}(hu:P.underlying t=some .bool){neg:Bool}{x y v:TV}{x' y':Value}(hx:VR ρ x x')(hy:VR ρ y y')(hv:zn8 neg x y=some v)(X Y:Operand)(w:World) :
  ∃v',(do eqGuard (if neg=true then .neq else .eql) t X Y x' y';binOp (if neg=true then .neq else .eql) t x' y':Sem Value).run P w=.ok v' w/\VR ρ v v':=by
 unfold zn8 at hv
 split at hv
 ·rename_i a
  split at hv
  ·rename_i c;injection hv with hv;subst hv
   cases hx with
   | bool _=>cases hy with
    | bool _ =>
     have he:=run_equalIn_bool' (P:=P) w 9999 t a c hu;have hbc:∀a c:Bool,(a==c)=(bif a then c else not c):=by decide
     have hbd:∀a c:Bool,(!(a==c))=(bif a then not c else c):=by decide
     cases neg
     ·refine⟨.bool (a==c),?_,by rw[hbc];exact .bool _⟩;have:binOp .eql t (.bool a) (.bool c)=(do pure (.bool (<- Op.equal t (.bool a) (.bool c)))):=rfl;simp[this,zig,he,eqGuard]
     ·refine⟨.bool (!(a==c)),?_,by rw[hbd];exact .bool _⟩;have:binOp .neq t (.bool a) (.bool c)=(do pure (.bool (!(<- Op.equal t (.bool a) (.bool c))))):=rfl;simp[this,zig,he,eqGuard]
  ·cases hv
 ·cases hv
theorem zzY {op:UnOp}{x v:TV}{x':Value}(hx:VR ρ x x')(hv:pUn op x=some v)(w:World):∃v',(Op.unary op x').run P w=.ok v' w/\VR ρ v v':=by
 unfold pUn at hv
 split at hv
 ·unfold zwZ at hv
  split at hv
  ·injection hv with hv;subst hv;cases hx
   exact⟨_,by simp[Op.unary],.bool _⟩
  ·cases hv
 ·unfold zwW at hv
  split at hv
  ·injection hv with hv;subst hv;cases hx
   exact⟨_,by simp[Op.unary,Op.intArith],.int _ _⟩
  ·cases hv
 ·unfold zzL at hv
  split at hv
  ·rename_i n
   cases hx
   obtain⟨v',h1,h2⟩:=zs9 (ρ:=ρ) (t:=0) hv w;refine⟨v',?_,h2⟩;have e:(Op.unary .xor (.int .u64 n):Sem Value)=binOp .xor 0 (.int .u64 (.ofNat 18446744073709551615)) (.int .u64 n):=by
    simp[Op.unary,binOp,IntKind.signed,IntKind.max,IntKind.bits]
   rw[e];exact h1
  ·cases hv
 ·cases hv
theorem zyG (k:WR P Z ρ h w){t:TypeId}{d:TypeDesc}(hu:P.underlying t=some d){f:Nat}(hd:(f=1/\∃e,d=.slice e)\/(f=2/\∃a b,d=.map a b)\/(f=3/\d=.string)){x v:TV}{x':Value}(hx:VR ρ x x')(hv:zou f h x=some v)(ty:TypeId) :
  ∃v',(Builtin.len_ #[t] ty #[x']).run P w=.ok v' w/\VR ρ v v':=by
 rcases hd with⟨rfl,e,rfl⟩|⟨rfl,a,b,rfl⟩|⟨rfl,rfl⟩
 ·simp only[zou]at hv
  cases x<;>simp[zyg]at hv
  ·subst hv;cases hx
   exact⟨_,by simp[Builtin.len_,run_underlying hu,goInt],.int _ _⟩
  ·subst hv;cases hx
   exact⟨_,by simp[Builtin.len_,run_underlying hu,goInt],.int _ _⟩
 ·simp only[zou]at hv;unfold zud at hv
  split at hv
  ·injection hv with hv;subst hv;cases hx
   exact⟨_,by simp[Builtin.len_,run_underlying hu,goInt],.int _ _⟩
  ·split at hv
   ·rename_i o ho;unfold zAa at hv
    split at hv
    ·rename_i es ck;injection hv with hv;subst hv
     cases hx with
     | map hρ =>
      obtain⟨es',he,her⟩:=zks k hρ ho;have:es.length=es'.size:=by have:=her.1;simpa using this
      refine⟨.int .i64 (es'.size:Nat),by simp[Builtin.len_,run_underlying hu,zd1 he,goInt],?_⟩;rw[this];exact .int _ _
    ·cases hv
   ·cases hv
  ·cases hv
 ·simp only[zou]at hv;unfold zp7 at hv
  split at hv
  ·injection hv with hv;subst hv
   cases hx with
   | str s=>exact⟨_,by simp[Builtin.len_,run_underlying hu,goInt];rfl,by simpa using VR.int (ρ:=ρ) .i64 (s.size:Nat)⟩
  ·cases hv
theorem zs6 {mx:Bool}{x y v:TV}{x' y':Value}(hx:VR ρ x x')(hy:VR ρ y y')(hv:ziR mx x y=some v)(ts:Array TypeId)(ty:TypeId)(w:World) :
  ∃v',(if mx=true then Builtin.max_ ts ty #[x',y']else Builtin.min_ ts ty #[x',y']).run P w=.ok v' w/\VR ρ v v':=by
 unfold ziR at hv
 split at hv
 ·split at hv
  ·rename_i k a _ k' b;obtain⟨hk,hv1⟩:=zi hv;have hkk:=zhE hk;subst hkk;injection hv1 with hv1;subst hv1
   cases hx;cases hy
   cases mx
   ·refine⟨.int k (if b<a then b else a),by simp[Builtin.min_,Builtin.min2],?_⟩;have:(if b<a then b else a)=(bif ile a b then a else b):=by
     rw[zeJ];by_cases h:a<=b
     all_goals grind
    rw[this];exact .int _ _
   ·refine⟨.int k (if b>a then b else a),by simp[Builtin.max_,Builtin.max2],?_⟩;have:(if b>a then b else a)=(bif ile b a then a else b):=by
     rw[zeJ];by_cases h:b<=a
     all_goals grind
    rw[this];exact .int _ _
  ·cases hv
 ·cases hv
theorem zxq {vs:List TV}{c a b:Value}(h:VL ρ vs [c,a,b]){v:TV}(hv:zul vs=some v)(w:World):∃v',(do pure (if <- asBool c then a else b):Sem Value).run P w=.ok v' w/\VR ρ v v':=by
 unfold zul at hv
 split at hv
 ·injection hv with hv;subst hv;rename_i c0 a0 b0;have h0:=h.2 0 _ _ rfl rfl;have h1:=h.2 1 _ _ rfl rfl;have h2:=h.2 2 _ _ rfl rfl
  cases h0
  cases c0
  ·exact⟨b,by simp[asBool],h2⟩
  ·exact⟨a,by simp[asBool],h1⟩
 ·cases hv
theorem zcU (f:Operand->Value)(b:Builtin)(args:Array Operand)(ts:Array TypeId)(ty:TypeId)(w:World):(do let d <- resolve f { callee:=.builtin b,args:=args,argTypes:=ts } ty;invoke d.target d.args:Sem Next).run P w=(builtin b ts ty (args.map fun | .const _=>true|_=>false) (args.map f)).run P w:=by
 simp only[resolve,invoke,Sem.run_bind,Sem.run_pure,Result.andThen_ok];rfl
def zid (P:Program)(ρ:Rho)(w:World)(s:Sem Next)(v:TV):Prop:=∃v',s.run P w=.ok (.value v') w/\VR ρ v v'
theorem zid.of {s:Sem Value}{v:TV}(hs:∃v',s.run P w=.ok v' w/\VR ρ v v'):zid P ρ w (do pure (.value (<- s))) v :=
 let ⟨v',h1,h2⟩:=hs;⟨v',zen h1,h2⟩
theorem zrN:∀(ns:List Int) (acc:ByteArray),(ns.foldl (fun(r:ByteArray) n=>r.push (UInt8.ofNat n.toNat)) acc).data.toList.map (·.toNat)=acc.data.toList.map (·.toNat)++ns.map fun n=>n.toNat%256
 | [],acc=>by simp
 | n::ns,acc=>by
  rw[zEZ9,zrN ns];simp[ByteArray.push]
theorem ztm:∀{l:List TV} {s:List Nat} {cs:List Value},zbs l=some s->VL ρ l cs->∃ns:List Int,cs=ns.map (Value.int .u8)/\s=ns.map fun n=>n.toNat%256
 | [],s,cs,h,hl=>by
  simp[zbs]at h;subst h;exact⟨[],hl.of_nil,rfl⟩
 | x::l,s,cs,h,hl=>by
  unfold zbs at h
  split at h
  ·grind
  ·rename_i n l0 hh;injection hh with h1 h2;subst h1;subst h2;obtain⟨hn,h⟩:=zi h;have hn:n<256:=zCA9.mp hn
   split at h
   ·rename_i s0 hs;injection h with h;subst h;obtain⟨y,cs',rfl,hy,hl'⟩:=hl.of_cons;obtain⟨ns,rfl,rfl⟩:=ztm hs hl'
    cases hy
    exact⟨Int.ofNat n::ns,rfl,by simp[zCJ9 hn]⟩
   ·cases h
  ·cases h
theorem zuN (k:WR P Z ρ h w){src dst e:TypeId}(hs:P.underlying src=some (.slice e))(hd:P.underlying dst=some .string)(he:zkY P e=true){x v:TV}{x':Value}(hx:VR ρ x x')(hv:zgr h x=some v) :
  ∃v',(convert src dst x').run P w=.ok v' w/\VR ρ v v':=by
 have hu:P.underlying e=some (.int .u8):=by
  unfold zkY at he
  split at he
  ·assumption
  ·cases he
 unfold zgr at hv
 split at hv
 ·injection hv with hv;subst hv
  cases hx
  exact⟨_,by simp[convert,run_underlying hs,run_underlying hd,run_underlying hu,Conv.bytesToString],VR.str ByteArray.empty⟩
 ·rename_i b g o n q
  split at hv
  ·rename_i l hl
   split at hv
   ·rename_i s hs';injection hv with hv;subst hv
    cases hx with
    | sl hρ h1 h2 h3 h4 h5 h6 =>
     rename_i o' c loc;obtain⟨cs,c1,c2,c3,c4⟩:=zjP k hl hρ zo;obtain⟨ns,rfl,rfl⟩:=ztm hs' c1;have hld:=run_loadCells_list (P:=P) w ⟨loc.r,o',none⟩ (ns.map (Value.int .u8)) (fun j v hj=>by
      have hj':=(zAC9.1 hj).1;rw[zc0];rcases h4 with h|⟨h,_⟩
      ·rw[h];exact c3 j v hj
      ·omega)
     rw[c2]at hld;have hr:=run_bytesToString (P:=P) w ⟨loc.r,o',none⟩ n c ns hld;refine⟨_,by simp only[convert,Sem.run_bind,run_underlying hs,run_underlying hd,run_underlying hu,Result.andThen_ok];exact hr,?_⟩;have:=VR.str (ρ:=ρ) (ns.foldl (fun(r:ByteArray) n=>r.push (UInt8.ofNat n.toNat)) ByteArray.empty);rw[zrN]at this;simpa using this
   ·cases hv
  ·cases hv
 ·cases hv
set_option maxHeartbeats 4000000 in
theorem zmy (k:WR P Z ρ h w){o:Oper}{kd:zZ}{args:List TOp}(ho:opK P o.op=some (kd,args))(hc:kd.cls=0){a:Act}{tm:Tr TV}(ht:TmR ρ tm a.tmps){vs:List TV}(hv:zd8 tm args=some vs){v:TV}(hp:pas kd vs h=some v) :
  zid P ρ w (execOp a.eval o) v:=by
 have key:∀{k0:zZ} {xs:List Operand},mk k0 xs=some (kd,args)->kd=k0/\VL ρ vs (xs.map a.eval):=fun hm=>by
  obtain⟨h1,h2⟩:=zjE hm;exact⟨h1,ze3 ht h2 hv⟩
 obtain⟨dst,op,ty,pos,after,guard⟩:=o
 cases op with
 | move x =>
  obtain⟨rfl,hl⟩:=key ho;obtain⟨y,rfl,hp⟩:=zc9 hp;injection hp with hp;subst hp;exact⟨a.eval x,by simp[execOp],hl.uno rfl⟩
 | assign x =>
  obtain⟨rfl,hl⟩:=key ho;obtain⟨y,rfl,hp⟩:=zc9 hp;injection hp with hp;subst hp;exact⟨a.eval x,by simp[execOp],hl.uno rfl⟩
 | pick c x y =>
  obtain⟨rfl,hl⟩:=key ho;obtain⟨v',h1,h2⟩:=zxq (P:=P) hl hp w;exact⟨v',by simpa[execOp]using zen h1,h2⟩
 | alloc e=>simp only[opK]at ho;split at ho<;>first|(cases ho;done)|skip;split at ho<;>first|(cases ho;done)|skip;obtain⟨rfl,_⟩:=key ho;cases hc
 | box e x=>simp only[opK]at ho;split at ho<;>first|(cases ho;done)|skip;obtain⟨rfl,_⟩:=key ho;cases hc
 | build t parts =>
  simp only[opK]at ho
  split at ho
  ·rename_i hz hps;obtain⟨rfl,hl⟩:=key ho;exact .of (zvW hz hps hl hp w)
  ·cases ho
 | buildSlice t len parts =>
  simp only[opK]at ho
  split at ho<;>first|(cases ho;done)|skip
  split at ho<;>first|(cases ho;done)|skip
  split at ho<;>first|(cases ho;done)|skip
  obtain⟨rfl,_⟩:=key ho;cases hc
 | insert t m x y =>
  simp only[opK]at ho
  split at ho<;>first|(cases ho;done)|skip
  split at ho<;>first|(cases ho;done)|skip
  all_goals (obtain⟨rfl,_⟩:=key ho;cases hc)
 | load t x =>
  simp only[opK]at ho
  split at ho<;>first|(cases ho;done)|skip
  rename_i hg hn;obtain⟨rfl,hl⟩:=key ho;obtain⟨y,rfl,hp⟩:=zc9 hp;exact .of (zqu k hg hn (hl.uno rfl) hp)
 | store t x y=>simp only[opK]at ho;split at ho<;>first|(cases ho;done)|skip;obtain⟨rfl,_⟩:=key ho;cases hc
 | ready g=>cases ho
 | waits g=>cases ho
 | nilCheck x =>
  obtain⟨rfl,hl⟩:=key ho;obtain⟨y,rfl,hp⟩:=zc9 hp;have hx:=hl.uno rfl;change zoS y=some v at hp;unfold zoS at hp
  split at hp
  ·injection hp with hp;subst hp;generalize hax:a.eval x=x' at hx
   cases hx with
   | ptr hρ hb=>exact⟨_,by simp[execOp,hax],.ptr hρ hb⟩
  ·injection hp with hp;subst hp;generalize hax:a.eval x=x' at hx
   cases hx with
   | fn hl h=>exact⟨_,by simp[execOp,hax],.fn hl h⟩
  ·cases hp
 | binOp op t x y yt =>
  simp only[opK]at ho;have hnil:∀(neg:Bool) (f:Nat),(∀{x' y':Value} {u v:TV},VR ρ u x'->VR ρ v y'->∀{b:Bool},ziz f u v=some b->zhd P t x y x' y' b w)->op=(if neg=true then .neq else .eql)->kd=.eqnil neg f->VL ρ vs [a.eval x,a.eval y] ->
    zid P ρ w (execOp a.eval ⟨dst,.binOp op t x y yt,ty,pos,after,guard⟩) v:=fun neg f hcmp hop hkd hl=>by
   subst hkd;obtain⟨u,v0,rfl,hp⟩:=zdC hp;obtain⟨hu,hv0⟩:=hl.two rfl;obtain⟨b,hb,rfl⟩:=zqP hp;exact .of ⟨_,toV (k:=k) (hcmp hu hv0 hb) hop,.bool _⟩
  have hbin:∀op',op=op'->kd=.bin op'->VL ρ vs [a.eval x,a.eval y]->zid P ρ w (execOp a.eval ⟨dst,.binOp op t x y yt,ty,pos,after,guard⟩) v:=fun op' hop hkd hl=>by
   subst hkd;subst hop;obtain⟨u,v0,rfl,hp⟩:=zdC hp;obtain⟨hu,hv0⟩:=hl.two rfl;exact .of (zzg hu hv0 hp w)
  have hagg:∀(neg:Bool) ks,zmC P t=some ks->op=(if neg=true then .neq else .eql)->kd=.eqagg neg ks->VL ρ vs [a.eval x,a.eval y]->zid P ρ w (execOp a.eval ⟨dst,.binOp op t x y yt,ty,pos,after,guard⟩) v:=fun neg ks hf hop hkd hl=>by
   subst hkd;subst hop;obtain⟨u,v0,rfl,hp⟩:=zdC hp;obtain⟨hu,hv0⟩:=hl.two rfl;exact .of (zuX hf hu hv0 hp x y w)
  have hB:∀(neg:Bool),P.underlying t=some .bool->op=(if neg=true then .neq else .eql)->kd=.eqB neg->VL ρ vs [a.eval x,a.eval y]->zid P ρ w (execOp a.eval ⟨dst,.binOp op t x y yt,ty,pos,after,guard⟩) v:=fun neg hu0 hop hkd hl=>by
   subst hkd;subst hop;obtain⟨u,v0,rfl,hp⟩:=zdC hp;obtain⟨hu,hv0⟩:=hl.two rfl;exact .of (zyF hu0 hu hv0 hp x y w)
  clear hp
  split at ho
  ·obtain⟨h1,h2⟩:=key ho;exact hbin _ rfl h1 h2
  ·obtain⟨h1,h2⟩:=key ho;exact hbin _ rfl h1 h2
  ·obtain⟨h1,h2⟩:=key ho;exact hbin _ rfl h1 h2
  ·obtain⟨h1,h2⟩:=key ho;exact hbin _ rfl h1 h2
  ·rename_i hu;obtain⟨h1,h2⟩:=key ho;exact hB false hu rfl h1 h2
  ·rename_i hu;obtain⟨h1,h2⟩:=key ho;exact hB true hu rfl h1 h2
  ·split at ho
   ·rename_i hf;obtain⟨h1,h2⟩:=key ho;exact hagg false _ hf rfl h1 h2
   ·cases ho
  ·split at ho
   ·rename_i hf;obtain⟨h1,h2⟩:=key ho;exact hagg false _ hf rfl h1 h2
   ·cases ho
  ·split at ho
   ·rename_i hf;obtain⟨h1,h2⟩:=key ho;exact hagg true _ hf rfl h1 h2
   ·cases ho
  ·split at ho
   ·rename_i hf;obtain⟨h1,h2⟩:=key ho;exact hagg true _ hf rfl h1 h2
   ·cases ho
  ·rename_i hu;obtain⟨h1,h2⟩:=key ho;exact hnil false 1 (fun hx hy _ hb=>zpd hu hx hy hb) rfl h1 h2
  ·rename_i hu;obtain⟨h1,h2⟩:=key ho;exact hnil false 2 (fun hx hy _ hb=>zpa hu hx hy hb) rfl h1 h2
  ·rename_i hu;obtain⟨h1,h2⟩:=key ho;exact hnil false 3 (fun hx hy _ hb=>zpW hu hx hy hb) rfl h1 h2
  ·rename_i hu;obtain⟨h1,h2⟩:=key ho;exact hnil false 4 (fun hx hy _ hb=>zpC hu hx hy hb) rfl h1 h2
  ·rename_i hu
   split at ho
   ·rename_i hXY;obtain⟨h1,h2⟩:=key ho;exact hnil false 5 (fun hx hy _ hb=>zpi hu hXY hx hy hb) rfl h1 h2
   ·cases ho
  ·rename_i hu;obtain⟨h1,h2⟩:=key ho;exact hnil true 1 (fun hx hy _ hb=>zpd hu hx hy hb) rfl h1 h2
  ·rename_i hu;obtain⟨h1,h2⟩:=key ho;exact hnil true 2 (fun hx hy _ hb=>zpa hu hx hy hb) rfl h1 h2
  ·rename_i hu;obtain⟨h1,h2⟩:=key ho;exact hnil true 3 (fun hx hy _ hb=>zpW hu hx hy hb) rfl h1 h2
  ·rename_i hu;obtain⟨h1,h2⟩:=key ho;exact hnil true 4 (fun hx hy _ hb=>zpC hu hx hy hb) rfl h1 h2
  ·rename_i hu
   split at ho
   ·rename_i hXY;obtain⟨h1,h2⟩:=key ho;exact hnil true 5 (fun hx hy _ hb=>zpi hu hXY hx hy hb) rfl h1 h2
   ·cases ho
  ·cases ho
  ·cases ho
  ·obtain⟨h1,h2⟩:=key ho;exact hbin _ rfl h1 h2
 | unOp op t x =>
  obtain⟨rfl,hl⟩:=key ho;obtain⟨y,rfl,hp⟩:=zc9 hp;exact .of (zzY (hl.uno rfl) hp w)
 | convert src dst' x =>
  simp only[opK]at ho
  split at ho
  ·rename_i hs hd;obtain⟨rfl,hl⟩:=key ho;obtain⟨y,rfl,hp⟩:=zc9 hp;have hx:=hl.uno rfl;change zlf _ y=some v at hp;unfold zlf at hp
   split at hp
   ·injection hp with hp;subst hp;generalize hax:a.eval x=x' at hx
    cases hx
    refine .of (s:=convert src dst' (a.eval x)) ⟨_,?_,.int _ _⟩;rw[hax];simp[convert,run_underlying hs,run_underlying hd,Conv.intToInt]
   ·cases hp
  ·rename_i hs hd;obtain⟨rfl,hl⟩:=key ho;obtain⟨y,rfl,hp⟩:=zc9 hp;have hx:=hl.uno rfl;change zt6 y=some v at hp;unfold zt6 at hp
   split at hp
   ·injection hp with hp;subst hp;generalize hax:a.eval x=x' at hx
    cases hx with
    | str s =>
     refine .of (s:=convert src dst' (a.eval x)) ⟨_,?_,.str s⟩;rw[hax];simp[convert,run_underlying hs,run_underlying hd]
   ·cases hp
  ·rename_i e hs hd
   split at ho
   ·obtain⟨rfl,_⟩:=key ho;cases hc
   ·cases ho
  ·rename_i e hs hd
   split at ho
   ·rename_i he;obtain⟨rfl,hl⟩:=key ho;obtain⟨y,rfl,hp⟩:=zc9 hp;exact .of (zuN k hs hd he (hl.uno rfl) hp)
   ·cases ho
  ·cases ho
 | sliceToArrayPointer t x=>cases ho
 | makeInterface t x =>
  simp only[opK]at ho
  split at ho
  ·cases ho
  ·cases ho
  ·rename_i d hu hni;obtain⟨rfl,hl⟩:=key ho;obtain⟨y,rfl,hp⟩:=zc9 hp;injection hp with hp;subst hp;refine .of (s:=Instr.makeInterface t (a.eval x)) ⟨_,?_,.iface (hl.uno rfl)⟩
   cases hd:P.underlying t with
   | none=>exact absurd hd hni
   | some d=>cases d<;>first|(exact absurd hd (hu _))|simp[Instr.makeInterface,run_underlying hd]
 | makeFunc fn first captured =>
  cases fn<;>simp only[opK]at ho<;>first|(cases ho;done)|skip
  split at ho
  ·rename_i f hf;obtain⟨rfl,hl⟩:=key ho;simp[pas]at hp;subst hp;have h0:first=#[]:=Array.eq_empty_of_size_eq_zero hf;subst h0;refine .of (s:=Instr.makeFunc (.func f) ((#[]:Array Operand).map a.eval) (captured.map a.eval)) ⟨_,?_,VR.fnL hl⟩;simp[Instr.makeFunc];obtain⟨c⟩:=captured;simp
  ·cases ho
 | makeMap t r =>
  simp only[opK]at ho
  split at ho<;>first|(cases ho;done)|skip
  all_goals (obtain⟨rfl,_⟩:=key ho;cases hc)
 | makeChan t s=>cases ho
 | makeSlice t l c =>
  simp only[opK]at ho
  split at ho<;>first|(cases ho;done)|skip
  split at ho<;>first|(cases ho;done)|skip
  split at ho<;>first|(cases ho;done)|skip
  obtain⟨rfl,_⟩:=key ho;cases hc
 | slice t x lo hi mx =>
  simp only[opK]at ho
  split at ho
  ·rename_i hu
   split at ho
   ·rename_i hz;obtain⟨rfl,hl⟩:=key ho;have h1:=zvj hu hz (lo:=lo.map a.eval) (hi:=hi.map a.eval) (mx:=mx.map a.eval) (x':=a.eval x) (vs:=vs) (by cases lo<;>cases hi<;>cases mx<;>simpa using hl) (v:=v) (by have hp2:zhS _ _ _ _ vs=some v:=hp;simpa using hp2) w;exact .of h1
   ·cases ho
  ·rename_i hu
   split at ho
   ·cases ho
   ·rename_i hmx;have:mx=none:=by cases mx<;>simp at hmx;rfl
    subst this;obtain⟨rfl,hl⟩:=key ho;have h1:=zvl hu (lo:=lo.map a.eval) (hi:=hi.map a.eval) (x':=a.eval x) (vs:=vs) (by cases lo<;>cases hi<;>simpa using hl) (v:=v) (by have hp2:zku _ _ vs=some v:=hp;simpa using hp2) w;exact .of h1
  ·rename_i len e hu
   split at ho
   ·cases ho
   ·rename_i hmx;have:mx=none:=by cases mx<;>simp at hmx;rfl
    subst this
    split at ho
    ·rename_i hz
     split at ho
     ·rename_i hlen;obtain⟨rfl,hl⟩:=key ho;have h1:=zuG hu hz hlen (lo:=lo.map a.eval) (hi:=hi.map a.eval) (x':=a.eval x) (vs:=vs) (by cases lo<;>cases hi<;>simpa using hl) (v:=v) (by have hp2:zmx _ _ _ _ vs=some v:=hp;simpa using hp2) w;exact .of h1
     ·cases ho
    ·cases ho
  ·cases ho
 | fieldAddr t x f =>
  simp only[opK]at ho
  split at ho
  ·rename_i hf;obtain⟨rfl,hl⟩:=key ho;obtain⟨y,rfl,hp⟩:=zc9 hp;exact .of (zuW hf (hl.uno rfl) hp w)
  ·cases ho
 | field t x f =>
  simp only[opK]at ho
  split at ho
  ·rename_i hf;obtain⟨rfl,hl⟩:=key ho;obtain⟨y,rfl,hp⟩:=zc9 hp;exact .of (zyz hf (hl.uno rfl) hp w)
  ·cases ho
 | indexAddr t x i =>
  simp only[opK]at ho
  split at ho
  ·rename_i hu
   split at ho
   ·rename_i hz;obtain⟨rfl,hl⟩:=key ho;obtain⟨y,j,rfl,hp⟩:=zdC hp;obtain⟨h1,h2⟩:=hl.two rfl;exact .of (zvJ hu hz h1 h2 hp w)
   ·cases ho
  ·rename_i hu
   split at ho
   ·rename_i hz;obtain⟨rfl,hl⟩:=key ho;obtain⟨y,j,rfl,hp⟩:=zdC hp;obtain⟨h1,h2⟩:=hl.two rfl;exact .of (ztM hu hz h1 h2 hp w)
   ·cases ho
  ·cases ho
 | index t x i =>
  simp only[opK]at ho
  split at ho
  ·rename_i hu;obtain⟨rfl,hl⟩:=key ho;obtain⟨y,j,rfl,hp⟩:=zdC hp;obtain⟨h1,h2⟩:=hl.two rfl;exact .of (ztx hu h1 h2 hp w)
  ·rename_i hu
   split at ho
   ·rename_i hg hz;obtain⟨rfl,hl⟩:=key ho;obtain⟨y,j,rfl,hp⟩:=zdC hp;obtain⟨h1,h2⟩:=hl.two rfl;exact .of (zuf hu hg hz h1 h2 hp w)
   ·cases ho
  ·cases ho
 | lookup t m x ok =>
  simp only[opK]at ho
  split at ho
  ·rename_i hu
   split at ho
   ·rename_i hd hz;obtain⟨rfl,hl⟩:=key ho;obtain⟨y,j,rfl,hp⟩:=zdC hp;obtain⟨h1,h2⟩:=hl.two rfl;exact .of (zqG k hu hd (.inl ⟨rfl,_,rfl⟩) hz h1 h2 hp)
   ·rename_i hd hz;obtain⟨rfl,hl⟩:=key ho;obtain⟨y,j,rfl,hp⟩:=zdC hp;obtain⟨h1,h2⟩:=hl.two rfl;exact .of (zqG k hu hd (.inr ⟨rfl,rfl⟩) hz h1 h2 hp)
   ·cases ho
  ·cases ho
 | mapUpdate t m x y =>
  simp only[opK]at ho
  split at ho<;>first|(cases ho;done)|skip
  split at ho<;>first|(cases ho;done)|skip
  all_goals (obtain⟨rfl,_⟩:=key ho;cases hc)
 | mapEntry t m x =>
  simp only[opK]at ho
  split at ho<;>first|(cases ho;done)|skip
  split at ho<;>first|(cases ho;done)|skip
  all_goals (obtain⟨rfl,_⟩:=key ho;cases hc)
 | entryStore t m s x=>obtain⟨rfl,_⟩:=key ho;cases hc
 | range t x=>cases ho
 | next i b=>cases ho
 | entry i=>cases ho
 | typeAssert x xt t ok =>
  simp only[opK]at ho
  split at ho
  ·cases ho
  ·cases ho
  ·cases ho
  ·rename_i z hz hni hnn;obtain⟨rfl,hl⟩:=key ho;obtain⟨y,rfl,hp⟩:=zc9 hp
   cases hd:P.underlying t with
   | none=>exact absurd hd hnn
   | some d=>exact .of (zsv hd (fun ms e=>by subst e;exact hni _ hd) hz (hl.uno rfl) hp w)
 | extract x i =>
  obtain⟨rfl,hl⟩:=key ho;obtain⟨y,rfl,hp⟩:=zc9 hp;have hx:=hl.uno rfl;change zp5 i y=some v at hp;unfold zp5 at hp
  split at hp
  ·generalize hax:a.eval x=x' at hx
   cases hx with
   | tuple hl0 hr =>
    rename_i cs;rw[zhW]at hp;obtain⟨u,hu,hur⟩:=VL.at (ρ:=ρ) (l:=_) (cs:=cs) ⟨hl0,hr⟩ hp;refine .of (s:=Instr.extract (a.eval x) i) ⟨u,?_,hur⟩;rw[hax];simp[Instr.extract,hu]
  ·cases hp
 | call c =>
  obtain⟨callee,cargs,ts⟩:=c
  cases callee with
  | value f=>obtain⟨rfl,_⟩:=key ho;cases hc
  | invoke r m=>cases ho
  | builtin b =>
   simp only[opK]at ho
   split at ho
   ·(repeat' (split at ho))<;>first|(cases ho;done)|(obtain⟨rfl,_⟩:=key ho;cases hc)
   ·split at ho<;>first|(cases ho;done)|skip
    split at ho<;>first|(cases ho;done)|skip
    obtain⟨rfl,_⟩:=key ho;cases hc
   ·rename_i t hts;have hlen:∀(f:Nat) {d:TypeDesc},P.underlying t=some d->((f=1/\∃e,d=.slice e)\/(f=2/\∃a b,d=.map a b)\/(f=3/\d=.string))->kd=.len f->VL ρ vs (cargs.toList.map a.eval)->zid P ρ w (execOp a.eval ⟨dst,.call { callee:=.builtin .len,args:=cargs,argTypes:=ts },ty,pos,after,guard⟩) v:=fun f d hu hd hkd hl=>by
     subst hkd;obtain⟨y,rfl,hp⟩:=zc9 hp;obtain⟨xs⟩:=cargs;obtain⟨ts⟩:=ts;simp at hts;subst hts
     cases xs with
     | nil=>have:=hl.1;simp at this
     | cons x r=>cases r with
      | cons _ _=>have:=hl.1;simp at this
      | nil =>
       obtain⟨v',h1,h2⟩:=zyG k hu hd (hl.uno rfl) hp ty;refine⟨v',?_,h2⟩;simp only[execOp,zcU];simpa[builtin]using zen h1
    split at ho
    ·rename_i hu;obtain⟨h1,h2⟩:=key ho;exact hlen 1 hu (.inl ⟨rfl,_,rfl⟩) h1 h2
    ·rename_i hu;obtain⟨h1,h2⟩:=key ho;exact hlen 2 hu (.inr (.inl ⟨rfl,_,_,rfl⟩)) h1 h2
    ·rename_i hu;obtain⟨h1,h2⟩:=key ho;exact hlen 3 hu (.inr (.inr ⟨rfl,rfl⟩)) h1 h2
    ·cases ho
   ·split at ho
    ·rename_i hsz;obtain⟨rfl,hl⟩:=key ho;obtain⟨y,j,rfl,hp⟩:=zdC hp;obtain⟨xs⟩:=cargs
     match xs,hsz with
     | [x0,x1],_ =>
      obtain⟨h1,h2⟩:=hl.two rfl;obtain⟨v',h3,h4⟩:=zs6 (P:=P) (mx:=true) h1 h2 hp ts ty w;refine⟨v',?_,h4⟩;simp only[execOp,zcU];simpa[builtin]using zen h3
    ·cases ho
   ·split at ho
    ·rename_i hsz;obtain⟨rfl,hl⟩:=key ho;obtain⟨y,j,rfl,hp⟩:=zdC hp;obtain⟨xs⟩:=cargs
     match xs,hsz with
     | [x0,x1],_ =>
      obtain⟨h1,h2⟩:=hl.two rfl;obtain⟨v',h3,h4⟩:=zs6 (P:=P) (mx:=false) h1 h2 hp ts ty w;refine⟨v',?_,h4⟩;simp only[execOp,zcU];simpa[builtin]using zen h3
    ·cases ho
   ·split at ho
    ·obtain⟨rfl,_⟩:=key ho;cases hc
    ·cases ho
   ·cases ho
 | go c=>cases ho
 | defer c =>
  obtain⟨callee,cargs,ts⟩:=c
  cases callee<;>first|(cases ho;done)|(obtain⟨rfl,_⟩:=key ho;cases hc)
 | panic x=>obtain⟨rfl,_⟩:=key ho;cases hc
 | send c x=>cases ho
 | recv t c b=>cases ho
 | select cs b=>cases ho
theorem zgO (k:WR P Z ρ h w){b:Nat}(hn:∀g,ρ b g=none)(hb:b<h.next)(hZ:Z<=w.heap.size){e:Nat}{l:List TV}(hx:h.get b=some (zcd e l)){cs:Array Value}(hl:l.length<=cs.size)
  (hr:∀(i:Nat) x y,l[i]?=some x->cs[i]?=some y->VR ρ x y) (h1:∀x∈l,x.one=true):WR P Z (ρ.add b 0 ⟨w.heap.size,l.length,cs.size⟩) h (w.alloc (.cells cs e)):=by
 have hm:=Rho.add_more (loc:=⟨w.heap.size,l.length,cs.size⟩) (hn 0);refine k.real hn hb hZ hx ⟨zAE9 _,fun g loc hg=>?_,fun g hg1 hg2=>?_⟩
 ·rcases Rho.add_inv hg with⟨_,rfl,_⟩|hg
  all_goals grind
 ·obtain rfl:g=0:=zo;refine⟨_,cs,Rho.add_same _ _ _ _,.of (World.alloc_heap_new w _),fun _=>rfl,zAE9 _,hl,fun _=>rfl,fun i hi=>?_⟩;dsimp only at hi;have hi':i<cs.size:=zo;refine⟨l[i],cs[i],?_,zBW9 hi',h1 _ (zBK9 hi),(hr i _ _ (zAA9 hi) (zBW9 hi')).mono hm⟩;rw[Tr.get_putL,if_pos zo,Nat.sub_zero,zAA9 hi]
theorem zgE {α:Type}(l:List α):∀n,(zdM l n).length=n*l.length
 | 0=>by simp[zdM]
 | n+1=>by rw[zdM,zAB9,zgE l n,zCV9,zDE9]
theorem zrd {α:Type}(l:List α):∀(n i:Nat),i<n*l.length->(zdM l n)[i]?=l[i%l.length]?
 | 0,i,h=>by simp at h
 | n+1,i,h=>by
  rw[zdM,zET9]
  split
  ·rename_i hi;rw[zCJ9 hi]
  ·rename_i hi;rw[zCV9]at h;rw[zrd l n (i-l.length) zo]
   congr 1
   rw[Nat.mod_eq_sub_mod (show i ≥ l.length by omega)]
theorem zjh {α:Type}{l:List α}:∀{n:Nat} {x:α},x∈zdM l n->x∈l
 | 0,x,h=>by simp[zdM]at h
 | n+1,x,h=>by
  rw[zdM,zBF9]at h;exact h.elim id zjh
theorem zmo {z:TV}{zv:Value}(hz:VR ρ z zv)(hc:z.cells ≠ [])(n m:Nat)(hnm:n<=m):∀(i:Nat) x y,(zdM z.cells n)[i]?=some x->(((Array.range (m*zv.cells.size)).map (fun j=>zv.cells[j%zv.cells.size]!)))[i]?=some y->VR ρ x y:=fun i x y hx hy=>by
 obtain⟨⟨hl,hr⟩,_⟩:=hz.cells (.inl hc);have hi:i<n*z.cells.length:=by rw[<- zgE];exact(zAC9.1 hx).1
 rw[zrd _ _ _ hi]at hx
 grind
def zhv (P:Program)(Z:Nat)(ρ:Rho)(h:TH)(w:World)(b:Nat)(s:Sem Next)(v:TV):Prop :=
 ∃v' w1 L S,s.run P w=.ok (.value v') w1/\WR P Z (ρ.add b 0 ⟨w.heap.size,L,S⟩) h w1/\VR (ρ.add b 0 ⟨w.heap.size,L,S⟩) v v'/\Below Z w w1
theorem zhv.of {b:Nat}{s:Sem Value}{v:TV}{v':Value}{o:Obj}(hZ:Z<=w.heap.size)(L S:Nat)(hs:s.run P w=.ok v' (w.alloc o))(hw:WR P Z (ρ.add b 0 ⟨w.heap.size,L,S⟩) h (w.alloc o))(hv:VR (ρ.add b 0 ⟨w.heap.size,L,S⟩) v v'):zhv P Z ρ h w b (do pure (.value (<- s))) v :=
 ⟨v',w.alloc o,L,S,zen hs,hw,hv,(Below.refl Z w).alloc hZ o⟩
theorem zfo (e:TypeId)(cs:Array Value):(newRow e cs).run P w=.ok ⟨w.heap.size,0,none⟩ (w.alloc (.cells cs e)):=by
 simp[newRow,run_newObj_alloc]
theorem zzm (k:WR P Z ρ h w){b:Nat}(hn:∀g,ρ b g=none)(hb:b<h.next)(hZ:Z<=w.heap.size){e:TypeId}{n:Nat}(hs:zbZ P e=some n){vs:List TV}{x':Value}(hv:VL ρ vs [x']){x:zdy}(hl:zoi e n b vs=some x)(hx:h.get b=some x.o) :
  zhv P Z ρ h w b (do pure (.value (<- Instr.box e x'))) x.v:=by
 unfold zoi at hl
 split at hl
 ·rename_i v;obtain⟨h0,hl⟩:=zi hl;injection hl with hl;subst hl;have hlen:=zAF9 h0;have hv0:=hv.uno rfl;have hn0:=(zdB hs).1;obtain⟨hc,h1⟩:=hv0.cells (.inl (by intro e;rw[e]at hlen;simp at hlen;omega));have hsz:x'.cells.size=n:=by have:=hc.1;rw[hlen]at this;simpa using this.symm
  refine .of hZ v.cells.length x'.cells.size (v':=.pointer (some ⟨w.heap.size,0,none⟩)) (o:=.cells x'.cells e) (by simp[Instr.box,newVar,zfo]) (zgO k hn hb hZ hx zo (fun i x y hx hy=>hc.2 i x y hx (by simpa using hy)) h1) ?_;exact .ptr (loc:=⟨w.heap.size,v.cells.length,x'.cells.size⟩) (Rho.add_same _ _ _ _) (by simp[hlen])
 ·cases hl
theorem zvz (k:WR P Z ρ h w){b:Nat}(hn:∀g,ρ b g=none)(hb:b<h.next)(hZ:Z<=w.heap.size){e:TypeId}{n:Nat}(hs:zbZ P e=some n){z:TV}(hz:zdw P e=some z)(hzl:z.cells.length=n){vs:List TV}{x:zdy}(hl:zkx e z.cells b vs=some x)(hx:h.get b=some x.o) :
  zhv P Z ρ h w b (do pure (.value (<- Instr.alloc e true (.tuple #[])))) x.v:=by
 unfold zkx at hl
 split at hl
 ·injection hl with hl;subst hl;obtain⟨zv,hzv,hzr⟩:=zfT (ρ:=ρ) hz w;have hn0:=(zdB hs).1;obtain⟨hc,h1⟩:=hzr.cells (.inl (by intro e;rw[e]at hzl;simp at hzl;omega));have hsz:zv.cells.size=n:=by have:=hc.1;rw[hzl]at this;simpa using this.symm
  refine .of hZ z.cells.length zv.cells.size (v':=.pointer (some ⟨w.heap.size,0,none⟩)) (o:=.cells zv.cells e) (by simp[Instr.alloc,newVar,zfo,hzv]) (zgO k hn hb hZ hx zo (fun i x y hx hy=>hc.2 i x y hx (by simpa using hy)) h1) ?_;exact .ptr (loc:=⟨w.heap.size,z.cells.length,zv.cells.size⟩) (Rho.add_same _ _ _ _) (by simp)
 ·cases hl
theorem ztQ (k:WR P Z ρ h w){b:Nat}(hn:∀g,ρ b g=none)(hb:b<h.next)(hZ:Z<=w.heap.size){t e:TypeId}{n len:Nat}(hu:P.underlying t=some (.slice e))(hs:zbZ P e=some n){z:TV}(hz:zdw P e=some z)(hzl:z.cells.length=n){ops:Array (Nat×Operand)}{a:Act}{vs:List TV}(hv:VL ρ vs ((ops.toList.map (·.2)).map a.eval)){x:zdy}
  (hl:zhG e n len z.cells (ops.toList.map fun p=>(p.1*n,n)) b vs=some x) (hx:h.get b=some x.o) :
  zhv P Z ρ h w b (do pure (.value (<- Instr.buildSlice t len (ops.map fun(i,x)=>(i,a.eval x))))) x.v:=by
 unfold zhG at hl;obtain⟨h0,hl⟩:=zi hl;have hle:=zAM9 h0
 split at hl
 ·rename_i l hf;injection hl with hl;subst hl;obtain⟨zv,hzv,hzr⟩:=zfT (ρ:=ρ) hz w;have hn0:=(zdB hs).1;have hcn:z.cells ≠ []:=by intro e;rw[e]at hzl;simp at hzl;omega
  obtain⟨hc,h1⟩:=hzr.cells (.inl hcn);have hsz:zv.cells.size=n:=by have:=hc.1;rw[hzl]at this;simpa using this.symm
  obtain⟨ds,hd,hd1,hd2,hd3⟩:=zjO (place:=fun i=>some (i*n,n)) (parts:=(ops.map fun(i,x)=>(i,a.eval x)).toList) (places:=ops.toList.map fun p=>(p.1*n,n)) (vs:=vs) (cells:=zdM z.cells len) (cs:=(Array.range (len*n)).map (fun j=>zv.cells[j%zv.cells.size]!)) (by simp) (fun j p q hj hq=>by
    simp only[zDX9,zAI9]at hj hq
    cases ho:ops.toList[j]? with
    | none=>rw[ho]at hj;cases hj
    | some o=>rw[ho]at hj hq;simp at hj hq;subst hj;subst hq;rfl) (by simpa[Function.comp_def]using hv) ⟨by rw[zgE];simp[hzl],fun i x y hx hy=>by
     have:=zmo hzr hcn len len (zAE9 _) i x y hx;rw[hsz]at this;rw[hsz]at hy;rw[zBX9]at hy;exact this hy⟩ (fun x hx=>h1 x (zjh hx)) (fun q hq=>by obtain⟨p,_,rfl⟩:=zAK9.1 hq;exact hn0) hf
  have hlen:l.length=len*n:=by rw[hd3,zgE,hzl]
  have hdsz:ds.size=len*n:=by have:=hd1.1;rw[hlen]at this;simpa using this.symm
  refine .of hZ l.length ds.size (v':=.slice (some ⟨w.heap.size,0,none⟩) len len) (o:=.cells ds e) ?_ (zgO k hn hb hZ hx zo (fun i x y hx hy=>hd1.2 i x y hx (by simpa using hy)) hd2) ?_
  ·simp only[zDX9]at hd;have hgt:¬(16777216<len*n):=zo
   by_cases h00:len*n=0
   ·have hz0:(Array.range (len*n)).map (fun j=>zv.cells[j%zv.cells.size]!)=(Array.range (len*n)).map (fun j=>(#[]:Array Value)[j%(#[]:Array Value).size]!):=by rw[h00];simp
    rw[hz0]at hd;simp[Instr.buildSlice,run_underlying hu,zbW hs,h00]at hd⊢;simp[hd,zfo]
   ·simp[Instr.buildSlice,run_underlying hu,zbW hs,hgt,h00,hzv,hd,zfo]
  ·refine .sl (loc:=⟨w.heap.size,l.length,ds.size⟩) (Rho.add_same _ _ _ _) zo zo ?_ (.inl rfl) (fun _=>?_) ?_
   ·grind
   ·grind
   ·have:len*1<=len*n:=Nat.mul_le_mul_left len zo;simp only[maxLen];omega
 ·cases hl
theorem zsg (k:WR P Z ρ h w){b:Nat}(hn:∀g,ρ b g=none)(hb:b<h.next)(hZ:Z<=w.heap.size){t e:TypeId}{n by_:Nat}(hu:P.underlying t=some (.slice e))(hs:zbZ P e=some n)(hby:zh9 P e=some by_){z:TV}(hz:zdw P e=some z)(hzl:z.cells.length=n){vs:List TV}{x' y':Value}(hv:VL ρ vs [x',y']){x:zdy}
  (hl:zgH e n by_ z.cells b vs=some x) (hx:h.get b=some x.o):zhv P Z ρ h w b (do pure (.value (<- Instr.makeSlice t x' y'))) x.v:=by
 unfold zgH at hl
 split at hl
 ·rename_i u v
  split at hl
  ·rename_i m c hm hc0;obtain⟨h0,hl⟩:=zi hl;obtain⟨h1,hl⟩:=zi hl;obtain⟨h2,hl⟩:=zi hl;injection hl with hl;subst hl;have hmc:=zAM9 h0;have hc1:=zAM9 h1;have hc2:=zAM9 h2;obtain⟨ru,rv⟩:=hv.two rfl;obtain⟨k1,_,rfl⟩:=zfZ hm ru;obtain⟨k2,_,rfl⟩:=zfZ hc0 rv;obtain⟨zv,hzv,hzr⟩:=zfT (ρ:=ρ) hz w;obtain⟨i,hi,hib⟩:=zkn hby;have hn0:=(zdB hs).1;have hcn:z.cells ≠ []:=by intro e;rw[e]at hzl;simp at hzl;omega
   obtain⟨hc,h1'⟩:=hzr.cells (.inl hcn);have hsz:zv.cells.size=n:=by have:=hc.1;rw[hzl]at this;simpa using this.symm
   have hlen:(zdM z.cells m).length=m*n:=by rw[zgE,hzl]
   have hmn:m*n<=c*n:=zBV9 n hmc;refine .of hZ (zdM z.cells m).length (c*n) (v':=.slice (some ⟨w.heap.size,0,none⟩) m c) (o:=.cells ((Array.range (c*n)).map (fun j=>zv.cells[j%zv.cells.size]!)) e) ?_ ?_ ?_
   ·have w1:IntKind.i64.wrap (m:Int)=m:=by simp[IntKind.wrap,IntKind.bits,IntKind.signed];omega
    have w2:IntKind.i64.wrap (c:Int)=c:=by simp[IntKind.wrap,IntKind.bits,IntKind.signed];omega
    have hbc:¬((by_:Int)*(c:Int)>2 ^ 48):=by grind
    have hbm:¬((c:Int)<(m:Int)):=zo;have hask:∀(x:Nat) (w:World),(askRoom x).run P w=.ok () w:=fun x w=>by unfold askRoom;split<;>simp[mark,Sem.run]
    by_cases h00:c*n=0
    ·have hz0:(Array.range (c*n)).map (fun j=>zv.cells[j%zv.cells.size]!)=(Array.range (c*n)).map (fun j=>(#[]:Array Value)[j%(#[]:Array Value).size]!):=by rw[h00];simp
     rw[hz0];simp[Instr.makeSlice,run_underlying hu,asInt,asIntOf,typeInfo,hi,hib,w1,w2,hbm,zbW hs,h00,hask,zfo];omega
    ·simp[Instr.makeSlice,run_underlying hu,asInt,asIntOf,typeInfo,hi,hib,w1,w2,hbm,zbW hs,h00,hzv,hask,zfo];omega
   ·have:=zgO k hn hb hZ hx (cs:=(Array.range (c*n)).map (fun j=>zv.cells[j%zv.cells.size]!)) (by simp[hlen];omega) (fun i x y hx hy=>by
     have:=zmo hzr hcn m c hmc i x y hx;rw[hsz]at this hy;exact this hy) (fun x hx=>h1' x (zjh hx))
    grind
   ·refine .sl (loc:=⟨w.heap.size,(zdM z.cells m).length,c*n⟩) (Rho.add_same _ _ _ _) zo zo ?_ (.inl rfl) (fun _=>?_) ?_
    ·grind
    ·simp
    ·simp only[maxLen];omega
  ·cases hl
 ·cases hl
theorem zpr (k:WR P Z ρ h w){b:Nat}(hn:∀g,ρ b g=none)(hb:b<h.next)(hZ:Z<=w.heap.size){t a1 a2:TypeId}(hu:P.underlying t=some (.map a1 a2)){r:Option Value}{vs:List TV}(hv:VL ρ vs r.toList){x:zdy}(hl:zkI b vs=some x)(hx:h.get b=some x.o) :
  zhv P Z ρ h w b (do pure (.value (<- Instr.makeMap t r))) x.v:=by
 have hm:=Rho.add_more (loc:=⟨w.heap.size,0,0⟩) (hn 0);have hw:∀{x:zdy},x=⟨.map [] 0,.map b⟩->h.get b=some x.o->WR P Z (ρ.add b 0 ⟨w.heap.size,0,0⟩) h (w.alloc (.map #[] 0)):=fun e hx=>by
  subst e;exact k.real hn hb hZ hx ⟨_,#[],Rho.add_same _ _ _ _,World.alloc_heap_new w _,rfl,fun i e e' he=>by simp at he⟩
 have hvr:VR (ρ.add b 0 ⟨w.heap.size,0,0⟩) (.map b) (.map (some w.heap.size)):=.map (loc:=⟨w.heap.size,0,0⟩) (Rho.add_same _ _ _ _);unfold zkI at hl
 split at hl
 ·injection hl with hl;subst hl
  cases r with
  | some _=>have:=hv.1;simp at this
  | none=>exact .of hZ 0 0 (o:=.map #[] 0) (by simp[Instr.makeMap,run_newObj_alloc]) (hw rfl hx) hvr
 ·injection hl with hl;subst hl
  cases r with
  | none=>have:=hv.1;simp at this
  | some y =>
   have:=hv.uno rfl
   cases this
   exact .of hZ 0 0 (o:=.map #[] 0) (by simp[Instr.makeMap,run_underlying hu,asInt,asIntOf,run_newObj_alloc]) (hw rfl hx) hvr
 ·cases hl
theorem WR.realW (k:WR P Z ρ h w){w1:World}(hsz:w1.heap.size=w.heap.size+1)(hold:∀j,j<w.heap.size->w1.heap[j]?=w.heap[j]?){b:Nat}(hn:∀g,ρ b g=none)(hb:b<h.next)(hZ:Z<=w.heap.size){x:TO}(hx:h.get b=some x){L S:Nat}
  (hr:OR P (ρ.add b 0 ⟨w.heap.size,L,S⟩) b w1 x):WR P Z (ρ.add b 0 ⟨w.heap.size,L,S⟩) h w1:=by
 have hm:=Rho.add_more (loc:=⟨w.heap.size,L,S⟩) (hn 0);refine⟨fun c g loc hl=>?_,fun c g loc hl=>?_,fun c c' g g' loc loc' hl hl' e hZ1=>?_⟩
 ·rcases Rho.add_inv hl with⟨rfl,rfl,rfl⟩|hl
  ·exact⟨hb,.inl hZ,by dsimp only;omega⟩
  ·obtain⟨a,b,d⟩:=k.dom c g loc hl;exact⟨a,b,by omega⟩
 ·by_cases hc:c=b
  ·grind
  ·have hl':ρ c g=some loc:=by rw[<- hl,Rho.add_ne hc]
   obtain⟨y,hy,hor⟩:=k.obj c g loc hl';exact⟨y,hy,hor.move hm (fun g=>Rho.add_ne hc g) fun g loc hg=>hold _ (k.dom c g loc hg).2.2⟩
 ·rcases Rho.add_inv hl with⟨r1,r2,r3⟩|hl<;>rcases Rho.add_inv hl' with⟨q1,q2,q3⟩|hl'
  ·rw[r1,q1]
  ·subst r3;have:=(k.dom _ _ _ hl').2.2;dsimp only at e;omega
  ·subst q3;have:=(k.dom _ _ _ hl).2.2;dsimp only at e;omega
  ·exact k.sep _ _ _ _ _ _ hl hl' e hZ1
theorem zsj (k:WR P Z ρ h w){b:Nat}(hn:∀g,ρ b g=none)(hb:b<h.next)(hZ:Z<=w.heap.size){src dst e:TypeId}(hs:P.underlying src=some .string)(hd:P.underlying dst=some (.slice e))(he:zkY P e=true){vs:List TV}{x':Value}(hv:VL ρ vs [x']){x:zdy}(hl:zgR e b vs=some x)(hx:h.get b=some x.o) :
  zhv P Z ρ h w b (do pure (.value (<- convert src dst x'))) x.v:=by
 have hu:P.underlying e=some (.int .u8):=by
  unfold zkY at he
  split at he
  ·assumption
  ·cases he
 unfold zgR at hl
 split at hl
 ·rename_i s0;obtain⟨h0,hl⟩:=zi hl;have hle:=zAM9 h0;injection hl with hl;subst hl;have hxr:=hv.uno rfl
  cases hxr with
  | str s =>
   have hds:s.data.size=s.size:=rfl;have hlen:(s.data.toList.map (·.toNat)).length=s.size:=by rw[zAX9,zDW9];rfl
   rw[hlen]at hle;have hrun:=Lib.run_convert_string_bytes (P:=P) w src dst e s hs hd hu;have hcap:=grownCap_ge w s.size 0 e;have hcap2:=grownCap_le_maxLen w s.size 0 e (by simp only[maxLen];omega);have hsz:(Lib.bytesCells w e s).size=grownCap w s.size 0 e:=by
    unfold Lib.bytesCells;rw[zEA9,Array.size_map,Array.size_replicate,hds];omega
   have hnew:=Lib.bytesWorld_at_new w e s;have hold:=fun j hj=>Lib.bytesWorld_at_old w e s j hj;have hgetn:∀i,i<s.size->(Lib.bytesCells w e s)[i]?=some (.int .u8 (s.data.toList[i]?.getD 0).toNat):=fun i hi=>by
    have hi':i<s.data.size:=hi;unfold Lib.bytesCells;rw[zEV9 (by rw[Array.size_map];exact hi'),Array.getElem?_map,zBW9 hi',zBX9,zBW9 hi'];rfl
   have hwr:WR P Z (ρ.add b 0 ⟨w.heap.size,s.size,(Lib.bytesCells w e s).size⟩) h (Lib.bytesWorld w e s):=by
    refine k.realW (Lib.bytesWorld_size w e s) hold hn hb hZ hx ⟨zAE9 _,fun g loc hg=>?_,fun g g1 g2=>?_⟩
    ·rcases Rho.add_inv hg with⟨_,rfl,_⟩|hg
     ·exact zAE9 _
     ·rw[hn]at hg;cases hg
    ·obtain rfl:g=0:=zo;refine⟨_,_,Rho.add_same _ _ _ _,⟨_,hnew,.inr ⟨he,zAE9 _⟩⟩,fun _=>rfl,by rw[zAX9,hlen];exact zAE9 _,by dsimp only;omega,fun _=>by rw[zAX9,hlen],fun i hi=>?_⟩;dsimp only at hi;have hi':i<s.data.toList.length:=by rw[zDW9];exact hi
     refine⟨.int .u8 (.ofNat (s.data.toList[i]).toNat),_,?_,hgetn i hi,rfl,?_⟩
     ·rw[Tr.get_putL,if_pos (by rw[zAX9,hlen];omega),Nat.sub_zero,zAI9,zAI9,zAA9 hi'];rfl
     ·rw[zAA9 hi'];exact .int _ _
   refine⟨_,_,_,_,zen hrun,hwr,?_,⟨rfl,rfl,rfl,by rw[Lib.bytesWorld_size];omega,fun j hj=>hold j zo⟩⟩;rw[hlen];refine .sl (loc:=⟨w.heap.size,s.size,(Lib.bytesCells w e s).size⟩) (Rho.add_same _ _ _ _) zo zo ?_ (.inl rfl) (fun _=>?_) hcap2
   ·dsimp only;omega
   ·dsimp only;omega
 ·cases hl
end Tw
end Go.Proofs.YtkeknmgnoceogaaGreat
namespace Go.Proofs.YtkeknmgnoceogaaGreat
open Go.RowKit
namespace Tw
variable {P:Program}{ρ ρ':Rho}{Z:Nat}{h:TH}{w:World}
theorem WR.change (k:WR P Z ρ h w){b:Nat}{x':TO}(hm:∀c g loc,ρ c g=some loc->ρ' c g=some loc)(hsame:∀c,c≠b->∀g,ρ' c g=ρ c g){g0:Nat}{loc0:Loc}(hex:ρ b g0=some loc0){w':World}(hs:w.heap.size<=w'.heap.size)
  (hb:∀c g loc,c≠b->ρ c g=some loc->w'.heap[loc.r]?=w.heap[loc.r]?) (hr:OR P ρ' b w' x') (hdom:∀g loc,ρ' b g=some loc->Z<=loc.r/\loc.r<w'.heap.size) (hsep:∀g loc,ρ' b g=some loc->∀c g' loc',c≠b->ρ c g'=some loc'->loc.r≠loc'.r):WR P Z ρ' (h.set b x') w':=by
 have hlt:=(k.dom b g0 loc0 hex).1;refine⟨fun c g loc hl=>?_,fun c g loc hl=>?_,fun c c' g g' loc loc' hl hl' e hZ1=>?_⟩
 ·by_cases hc:c=b
  ·subst hc;exact⟨hlt,.inl (hdom g loc hl).1,(hdom g loc hl).2⟩
  ·rw[hsame c hc]at hl;obtain⟨a1,a2,a3⟩:=k.dom c g loc hl;exact⟨a1,a2.imp id fun⟨cs,h1⟩=>⟨cs,by rw[TH.get_set _ _ _ _ hlt,if_neg hc];exact h1⟩,by omega⟩
 ·by_cases hc:c=b
  ·subst hc;exact⟨x',by rw[TH.get_set _ _ _ _ hlt,if_pos rfl],hr⟩
  ·rw[hsame c hc]at hl;obtain⟨o,ho,hor⟩:=k.obj c g loc hl;exact⟨o,by rw[TH.get_set _ _ _ _ hlt,if_neg hc];exact ho,hor.move hm (hsame c hc) fun g loc hg=>hb c g loc hc hg⟩
 ·by_cases hc:c=b<;>by_cases hc':c'=b
  ·omega
  ·grind
  ·grind
  ·rw[hsame c hc]at hl;rw[hsame c' hc']at hl';exact k.sep c c' g g' loc loc' hl hl' e hZ1
theorem zo0 {g:Nat}(hg:Z<=g)(cs:Array Value):Below Z w (w.setRow g cs):=⟨rfl,rfl,rfl,by simp,fun k hk=>setRow_other w g k cs zo⟩
theorem zsM {α:Type}(l m:List α)(o i:Nat)(h:o+m.length<=l.length):(l.take o++m++l.drop (o+m.length))[i]?=if o<=i/\i<o+m.length then m[i-o]? else l[i]?:=by
 rw[zAD9,zET9]
 grind
theorem zgd (g o:Nat)(t:TypeId)(fz:Nat×Nat):∀(vs:List Value) (i:Nat) (cur:Array Value) (w:World),w.heap[g]?=some (.cells cur t fz)->znS P t fz cur.size->o+i+vs.length<=cur.size->(∀v∈vs,v.oneCell'=true) ->
  (storeCells ⟨g,o,none⟩ vs i).run P w=.ok () (w.setRow g (cur.toList.take (o+i)++vs++cur.toList.drop (o+i+vs.length)).toArray)
 | [],i,cur,w,hg,_,_,_=>by
  simp only[storeCells,zDG9,zAH9,zDD9,zEP9,Array.toArray_toList];rw[setRow_self w g cur t fz hg];rfl
 | v::l,i,cur,w,hg,hz,hl,h1=>by
  rw[zAG9]at hl;have hfro:w.frozen? ⟨g,o+i,none⟩=false:=by
   rcases hz with rfl|⟨_,hz⟩
   ·simp[World.frozen?,hg]
   ·obtain⟨lo,hi⟩:=fz;simp only[World.frozen?,hg,Bool.and_eq_false_iff,decide_eq_false_iff_not]
    left
    dsimp only at hz;omega
  have hi:o+i<cur.size:=zo;have hst:(store ((⟨g,o,none⟩:Addr).add i) v).run P w=.ok () (w.setRow g (cur.setIfInBounds (o+i) v)):=by
   rw[zc0,run_store P w _ v _ (h1 v (by simp)),show w.cell? ⟨g,o+i,none⟩=some cur[o+i] by simp[World.cell?,hg,hi]];simp[hfro,setCell_eq_setRow w g (o+i) cur t fz v hg]
  have ih:=zgd g o t fz l (i+1) (cur.setIfInBounds (o+i) v) (w.setRow g (cur.setIfInBounds (o+i) v)) (setRow_heap w g cur _ t _ hg) (by simpa using hz) (by simp;omega) (fun x hx=>h1 x (by simp[hx]));simp only[storeCells,Sem.run_bind,hst,Result.andThen_ok,ih,setRow_setRow]
  congr 3
  have e:=list_seg_step cur.toList (o+i) v l (by simp;omega);simpa[zEU9,zEK9]using e
theorem znS.same {t:TypeId}{fz:Nat×Nat}{n m:Nat}(h:znS P t fz n)(e:m=n):znS P t fz m:=by rw[e];exact h
theorem zju (k:WR P Z ρ h w){b g o:Nat}{loc:Loc}(hρ:ρ b g=some loc){l:List TV}{cs:List Value}(hl:VL ρ l cs)(h1:∀x∈l,x.one=true){h':TH}(hw:zet h b g o l=some h') :
  ∃w',(storeCells ⟨loc.r,o,none⟩ cs).run P w=.ok () w'/\WR P Z ρ h' w'/\Below Z w w'/\h'.next=h.next:=by
 unfold zet at hw
 split at hw
 ·rename_i x hx;unfold znd at hw
  split at hw
  ·rename_i e G M len cells;obtain⟨ha,hw⟩:=zi hw;obtain⟨hb,hw⟩:=zi hw;injection hw with hw;obtain rfl:=zAF9 ha;have hfit:=zAM9 hb;obtain⟨y,hy,hr⟩:=k.obj b g loc hρ;rw[hx]at hy;injection hy with hy;subst hy;obtain⟨hM,hg0,hr⟩:=hr
   ·obtain⟨loc',cur,hρ',hheap,r1,r2,r3,r4,r5⟩:=hr g hM (zAE9 _);rw[hρ]at hρ';injection hρ' with hρ';subst hρ';have hL:=r4 rfl;have hcl:cs.length=l.length:=hl.1.symm;have hfit':o+cs.length<=cur.size:=zo;obtain⟨fz,hheap,hfz⟩:=hheap;have hst:=zgd (P:=P) loc.r o e fz cs 0 cur w hheap hfz (by simpa using hfit') (fun v hv=>by
     obtain⟨i,hi,rfl⟩:=zBH9.1 hv;have hi':i<l.length:=by rw[hl.1];exact hi
     exact(hl.2 i l[i] cs[i] (zAA9 hi') (zAA9 hi)).oneCell (h1 _ (zBK9 hi')))
    simp only[zDD9]at hst;have hnew0:=setRow_heap w loc.r cur (cur.toList.take o++cs++cur.toList.drop (o+cs.length)).toArray e fz hheap;have hnew:zf6 P _ loc.r _ e:=⟨fz,hnew0,hfz.same (by simp;omega)⟩
    have hZo:∀g' loc',ρ b g'=some loc'->Z<=loc'.r:=fun g' loc' hl'=>k.own hl' hx (fun cs h=>by cases h);have hZr:=hZo g loc hρ;refine⟨_,hst,?_,zo0 hZr _,by rw[<- hw];rfl⟩;rw[<- hw];refine k.change (fun _ _ _ h=>h) (fun _ _ _=>rfl) hρ (by simp) (fun c g' loc' hc hl'=>setRow_other w loc.r loc'.r _ (fun e=>hc (k.sep c b g' g loc' loc hl' hρ e zo))) ⟨zAE9 _,hg0,fun g' h1' h2'=>?_⟩ (fun g' loc' hl'=>⟨hZo g' loc' hl',by have:=(k.dom b g' loc' hl').2.2;simpa using this⟩) (fun g' loc' hl' c g'' loc'' hc hl'' e=>hc ((k.sep b c g' g'' loc' loc'' hl' hl'' e (hZo g' loc' hl')).symm));obtain rfl:g'=g:=zo;refine⟨loc,_,hρ,hnew,fun _=>?_,r2,?_,fun _=>hL,fun i hi=>?_⟩
    ·grind
    ·grind
    ·have hil:i<cur.size:=zo;have e1:((cur.toList.take o++cs++cur.toList.drop (o+cs.length)).toArray)[i]?=if o<=i/\i<o+cs.length then cs[i-o]? else cur[i]?:=by
      rw[List.getElem?_toArray,zsM _ _ _ _ (by simpa using hfit'),zBX9 (xs:=cur)]
     rw[e1,Tr.get_putL,hcl]
     by_cases hio:o<=i/\i<o+l.length
     ·rw[if_pos hio,if_pos hio];have hi1:i-o<l.length:=zo;have hi2:i-o<cs.length:=zo;exact⟨_,_,zAA9 hi1,zAA9 hi2,h1 _ (zBK9 hi1),hl.2 (i-o) _ _ (zAA9 hi1) (zAA9 hi2)⟩
     grind
  ·cases hw
 ·cases hw
end Tw
end Go.Proofs.YtkeknmgnoceogaaGreat
namespace Go.Proofs.YtkeknmgnoceogaaGreat
open Go.RowKit
namespace Tw
variable {P:Program}{ρ ρ':Rho}{Z:Nat}{h h':TH}{w:World}
def zhw (P:Program)(Z:Nat)(ρ:Rho)(h h':TH)(w:World)(s:Sem Next)(v:TV):Prop :=
 ∃n v' w' ρ',s.run P w=.ok n w'/\(n=.value v'\/(n=.skip/\v'=undef))/\Rho.le h.next ρ ρ'/\WR P Z ρ' h' w'/\Below Z w w'/\VR ρ' v v'/\h.next<=h'.next
theorem zhw.val {s:Sem Value}{v:TV}{v':Value}{w':World}(hs:s.run P w=.ok v' w')(hle:Rho.le h.next ρ ρ')(hw:WR P Z ρ' h' w')(hb:Below Z w w')(hv:VR ρ' v v')(hn:h.next<=h'.next):zhw P Z ρ h h' w (do pure (.value (<- s))) v :=
 ⟨_,v',w',ρ',zen hs,.inl rfl,hle,hw,hb,hv,hn⟩
theorem zhw.skip {s:Sem Unit}{w':World}(hs:s.run P w=.ok () w')(hle:Rho.le h.next ρ ρ')(hw:WR P Z ρ' h' w')(hb:Below Z w w')(hn:h.next<=h'.next):zhw P Z ρ h h' w (do s;pure .skip) (.tuple []) :=
 ⟨_,undef,w',ρ',by simp[hs],.inr ⟨rfl,rfl⟩,hle,hw,hb,VR.undef _,hn⟩
theorem zuF (k:WR P Z ρ h w){t:TypeId}{n:Nat}(hs:zbZ P t=some n){vs:List TV}{p' v':Value}(hv:VL ρ vs [p',v']){v:TV}(ha:zhi n h vs=some (.ok v h')):v=.tuple []/\zhw P Z ρ h h' w (do Instr.storeAt t p' v';pure .skip) v:=by
 unfold zhi at ha
 split at ha
 ·rename_i b g o e u;obtain⟨h0,ha⟩:=zi ha;obtain⟨h1,ha⟩:=zi ha;have hlen:=zAF9 h0;have hle:=zAM9 h1
  split at ha
  ·rename_i h2 hw;injection ha with ha;injection ha with ha1 ha2;subst ha1;subst ha2;obtain⟨hp,hu⟩:=hv.two rfl;have hn0:=(zdB hs).1;obtain⟨hc,hone⟩:=hu.cells (.inl (by intro e;rw[e]at hlen;simp at hlen;omega))
   cases hp with
   | ptr hρ hcov =>
    rename_i loc;obtain⟨w',hst,hw',hb,hnx⟩:=zju k hρ hc hone hw;have hsz:v'.cells.size=n:=by have:=hc.1;rw[hlen]at this;simpa using this.symm
    exact⟨rfl,.skip (by simp[Instr.storeAt,Instr.sureAddr,storeVar,zbW hs,hsz,hst]) (Rho.le.refl _ _) hw' hb (by rw[hnx];exact zAE9 _)⟩
  ·cases ha
 ·cases ha
theorem zrC {x y:TV}(h:zgZ x y=some true):x=y:=by
 unfold zgZ at h
 split at h
 ·split at h
  ·rename_i k a _ k' b;obtain⟨hk,h1⟩:=zi h;have:=zhE hk;subst this;injection h1 with h1;rw[zcX]at h1
   grind
  ·cases h
 ·split at h
  ·rename_i a _ b;injection h with h;rw[zgS]at h
   grind
  ·cases h
 ·cases h
theorem VR.str_inv {l:List Nat}{v:Value}(h:VR ρ (.str l) v):∃s,v=.string s/\bts s=l:=by
 cases h with
 | str s=>exact⟨s,rfl,rfl⟩
theorem zky {x:TV}{a b:Value}(ha:VR ρ x a)(hb:VR ρ x b){d:TypeDesc}{kf:Nat}(hk:zfv kf x=true)(w:World):(Instr.keyThatStays a b).run P w=.ok b w:=by
 have:Instr.sameBits 10000 a b=true:=by
  match kf,hk with
  | 1,hk =>
   cases x<;>simp[zfv,zko]at hk
   cases ha;cases hb
   simp[Instr.sameBits]
  | 2,hk =>
   cases x<;>simp[zfv,zkR]at hk
   obtain⟨s1,rfl,e1⟩:=ha.str_inv;obtain⟨s2,rfl,e2⟩:=hb.str_inv;have h1:=zsV (s:=s1) (t:=s2) (e1.trans e2.symm);have h2:(s1==s2)=true:=by rw[beq_toListBytes,h1];simp
   simp only[Instr.sameBits];exact h2
 simp[Instr.keyThatStays,this]
theorem EsR.push {es:List zcD}{es':List MapEntry}(h:EsR ρ es es'){e:zcD}{e':MapEntry}(hk:VR ρ e.k e'.key)(hv:VR ρ e.v e'.val)(hb:e'.born=e.n):EsR ρ (es++[e]) (es'++[e']):=by
 refine⟨by simp[h.1],fun i x y hx hy=>?_⟩;rw[zET9]at hx hy;rw[h.1]at hx
 split at hx
 ·rename_i hi;rw[if_pos hi]at hy;exact h.2 i x y hx hy
 grind
theorem zrS:∀(es:List zcD) (i:Nat) (k v:TV) (j:Nat),(setE i k v es)[j]?=if j=i then(es[j]?).map (fun e=>⟨k,v,e.n⟩)else es[j]?
 | [],i,k,v,j=>by simp[setE]
 | e::es,0,k,v,j=>by cases j<;>simp[setE]
 | e::es,i+1,k,v,j=>by
  cases j with
  | zero=>simp[setE]
  | succ j=>simp only[setE,zBL9];rw[zrS es i k v j];simp
theorem zq2:∀(es:List zcD) (i:Nat) (k v:TV),(setE i k v es).length=es.length
 | [],i,k,v=>by simp[setE]
 | e::es,0,k,v=>by simp[setE]
 | e::es,i+1,k,v=>by simp[setE,zq2 es i k v]
theorem EsR.setE {es:List zcD}{es':Array MapEntry}(h:EsR ρ es es'.toList){i:Nat}{k v:TV}{f:MapEntry->MapEntry}(hf:∀e e',es[i]?=some e->es'[i]?=some e'->VR ρ k (f e').key/\VR ρ v (f e').val/\(f e').born=e'.born):EsR ρ (setE i k v es) (es'.modify i f).toList:=by
 refine⟨by rw[zq2];simpa using h.1,fun j x y hx hy=>?_⟩;rw[zrS]at hx;rw[zBX9,zFI9]at hy
 by_cases hj:j=i
 ·subst hj;rw[if_pos rfl]at hx hy
  cases he:es[j]? with
  | none=>rw[he]at hx;cases hx
  | some e =>
   cases he':es'[j]? with
   | none=>rw[he']at hy;cases hy
   | some e' =>
    rw[he]at hx;rw[he']at hy;simp at hx hy;subst hx;subst hy;obtain⟨a,b,c⟩:=hf e e' he he';exact⟨a,b,c.trans (h.2 j e e' he (by simpa using he')).2.2⟩
 ·rw[if_neg hj]at hx;rw[if_neg (fun e=>hj e.symm)]at hy;exact h.2 j x y hx (by simpa using hy)
theorem zgw {r:Nat}{es:Array MapEntry}{ck:Nat}(hh:w.heap[r]?=some (.map es ck))(o:Obj):(setObj r o).run P w=.ok () (w.putObj r o):=by
 simp[setObj,Sem.run,hh,World.putObj]
theorem WR.setMap (k:WR P Z ρ h w){b:Nat}{loc:Loc}(hρ:ρ b 0=some loc){es:List zcD}{ck:Nat}{es':Array MapEntry}(hh:∃es0 ck0,w.heap[loc.r]?=some (.map es0 ck0))(he:EsR ρ es es'.toList){x0:TO}(hx0:h.get b=some x0)(hn0:∀cs,x0 ≠ .ro cs):WR P Z ρ (h.set b (.map es ck)) (w.putObj loc.r (.map es' ck))/\Below Z w (w.putObj loc.r (.map es' ck)):=by
 have hZo:∀g' loc',ρ b g'=some loc'->Z<=loc'.r:=fun g' loc' hl'=>k.own hl' hx0 hn0;obtain⟨es0,ck0,hh⟩:=hh;have hlt:loc.r<w.heap.size:=(zBT9.1 hh).1;have hZ:=hZo 0 loc hρ;refine⟨k.change (fun _ _ _ h=>h) (fun _ _ _=>rfl) hρ (by simp[World.putObj]) (fun c g' loc' hc hl'=>World.putObj_heap_other (fun e=>hc (k.sep c b g' 0 loc' loc hl' hρ e zo))) ⟨loc,es',hρ,World.putObj_heap_same hlt,he⟩
  (fun g' loc' hl'=>⟨hZo g' loc' hl',by have:=(k.dom b g' loc' hl').2.2;simpa[World.putObj]using this⟩) (fun g' loc' hl' c g'' loc'' hc hl'' e=>hc ((k.sep b c g' g'' loc' loc'' hl' hl'' e (hZo g' loc' hl')).symm)),?_⟩
 exact⟨rfl,rfl,rfl,by simp[World.putObj],fun j hj=>World.putObj_heap_other zo⟩
theorem VL.three {l:List TV}{a b c:Value}(h:VL ρ l [a,b,c]){x y z:TV}(e:l=[x,y,z]):VR ρ x a/\VR ρ y b/\VR ρ z c:=by
 subst e;exact⟨h.2 0 x a rfl rfl,h.2 1 y b rfl rfl,h.2 2 z c rfl rfl⟩
theorem zjz (k:WR P Z ρ h w){t key e:TypeId}{kf:Nat}{d:TypeDesc}(hu:P.underlying t=some (.map key e))(hd:P.underlying key=some d)(hkf:kfT kf d){vs:List TV}{m' x' y':Value}(hv:VL ρ vs [m',x',y']){v:TV}(ha:zg0 kf h vs=some (.ok v h')) :
  v=.tuple []/\zhw P Z ρ h h' w (do Instr.mapUpdate t m' x' y';pure .skip) v:=by
 have hkt:=zob hd hkf;unfold zg0 at ha
 split at ha
 ·rename_i b x y;obtain⟨h0,ha⟩:=zi ha;have hkv:=zl0 hkf h0;obtain⟨hm,hx,hy⟩:=hv.three rfl;have hck:∀b,(Instr.checkKey b 10000 key x').run P w=.ok () w:=fun b=>zhY hkt b 9999 x' w
  split at ha
  ·rename_i o ho;unfold zrr at ha
   split at ha
   ·rename_i es ck
    cases hm with
    | map hρ =>
     rename_i loc;obtain⟨es',he,her⟩:=zks k hρ ho
     split at ha
     ·cases ha
     ·rename_i hf;injection ha with ha;injection ha with ha1 ha2;subst ha1;subst ha2;obtain⟨r',hr',hc⟩:=zfN hd hkt hx hkv her hf;rcases hc with⟨_,rfl⟩|⟨j',a,b,c1,_⟩
      ·obtain⟨hw,hb⟩:=k.setMap hρ ⟨_,_,he⟩ (es:=es++[⟨x,y,ck⟩]) (ck:=ck+1) (es':=es'.push { key:=x',val:=y',born:=ck }) (by simpa using her.push hx hy rfl) ho (fun cs h=>by cases h);exact⟨rfl,.skip (by simp[Instr.mapUpdate,run_underlying hu,zd1 he,hck,Instr.findKey,run_underlying hd,hr',zgw he]) (Rho.le.refl _ _) hw hb (zAE9 _)⟩
      ·cases c1
     ·rename_i j e0 hf;injection ha with ha;injection ha with ha1 ha2;subst ha1;subst ha2;obtain⟨r',hr',hc⟩:=zfN hd hkt hx hkv her hf;rcases hc with⟨hc,_⟩|⟨j',a,b,c1,c2,c3,c4,c5⟩
      ·cases hc
      ·injection c1 with c1;injection c1 with c1 c1';subst c1';simp at c1;subst c1;simp at c2;subst c2;have hxe:=zrC c5;obtain⟨hek,_,_⟩:=her.2 j e0 b c3 c4;rw[<- hxe]at hek;have c4':es'[j]?=some b:=by simpa using c4
       have hks:=zky (P:=P) hek hx (d:=d) h0 w;obtain⟨hw,hb⟩:=k.setMap hρ ⟨_,_,he⟩ (es:=setE j x y es) (ck:=ck) (es':=es'.modify j fun e=>{ e with key:=x',val:=y' }) (her.setE fun e e' _ _=>⟨hx,hy,rfl⟩) ho (fun cs h=>by cases h);exact⟨rfl,.skip (by simp[Instr.mapUpdate,run_underlying hu,zd1 he,hck,Instr.findKey,run_underlying hd,hr',zgw he,c4',hks]) (Rho.le.refl _ _) hw hb (zAE9 _)⟩
   ·cases ha
  ·cases ha
 ·cases ha
theorem zqt (k:WR P Z ρ h w){t key e:TypeId}{kf:Nat}{d:TypeDesc}(hu:P.underlying t=some (.map key e))(hd:P.underlying key=some d)(hkf:kfT kf d){z:TV}(hz:zdw P e=some z){vs:List TV}{m' x':Value}(hv:VL ρ vs [m',x']){v:TV}(ha:zqi kf z h vs=some (.ok v h')) :
  zhw P Z ρ h h' w (do pure (.value (<- Instr.mapEntry t m' x'))) v:=by
 have hkt:=zob hd hkf;obtain⟨zv,hzv,hzr⟩:=zfT (ρ:=ρ) hz w;unfold zqi at ha
 split at ha
 ·rename_i b x;obtain⟨h0,ha⟩:=zi ha;have hkv:=zl0 hkf h0;obtain⟨hm,hx⟩:=hv.two rfl;have hck:∀b,(Instr.checkKey b 10000 key x').run P w=.ok () w:=fun b=>zhY hkt b 9999 x' w
  split at ha
  ·rename_i o ho;unfold zuq at ha
   split at ha
   ·rename_i es ck
    cases hm with
    | map hρ =>
     rename_i loc;obtain⟨es',he,her⟩:=zks k hρ ho
     split at ha
     ·cases ha
     ·rename_i hf;injection ha with ha;injection ha with ha1 ha2;subst ha1;subst ha2;obtain⟨r',hr',hc⟩:=zfN hd hkt hx hkv her hf;rcases hc with⟨_,rfl⟩|⟨j',a,b,c1,_⟩
      ·obtain⟨hw,hb⟩:=k.setMap hρ ⟨_,_,he⟩ (es:=es++[⟨x,z,ck⟩]) (ck:=ck+1) (es':=es'.push { key:=x',val:=zv,born:=ck }) (by simpa using her.push hx hzr rfl) ho (fun cs h=>by cases h);exact .val (v':=.tuple #[zv,.int .i64 (ck:Nat)]) (by simp[Instr.mapEntry,run_underlying hu,zd1 he,hck,Instr.findKey,run_underlying hd,hr',zgw he,hzv,goInt]) (Rho.le.refl _ _) hw hb (VR.tupL (.cons hzr (VL.one (.int _ _)))) (zAE9 _)
      ·cases c1
     ·rename_i j e0 hf;injection ha with ha;injection ha with ha1 ha2;subst ha1;subst ha2;obtain⟨r',hr',hc⟩:=zfN hd hkt hx hkv her hf;rcases hc with⟨hc,_⟩|⟨j',a,b,c1,c2,c3,c4,c5⟩
      ·cases hc
      ·injection c1 with c1;injection c1 with c1 c1';subst c1';simp at c1;subst c1;simp at c2;subst c2;have hxe:=zrC c5;obtain⟨hek,hev,hen⟩:=her.2 j e0 b c3 c4;rw[<- hxe]at hek;have c4':es'[j]?=some b:=by simpa using c4
       have hks:=zky (P:=P) hek hx (d:=d) h0 w;have hsame:EsR ρ es (es'.modify j fun e=>{ e with key:=x' }).toList:=by
        refine⟨by simpa using her.1,fun i p q hp hq=>?_⟩;rw[zBX9,zFI9]at hq
        split at hq
        ·grind
        ·exact her.2 i p q hp (by simpa using hq)
       obtain⟨hw,hb⟩:=k.setMap hρ ⟨_,_,he⟩ (es:=es) (ck:=ck) (es':=es'.modify j fun e=>{ e with key:=x' }) hsame ho (fun cs h=>by cases h);have hh:WR P Z ρ h (w.putObj loc.r (.map (es'.modify j fun e=>{ e with key:=x' }) ck)):=by
        refine⟨fun c g l hl=>?_,fun c g l hl=>?_,hw.sep⟩
        ·obtain⟨a1,a2,a3⟩:=hw.dom c g l hl;refine⟨a1,a2.imp id fun⟨cs,h1⟩=>?_,a3⟩;rw[TH.get_set _ _ _ _ (TH.get_lt ho)]at h1
         split at h1
         ·cases h1
         ·exact⟨cs,h1⟩
        obtain⟨o',ho',hor⟩:=hw.obj c g l hl;rw[TH.get_set _ _ _ _ (TH.get_lt ho)]at ho'
        grind
       refine .val (v':=.tuple #[b.val,.int .i64 (e0.n:Nat)]) ?_ (Rho.le.refl _ _) hh hb (VR.tupL (.cons hev (VL.one (.int _ _)))) (zAE9 _);simp[Instr.mapEntry,run_underlying hu,zd1 he,hck,Instr.findKey,run_underlying hd,hr',zgw he,c4',hks,goInt,hen]
   ·cases ha
  ·cases ha
 ·cases ha
theorem zpq {n:Nat}{v:TV}{v':Value}(hv:VR ρ v v'):∀{es:List zcD} {es':List MapEntry} {r:List zcD},EsR ρ es es'->znw n v es=some r->∃i,es'.findIdx? (fun e=>(e.born:Int)==(n:Int))=some i/\EsR ρ r (es'.modify i fun e=>{ e with val:=v' })
 | [],_,_,_,hs=>by cases hs
 | e::es,es',r,he,hs=>by
  obtain⟨e',rr,rfl,h1,h2,h3,h4⟩:=he.of_cons;simp only[znw]at hs
  cases hb:Nat.beq e.n n<;>rw[hb]at hs
  ·simp only[cond_false]at hs
   split at hs
   ·cases hs
   ·rename_i l hl;injection hs with hs;subst hs;obtain⟨i,hi,her⟩:=zpq hv h4 hl;have hne:¬((e'.born:Int)==(n:Int))=true:=by
     rw[h3];intro hh;have:=beq_iff_eq.1 hh;have:e.n=n:=zo
     simp_all
    refine⟨i+1,by rw[zFY9];simp only[hne,if_false,zCD9];rw[hi];rfl,?_⟩;refine⟨by have:=her.1;simpa using this,fun j p q hp hq=>?_⟩
    cases j with
    | zero=>simp at hp hq;subst hp;subst hq;exact⟨h1,h2,h3⟩
    | succ j=>simp at hp hq;exact her.2 j p q hp (by simpa using hq)
  ·simp only[cond_true]at hs;injection hs with hs;subst hs;have hen:=zAF9 hb;refine⟨0,by rw[zFY9];simp[h3,hen],?_⟩;refine⟨by have:=h4.1;simpa using this,fun j p q hp hq=>?_⟩
   cases j with
   | zero=>simp at hp hq;subst hp;subst hq;exact⟨h1,hv,h3⟩
   | succ j=>simp at hp hq;exact h4.2 j p q hp hq
theorem zt1 (k:WR P Z ρ h w){t:TypeId}{vs:List TV}{m' s' y':Value}(hv:VL ρ vs [m',s',y']){v:TV}(ha:zlq h vs=some (.ok v h')):v=.tuple []/\zhw P Z ρ h h' w (do Instr.entryStore t m' s' y';pure .skip) v:=by
 unfold zlq at ha
 split at ha
 ·rename_i b s y;obtain⟨hm,hs,hy⟩:=hv.three rfl
  split at ha
  ·rename_i n hn;obtain⟨kk,_,rfl⟩:=zfZ hn hs
   split at ha
   ·rename_i o ho;unfold zwV at ha
    split at ha
    ·rename_i es ck
     split at ha
     ·cases ha
     ·rename_i es2 hst;injection ha with ha;injection ha with ha1 ha2;subst ha1;subst ha2
      cases hm with
      | map hρ =>
       rename_i loc;obtain⟨es',he,her⟩:=zks k hρ ho;obtain⟨i,hi,hr⟩:=zpq hy her hst;obtain⟨hw,hb⟩:=k.setMap hρ ⟨_,_,he⟩ (es:=es2) (ck:=ck) (es':=es'.modify i fun e=>{ e with val:=y' }) (by rw[Array.toList_modify];exact hr) ho (fun cs h=>by cases h);have hi':es'.findIdx? (fun e=>(e.born:Int)==(n:Int))=some i:=by obtain⟨l⟩:=es';rw[List.findIdx?_toArray];exact hi
       exact⟨rfl,.skip (by simp[Instr.entryStore,zd1 he,asInt,asIntOf,hi',zgw he]) (Rho.le.refl _ _) hw hb (zAE9 _)⟩
    ·cases ha
   ·cases ha
  ·cases ha
 ·cases ha
theorem ziH (k:WR P Z ρ h w){esz n:Nat}{x:TV}{x':Value}(hx:VR ρ x x'){l:List TV}(hl:zeG h esz x n=some l)(hn:n<=lenV x) :
  ∃A m c cs,x'=.slice A m c/\m=lenV x/\VL ρ l cs/\cs.length=n*esz/\(∀y∈l,y.one=true)/\(n≠0->∃a,A=some a/\∀(j:Nat) v,cs[j]?=some v->w.cell? (a.add j)=some v):=by
 unfold zeG at hl
 split at hl
 ·injection hl with hl;subst hl
  cases hx
  have:n=0:=by simp[lenV]at hn;exact hn
  subst this;exact⟨none,0,0,[],rfl,rfl,VL.nil ρ,by simp,fun y hy=>(by cases hy),fun h=>absurd rfl h⟩
 ·rename_i b g o n0 q z;obtain⟨hz,hl⟩:=zi hl;obtain rfl:=zAF9 hz
  cases hx with
  | sl hρ h1 h2 h3 h4 h5 h6 =>
   rename_i o' c loc;have hn':n<=n0:=hn;have:n*esz<=q/2*esz:=zBV9 esz zo;obtain⟨cs,c1,c2,c3,c4⟩:=zjP k hl hρ zo;refine⟨_,n0,c,cs,rfl,rfl,c1,c2,c4,fun hne=>⟨_,rfl,fun j v hj=>?_⟩⟩;have ho:o'=o:=by rcases h4 with h|⟨h,_⟩;exact h;omega
   rw[zc0,ho];exact c3 j v hj
 ·cases hl
theorem zq1 {t ty e:TypeId}(ht:P.underlying t=some (.slice e)){z:Nat}(hz:zbZ P e=some z){base A:Option Addr}{n c m c2:Nat}(hn:n<=c)(hm:m=0):(Builtin.append_ #[t,t] ty #[.slice base n c,.slice A m c2]).run P w=.ok (.slice base n c) w:=by
 subst hm;obtain⟨_,i,hi,rfl⟩:=zdB hz
 cases A<;>cases base<;>simp[Builtin.append_,run_underlying ht,sizeOf,typeInfo,hi,Builtin.lenOf,Builtin.firstCells,hn,loadCells,loadCellsFrom,storeCells]
structure zl7 (P:Program)(w:World)(t u e:TypeId)(i:TypeInfo)(zv:Value)(x':Value)(m:Nat)(cs:List Value):Prop where
 zero:∀(ty:TypeId) (base:Option Addr) (n c:Nat),n<=c->m=0->(Builtin.append_ #[t,u] ty #[.slice base n c,x']).run P w=.ok (.slice base n c) w
 nil:∀(ty:TypeId),0<m->(m:Int)<=9223372036854775807->m*i.bytes<=281474976710656->(Builtin.append_ #[t,u] ty #[.slice none 0 0,x']).run P w=.ok (.slice (some ⟨w.heap.size,0,none⟩) m (grownCap w m 0 e)) (w.drew.alloc (.cells (cs.toArray++Builtin.zeroCells zv.cells (grownCap w m 0 e-m)) e))
 room:∀(ty:TypeId) (g n cc:Nat) (cur:Array Value) (fz:Nat×Nat),w.heap[g]?=some (.cells cur e fz)->znS P e fz cur.size->0<m->n+m<=cc->n*i.size+cs.length<=cur.size->(Builtin.append_ #[t,u] ty #[.slice (some ⟨g,0,none⟩) n cc,x']).run P w=.ok (.slice (some ⟨g,0,none⟩) (n+m) cc) (w.setRow g (cur.toList.take (n*i.size)++cs++cur.toList.drop (n*i.size+cs.length)).toArray)
 grow:∀(ty:TypeId) (b:Addr) (n cc:Nat) (olds:List Value),olds.length=n*i.size->(∀j u,olds[j]?=some u->w.cell? (b.add j)=some u)->0<m->cc<n+m->((n+m:Nat):Int)<=9223372036854775807->Builtin.nextslicecap (n+m) cc*i.bytes<=281474976710656->(Builtin.append_ #[t,u] ty #[.slice (some b) n cc,x']).run P w=.ok (.slice (some ⟨w.heap.size,0,none⟩) (n+m) (grownCap w (n+m) cc e)) (w.drew.alloc (.cells (olds.toArray++cs.toArray++Builtin.zeroCells zv.cells (grownCap w (n+m) cc e-(n+m))) e))
theorem zl7.slice {t e:TypeId}{i:TypeInfo}{zv:Value}(ht:P.underlying t=some (.slice e))(hi:P.info? e=some i)(hz:i.zero=some zv)(h0:0<i.size){A:Option Addr}{m c:Nat}{cs:List Value}(hcl:cs.length=m*i.size)(hone:∀u∈cs,u.oneCell'=true)(hmem:m≠0->∃a,A=some a/\∀(j:Nat) v,cs[j]?=some v->w.cell? (a.add j)=some v):zl7 P w t t e i zv (.slice A m c) m cs:=by
 refine⟨fun ty base n cc hn hm=>?_,fun ty hm h1 h2=>?_,fun ty g n cc cur fz hg hfz hm hr hf=>?_,fun ty b n cc olds ho ho2 hm hc h1 h2=>?_⟩
 ·exact zq1 ht (z:=i.size) (by simp[zbZ,hi];omega) hn hm
 ·obtain⟨a,rfl,ha⟩:=hmem zo;exact run_append_nil (P:=P) w t ty e i zv ht hi hz a m c cs hcl ha hm h1 h2
 ·obtain⟨a,rfl,ha⟩:=hmem zo;have hfc:=run_firstCells_some (P:=P) w i.size m a m c cs hcl ha;have hst:=zgd (P:=P) g (n*i.size) e fz cs 0 cur w hg hfz (by simpa using hf) hone;simp only[zDD9]at hst;simp[Builtin.append_,run_underlying ht,sizeOf,typeInfo,hi,Builtin.lenOf,hr,hfc,zc0,hst]
 ·obtain⟨a,rfl,ha⟩:=hmem zo;exact run_append_grow (P:=P) w t ty e i zv ht hi hz b n cc olds ho ho2 a m c cs hcl ha hc h1 h2
theorem zl7.zeros {t u e:TypeId}{i:TypeInfo}{zv:Value}{kn kq:IntKind}(ht:P.underlying t=some (.slice e))(hu:P.underlying u=some (.int kn))(hi:P.info? e=some i)(hz:i.zero=some zv)(h0:0<i.size)(hzs:zv.cells.size=i.size)(hone:∀u∈zv.cells.toList,u.oneCell'=true){m:Nat}(hm1:m<=1000000)(hm2:m*i.bytes<=281474976710656):zl7 P w t u e i zv (.int kq (.ofNat m)) m (Builtin.zeroCells zv.cells m).toList:=by
 have hw:IntKind.i64.wrap (m:Int)=m:=by simp[IntKind.wrap,IntKind.bits,IntKind.signed];omega
 have hneg:¬((m:Int)<0):=zo;have h48i:¬(281474976710656<(m:Int)*(i.bytes:Int)):=by rw[<- zFM9];omega
 refine⟨fun ty base n cc hn hm=>?_,fun ty hm h1 h2=>?_,fun ty g n cc cur fz hg hfz hm hr hf=>?_,fun ty b n cc olds ho ho2 hm hc h1 h2=>?_⟩
 ·subst hm;have hw0:IntKind.i64.wrap 0=0:=by decide
  cases base<;>simp[Builtin.append_,run_underlying ht,run_underlying hu,sizeOf,typeInfo,hi,asInt,asIntOf,hw0,hn,storeCells]
 ·have:=Lib.run_append_nil_zeros (P:=P) w t u ty e i zv kq kn ht hu hi hz m hm h0 h1 h2;simpa using this
 ·have hst:=zgd (P:=P) g (n*i.size) e fz (Builtin.zeroCells zv.cells m).toList 0 cur w hg hfz (by simpa using hf) (fun v hv=>by
   obtain⟨j,hj,rfl⟩:=zBH9.1 hv;simp only[Builtin.zeroCells,zDX9,List.getElem_map];refine hone _ ?_;have hj':(Array.range (m*zv.cells.size)).toList[j]'(by simpa[Builtin.zeroCells]using hj)=j:=by simp
   rw[hj'];have:j%zv.cells.size<zv.cells.size:=zEM9 _ zo;rw[getElem!_pos zv.cells _ this];simp)
  simp only[zDD9]at hst;have hns:¬(m*i.size=0):=Nat.mul_ne_zero zo zo;simp[Builtin.append_,run_underlying ht,run_underlying hu,sizeOf,typeInfo,zeroValue,hi,hz,asInt,asIntOf,hw,hneg,h48i,hns,hr,zc0,hst]
 ·have hfo:=run_firstCells_some (P:=P) w.drew i.size n b n cc olds ho (by simpa using ho2);have:=Lib.run_append_grow_zeros (P:=P) w t u ty e i zv kq kn ht hu hi hz (some b) n cc olds hfo m hm h0 hc h1 hm2 h2;simpa using this
theorem zsR (k:WR P Z ρ h w)(hZ:Z<=w.heap.size){t u e ty:TypeId}{esz by_:Nat}{i:TypeInfo}{zv:Value}(hi:P.info? e=some i)(hisz:i.size=esz)(hn0:0<esz)(hib:i.bytes=by_)(hzvs:zv.cells.size=esz){s:TV}{s' x':Value}(hsr:VR ρ s s'){m:Nat}{news:List TV}{cs:List Value}(hAS:zl7 P w t u e i zv x' m cs)(hcs:VL ρ news cs)(hcl:cs.length=m*esz)(hone:∀y∈news,y.one=true){v:TV}
  (ha:zhm h e esz by_ s m news=some (.ok v h')):∃v' w' ρ',(Builtin.append_ #[t,u] ty #[s',x']).run P w=.ok v' w'/\Rho.le h.next ρ ρ'/\WR P Z ρ' h' w'/\Below Z w w'/\VR ρ' v v'/\h.next<=h'.next:=by
 have hcl':cs.length=m*i.size:=by rw[hcl,hisz]
 have hnl:news.length=m*esz:=by rw[hcs.1,hcl]
 unfold zhm at ha
 cases s<;>simp only at ha<;>first|(cases ha;done)|skip
 case nilsl =>
  cases hsr
  cases hm0:Nat.beq m 0<;>rw[hm0]at ha
  ·-- a new block
   have hmne:m≠0:=fun e=>by subst e;simp at hm0
   simp only[cond_false]at ha;unfold zkm at ha;obtain⟨hfit,ha⟩:=zi ha;injection ha with ha;injection ha with ha1 ha2;subst ha1;subst ha2;have hfit:=zAM9 hfit;rw[zFV9]at hfit;have hr:=hAS.nil ty zo zo (by rw[hib];omega);have hcap:=grownCap_ge w m 0 e;have hcap2:=grownCap_le_maxLen w m 0 e (by simp only[maxLen];omega);have hnone:∀g,ρ h.next g=none:=fun g=>by
    cases hg:ρ h.next g with
    | none=>rfl
    | some loc=>have:=(k.dom _ _ _ hg).1;omega
   have hbsz:(cs.toArray++Builtin.zeroCells zv.cells (grownCap w m 0 e-m)).size=grownCap w m 0 e*esz:=by
    simp only[zEA9,zDS9,size_zeroCells,hzvs,hcl',hisz,<- zCH9]
    grind
   have hwr:=zgO (k.drew.push (zcd e news)) (b:=h.next) hnone (by rw[TH.next_push];omega) (by exact hZ) (by rw[TH.get_push,if_pos rfl]) (cs:=cs.toArray++Builtin.zeroCells zv.cells (grownCap w m 0 e-m)) (by rw[hbsz,hnl];exact zBV9 _ hcap) (fun j x y hx hy=>by
    have hj:j<cs.length:=by rw[<- hcs.1];exact(zAC9.1 hx).1
    rw[zEV9 (by simpa using hj)]at hy;exact hcs.2 j x y hx (by simpa using hy)) hone
   refine⟨_,_,_,hr,⟨Rho.add_more (hnone 0),fun c hc hn g=>by rw[Rho.add_ne zo];exact hn g⟩,hwr,?_,?_,by rw[TH.next_push];omega⟩
   ·exact⟨rfl,rfl,rfl,by simp,fun j hj=>Below.heap_alloc w.drew _ j (by show j<w.heap.size;omega)⟩
   ·refine .sl (Rho.add_same _ _ _ _) zo zo ?_ (.inl rfl) (fun _=>?_) hcap2
    ·show 0+2*m/2*esz<=news.length;have:2*m/2=m:=zo;rw[this,hnl];omega
    ·exact(zBN9 _).trans hbsz.symm
  ·have hm0':=zAF9 hm0;simp only[cond_true]at ha;injection ha with ha;injection ha with ha1 ha2;subst ha1;subst ha2;exact⟨_,_,ρ,hAS.zero ty _ _ _ (zAE9 _) hm0',Rho.le.refl _ _,k,Below.refl _ _,.nilsl,zAE9 _⟩
 case sl b g o n q z =>
  cases hm0:Nat.beq m 0<;>rw[hm0]at ha
  ·have hmne:m≠0:=fun e=>by subst e;simp at hm0
   simp only[cond_false]at ha;obtain⟨hoz,hb1⟩:=zi ha;clear ha;obtain⟨hq2,hb2⟩:=zi hb1;clear hb1;obtain⟨hzz,ha⟩:=zi hb2;clear hb2;have hoz':=zAF9 hoz;have hq2':=zAF9 hq2;have hzz':=zAF9 hzz;clear hoz hq2 hzz;have hq2:=hq2';clear hq2';subst hoz';subst hzz'
   split at ha
   ·rename_i r hr0;unfold zmw at ha
    split at ha
    ·rename_i e' G M len cells;obtain⟨he,hb1⟩:=zi ha;clear ha;obtain⟨hg,hb2⟩:=zi hb1;clear hb1;obtain⟨hlen,hb3⟩:=zi hb2;clear hb2;obtain⟨hfit,ha⟩:=zi hb3;clear hb3;injection ha with ha;injection ha with ha1 ha2;subst ha1;subst ha2;have he':=zAF9 he;have hg':=zAF9 hg;have hlen':=zAF9 hlen;have hfit':=zAM9 hfit;rw[zFV9]at hfit';clear he hg hlen hfit;have hlen:=hlen';have hfit:=hfit';clear hlen' hfit';subst he';subst hg'
     cases hsr with
     | sl hρ s1 s2 s3 s4 s5 s6 =>
      rename_i o' cc loc;have ho':o'=0:=by rcases s4 with h|⟨_,_,h⟩;exact h;exact absurd rfl h
      subst ho';obtain⟨y,hy,hr⟩:=k.obj b g loc hρ;rw[hr0]at hy;injection hy with hy;subst hy;obtain⟨hMG,hg0,hrow⟩:=hr;obtain⟨loc',cur,hρ',⟨fz,hheap,hfz⟩,r1,r2,r3,r4,r5⟩:=hrow g hMG (zAE9 _);rw[hρ]at hρ';injection hρ' with hρ';subst hρ';have hS:=s5 hq2;have hcur:cur.size=cc*esz:=by rw[r1 rfl,<- hS];omega
      have hL:loc.L=len:=r4 rfl;have hnone:ρ b (g+1)=none:=by
       cases hq:ρ b (g+1)with
       | none=>rfl
       | some l=>have:=hg0 _ _ hq;omega
      have hZo:∀g' loc',ρ b g'=some loc'->Z<=loc'.r:=fun g' loc' hl'=>k.own hl' hr0 (fun cs h=>by cases h);have hZr:=hZo g loc hρ;have hrlt:=(k.dom b g loc hρ).2.2
      by_cases hroom:n+m<=cc
      ·-- in place
       have hfits:n*i.size+cs.length<=cur.size:=by rw[hcl',hcur,hisz,<- zCH9];exact zBV9 _ hroom
       have hrun:=hAS.room ty loc.r n cc cur fz hheap hfz zo hroom hfits;have hnew0:=setRow_heap w loc.r cur (cur.toList.take (n*i.size)++cs++cur.toList.drop (n*i.size+cs.length)).toArray e fz hheap;have hnsz:((cur.toList.take (n*i.size)++cs++cur.toList.drop (n*i.size+cs.length)).toArray).size=cur.size:=by simp;omega
       have hnew:zf6 P _ loc.r _ e:=⟨fz,hnew0,hfz.same hnsz⟩
       have hget:∀j,((cur.toList.take (n*i.size)++cs++cur.toList.drop (n*i.size+cs.length)).toArray)[j]?=if n*i.size<=j/\j<n*i.size+cs.length then cs[j-n*i.size]? else cur[j]?:=fun j=>by
        rw[List.getElem?_toArray,zsM _ _ _ _ (by simpa using hfits),zBX9 (xs:=cur)]
       have hm:=Rho.add_more (loc:=⟨loc.r,len+news.length,loc.S⟩) hnone;refine⟨_,_,ρ.add b (g+1) ⟨loc.r,len+news.length,loc.S⟩,hrun,⟨hm,fun c' hc' hn' g'=>?_⟩,?_,zo0 hZr _,?_,zAE9 _⟩
       ·have:c'≠b:=fun e=>by subst e;rw[hn']at hρ;cases hρ
        rw[Rho.add_ne this];exact hn' g'
       ·refine k.change hm (fun c' hc' g'=>Rho.add_ne hc' g') hρ (by simp) (fun c' g' loc' hc' hl'=>setRow_other w loc.r loc'.r _ (fun e=>hc' (k.sep c' b g' g loc' loc hl' hρ e zo))) ⟨by omega,fun g' l hl=>?_,fun g' h1' h2'=>?_⟩ (fun g' l hl=>?_) (fun g' l hl c' g'' loc'' hc' hl'' e=>?_)
        ·rcases Rho.add_inv hl with⟨_,rfl,_⟩|hl
         ·exact zAE9 _
         ·have:=hg0 _ _ hl;omega
        ·by_cases hgg:g'=g+1
         ·subst hgg;refine⟨_,_,Rho.add_same _ _ _ _,hnew,fun _=>by rw[hnsz];exact r1 rfl,zAE9 _,by dsimp only;rw[hnsz,hnl];rw[hcl',hisz]at hfits;omega,fun _=>rfl,fun j hj=>?_⟩;dsimp only at hj;rw[hget,Tr.get_putL];have e1:len=n*i.size:=by rw[hisz,hlen]
          by_cases hjn:len<=j/\j<len+news.length
          ·rw[if_pos hjn,if_pos (by rw[<- e1,<- hcs.1];exact hjn)];have hi1:j-len<news.length:=zo;have hi2:j-n*i.size<cs.length:=by rw[<- e1,<- hcs.1];exact hi1
           rw[<- e1]at hi2⊢;exact⟨_,_,zAA9 hi1,zAA9 hi2,hone _ (zBK9 hi1),(hcs.2 (j-len) _ _ (zAA9 hi1) (zAA9 hi2)).mono hm⟩
          ·rw[if_neg hjn,if_neg (by rw[<- e1,<- hcs.1];exact hjn)];obtain⟨x,u,q1,q2,q3,q4⟩:=r5 j zo;exact⟨x,u,q1,q2,q3,q4.mono hm⟩
         ·obtain⟨l,cu,p1,p2,p3,p4,p5,p6,p7⟩:=hrow g' h1' zo
          by_cases hlr:l.r=loc.r
          ·obtain⟨fz',p2,_⟩:=p2;rw[hlr,hheap]at p2;injection p2 with p2;injection p2 with p2;subst p2;refine⟨l,_,hm _ _ _ p1,by rw[hlr];exact hnew,fun h=>absurd h hgg,by omega,by rw[hnsz];exact p5,fun h=>absurd h hgg,fun j hj=>?_⟩;obtain⟨x,u,q1,q2,q3,q4⟩:=p7 j hj;have e1:len=n*i.size:=by rw[hisz,hlen]
           exact⟨x,u,by rw[Tr.get_putL,if_neg zo];exact q1,by rw[hget,if_neg zo];exact q2,q3,q4.mono hm⟩
          ·refine⟨l,cu,hm _ _ _ p1,p2.move (setRow_other w loc.r l.r _ hlr),fun h=>absurd h hgg,by omega,p5,fun h=>absurd h hgg,fun j hj=>?_⟩;obtain⟨x,u,q1,q2,q3,q4⟩:=p7 j hj;exact⟨x,u,by rw[Tr.get_putL,if_neg zo];exact q1,q2,q3,q4.mono hm⟩
        ·rcases Rho.add_inv hl with⟨_,_,rfl⟩|hl
         ·exact⟨hZr,by simpa using hrlt⟩
         ·exact⟨hZo _ _ hl,by have:=(k.dom _ _ _ hl).2.2;simpa using this⟩
        ·rcases Rho.add_inv hl with⟨_,_,rfl⟩|hl
         ·exact hc' (k.sep _ _ _ _ _ _ hl'' hρ e.symm (by dsimp only at e;omega))
         ·exact hc' (k.sep _ _ _ _ _ _ hl'' hl e.symm (by have:=hZo _ _ hl;omega))
       ·refine .sl (loc:=⟨loc.r,len+news.length,loc.S⟩) (Rho.add_same _ _ _ _) zo zo ?_ (.inl rfl) (fun _=>?_) s6
        ·show 0+2*(n+m)/2*esz<=len+news.length;have:2*(n+m)/2=n+m:=zo;rw[this,zBN9,zCH9,hnl,hlen];exact zAE9 _
        ·exact hS
      ·-- moved
       have hxl:(cur.toList.take (n*esz)).length=n*i.size:=by grind
       have hrun:=hAS.grow ty ⟨loc.r,0,none⟩ n cc (cur.toList.take (n*esz)) hxl (fun j u hj=>by
        rw[zc0,zBN9];have hjn:j<n*esz:=by have:=(zAC9.1 hj).1;simp at this;omega
        rw[zCY9,if_pos hjn,zBX9]at hj;simp[World.cell?,hheap,hj]) zo zo zo (growslice_fits zo (by rw[hib];omega))
       have hcap:=grownCap_ge w (n+m) cc e;have hcap2:=grownCap_le_maxLen w (n+m) cc e (by simp only[maxLen];omega);obtain⟨bl,hbl⟩:∃bl,bl=(cur.toList.take (n*esz)).toArray++cs.toArray++Builtin.zeroCells zv.cells (grownCap w (n+m) cc e-(n+m)):=⟨_,rfl⟩
       rw[<- hbl]at hrun;have hbsz:bl.size=grownCap w (n+m) cc e*esz:=by
        rw[hbl];simp only[zEA9,zDS9,size_zeroCells,hzvs,hcl',hxl,hisz,<- zCH9]
        grind
       have hget:∀j,j<len+news.length->bl[j]?=if j<len then cur[j]? else cs[j-len]?:=fun j hj=>by
        rw[hbl,zEV9 (by simp only[zEA9,zDS9,hxl,hcl',hisz];rw[hlen,<- hnl];exact hj)]
        grind
       have hm:=Rho.add_more (loc:=⟨w.heap.size,len+news.length,bl.size⟩) hnone;have hnew:zf6 P (w.drew.alloc (.cells bl e)) w.heap.size bl e:=.of (World.alloc_heap_new w.drew _);have hold:∀r,r<w.heap.size->(w.drew.alloc (.cells bl e)).heap[r]?=w.heap[r]?:=fun r hr=>Below.heap_alloc w.drew _ r hr;refine⟨_,_,ρ.add b (g+1) ⟨w.heap.size,len+news.length,bl.size⟩,hrun,⟨hm,fun c' hc' hn' g'=>?_⟩,?_,?_,?_,zAE9 _⟩
       ·have:c'≠b:=fun e=>by subst e;rw[hn']at hρ;cases hρ
        rw[Rho.add_ne this];exact hn' g'
       ·refine k.change hm (fun c' hc' g'=>Rho.add_ne hc' g') hρ (by simp) (fun c' g' loc' hc' hl'=>hold _ (k.dom _ _ _ hl').2.2) ⟨by omega,fun g' l hl=>?_,fun g' h1' h2'=>?_⟩ (fun g' l hl=>?_) (fun g' l hl c' g'' loc'' hc' hl'' e=>?_)
        ·rcases Rho.add_inv hl with⟨_,rfl,_⟩|hl
         ·exact zAE9 _
         ·have:=hg0 _ _ hl;omega
        ·by_cases hgg:g'=g+1
         ·subst hgg;have hle:len+news.length<=bl.size:=by grind
          refine⟨_,_,Rho.add_same _ _ _ _,hnew,fun _=>rfl,zAE9 _,hle,fun _=>rfl,fun j hj=>?_⟩;dsimp only at hj;rw[hget j hj,Tr.get_putL]
          by_cases hjn:len<=j/\j<len+news.length
          ·rw[if_pos hjn,if_neg zo];have hi1:j-len<news.length:=zo;have hi2:j-len<cs.length:=by rw[<- hcs.1];exact hi1
           exact⟨_,_,zAA9 hi1,zAA9 hi2,hone _ (zBK9 hi1),(hcs.2 (j-len) _ _ (zAA9 hi1) (zAA9 hi2)).mono hm⟩
          ·rw[if_neg hjn,if_pos zo];obtain⟨x,u,q1,q2,q3,q4⟩:=r5 j zo;exact⟨x,u,q1,q2,q3,q4.mono hm⟩
         ·obtain⟨l,cu,p1,p2,p3,p4,p5,p6,p7⟩:=hrow g' h1' zo;refine⟨l,cu,hm _ _ _ p1,p2.move (hold _ (k.dom _ _ _ p1).2.2),fun h=>absurd h hgg,by omega,p5,fun h=>absurd h hgg,fun j hj=>?_⟩;obtain⟨x,u,q1,q2,q3,q4⟩:=p7 j hj;exact⟨x,u,by rw[Tr.get_putL,if_neg zo];exact q1,q2,q3,q4.mono hm⟩
        ·rcases Rho.add_inv hl with⟨_,_,rfl⟩|hl
         ·exact⟨hZ,by simp⟩
         ·exact⟨hZo _ _ hl,by have:=(k.dom _ _ _ hl).2.2;simp;omega⟩
        ·rcases Rho.add_inv hl with⟨_,_,rfl⟩|hl
         ·have:=(k.dom _ _ _ hl'').2.2;dsimp only at e;omega
         ·exact hc' (k.sep _ _ _ _ _ _ hl'' hl e.symm (by have:=hZo _ _ hl;omega))
       ·exact⟨rfl,rfl,rfl,by simp,fun j hj=>hold j zo⟩
       ·refine .sl (Rho.add_same _ _ _ _) zo zo ?_ (.inl rfl) (fun _=>?_) hcap2
        ·show 0+2*(n+m)/2*esz<=len+news.length;have:2*(n+m)/2=n+m:=zo;rw[this,zBN9,zCH9,hnl,hlen];exact zAE9 _
        ·exact(zBN9 _).trans hbsz.symm
    ·cases ha
   ·cases ha
  ·have hm0':=zAF9 hm0;simp only[cond_true]at ha;injection ha with ha;injection ha with ha1 ha2;subst ha1;subst ha2
   cases hsr with
   | sl hρ s1 s2 s3 s4 s5 s6=>exact⟨_,_,ρ,hAS.zero ty _ _ _ zo hm0',Rho.le.refl _ _,k,Below.refl _ _,.sl hρ s1 s2 s3 s4 s5 s6,zAE9 _⟩
theorem zze (k:WR P Z ρ h w)(hZ:Z<=w.heap.size){t e ty:TypeId}{esz by_:Nat}(ht:P.underlying t=some (.slice e))(hs:zbZ P e=some esz)(hby:zh9 P e=some by_){zt:TV}(hzt:zdw P e=some zt)(hzl:zt.cells.length=esz){vs:List TV}{s' x':Value}(hv:VL ρ vs [s',x']){v:TV}
  (ha:zfY e esz by_ h vs=some (.ok v h')):∃v' w' ρ',(Builtin.append_ #[t,t] ty #[s',x']).run P w=.ok v' w'/\Rho.le h.next ρ ρ'/\WR P Z ρ' h' w'/\Below Z w w'/\VR ρ' v v'/\h.next<=h'.next:=by
 obtain⟨hn0,i,hi,hisz⟩:=zdB hs;obtain⟨i2,hi2,hib⟩:=zkn hby;rw[hi]at hi2;injection hi2 with hi2;subst hi2;obtain⟨i3,zv,hi3,hzv,hzr⟩:=zjQ hzt;rw[hi]at hi3;injection hi3 with hi3;subst hi3;have hzr:=hzr ρ;have hzvs:zv.cells.size=esz:=by
  obtain⟨hc,_⟩:=hzr.cells (.inl (by intro e;rw[e]at hzl;simp at hzl;omega));have:=hc.1;rw[hzl]at this;simpa using this.symm
 unfold zfY at ha
 split at ha
 ·rename_i s x;obtain⟨hsr,hxr⟩:=hv.two rfl;unfold ztH at ha
  split at ha
  ·cases ha
  ·rename_i news hnews;obtain⟨A,m,c,cs,rfl,hm,hcs,hcl,hone,hmem⟩:=ziH k hxr hnews (zAE9 _);rw[<- hm]at ha hcl hmem;have hone':∀u∈cs,u.oneCell'=true:=fun u hu=>by
    obtain⟨j,hj,rfl⟩:=zBH9.1 hu;have hj':j<news.length:=by rw[hcs.1];exact hj
    exact(hcs.2 j news[j] cs[j] (zAA9 hj') (zAA9 hj)).oneCell (hone _ (zBK9 hj'))
   exact zsR k hZ hi hisz (zFZ9 hn0) hib hzvs hsr (zl7.slice ht hi hzv zo (by rw[hcl,hisz]) hone' hmem) hcs hcl hone ha
 ·cases ha
theorem zyA (k:WR P Z ρ h w)(hZ:Z<=w.heap.size){t u e ty:TypeId}{esz by_:Nat}(ht:P.underlying t=some (.slice e))(hu:zrq P u=true)(hs:zbZ P e=some esz)(hby:zh9 P e=some by_){zt:TV}(hzt:zdw P e=some zt)(hzl:zt.cells.length=esz){vs:List TV}{s' x':Value}(hv:VL ρ vs [s',x']){v:TV}
  (ha:zjn e esz by_ zt.cells h vs=some (.ok v h')):∃v' w' ρ',(Builtin.append_ #[t,u] ty #[s',x']).run P w=.ok v' w'/\Rho.le h.next ρ ρ'/\WR P Z ρ' h' w'/\Below Z w w'/\VR ρ' v v'/\h.next<=h'.next:=by
 obtain⟨kn,hu⟩:∃kn,P.underlying u=some (.int kn):=by
  unfold zrq at hu
  split at hu
  ·exact⟨_,by assumption⟩
  ·cases hu
 obtain⟨hn0,i,hi,hisz⟩:=zdB hs;obtain⟨i2,hi2,hib⟩:=zkn hby;rw[hi]at hi2;injection hi2 with hi2;subst hi2;obtain⟨i3,zv,hi3,hzv,hzr⟩:=zjQ hzt;rw[hi]at hi3;injection hi3 with hi3;subst hi3;have hzr:=hzr ρ;have hcn:zt.cells ≠ []:=by intro e;rw[e]at hzl;simp at hzl;omega
 obtain⟨hc,h1⟩:=hzr.cells (.inl hcn);have hzvs:zv.cells.size=esz:=by have:=hc.1;rw[hzl]at this;simpa using this.symm
 unfold zjn at ha
 split at ha
 ·rename_i s kq m;obtain⟨hsr,hxr⟩:=hv.two rfl;obtain⟨g1,ha⟩:=zi ha;obtain⟨g2,ha⟩:=zi ha;have g1:=zAM9 g1;have g2:=zAM9 g2;rw[zFV9]at g2
  cases hxr
  refine zsR k hZ hi hisz (zFZ9 hn0) hib hzvs hsr (zl7.zeros ht hu hi hzv zo zo (fun y hy=>?_) g1 (by rw[hib];omega)) ⟨?_,fun j x y hx hy=>?_⟩ ?_ (fun x hx=>h1 x (zjh hx)) ha
  ·obtain⟨j,hj,rfl⟩:=zBH9.1 hy;have hj':j<zt.cells.length:=by rw[hc.1];exact hj
   exact(hc.2 j zt.cells[j] _ (zAA9 hj') (zAA9 hj)).oneCell (h1 _ (zBK9 hj'))
  ·rw[zgE];simp[Builtin.zeroCells,hzl,hzvs]
  ·rw[zBX9]at hy;exact zmo hzr hcn m m (zAE9 _) j x y hx hy
  ·simp[Builtin.zeroCells,hzvs]
 ·cases ha
theorem zv8 (k:WR P Z ρ h w){dT sT e ty:TypeId}{esz:Nat}(ht:P.underlying dT=some (.slice e))(hs:zbZ P e=some esz){vs:List TV}{d' x':Value}(hv:VL ρ vs [d',x']){v:TV}
  (ha:zgp esz h vs=some (.ok v h')):∃v' w',(Builtin.copy_ #[dT,sT] ty #[d',x']).run P w=.ok v' w'/\WR P Z ρ h' w'/\Below Z w w'/\VR ρ v v'/\h.next<=h'.next:=by
 unfold zgp at ha
 split at ha
 ·rename_i d x;obtain⟨hdr,hxr⟩:=hv.two rfl;dsimp only at ha
  split at ha
  ·cases ha
  ·rename_i news hnews;obtain⟨A,m,c,cs,hx',hm,hcs,hcl,hone,hmem⟩:=ziH k hxr hnews (Nat.min_le_left _ _);subst hx'
   split at ha
   ·injection ha with ha;injection ha with ha1 ha2;subst ha1;subst ha2
    cases hdr
    refine⟨goInt 0,w,?_,k,Below.refl _ _,.int _ _,zAE9 _⟩
    cases A<;>simp[Builtin.copy_,run_underlying ht,Builtin.lenOf,Builtin.firstCells,zbW hs,loadCells,loadCellsFrom]
   ·rename_i b g o n q z
    cases hdr with
    | sl hρ s1 s2 s3 s4 s5 s6 =>
     rename_i o' cc loc;have hmin:Nat.min m n=min (lenV x) (lenV (.sl b g o n q z)):=by rw[hm];rfl
     cases hm0:Nat.beq (min (lenV x) (lenV (.sl b g o n q z))) 0<;>rw[hm0]at ha
     ·simp only[cond_false]at ha;have hne:min (lenV x) (lenV (.sl b g o n q z))≠0:=fun e=>by rw[e]at hm0;simp at hm0
      obtain⟨hz,ha2⟩:=zi ha;have hz':=zAF9 hz;clear ha hz;subst hz'
      split at ha2
      ·rename_i h2 hw;injection ha2 with ha2;injection ha2 with ha1 ha3;subst ha1;subst ha3;obtain⟨a,hA,hmem2⟩:=hmem hne;subst hA;have ho:o'=o:=by grind
       subst ho;obtain⟨w',hst,hw',hb,hnx⟩:=zju k hρ hcs hone hw;have hl:=run_loadCells_list (P:=P) w a cs hmem2;refine⟨.int .i64 (Int.ofNat (min (lenV x) (lenV (.sl b g o' n q esz)))),w',?_,hw',hb,.int _ _,by rw[hnx];exact zAE9 _⟩;rw[hcl,<- hmin]at hl;rw[<- hmin];simp[Builtin.copy_,run_underlying ht,Builtin.lenOf,Builtin.firstCells,zbW hs,hl,hst,goInt]
      ·cases ha2
     ·simp only[cond_true]at ha;injection ha with ha;injection ha with ha1 ha2;subst ha1;subst ha2;have he:=zAF9 hm0;rw[<- hmin]at he;refine⟨goInt 0,w,?_,k,Below.refl _ _,.int _ _,zAE9 _⟩;have hz0:∀a:Addr,(storeCells a [] 0).run P w=.ok () w:=fun a=>by simp[storeCells]
      cases A<;>simp[Builtin.copy_,run_underlying ht,Builtin.lenOf,Builtin.firstCells,zbW hs,he,loadCells,loadCellsFrom,hz0]
   ·cases ha
 ·cases ha
theorem zmI (k:WR P Z ρ h w)(hZ:Z<=w.heap.size){o:Oper}{kd:zZ}{args:List TOp}(ho:opK P o.op=some (kd,args))(hc:kd.cls=2)(hn:kd ≠ .call/\kd ≠ .panic/\kd ≠ .defer){a:Act}{tm:Tr TV}(ht:TmR ρ tm a.tmps){vs:List TV}(hv:zd8 tm args=some vs){C:zbS}{ca:Tr Unit}{v:TV}(hp:act C ca kd vs h=some (.ok v h')) :
  zhw P Z ρ h h' w (execOp a.eval o) v:=by
 have key:∀{k0:zZ} {xs:List Operand},mk k0 xs=some (kd,args)->kd=k0/\VL ρ vs (xs.map a.eval):=fun hm=>by
  obtain⟨h1,h2⟩:=zjE hm;exact⟨h1,ze3 ht h2 hv⟩
 obtain⟨dst,op,ty,pos,after,guard⟩:=o
 cases op with
 | move x=>obtain⟨rfl,_⟩:=key ho;cases hc
 | assign x=>obtain⟨rfl,_⟩:=key ho;cases hc
 | pick c x y=>obtain⟨rfl,_⟩:=key ho;cases hc
 | alloc e=>simp only[opK]at ho;split at ho<;>first|(cases ho;done)|skip;split at ho<;>first|(cases ho;done)|skip;obtain⟨rfl,_⟩:=key ho;cases hc
 | box e x=>simp only[opK]at ho;split at ho<;>first|(cases ho;done)|skip;obtain⟨rfl,_⟩:=key ho;cases hc
 | build t parts=>simp only[opK]at ho;split at ho<;>first|(cases ho;done)|skip;obtain⟨rfl,_⟩:=key ho;cases hc
 | buildSlice t len parts =>
  simp only[opK]at ho
  split at ho<;>first|(cases ho;done)|skip
  split at ho<;>first|(cases ho;done)|skip
  split at ho<;>first|(cases ho;done)|skip
  obtain⟨rfl,_⟩:=key ho;cases hc
 | insert t m x y =>
  simp only[opK]at ho
  split at ho<;>first|(cases ho;done)|skip
  rename_i hu
  split at ho<;>first|(cases ho;done)|skip
  all_goals
   rename_i hd;obtain⟨rfl,hl⟩:=key ho
  ·obtain⟨rfl,h1⟩:=zjz k hu hd (.inl ⟨rfl,_,rfl⟩) hl hp;exact h1
  ·obtain⟨rfl,h1⟩:=zjz k hu hd (.inr ⟨rfl,rfl⟩) hl hp;exact h1
 | load t x=>simp only[opK]at ho;split at ho<;>first|(cases ho;done)|skip;obtain⟨rfl,_⟩:=key ho;cases hc
 | store t x y =>
  simp only[opK]at ho
  split at ho<;>first|(cases ho;done)|skip
  rename_i hs;obtain⟨rfl,hl⟩:=key ho;obtain⟨rfl,h1⟩:=zuF k hs hl hp;exact h1
 | ready g=>cases ho
 | waits g=>cases ho
 | nilCheck x=>obtain⟨rfl,_⟩:=key ho;cases hc
 | binOp op t x y yt =>
  simp only[opK]at ho
  repeat' (split at ho)
  all_goals first|(cases ho;done)|(obtain⟨rfl,_⟩:=key ho;cases hc)
 | unOp op t x=>obtain⟨rfl,_⟩:=key ho;cases hc
 | convert src dst' x=>simp only[opK]at ho;(repeat' (split at ho))<;>first|(cases ho;done)|(obtain⟨rfl,_⟩:=key ho;cases hc)
 | sliceToArrayPointer t x=>cases ho
 | makeInterface t x=>simp only[opK]at ho;split at ho<;>first|(cases ho;done)|(obtain⟨rfl,_⟩:=key ho;cases hc)
 | makeFunc fn first captured =>
  cases fn<;>simp only[opK]at ho<;>first|(cases ho;done)|skip
  split at ho
  ·obtain⟨rfl,_⟩:=key ho;cases hc
  ·cases ho
 | makeMap t r=>simp only[opK]at ho;split at ho<;>first|(cases ho;done)|(obtain⟨rfl,_⟩:=key ho;cases hc)
 | makeChan t s=>cases ho
 | makeSlice t l c =>
  simp only[opK]at ho
  repeat' (split at ho)
  all_goals first|(cases ho;done)|(obtain⟨rfl,_⟩:=key ho;cases hc)
 | slice t x lo hi mx =>
  simp only[opK]at ho
  repeat' (split at ho)
  all_goals first|(cases ho;done)|(obtain⟨rfl,_⟩:=key ho;cases hc)
 | fieldAddr t x f=>simp only[opK]at ho;split at ho<;>first|(cases ho;done)|(obtain⟨rfl,_⟩:=key ho;cases hc)
 | field t x f=>simp only[opK]at ho;split at ho<;>first|(cases ho;done)|(obtain⟨rfl,_⟩:=key ho;cases hc)
 | indexAddr t x i =>
  simp only[opK]at ho
  repeat' (split at ho)
  all_goals first|(cases ho;done)|(obtain⟨rfl,_⟩:=key ho;cases hc)
 | index t x i =>
  simp only[opK]at ho
  repeat' (split at ho)
  all_goals first|(cases ho;done)|(obtain⟨rfl,_⟩:=key ho;cases hc)
 | lookup t m x ok =>
  simp only[opK]at ho
  repeat' (split at ho)
  all_goals first|(cases ho;done)|(obtain⟨rfl,_⟩:=key ho;cases hc)
 | mapUpdate t m x y =>
  simp only[opK]at ho
  split at ho<;>first|(cases ho;done)|skip
  rename_i hu
  split at ho<;>first|(cases ho;done)|skip
  all_goals
   rename_i hd;obtain⟨rfl,hl⟩:=key ho
  ·obtain⟨rfl,h1⟩:=zjz k hu hd (.inl ⟨rfl,_,rfl⟩) hl hp;exact h1
  ·obtain⟨rfl,h1⟩:=zjz k hu hd (.inr ⟨rfl,rfl⟩) hl hp;exact h1
 | mapEntry t m x =>
  simp only[opK]at ho
  split at ho<;>first|(cases ho;done)|skip
  rename_i hu
  split at ho<;>first|(cases ho;done)|skip
  all_goals
   rename_i hd hz;obtain⟨rfl,hl⟩:=key ho
  ·exact zqt k hu hd (.inl ⟨rfl,_,rfl⟩) hz hl hp
  ·exact zqt k hu hd (.inr ⟨rfl,rfl⟩) hz hl hp
 | entryStore t m s x =>
  obtain⟨rfl,hl⟩:=key ho;obtain⟨rfl,h1⟩:=zt1 (t:=t) k hl hp;exact h1
 | range t x=>cases ho
 | next i b=>cases ho
 | entry i=>cases ho
 | typeAssert x xt t ok=>simp only[opK]at ho;split at ho<;>first|(cases ho;done)|(obtain⟨rfl,_⟩:=key ho;cases hc)
 | extract x i=>obtain⟨rfl,_⟩:=key ho;cases hc
 | call c =>
  obtain⟨callee,cargs,ts⟩:=c
  cases callee with
  | value f=>obtain⟨rfl,_⟩:=key ho;exact absurd rfl hn.1
  | invoke r m=>cases ho
  | builtin b =>
   simp only[opK]at ho
   split at ho
   ·rename_i t u hts
    split at ho<;>first|(cases ho;done)|skip
    rename_i e he
    split at ho<;>first|(cases ho;done)|skip
    rename_i n by_ z hs hby hz
    split at ho<;>first|(cases ho;done)|skip
    rename_i hzl
    split at ho
    ·rename_i hut;subst hut;obtain⟨rfl,hl⟩:=key ho;obtain⟨xs⟩:=cargs;obtain⟨ts⟩:=ts;simp at hts;subst hts;have hlen:xs.length=2:=by
      have h1:=hl.1;change zfY _ _ _ h vs=_ at hp;unfold zfY at hp
      grind
     match xs,hlen with
     | [x0,x1],_ =>
      obtain⟨v',w',ρ',h1,h2,h3,h4,h5,h6⟩:=zze (ty:=ty) k hZ (zh0 he) hs hby hz hzl hl hp;refine⟨_,v',w',ρ',?_,.inl rfl,h2,h3,h4,h5,h6⟩;simp only[execOp,zcU];simpa[builtin]using zen h1
    ·split at ho
     ·rename_i hu;obtain⟨rfl,hl⟩:=key ho;obtain⟨xs⟩:=cargs;obtain⟨ts⟩:=ts;simp at hts;subst hts;have hlen:xs.length=2:=by
       have h1:=hl.1;change zjn _ _ _ _ h vs=_ at hp;unfold zjn at hp
       grind
      match xs,hlen with
      | [x0,x1],_ =>
       obtain⟨v',w',ρ',h1,h2,h3,h4,h5,h6⟩:=zyA (ty:=ty) k hZ (zh0 he) hu hs hby hz hzl hl hp;refine⟨_,v',w',ρ',?_,.inl rfl,h2,h3,h4,h5,h6⟩;simp only[execOp,zcU];simpa[builtin]using zen h1
     ·cases ho
   ·rename_i t u hts
    split at ho<;>first|(cases ho;done)|skip
    rename_i e he
    split at ho<;>first|(cases ho;done)|skip
    rename_i n hs;obtain⟨rfl,hl⟩:=key ho;obtain⟨xs⟩:=cargs;obtain⟨ts⟩:=ts;simp at hts;subst hts;have hlen:xs.length=2:=by
     have h1:=hl.1;change zgp _ h vs=_ at hp;unfold zgp at hp
     grind
    match xs,hlen with
    | [x0,x1],_ =>
     obtain⟨v',w',h1,h3,h4,h5,h6⟩:=zv8 (ty:=ty) (sT:=u) k (zh0 he) hs hl hp;refine⟨_,v',w',ρ,?_,.inl rfl,Rho.le.refl _ _,h3,h4,h5,h6⟩;simp only[execOp,zcU];simpa[builtin]using zen h1
   ·repeat' (split at ho)
    all_goals first|(cases ho;done)|(obtain⟨rfl,_⟩:=key ho;cases hc)
   ·split at ho<;>first|(cases ho;done)|(obtain⟨rfl,_⟩:=key ho;cases hc)
   ·split at ho<;>first|(cases ho;done)|(obtain⟨rfl,_⟩:=key ho;cases hc)
   ·split at ho
    ·obtain⟨rfl,_⟩:=key ho;exact absurd rfl hn.2.1
    ·cases ho
   ·cases ho
 | go c=>cases ho
 | defer c =>
  obtain⟨callee,cargs,ts⟩:=c
  cases callee<;>first|(cases ho;done)|(obtain⟨rfl,_⟩:=key ho;exact absurd rfl hn.2.2)
 | panic x=>obtain⟨rfl,_⟩:=key ho;exact absurd rfl hn.2.1
 | send c x=>cases ho
 | recv t c b=>cases ho
 | select cs b=>cases ho
theorem znj (k:WR P Z ρ h w){b:Nat}(hnone:∀g,ρ b g=none)(hb:b<h.next)(hZ:Z<=w.heap.size){o:Oper}{kd:zZ}{args:List TOp}(ho:opK P o.op=some (kd,args))(hc:kd.cls=1){a:Act}{tm:Tr TV}(ht:TmR ρ tm a.tmps){vs:List TV}(hv:zd8 tm args=some vs){x:zdy}(hp:lay kd vs b=some x)(hx:h.get b=some x.o) :
  zhv P Z ρ h w b (execOp a.eval o) x.v:=by
 have key:∀{k0:zZ} {xs:List Operand},mk k0 xs=some (kd,args)->kd=k0/\VL ρ vs (xs.map a.eval):=fun hm=>by
  obtain⟨h1,h2⟩:=zjE hm;exact⟨h1,ze3 ht h2 hv⟩
 obtain⟨dst,op,ty,pos,after,guard⟩:=o
 cases op with
 | alloc e =>
  simp only[opK]at ho
  split at ho<;>first|(cases ho;done)|skip
  rename_i hz hs
  split at ho<;>first|(cases ho;done)|skip
  rename_i hzl;obtain⟨rfl,hl⟩:=key ho;exact zvz k hnone hb hZ hs hz hzl hp hx
 | box e y =>
  simp only[opK]at ho
  split at ho<;>first|(cases ho;done)|skip
  rename_i hs;obtain⟨rfl,hl⟩:=key ho;exact zzm k hnone hb hZ hs hl hp hx
 | buildSlice t len parts =>
  simp only[opK]at ho
  split at ho<;>first|(cases ho;done)|skip
  rename_i e he
  split at ho<;>first|(cases ho;done)|skip
  rename_i hs hz
  split at ho<;>first|(cases ho;done)|skip
  rename_i hzl;obtain⟨rfl,hl⟩:=key ho;exact ztQ k hnone hb hZ (zh0 he) hs hz hzl hl hp hx
 | makeSlice t l c =>
  simp only[opK]at ho
  split at ho<;>first|(cases ho;done)|skip
  rename_i e he
  split at ho<;>first|(cases ho;done)|skip
  rename_i hs hby hz
  split at ho<;>first|(cases ho;done)|skip
  rename_i hzl;obtain⟨rfl,hl⟩:=key ho;exact zsg k hnone hb hZ (zh0 he) hs hby hz hzl hl hp hx
 | makeMap t r =>
  simp only[opK]at ho
  split at ho<;>first|(cases ho;done)|skip
  ·rename_i hu;obtain⟨rfl,hl⟩:=key ho;exact zpr k hnone hb hZ hu (r:=none) hl hp hx
  ·rename_i y hu;obtain⟨rfl,hl⟩:=key ho;exact zpr k hnone hb hZ hu (r:=some (a.eval y)) hl hp hx
 | move x=>obtain⟨rfl,_⟩:=key ho;cases hc
 | assign x=>obtain⟨rfl,_⟩:=key ho;cases hc
 | pick c x y=>obtain⟨rfl,_⟩:=key ho;cases hc
 | build t parts=>simp only[opK]at ho;split at ho<;>first|(cases ho;done)|skip;obtain⟨rfl,_⟩:=key ho;cases hc
 | insert t m x y=>simp only[opK]at ho;(repeat' (split at ho))<;>first|(cases ho;done)|(obtain⟨rfl,_⟩:=key ho;cases hc)
 | load t x=>simp only[opK]at ho;split at ho<;>first|(cases ho;done)|skip;obtain⟨rfl,_⟩:=key ho;cases hc
 | store t x y=>simp only[opK]at ho;split at ho<;>first|(cases ho;done)|skip;obtain⟨rfl,_⟩:=key ho;cases hc
 | ready g=>cases ho
 | waits g=>cases ho
 | nilCheck x=>obtain⟨rfl,_⟩:=key ho;cases hc
 | binOp op t x y yt=>simp only[opK]at ho;(repeat' (split at ho))<;>first|(cases ho;done)|(obtain⟨rfl,_⟩:=key ho;cases hc)
 | unOp op t x=>obtain⟨rfl,_⟩:=key ho;cases hc
 | convert src dst' y =>
  simp only[opK]at ho
  split at ho
  ·obtain⟨rfl,_⟩:=key ho;cases hc
  ·obtain⟨rfl,_⟩:=key ho;cases hc
  ·rename_i e hs hd
   split at ho
   ·rename_i he;obtain⟨rfl,hl⟩:=key ho;exact zsj k hnone hb hZ hs hd he hl hp hx
   ·cases ho
  ·split at ho
   ·obtain⟨rfl,_⟩:=key ho;cases hc
   ·cases ho
  ·cases ho
 | sliceToArrayPointer t x=>cases ho
 | makeInterface t x=>simp only[opK]at ho;split at ho<;>first|(cases ho;done)|(obtain⟨rfl,_⟩:=key ho;cases hc)
 | makeFunc fn first captured =>
  cases fn<;>simp only[opK]at ho<;>first|(cases ho;done)|skip
  split at ho
  ·obtain⟨rfl,_⟩:=key ho;cases hc
  ·cases ho
 | makeChan t s=>cases ho
 | slice t x lo hi mx=>simp only[opK]at ho;(repeat' (split at ho))<;>first|(cases ho;done)|(obtain⟨rfl,_⟩:=key ho;cases hc)
 | fieldAddr t x f=>simp only[opK]at ho;split at ho<;>first|(cases ho;done)|(obtain⟨rfl,_⟩:=key ho;cases hc)
 | field t x f=>simp only[opK]at ho;split at ho<;>first|(cases ho;done)|(obtain⟨rfl,_⟩:=key ho;cases hc)
 | indexAddr t x i=>simp only[opK]at ho;(repeat' (split at ho))<;>first|(cases ho;done)|(obtain⟨rfl,_⟩:=key ho;cases hc)
 | index t x i=>simp only[opK]at ho;(repeat' (split at ho))<;>first|(cases ho;done)|(obtain⟨rfl,_⟩:=key ho;cases hc)
 | lookup t m x ok=>simp only[opK]at ho;(repeat' (split at ho))<;>first|(cases ho;done)|(obtain⟨rfl,_⟩:=key ho;cases hc)
 | mapUpdate t m x y=>simp only[opK]at ho;(repeat' (split at ho))<;>first|(cases ho;done)|(obtain⟨rfl,_⟩:=key ho;cases hc)
 | mapEntry t m x=>simp only[opK]at ho;(repeat' (split at ho))<;>first|(cases ho;done)|(obtain⟨rfl,_⟩:=key ho;cases hc)
 | entryStore t m s x=>obtain⟨rfl,_⟩:=key ho;cases hc
 | range t x=>cases ho
 | next i b=>cases ho
 | entry i=>cases ho
 | typeAssert x xt t ok=>simp only[opK]at ho;split at ho<;>first|(cases ho;done)|(obtain⟨rfl,_⟩:=key ho;cases hc)
 | extract x i=>obtain⟨rfl,_⟩:=key ho;cases hc
 | call c =>
  obtain⟨callee,cargs,ts⟩:=c
  cases callee with
  | value f=>obtain⟨rfl,_⟩:=key ho;cases hc
  | invoke r m=>cases ho
  | builtin b=>simp only[opK]at ho;(repeat' (split at ho))<;>first|(cases ho;done)|(obtain⟨rfl,_⟩:=key ho;cases hc)
 | go c=>cases ho
 | defer c =>
  obtain⟨callee,cargs,ts⟩:=c
  cases callee<;>first|(cases ho;done)|(obtain⟨rfl,_⟩:=key ho;cases hc)
 | panic x=>obtain⟨rfl,_⟩:=key ho;cases hc
 | send c x=>cases ho
 | recv t c b=>cases ho
 | select cs b=>cases ho
def Fr (r:Option Nat):Fence:={ Fence.wide with round:=r }
theorem zt0 {r:Option Nat}{n:Nat}{f:FuncId}{args:Array Value}{w:World}{R:Ending->World->Prop}:CallsIn (Fr r) n P f args w R↔CallsIn (Fr none) n P f args w R:=Iff.rfl
theorem zub {r:Option Nat}{n l f:Nat}{tmps:Array Value}{assign body:Code}{w:World}{R:Ending->World->Prop}:RoundIn (Fr r) n P l f tmps assign body w R↔RoundIn (Fr none) n P l f tmps assign body w R:=Iff.rfl
def zfz (P:Program)(Z:Nat)(ρ:Rho)(h h':TH)(w:World)(r:TE)(e:Ending)(w':World):Prop :=
 ∃ρ',Rho.le h.next ρ ρ'/\WR P Z ρ' h' w'/\Below Z w w'/\h.next<=h'.next/\match r with
  | .ret v=>∃v',e=.returned v'/\VR ρ' v v'
  | .panic v=>∃v',e=.panicked [{ v:=v',recovered:=false }]/\VR ρ' v v'
def zgj (P:Program)(C:zbS):Prop:=∀f args h r h',C.fn f args h=some (r,h')->∀(Z:Nat) ρ w (args':List Value),WR P Z ρ h w->Z<=w.heap.size->VL ρ args args' ->
 (∀w,(callFunc f args'.toArray).run P w=.ok (.enter f args'.toArray) w)/\CallsIn (Fr none) 0 P f args'.toArray w (zfz P Z ρ h h' w r)
def zhO (P:Program)(C:zbS):Prop:=∀l args h b h',C.rd l args h=some (b,h')->∀(Z:Nat) ρ w (args':List Value) loc,WR P Z ρ h w->Z<=w.heap.size->ρ l 0=some loc->VL ρ args args' ->
 ∃fn tmps assign body,(Instr.yield loc.r args'.toArray).run P w=.ok (.round loc.r fn tmps assign body) w/\RoundIn (Fr none) 0 P loc.r fn tmps assign body w (zfz P Z ρ h h' w (.ret (.bool b)))
inductive DfR (ρ:Rho)(ca:Tr Unit):List TD->List Deferred->Prop
 | nil:DfR ρ ca [] []
 | mark {b:Nat} {loc:Loc} {l:List TD} {ds:List Deferred} (h:ρ b 0=some loc) (hl:DfR ρ ca l ds):DfR ρ ca (.mark b::l) ({ target:=.collected loc.r,args:=#[] }::ds)
 | caught {f:Nat} {p c:TV} {p' c':Value} {l:List TD} {ds:List Deferred} (h:ca.get f=some ()) (hp:VR ρ p p') (hc:VR ρ c c') (hl:DfR ρ ca l ds):DfR ρ ca (.caught p c::l) ({ target:=.fn (.func f) #[],args:=#[p',c'] }::ds)
theorem DfR.mono {ca:Tr Unit}(hρ:∀b g loc,ρ b g=some loc->ρ' b g=some loc){l:List TD}{ds:List Deferred}(k:DfR ρ ca l ds):DfR ρ' ca l ds:=by
 induction k with
 | nil=>exact .nil
 | mark h _ ih=>exact .mark (hρ _ _ _ h) ih
 | caught h hp hc _ ih=>exact .caught h (hp.mono hρ) (hc.mono hρ) ih
structure StR (P:Program)(Z:Nat)(ρ:Rho)(N:Nat)(ca:Tr Unit)(s:St)(a:Act)(w:World):Prop where
 wr:WR P Z ρ s.h w
 tm:TmR ρ s.tm a.tmps
 sz:N<=a.tmps.size
 df:DfR ρ ca s.df a.defers
 hZ:Z<=w.heap.size
theorem TmR.put {tm:Tr TV}{a:Act}(k:TmR ρ tm a.tmps){d:Option Nat}{v:TV}{v':Value}(hv:VR ρ v v')(hd:∀t,d=some t->t<a.tmps.size):TmR ρ (match d with|none=>tm|some d=>tm.set d (some v)) (a.put d v').tmps:=by
 cases d with
 | none=>exact k
 | some d =>
  intro t u hu;have hlt:=hd d rfl;simp only[Tr.get_set]at hu;simp only[Act.put]
  by_cases ht:t=d
  ·subst ht;rw[if_pos rfl]at hu;injection hu with hu;subst hu;exact⟨v',by simp[hlt],hv⟩
  ·rw[if_neg ht]at hu;obtain⟨u',h1,h2⟩:=k t u hu;exact⟨u',by rw[zFK9 (fun e=>ht e.symm)];exact h1,h2⟩
theorem zlV (a:Act)(d:Option Nat)(v:Value):(a.put d v).tmps.size=a.tmps.size:=by cases d<;>simp[Act.put]
theorem ziE (a:Act)(d:Option Nat)(v:Value):(a.put d v).defers=a.defers:=by cases d<;>rfl
theorem St.put_df (s:St)(d:Option Nat)(v:TV):(s.put d v).df=s.df:=by cases d<;>rfl
theorem St.put_h (s:St)(d:Option Nat)(v:TV):(s.put d v).h=s.h:=by cases d<;>rfl
theorem StR.put {N:Nat}{ca:Tr Unit}{s:St}{a:Act}(k:StR P Z ρ N ca s a w){d:Option Nat}{v:TV}{v':Value}(hv:VR ρ v v')(hd:∀t,d=some t->t<N):StR P Z ρ N ca (s.put d v) (a.put d v') w :=
 ⟨by rw[St.put_h];exact k.wr,by have:=k.tm.put (d:=d) hv (fun t ht=>zBC9 (hd t ht) k.sz);cases d<;>exact this,by rw[zlV];exact k.sz,by rw[St.put_df,ziE];exact k.df,k.hZ⟩
structure OpR (P:Program)(N:Nat)(ops:Array Oper)(o:Oper)(t:zbo):Prop where
 op:opK P o.op=some (t.kind,t.args)
 dst:t.dst=o.dst
 lt:∀d,t.dst=some d->d<N
 guard:(o.guard=none/\t.guard=none)\/∃j b d,o.guard=some (j,b)/\(ops[j]?).bind (·.dst)=some d/\t.guard=some (.tmp d,b)
theorem zri {N:Nat}{ops:Array Oper}{o:Oper}{t:zbo}(ht:zk0 P N ops o=some t):OpR P N ops o t:=by
 unfold zk0 at ht
 split at ht
 ·cases ht
 ·rename_i hb;have hlt:∀d,o.dst=some d->d<N:=fun d hd=>by grind
  split at ht
  ·cases ht
  ·rename_i kd args hk
   split at ht
   ·rename_i hg;injection ht with ht;subst ht;exact⟨hk,rfl,hlt,.inl ⟨hg,rfl⟩⟩
   ·rename_i j b hg
    split at ht
    ·rename_i d hd;injection ht with ht;subst ht;exact⟨hk,rfl,hlt,.inr ⟨j,b,d,hg,hd,rfl⟩⟩
    ·cases ht
def zsd:Option Value->Option Bool
 | some (.bool b)=>some b
 | _=>none
theorem ztt (ops:Array Oper)(tmps:Array Value)(j:Nat):yielded ops tmps j=zsd (((ops[j]?).bind (·.dst)).bind (tmps[·]?)):=by
 unfold yielded zsd
 grind
theorem zxg {x:Option TV}{c b:Bool}(hw:zg8 c x=some b){y:Option Value}(hxy:∀v,x=some v->∃v',y=some v'/\VR ρ v v'):(zsd y==some c)=b:=by
 unfold zg8 at hw
 split at hw
 ·rename_i u;injection hw with hw;subst hw;obtain⟨v',e1,e2⟩:=hxy _ rfl
  cases e2
  rw[e1]
  cases c<;>cases u<;>rfl
 ·rename_i v hv;injection hw with hw;subst hw;obtain⟨v',e1,e2⟩:=hxy _ rfl;rw[e1]
  cases e2<;>first|rfl|(exact absurd rfl (hv _))
 ·cases hw
theorem zeR {N:Nat}{ops:Array Oper}{o:Oper}{t:zbo}(k:OpR P N ops o t){tm:Tr TV}{tmps:Array Value}(ht:TmR ρ tm tmps){b:Bool}(hw:zmf tm t.guard=some b):Region.wanted o (yielded ops tmps)=b:=by
 rcases k.guard with⟨h1,h2⟩|⟨j,c,d,h1,h2,h3⟩
 ·rw[h2]at hw;injection hw with hw;subst hw;simp[Region.wanted,h1]
 ·rw[h3]at hw;simp only[zmf,zfl]at hw;simp only[Region.wanted,h1];have:=zxg (ρ:=ρ) hw (y:=tmps[d]?) (fun v hv=>ht d v hv);rw[ztt,h2];exact this
def TSR (P:Program)(Z:Nat)(ρ:Rho)(N:Nat)(ca:Tr Unit)(h0:TH)(w0:World)(r:TS)(e:Exit)(a':Act)(w':World):Prop :=
 ∃ρ',Rho.le h0.next ρ ρ'/\Below Z w0 w'/\match r with
  | .go s=>h0.next<=s.h.next/\e=.normal/\StR P Z ρ' N ca s a' w'
  | .panic v s=>h0.next<=s.h.next/\∃v',e=.panic [{ v:=v',recovered:=false }]/\VR ρ' v v'/\StR P Z ρ' N ca s a' w'
theorem zeH {r:Option Nat}{o:Oper}{a:Act}{K:Act->World->Prop}{Q:Exit->Act->World->Prop}(hd:∀c,o.op=.defer c->r=none)(h1:o.uponIn (Fr r) 0 P a K Q ((execOp a.eval o).run P w)):o.wpIn (Fr r) 0 P a w K Q:=by
 refine⟨fun _ _=>trivial,?_⟩;have:o.semAt (Fr r).round a.eval=execOp a.eval o:=by
  unfold Oper.semAt
  split
  ·rename_i l c hr ho;have:=hd c ho;simp[Fr,this]at hr
  ·rfl
 grind
inductive znb (args:List TOp):zZ->Op->Prop
 | call {f:Operand} {xs:Array Operand} {ts:Array TypeId} (hm:zcZ opT (f::xs.toList)=some args):znb args .call (.call { callee:=.value f,args:=xs,argTypes:=ts })
 | panic {x:Operand} (hm:zcZ opT [x]=some args):znb args .panic (.panic x)
 | panicB {x:Operand} {ts:Array TypeId} (hm:zcZ opT [x]=some args):znb args .panic (.call { callee:=.builtin .panic,args:=#[x],argTypes:=ts })
 | defer {f:Operand} {xs:Array Operand} {ts:Array TypeId} (hm:zcZ opT (f::xs.toList)=some args):znb args .defer (.defer { callee:=.value f,args:=xs,argTypes:=ts })
theorem zoB {op:Op}{kd:zZ}{args:List TOp}(ho:opK P op=some (kd,args))(hk:kd=.call\/kd=.panic\/kd=.defer):znb args kd op:=by
 have key:∀{k0:zZ} {xs:List Operand},mk k0 xs=some (kd,args)->kd=k0/\zcZ opT xs=some args:=fun hm=>zjE hm;have no:∀{α:Prop} {k0:zZ} {xs:List Operand},mk k0 xs=some (kd,args)->k0 ≠ .call->k0 ≠ .panic->k0 ≠ .defer->α:=fun hm h1 h2 h3=>by grind
 cases op with
 | move x=>exact no ho (by simp) (by simp) (by simp)
 | assign x=>exact no ho (by simp) (by simp) (by simp)
 | pick c x y=>exact no ho (by simp) (by simp) (by simp)
 | alloc e=>simp only[opK]at ho;(repeat' (split at ho))<;>first|(cases ho;done)|(exact no ho (by simp) (by simp) (by simp))
 | box e x=>simp only[opK]at ho;(repeat' (split at ho))<;>first|(cases ho;done)|(exact no ho (by simp) (by simp) (by simp))
 | build t parts=>simp only[opK]at ho;(repeat' (split at ho))<;>first|(cases ho;done)|(exact no ho (by simp) (by simp) (by simp))
 | buildSlice t len parts=>simp only[opK]at ho;(repeat' (split at ho))<;>first|(cases ho;done)|(exact no ho (by simp) (by simp) (by simp))
 | insert t m x y=>simp only[opK]at ho;(repeat' (split at ho))<;>first|(cases ho;done)|(exact no ho (by simp) (by simp) (by simp))
 | load t x=>simp only[opK]at ho;(repeat' (split at ho))<;>first|(cases ho;done)|(exact no ho (by simp) (by simp) (by simp))
 | store t x y=>simp only[opK]at ho;(repeat' (split at ho))<;>first|(cases ho;done)|(exact no ho (by simp) (by simp) (by simp))
 | ready g=>cases ho
 | waits g=>cases ho
 | nilCheck x=>exact no ho (by simp) (by simp) (by simp)
 | binOp op t x y yt=>simp only[opK]at ho;(repeat' (split at ho))<;>first|(cases ho;done)|(exact no ho (by simp) (by simp) (by simp))
 | unOp op t x=>exact no ho (by simp) (by simp) (by simp)
 | convert src dst' x=>simp only[opK]at ho;(repeat' (split at ho))<;>first|(cases ho;done)|(exact no ho (by simp) (by simp) (by simp))
 | sliceToArrayPointer t x=>cases ho
 | makeInterface t x=>simp only[opK]at ho;(repeat' (split at ho))<;>first|(cases ho;done)|(exact no ho (by simp) (by simp) (by simp))
 | makeFunc fn first captured =>
  cases fn<;>simp only[opK]at ho<;>first|(cases ho;done)|skip
  split at ho
  ·exact no ho (by simp) (by simp) (by simp)
  ·cases ho
 | makeMap t r=>simp only[opK]at ho;(repeat' (split at ho))<;>first|(cases ho;done)|(exact no ho (by simp) (by simp) (by simp))
 | makeChan t s=>cases ho
 | makeSlice t l c=>simp only[opK]at ho;(repeat' (split at ho))<;>first|(cases ho;done)|(exact no ho (by simp) (by simp) (by simp))
 | slice t x lo hi mx=>simp only[opK]at ho;(repeat' (split at ho))<;>first|(cases ho;done)|(exact no ho (by simp) (by simp) (by simp))
 | fieldAddr t x f=>simp only[opK]at ho;(repeat' (split at ho))<;>first|(cases ho;done)|(exact no ho (by simp) (by simp) (by simp))
 | field t x f=>simp only[opK]at ho;(repeat' (split at ho))<;>first|(cases ho;done)|(exact no ho (by simp) (by simp) (by simp))
 | indexAddr t x i=>simp only[opK]at ho;(repeat' (split at ho))<;>first|(cases ho;done)|(exact no ho (by simp) (by simp) (by simp))
 | index t x i=>simp only[opK]at ho;(repeat' (split at ho))<;>first|(cases ho;done)|(exact no ho (by simp) (by simp) (by simp))
 | lookup t m x ok=>simp only[opK]at ho;(repeat' (split at ho))<;>first|(cases ho;done)|(exact no ho (by simp) (by simp) (by simp))
 | mapUpdate t m x y=>simp only[opK]at ho;(repeat' (split at ho))<;>first|(cases ho;done)|(exact no ho (by simp) (by simp) (by simp))
 | mapEntry t m x=>simp only[opK]at ho;(repeat' (split at ho))<;>first|(cases ho;done)|(exact no ho (by simp) (by simp) (by simp))
 | entryStore t m s x=>exact no ho (by simp) (by simp) (by simp)
 | range t x=>cases ho
 | next i b=>cases ho
 | entry i=>cases ho
 | typeAssert x xt t ok=>simp only[opK]at ho;(repeat' (split at ho))<;>first|(cases ho;done)|(exact no ho (by simp) (by simp) (by simp))
 | extract x i=>exact no ho (by simp) (by simp) (by simp)
 | call c =>
  obtain⟨callee,cargs,ts⟩:=c
  cases callee with
  | value f=>obtain⟨rfl,hm⟩:=key ho;exact .call hm
  | invoke r m=>cases ho
  | builtin b =>
   simp only[opK]at ho
   split at ho
   ·(repeat' (split at ho))<;>first|(cases ho;done)|(exact no ho (by simp) (by simp) (by simp))
   ·(repeat' (split at ho))<;>first|(cases ho;done)|(exact no ho (by simp) (by simp) (by simp))
   ·(repeat' (split at ho))<;>first|(cases ho;done)|(exact no ho (by simp) (by simp) (by simp))
   ·(repeat' (split at ho))<;>first|(cases ho;done)|(exact no ho (by simp) (by simp) (by simp))
   ·(repeat' (split at ho))<;>first|(cases ho;done)|(exact no ho (by simp) (by simp) (by simp))
   ·split at ho
    ·rename_i hsz;obtain⟨rfl,hm⟩:=key ho;obtain⟨xs⟩:=cargs
     match xs,hsz with
     | [x],_=>exact .panicB hm
    ·cases ho
   ·cases ho
 | go c=>cases ho
 | defer c =>
  obtain⟨callee,cargs,ts⟩:=c
  cases callee with
  | value f=>obtain⟨rfl,hm⟩:=key ho;exact .defer hm
  | invoke r m=>cases ho
  | builtin b=>cases ho
 | panic x=>obtain⟨rfl,hm⟩:=key ho;exact .panic hm
 | send c x=>cases ho
 | recv t c b=>cases ho
 | select cs b=>cases ho
theorem zpV {C:zbS}{ca:Tr Unit}{kd:zZ}(hn:kd ≠ .call/\kd ≠ .panic/\kd ≠ .defer){vs:List TV}{h:TH}{r:TR}(ha:act C ca kd vs h=some r):∃v h',r=.ok v h':=by
 have orr:∀{b:Bool} {x y:Option TR},(bif b then x else y)=some r->x=some r\/y=some r:=fun{b} _ _ e=>by cases b;exact .inr e;exact .inl e
 have fin:∀{v h'} {r:TR},some (TR.ok v h')=some r->∃v h',r=.ok v h':=fun e=>by injection e with e;exact⟨_,_,e.symm⟩
 have finM:∀{e esz by_ m:Nat} {s:TV} {news:List TV},zhm h e esz by_ s m news=some r->∃v h',r=.ok v h':=fun ha=>by
  unfold zhm at ha
  split at ha
  ·rcases orr ha with ha|ha
   ·exact fin ha
   ·simp only[zkm]at ha;obtain⟨_,ha1⟩:=zi ha;exact fin ha1
  ·rcases orr ha with ha|ha
   ·exact fin ha
   ·obtain⟨_,ha1⟩:=zi ha;obtain⟨_,ha2⟩:=zi ha1;obtain⟨_,ha3⟩:=zi ha2
    split at ha3
    ·unfold zmw at ha3
     split at ha3
     ·obtain⟨_,ha4⟩:=zi ha3;obtain⟨_,ha5⟩:=zi ha4;obtain⟨_,ha6⟩:=zi ha5;obtain⟨_,ha7⟩:=zi ha6;exact fin ha7
     ·cases ha3
    ·cases ha3
  ·cases ha
 cases kd<;>simp only[act]at ha<;>first|(cases ha;done)|(exact absurd rfl hn.1)|(exact absurd rfl hn.2.1)|(exact absurd rfl hn.2.2)|skip
 case store n =>
  unfold zhi at ha
  split at ha
  ·obtain⟨_,ha1⟩:=zi ha;obtain⟨_,ha2⟩:=zi ha1
   split at ha2
   ·exact fin ha2
   ·cases ha2
  ·cases ha
 case mupd kf =>
  unfold zg0 at ha
  split at ha
  ·obtain⟨_,ha1⟩:=zi ha
   split at ha1
   ·unfold zrr at ha1
    split at ha1
    ·split at ha1
     ·cases ha1
     ·exact fin ha1
     ·exact fin ha1
    ·cases ha1
   ·cases ha1
  ·cases ha
 case ment kf z =>
  unfold zqi at ha
  split at ha
  ·obtain⟨_,ha1⟩:=zi ha
   split at ha1
   ·unfold zuq at ha1
    split at ha1
    ·split at ha1
     ·cases ha1
     ·exact fin ha1
     ·exact fin ha1
    ·cases ha1
   ·cases ha1
  ·cases ha
 case estore =>
  unfold zlq at ha
  split at ha
  ·split at ha
   ·split at ha
    ·unfold zwV at ha
     split at ha
     ·split at ha
      ·cases ha
      ·exact fin ha
     ·cases ha
    ·cases ha
   ·cases ha
  ·cases ha
 case append e n b =>
  unfold zfY at ha
  split at ha
  ·unfold ztH at ha
   split at ha
   ·cases ha
   ·exact finM ha
  ·cases ha
 case appz e n b z =>
  unfold zjn at ha
  split at ha
  ·obtain⟨_,ha1⟩:=zi ha;obtain⟨_,ha2⟩:=zi ha1;exact finM ha2
  ·cases ha
 case copy n =>
  unfold zgp at ha
  split at ha
  ·dsimp only at ha
   split at ha
   ·cases ha
   ·split at ha
    ·exact fin ha
    ·rcases orr ha with ha|ha
     ·exact fin ha
     ·obtain⟨_,ha1⟩:=zi ha
      split at ha1
      ·exact fin ha1
      ·cases ha1
    ·cases ha
  ·cases ha
theorem zzZ {k:zZ}(h0:k.cls≠0)(h1:k.cls≠1):k.cls=2:=by cases k<;>simp[zZ.cls]at h0 h1⊢
theorem zv6 {r:Option Nat}{o:Oper}{a:Act}{K:Act->World->Prop}{Q:Exit->Act->World->Prop}{f:FuncId}{args:Array Value}(h:CallsIn (Fr none) 0 P f args w fun
  | .returned v,w''=>K (a.put o.dst v) w''
  | .panicked chain,w''=>Q (.panic chain) a w''
  | .outgrown,_=>LetsOut Q):o.uponIn (Fr r) 0 P a K Q (.ok (.enter f args) w):=⟨fun h=>by simp[Fr,Fence.wide]at h,h⟩
theorem StR.world {N:Nat}{ca:Tr Unit}{s:St}{a:Act}(k:StR P Z ρ N ca s a w){n:Nat}{h':TH}{w':World}(hle:Rho.le n ρ ρ')(hw:WR P Z ρ' h' w')(hb:Below Z w w'):StR P Z ρ' N ca ⟨s.tm,s.df,h'⟩ a w' :=
 ⟨hw,k.tm.mono hle.more,k.sz,k.df.mono hle.more,zBJ9 k.hZ hb.size⟩
theorem zs0 {rnd:Option Nat}{N:Nat}{ops:Array Oper}{tm:Tr TV}{a:Act}(k:WR P Z ρ h w)(ktm:TmR ρ tm a.tmps){o:Oper}{t:zbo}(ko:OpR P N ops o t){vs:List TV}(hv:zd8 tm t.args=some vs)(h0:t.kind.cls=0){v:TV}(hp:pas t.kind vs h=some v)
  {K:Act->World->Prop} {Q:Exit->Act->World->Prop} (hK:∀v',VR ρ v v'->K (a.put o.dst v') w):o.wpIn (Fr rnd) 0 P a w K Q:=by
 obtain⟨v',h1,h2⟩:=zmy k ko.op h0 ktm hv hp;refine zeH (fun c hc=>?_) ?_
 ·exfalso
  have hk:=ko.op;rw[hc]at hk;obtain⟨callee,xs,ts⟩:=c
  cases callee<;>first|(cases hk;done)|(obtain⟨e,_⟩:=zjE hk;rw[e]at h0;cases h0)
 ·rw[h1,Oper.uponIn_value]
  grind
theorem zth {rnd:Option Nat}{N:Nat}{ops:Array Oper}{tm:Tr TV}{a:Act}(k:WR P Z ρ h w)(hZ:Z<=w.heap.size)(ktm:TmR ρ tm a.tmps){o:Oper}{t:zbo}(ko:OpR P N ops o t){vs:List TV}(hv:zd8 tm t.args=some vs)(h1:t.kind.cls=1){b:Nat}(hnone:∀g,ρ b g=none)(hb:b<h.next){x:zdy}(hp:lay t.kind vs b=some x)(hx:h.get b=some x.o)
  {K:Act->World->Prop} {Q:Exit->Act->World->Prop} (hK:∀v' w1 L S,WR P Z (ρ.add b 0 ⟨w.heap.size,L,S⟩) h w1->VR (ρ.add b 0 ⟨w.heap.size,L,S⟩) x.v v'->Below Z w w1->K (a.put o.dst v') w1):o.wpIn (Fr rnd) 0 P a w K Q:=by
 obtain⟨v',w1,L,S,g1,g2,g3,g4⟩:=znj k hnone hb hZ ko.op h1 ktm hv hp hx;refine zeH (fun c hc=>?_) ?_
 ·exfalso
  have hk:=ko.op;rw[hc]at hk;obtain⟨callee,xs,ts⟩:=c
  cases callee<;>first|(cases hk;done)|(obtain⟨e,_⟩:=zjE hk;rw[e]at h1;cases h1)
 ·rw[g1,Oper.uponIn_value]
  grind
theorem ztj {C:zbS}(hC:zgj P C)(hR:zhO P C){rnd:Option Nat}{ca:Tr Unit}(hrnd:rnd=none\/∀f,ca.get f=none){N:Nat}{ops:Array Oper}{tm:Tr TV}{df:List TD}{a:Act}(k:WR P Z ρ h w)(hZ:Z<=w.heap.size)(ktm:TmR ρ tm a.tmps)(kdf:DfR ρ ca df a.defers){o:Oper}{t:zbo}(ko:OpR P N ops o t){vs:List TV}(hv:zd8 tm t.args=some vs)(h2:t.kind.cls=2){r:TR}(hd:act C ca t.kind vs h=some r)
  {K:Act->World->Prop} {Q:Exit->Act->World->Prop} (hOk:∀v h',r=.ok v h'->∀v' w' ρ',Rho.le h.next ρ ρ'->WR P Z ρ' h' w'->Below Z w w'->VR ρ' v v'->h.next<=h'.next->K (a.put o.dst v') w')
  (hPan:∀v h',r=.panic v h'->∀v' w' ρ',Rho.le h.next ρ ρ'->WR P Z ρ' h' w'->Below Z w w'->VR ρ' v v'->h.next<=h'.next->Q (.panic [{ v:=v',recovered:=false }]) a w')
  (hDfr:∀d,r=.dfr d->∀d',DfR ρ ca (d::df) (d'::a.defers)->K ({ a with defers:=d'::a.defers }.put o.dst undef) w):o.wpIn (Fr rnd) 0 P a w K Q:=by
 by_cases hcall:t.kind=.call
 ·-- a call
  have hop:=zoB ko.op (.inl hcall);rw[hcall]at hop hd;generalize hoo:o.op=op at hop
  cases hop with
  | call hm =>
   rename_i f xs ts;have hl:=ze3 ktm hm hv;simp only[zBZ9]at hl;simp only[act]at hd;unfold zk2 at hd
   split at hd
   ·rename_i g cap args;obtain⟨f',cs',e1,hf,hargs⟩:=hl.of_cons;injection e1 with e1 e2;subst e1;subst e2;generalize hfv:a.eval f=fv at hf
    cases hf with
    | fn hcl hcr =>
     rename_i caps
     cases hcr0:C.fn g (args++cap) h with
     | none=>rw[hcr0]at hd;cases hd
     | some res =>
      obtain⟨te,h'⟩:=res;rw[hcr0]at hd;obtain⟨hent,hcalls⟩:=hC g _ _ te h' hcr0 Z ρ w (xs.toList.map a.eval++caps) k hZ (hargs.app ⟨hcl,hcr⟩);have hrun:(execOp a.eval o).run P w=.ok (.enter g (xs.toList.map a.eval++caps).toArray) w:=by
       have hargsA:xs.map a.eval++caps.toArray=(xs.toList.map a.eval++caps).toArray:=by grind
       simp only[execOp,hoo,resolve,hfv,Deferred.ofValue,Sem.run_bind,Sem.run_pure,Result.andThen_ok,invoke,Array.empty_append,hargsA];exact hent w
      refine zeH (fun c hc=>by rw[hoo]at hc;cases hc) ?_;rw[hrun];refine zv6 (hcalls.mono ?_);rintro e w' ⟨ρ',hle,hwr,hb,hn,he⟩
      cases te with
      | ret v =>
       obtain⟨v',rfl,hvr⟩:=he;simp only[zk9]at hd;injection hd with hd;subst hd;exact hOk v h' rfl v' w' ρ' hle hwr hb hvr hn
      | panic v =>
       obtain⟨v',rfl,hvr⟩:=he;simp only[zk9]at hd;injection hd with hd;subst hd;exact hPan v h' rfl v' w' ρ' hle hwr hb hvr hn
   ·rename_i l args;obtain⟨f',cs',e1,hf,hargs⟩:=hl.of_cons;injection e1 with e1 e2;subst e1;subst e2;generalize hfv:a.eval f=fv at hf
    cases hf with
    | yield hloc =>
     rename_i loc
     cases hcr0:C.rd l args h with
     | none=>rw[hcr0]at hd;cases hd
     | some res =>
      obtain⟨b,h'⟩:=res;rw[hcr0]at hd;simp only[zqH]at hd;injection hd with hd;subst hd;obtain⟨fn,tmps,assign,body,hy,hrd⟩:=hR l _ _ b h' hcr0 Z ρ w (xs.toList.map a.eval) loc k hZ hloc hargs;have hrun:(execOp a.eval o).run P w=.ok (.round loc.r fn tmps assign body) w:=by
       have hargsA:xs.map a.eval=(xs.toList.map a.eval).toArray:=by grind
       simp only[execOp,hoo,resolve,hfv,Deferred.ofValue,Sem.run_bind,Sem.run_pure,Result.andThen_ok,invoke,Array.empty_append,hargsA];exact hy
      refine zeH (fun c hc=>by rw[hoo]at hc;cases hc) ?_;rw[hrun,Oper.uponIn_round];refine⟨fun h=>by simp[Fr,Fence.wide]at h,zub.2 (hrd.mono ?_)⟩;rintro e w' ⟨ρ',hle,hwr,hb,hn,v',rfl,hvr⟩;exact hOk _ h' rfl v' w' ρ' hle hwr hb hvr hn
   ·cases hd
 ·by_cases hpan:t.kind=.panic
  ·have hop:=zoB ko.op (.inr (.inl hpan));rw[hpan]at hop hd;simp only[act]at hd;unfold zvi at hd
   split at hd
   ·rename_i ty u;injection hd with hd;subst hd;have fin:∀x:Operand,zcZ opT [x]=some t.args->(execOp a.eval o).run P w=.halt (.panic (a.eval x)) w->(∀c,o.op ≠ .defer c)->o.wpIn (Fr rnd) 0 P a w K Q:=fun x hm hrun hnd=>by
     have hl:=ze3 ktm hm hv;have hx:=hl.uno rfl;refine zeH (fun c hc=>absurd hc (hnd c)) ?_;rw[hrun,Oper.uponIn_panic];exact hPan _ _ rfl _ w ρ (Rho.le.refl _ _) k (Below.refl _ _) hx (zAE9 _)
    have hpr:∀x:Operand,zcZ opT [x]=some t.args->(Instr.panic (a.eval x)).run P w=.halt (.panic (a.eval x)) w:=fun x hm=>by
     have hl:=ze3 ktm hm hv;have hx:=hl.uno rfl;generalize a.eval x=xv at hx
     cases hx
     simp[Instr.panic,goPanic,Sem.run]
    generalize hoo:o.op=op at hop
    cases hop with
    | panic hm =>
     refine fin _ hm ?_ (fun c hc=>by rw[hoo]at hc;cases hc);simp only[execOp,hoo,Sem.run_bind,hpr _ hm];rfl
    | panicB hm =>
     refine fin _ hm ?_ (fun c hc=>by rw[hoo]at hc;cases hc);simp only[execOp,hoo,zcU];simp[builtin,hpr _ hm]
   ·cases hd
  ·by_cases hdef:t.kind=.defer
   ·have hop:=zoB ko.op (.inr (.inr hdef));rw[hdef]at hop hd;simp only[act]at hd;unfold zqr at hd
    split at hd
    ·rename_i g p c
     split at hd
     ·rename_i u hca;injection hd with hd;subst hd;generalize hoo:o.op=op at hop
      cases hop with
      | defer hm =>
       rename_i f xs ts;have hl:=ze3 ktm hm hv;simp only[zBZ9]at hl;obtain⟨f',cs',e1,hf,hargs⟩:=hl.of_cons;injection e1 with e1 e2;subst e1;obtain⟨p',cs2,e3,hp,hargs⟩:=hargs.of_cons;obtain⟨c',cs3,e4,hc,hargs⟩:=hargs.of_cons;obtain rfl:=hargs.of_nil;subst e4;subst e3;have hrn:rnd=none:=by grind
       generalize hfv:a.eval f=fv at hf
       cases hf with
       | fn hcl hcr =>
        rename_i caps;have hcaps:caps=[]:=by cases caps;rfl;simp at hcl
        subst hcaps;have hrun:(execOp a.eval o).run P w=.ok (.defer { target:=.fn (.func g) #[],args:=#[p',c'] }) w:=by
         have hargsA:xs.map a.eval=#[p',c']:=by grind
         simp only[execOp,hoo,resolve,hfv,Deferred.ofValue,Sem.run_bind,Sem.run_pure,Result.andThen_ok,hargsA];rfl
        refine zeH (fun _ _=>hrn) ?_;rw[hrun,Oper.uponIn_defer];exact hDfr _ rfl _ (.caught hca hp hc kdf)
     ·cases hd
    ·cases hd
   ·-- what calls nothing
    cases r with
    | ok v h' =>
     obtain⟨n,v',w',ρ',g1,g2,g3,g4,g5,g6,g7⟩:=zmI k hZ ko.op h2 ⟨hcall,hpan,hdef⟩ ktm hv hd;refine zeH (fun c hc=>?_) ?_
     ·exfalso
      have hk:=ko.op;rw[hc]at hk;obtain⟨callee,xs,ts⟩:=c
      cases callee<;>first|(cases hk;done)|(obtain⟨e,_⟩:=zjE hk;exact hdef e)
     ·have hfin:K (a.put o.dst v') w':=hOk _ _ rfl v' w' ρ' g3 g4 g5 g6 g7;rcases g2 with rfl|⟨rfl,rfl⟩
      ·rw[g1,Oper.uponIn_value];exact hfin
      ·rw[g1,Oper.uponIn_skip];exact hfin
    | panic v h'=>obtain⟨_,_,e⟩:=zpV ⟨hcall,hpan,hdef⟩ hd;cases e
    | dfr d=>obtain⟨_,_,e⟩:=zpV ⟨hcall,hpan,hdef⟩ hd;cases e
theorem zyY {C:zbS}(hC:zgj P C)(hR:zhO P C){rnd:Option Nat}{ca:Tr Unit}(hrnd:rnd=none\/∀f,ca.get f=none){N:Nat}{ops:Array Oper}{s:St}{a:Act}(k:StR P Z ρ N ca s a w){o:Oper}{t:zbo}(ko:OpR P N ops o t){vs:List TV}(hv:zd8 s.tm t.args=some vs){r:TS}(hd:ziO C ca t s vs=some r)
  {K:Act->World->Prop} {Q:Exit->Act->World->Prop} (hK:∀a' w',TSR P Z ρ N ca s.h w r .normal a' w'->K a' w') (hQ:∀ch a' w',TSR P Z ρ N ca s.h w r (.panic ch) a' w'->Q (.panic ch) a' w'):o.wpIn (Fr rnd) 0 P a w K Q:=by
 have hdst:∀{ρ':Rho} {s':St} {a:Act} {w':World} {v:TV} {v':Value},StR P Z ρ' N ca s' a w'->VR ρ' v v'->StR P Z ρ' N ca (s'.put t.dst v) (a.put o.dst v') w':=fun k' hv'=>by
  rw[<- ko.dst];exact k'.put hv' ko.lt
 unfold ziO at hd
 by_cases h0:t.kind.cls=0
 ·rw[h0]at hd;simp only[zzQ]at hd
  split at hd
  ·rename_i v hp;injection hd with hd;subst hd;exact zs0 k.wr k.tm ko hv h0 hp fun v' h2=>hK _ _ ⟨ρ,Rho.le.refl _ _,Below.refl _ _,by rw[St.put_h];exact zAE9 _,rfl,hdst k h2⟩
  ·cases hd
 ·by_cases h1:t.kind.cls=1
  ·rw[h1]at hd;simp only[zzX]at hd
   split at hd
   ·rename_i x hp;injection hd with hd;subst hd;have hnone:∀g,ρ s.h.next g=none:=fun g=>by
     cases hg:ρ s.h.next g with
     | none=>rfl
     | some loc=>have:=(k.wr.dom _ _ _ hg).1;omega
    refine zth (k.wr.push x.o) k.hZ k.tm ko hv h1 hnone (by rw[TH.next_push];omega) hp (by rw[TH.get_push,if_pos rfl]) fun v' w1 L S g2 g3 hbl=>?_;have hm:=Rho.add_more (loc:=⟨w.heap.size,L,S⟩) (hnone 0);have hle:Rho.le s.h.next ρ (ρ.add s.h.next 0 ⟨w.heap.size,L,S⟩):=⟨hm,fun c hc hn g=>by rw[Rho.add_ne zo];exact hn g⟩
    exact hK _ _ ⟨_,hle,hbl,by rw[St.put_h,TH.next_push];omega,rfl,hdst (k.world hle g2 hbl) g3⟩
   ·cases hd
  ·have h2:=zzZ h0 h1;rw[h2]at hd;change znR t.dst s (act C ca t.kind vs s.h)=some r at hd
   cases hact:act C ca t.kind vs s.h with
   | none=>rw[hact]at hd;cases hd
   | some tr =>
    rw[hact]at hd;refine ztj hC hR hrnd k.wr k.hZ k.tm k.df ko hv h2 hact (fun v h' e v' w' ρ' hle hwr hb hvr hn=>?_) (fun v h' e v' w' ρ' hle hwr hb hvr hn=>?_) (fun d e d' hdf=>?_)
    ·subst e;simp only[znR]at hd;injection hd with hd;subst hd;exact hK _ _ ⟨ρ',hle,hb,by rw[St.put_h];exact hn,rfl,hdst (k.world hle hwr hb) hvr⟩
    ·subst e;simp only[znR]at hd;injection hd with hd;subst hd;exact hQ _ _ _ ⟨ρ',hle,hb,hn,v',rfl,hvr,k.world hle hwr hb⟩
    ·subst e;simp only[znR]at hd;injection hd with hd;subst hd;have k2:StR P Z ρ N ca ⟨s.tm,d::s.df,s.h⟩ { a with defers:=d'::a.defers } w:=⟨k.wr,k.tm,k.sz,hdf,k.hZ⟩
     exact hK _ _ ⟨ρ,Rho.le.refl _ _,Below.refl _ _,by rw[St.put_h];exact zAE9 _,rfl,hdst k2 (VR.undef ρ)⟩
theorem TSR.trans {N:Nat}{ca:Tr Unit}{h0 h1:TH}{w0 w1:World}(hle:Rho.le h0.next ρ ρ')(hb:Below Z w0 w1)(hn:h0.next<=h1.next){r:TS}{e:Exit}{a':Act}{w':World}(k:TSR P Z ρ' N ca h1 w1 r e a' w'):TSR P Z ρ N ca h0 w0 r e a' w':=by
 obtain⟨ρ2,h1,h2,h3⟩:=k;refine⟨ρ2,hle.trans h1 hn,hb.trans h2,?_⟩
 grind
theorem zqs {C:zbS}(hC:zgj P C)(hR:zhO P C){rnd:Option Nat}{ca:Tr Unit}(hrnd:rnd=none\/∀f,ca.get f=none){N:Nat}{ops:Array Oper}{s:St}{a:Act}(k:StR P Z ρ N ca s a w){o:Oper}{t:zbo}(ko:OpR P N ops o t){r:TS}(hs:zfH C ca t s=some r)
  {K:Act->World->Prop} {Q:Exit->Act->World->Prop} (hK:∀a' w',TSR P Z ρ N ca s.h w r .normal a' w'->K a' w') (hQ:∀ch a' w',TSR P Z ρ N ca s.h w r (.panic ch) a' w'->Q (.panic ch) a' w') :
  (if Region.wanted o (yielded ops a.tmps)then o.wpIn (Fr rnd) 0 P a w K Q else(∀f,o.about P w a.eval=some f->(Fr rnd).fn f)/\K (a.put o.dst undef) w):=by
 unfold zfH at hs
 split at hs
 ·cases hs
 ·rename_i hw;injection hs with hs;subst hs;rw[zeR ko k.tm hw];simp only[zCD9,if_false];refine⟨fun _ _=>trivial,hK _ _ ⟨ρ,Rho.le.refl _ _,Below.refl _ _,by rw[St.put_h];exact zAE9 _,rfl,?_⟩⟩;rw[<- ko.dst];exact k.put (VR.undef ρ) ko.lt
 ·rename_i hw;rw[zeR ko k.tm hw];simp only[if_true]
  split at hs
  ·cases hs
  ·rename_i vs hv;exact zyY hC hR hrnd k ko hv hs hK hQ
theorem zrm {C:zbS}(hC:zgj P C)(hR:zhO P C){rnd:Option Nat}{ca:Tr Unit}(hrnd:rnd=none\/∀f,ca.get f=none){N:Nat}{ops:Array Oper}{Q:Exit->Act->World->Prop}:∀(ts:List zbo) (is:List Nat) (s:St) (a:Act) (w:World) (ρ:Rho) (r:TS),
  is.length=ts.length->(∀(j:Nat) t,ts[j]?=some t->∃i o,is[j]?=some i/\ops[i]?=some o/\OpR P N ops o t)->StR P Z ρ N ca s a w->zeD C ca ts s=some r->(∀e a' w',TSR P Z ρ N ca s.h w r e a' w'->Q e a' w')->wpOpsIn (Fr rnd) 0 P ops Q is a w
 | [],is,s,a,w,ρ,r,hl,_,k,hs,hQ=>by
  have:is=[]:=by cases is;rfl;simp at hl
  subst this;simp only[zeD]at hs;injection hs with hs;subst hs;exact hQ _ _ _ ⟨ρ,Rho.le.refl _ _,Below.refl _ _,zAE9 _,rfl,k⟩
 | t::ts,is,s,a,w,ρ,r,hl,hop,k,hs,hQ=>by
  cases is with
  | nil=>simp at hl
  | cons i is =>
   obtain⟨i',o,hi,ho,ko⟩:=hop 0 t rfl;simp at hi;subst hi;rw[wpOpsIn_cons];unfold wpOpIn;rw[ho];simp only[zeD]at hs;have hop':∀(j:Nat) t,ts[j]?=some t->∃i o,is[j]?=some i/\ops[i]?=some o/\OpR P N ops o t:=fun j t' ht=>hop (j+1) t' (by simpa using ht)
   split at hs
   ·rename_i s' hs1;refine zqs hC hR hrnd k ko hs1 (fun a' w' hr=>?_) (fun ch a' w' hr=>?_)
    ·obtain⟨ρ',hle,hb,hn,_,k'⟩:=hr;exact zrm hC hR hrnd ts is s' a' w' ρ' r (by simpa using hl) hop' k' hs fun e a2 w2 hr2=>hQ e a2 w2 (hr2.trans hle hb hn)
    ·obtain⟨_,_,_,_,e,_⟩:=hr
     cases e
   ·rename_i hs1;refine zqs (r:=r) hC hR hrnd k ko hs (fun a' w' hr=>?_) (fun ch a' w' hr=>hQ _ _ _ hr)
    cases r with
    | go s'=>exact absurd hs (hs1 s')
    | panic v s'=>obtain⟨_,_,_,_,_,e,_⟩:=hr;cases e
def XR (ρ:Rho)(x:TX)(e:Exit):Prop:=match x with
 | .norm=>e=.normal
 | .exit id=>e=.exit id
 | .goto l=>e=.goto l
 | .ret=>e=.ret
 | .panic v=>∃v',e=.panic [{ v:=v',recovered:=false }]/\VR ρ v v'
def CR (P:Program)(Z:Nat)(ρ:Rho)(N:Nat)(ca:Tr Unit)(h0:TH)(w0:World)(x:TX)(s:St)(e:Exit)(a':Act)(w':World):Prop :=
 ∃ρ',Rho.le h0.next ρ ρ'/\Below Z w0 w'/\h0.next<=s.h.next/\XR ρ' x e/\StR P Z ρ' N ca s a' w'
theorem CR.trans {N:Nat}{ca:Tr Unit}{h0 h1:TH}{w0 w1:World}(hle:Rho.le h0.next ρ ρ')(hb:Below Z w0 w1)(hn:h0.next<=h1.next){x:TX}{s:St}{e:Exit}{a':Act}{w':World}(k:CR P Z ρ' N ca h1 w1 x s e a' w'):CR P Z ρ N ca h0 w0 x s e a' w':=by
 obtain⟨ρ2,h1,h2,h3,h4,h5⟩:=k;exact⟨ρ2,hle.trans h1 hn,hb.trans h2,zBJ9 hn h3,h4,h5⟩
theorem zj1:∀(ts:List zbo) (tm:Tr TV) (t:Nat) v,(zd2 ts tm).get t=some v->tm.get t=some v
 | [],tm,t,v,h=>h
 | o::ts,tm,t,v,h=>by
  simp only[zd2]at h;have:=zj1 ts _ t v h
  split at this
  ·rw[Tr.get_set]at this
   grind
  ·exact this
theorem StR.forget {N:Nat}{ca:Tr Unit}{s:St}{a:Act}(k:StR P Z ρ N ca s a w){tm:Tr TV}(ht:∀t v,tm.get t=some v->s.tm.get t=some v):StR P Z ρ N ca ⟨tm,s.df,s.h⟩ a w :=
 ⟨k.wr,fun t v hv=>k.tm t v (ht t v hv),k.sz,k.df,k.hZ⟩
theorem zvD {C:zbS}(hC:zgj P C)(hR:zhO P C){rnd:Option Nat}{ca:Tr Unit}(hrnd:rnd=none\/∀f,ca.get f=none){N:Nat}{id:Nat}{ops:Array Oper}{ts:List zbo}(hts:zcZ (zk0 P N ops) ops.toList=some ts){s:St}{a:Act}(k:StR P Z ρ N ca s a w){x:TX}{s':St}(hs:znH (zd2 ts) (zeD C ca ts s)=some (x,s')) :
  (Code.region id ops false).wpIn (Fr rnd) 0 P (CR P Z ρ N ca s.h w x s') a w:=by
 obtain⟨h1,h2⟩:=zi3 hts;refine wpIn_region ?_
 cases hst:zeD C ca ts s with
 | none=>rw[hst]at hs;cases hs
 | some r =>
  rw[hst]at hs;refine zrm hC hR hrnd ts _ s a w ρ r (by simp[h1]) (fun j t ht=>?_) k hst fun e a' w' hr=>?_
  ·have hj:j<ops.size:=by have:=(zAC9.1 ht).1;rw[h1]at this;simpa using this
   refine⟨j,ops[j],by simp[hj],zBW9 hj,zri (h2 j ops[j] t (by simp[hj]) ht)⟩
  ·obtain⟨ρ',hle,hb,hr⟩:=hr
   cases r with
   | go s2 =>
    obtain⟨hn,rfl,k'⟩:=hr;simp only[znH]at hs;injection hs with hs;injection hs with hs1 hs2;subst hs1;subst hs2;exact⟨ρ',hle,hb,hn,rfl,k'⟩
   | panic v s2 =>
    obtain⟨hn,v',rfl,hv,k'⟩:=hr;simp only[znH]at hs;injection hs with hs;injection hs with hs1 hs2;subst hs1;subst hs2;exact⟨ρ',hle,hb,hn,⟨v',rfl,hv⟩,k'.forget fun t u hu=>zj1 ts _ t u hu⟩
end Tw
end Go.Proofs.YtkeknmgnoceogaaGreat
