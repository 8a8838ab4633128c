/- part 1 of the proof of dir_takes. -/
import Derived.KernelRfl
import Derived.CallsIn
import Derived.RangeFuncLeaves
import Derived.OrdersIn
import Derived.Maps.AppendAt
import Derived.Below
import Derived.Laws.CopyOwn
import Derived.RangeFuncRecord
import Derived.Lib.Hide
import Derived.Laws.StructEq
import Derived.ChangeKeysEq
import Derived.Laws.Tables
import Derived.Laws.BytesString
import Derived.Lib.ConvBytes
import Derived.Lib.AppendZerosOnto
import Derived.ScopeJumps
set_option linter.unusedSimpArgs false
set_option linter.unusedVariables false
set_option maxHeartbeats 4000000
set_option linter.defProp false
namespace Go.Proofs.YtkeknmgnoceogaaGreat
def zAA9:=@List.getElem?_eq_getElem
def zAC9:=@List.getElem?_eq_some_iff
def zAE9:=@Nat.le_refl
def zAB9:=@List.length_append
def zAI9:=@List.mem_of_getElem?
def zAL9:=@Nat.eq_of_beq_eq_true
def zAJ9:=@Nat.zero_le
def zAK9:=@List.getD_eq_getElem?_getD
def zAG9:=@List.length_cons
def zAO9:=@Bool.and_eq_true
def zAH9:=@List.mem_map
def zAQ9:=@List.mem_cons_of_mem
def zAS9:=@List.cons_append
def zAM9:=@List.drop_eq_getElem_cons
def zAR9:=@List.mem_cons_self
def zAP9:=@List.length_map
def zAV9:=@List.nil_append
def zAN9:=@List.length_nil
def zAF9:=@List.getElem?_map
def zAU9:=@List.mem_flatMap
def zAW9:=@Nat.le_of_ble_eq_true
def zAY9:=@List.getElem?_set_ne
def zBB9:=@List.take_add_one
def zAT9:=@List.length_take
def zBA9:=@List.mem_cons
def zAZ9:=@List.getElem?_set_self
def zAD9:=@List.append_assoc
def zBE9:=@List.map_append
def zAX9:=@List.getElem?_append_left
def zBC9:=@List.getElem?_append_right
def zBF9:=@List.take_length
def zBG9:=@List.mem_append
def zBK9:=@List.getElem_mem
def zBI9:=@List.mem_singleton
def zBH9:=@List.drop_length
def zBN9:=@List.mem_iff_getElem
def zBM9:=@Nat.lt_of_lt_of_le
def zBR9:=@List.take_of_length_le
def zBP9:=@List.mem_of_mem_take
def zBQ9:=@List.flatMap_cons
def zBO9:=@List.getElem?_cons_succ
def zBS9:=@Nat.zero_add
def zBW9:=@Nat.le_trans
def zBZ9:=@List.eq_nil_of_length_eq_zero
def zBV9:=@List.all_eq_true
def zBU9:=@List.getElem?_take
def zBY9:=@List.map_cons
def zBX9:=@List.mem_of_mem_drop
def zCB9:=@Bool.true_and
def zCC9:=@List.length_pos_iff
def zBJ9:=@List.length_drop
def zCD9:=@Array.getElem?_toList
def zBT9:=@List.length_set
def zCA9:=@List.map_drop
def zCE9:=@List.set_cons_zero
def zCH9:=@Array.getElem?_eq_some_iff
def zCI9:=@List.flatMap_append
def zCK9:=@Nat.mul_le_mul_right
def zCM9:=@Array.getElem?_eq_getElem
def zCF9:=@List.getLast?_eq_getElem?
def zCN9:=@List.map_take
def zBL9:=@List.getElem?_eq_none
def zCJ9:=@List.range_succ
def zCO9:=@Int.toNat_natCast
def zCQ9:=@Bool.false_eq_true
def zCS9:=@Nat.lt_succ_self
def zCY9:=@List.append_nil
def zCR9:=@List.set_cons_succ
def zCP9:=@List.getElem?_drop
def zCU9:=@Nat.succ_pos
def zCX9:=@Nat.lt_or_ge
def zCV9:=@List.length_replicate
def zCL9:=@List.mem_range
def zCZ9:=@Nat.add_mul
def zDB9:=@Int.eq_ofNat_of_zero_le
def zDG9:=@List.mem_filter
def zDC9:=@Nat.add_zero
def zDA9:=@Nat.mod_eq_of_lt
def zCW9:=@List.not_mem_nil
def zDI9:=@List.replicate_succ
def zDD9:=@Bool.not_eq_true'
def zDJ9:=@List.drop_take
def zDK9:=@Nat.pow_le_pow_right
def zBD9:=@List.map_nil
def zDL9:=@Nat.succ_mul
def zDH9:=@List.map_map
def zDO9:=@Int.natCast_nonneg
def zDP9:=@Array.getD_eq_getD_getElem?
def zDQ9:=@List.length_eq_zero_iff
def zCT9:=@Nat.blt_eq
def zDS9:=@Nat.add_comm
def zDU9:=@List.ext_getElem?
def zDV9:=@Nat.min_eq_left
def zDW9:=@List.getElem?_zip_eq_some
def zDY9:=@List.take_append_of_le_length
def zDN9:=@List.eq_of_mem_replicate
def zDR9:=@Nat.add_sub_cancel_left
def zEB9:=@List.map_congr_left
def zDT9:=@List.map_set
def zEC9:=@List.length_eq_one_iff
def zED9:=@Int.tdiv_eq_ediv_of_nonneg
def zEF9:=@List.drop_drop
def zEG9:=@List.take_append_drop
def zEH9:=@List.mem_iff_getElem?
def zEJ9:=@List.pairwise_iff_getElem
def zEA9:=@Bool.or_eq_true
def zEK9:=@List.of_mem_zip
def zEL9:=@List.dropLast_concat
def zEN9:=@List.size_toArray
def zEO9:=@List.drop_append_of_le_length
def zEQ9:=@Array.length_toList
def zER9:=@List.drop_zero
def zES9:=@Array.toList_map
def zEE9:=@List.mem_reverse
def zET9:=@Nat.xor_lt_two_pow
def zEU9:=@List.findIdx?_cons
def zEV9:=@Bool.false_ne_true
def zEX9:=@List.nodup_cons
def zEY9:=@Nat.add_assoc
def zFA9:=@Array.size_append
def zFD9:=@List.getLast?_concat
def zFF9:=@List.take_take
def zFG9:=@Bool.cond_eq_ite
def zEP9:=@List.getLast?_cons_cons
def zFH9:=@Bool.and_true
def zFK9:=@Nat.add_sub_cancel
def zDF9:=@List.drop_of_length_le
def zFM9:=@List.reverse_cons
def zEI9:=@List.mem_append_right
def zFN9:=@Nat.mul_comm
def zFO9:=@List.length_singleton
def zFP9:=@List.contains_iff_mem
def zFQ9:=@List.dropLast_concat_getLast
def zFR9:=@List.getElem?_append
def zFJ9:=@Nat.mod_lt
def zFC9:=@List.mem_append_left
def zFE9:=@List.contains_eq_mem
def zFT9:=@Array.toList_setIfInBounds
def zFU9:=@Array.getElem?_append_left
def zFV9:=@Bool.false_or
def zFW9:=@Int.tmod_eq_emod_of_nonneg
def zFX9:=@List.drop_succ_cons
def zFZ9:=@List.foldl_cons
def zGA9:=@Nat.div_le_self
def zGB9:=@Bool.eq_iff_iff
def zGD9:=@List.pairwise_cons
def zEM9:=@List.set_set
def zGE9:=@Nat.testBit_mul_two_pow
def zFL9:=@List.getElem?_set
def zGF9:=@List.take_sublist
def zGG9:=@List.drop_eq_nil_of_le
def zGH9:=@Nat.mul_one
def zGI9:=@List.map_id
def zFS9:=@Bool.not_eq_true
def zGL9:=@List.take_succ_eq_append_getElem
def zGM9:=@List.filter_cons
def zGN9:=@Array.getElem?_modify
def zGO9:=@List.take_eq_take_min
def zCG9:=@List.set_append_right
def zGP9:=@Array.getElem?_setIfInBounds_ne
def zGQ9:=@Nat.beq_eq
def zGR9:=@Nat.zero_mul
def zGS9:=@Int.natCast_mul
def zGV9:=@Nat.sub_self
def zGX9:=@List.dropLast_subset
def zFY9:=@List.take_succ_cons
def zGZ9:=@List.getElem?_range
def zDZ9:=@Bool.false_and
def zHC9:=@Nat.mul_add
def zHE9:=@Nat.and_lt_two_pow
def zHF9:=@Nat.pos_of_ne_zero
def zHG9:=@List.mem_filterMap
def zHJ9:=@Nat.lt_of_le_of_lt
def zEW9:=@List.map_replicate
def zHK9:=@Option.toList_some
def zHL9:=@List.all_cons
def zHO9:=@Bool.eq_false_iff
def zHP9:=@List.getElem_take
end Go.Proofs.YtkeknmgnoceogaaGreat
namespace Go.Proofs.YtkeknmgnoceogaaGreat
abbrev LN:=List Nat
abbrev LC:=Option Nat
abbrev LG:=List Int
abbrev LM:=List Value
abbrev LW:=Array Value
abbrev AN:=Option Bool
abbrev AF:=Array Oper
abbrev AV:=Array Bool
abbrev AA:=List Operand
abbrev AE:=Option Value
abbrev AM:=List Oper
abbrev AX:=Array Operand
end Go.Proofs.YtkeknmgnoceogaaGreat
namespace Go.Proofs.YtkeknmgnoceogaaGreat
variable {P:Prop}
theorem zo(h:P:=by omega):P:=h
theorem zy(h:P:=by decide):P:=h
namespace Tw
noncomputable section
inductive Tr(α:Type) where
 | nil
 | node (l:Tr α) (v:Option α) (r:Tr α)
variable {α:Type}(x:Option α)(d:Nat)(l r:Tr α)(v:Option α)(n:Nat)
abbrev LH:=Tr Unit
def Tr.get{α:Type}(t:Tr α):Nat->Option α :=
 Tr.rec (motive:=fun _=>Nat->Option α) (fun _=>none) (fun _ v _ gl gr n=>bif Nat.beq n 0 then v else bif Nat.beq (n%2) 1 then gl (n/2)else gr (n/2-1)) t
def Tr.setN{α:Type}(x:Option α)(d:Nat):Tr α->Nat->Tr α :=
 Nat.rec (motive:=fun _=>Tr α->Nat->Tr α) (fun t _=>t) (fun _ f t n=>Tr.rec (motive:=fun _=>Tr α)
  (bif Nat.beq n 0 then .node .nil x .nil else bif Nat.beq (n%2) 1 then .node (f .nil (n/2)) none .nil else .node .nil none (f .nil (n/2-1)))
  (fun l v r _ _=>bif Nat.beq n 0 then .node l x r else bif Nat.beq (n%2) 1 then .node (f l (n/2)) v r else .node l v (f r (n/2-1))) t) d
theorem Tr.get_none:(Tr.nil:Tr α).get n=none:=rfl
theorem Tr.get_node:(Tr.node l v r).get n=bif Nat.beq n 0 then v else bif Nat.beq (n%2) 1 then l.get (n/2)else r.get (n/2-1):=rfl
theorem Tr.setN_none:Tr.setN x (d+1) .nil n=bif Nat.beq n 0 then .node .nil x .nil else bif Nat.beq (n%2) 1 then .node (Tr.setN x d .nil (n/2)) none .nil else .node .nil none (Tr.setN x d .nil (n/2-1)):=rfl
theorem Tr.setN_node:Tr.setN x (d+1) (.node l v r) n=bif Nat.beq n 0 then .node l x r else bif Nat.beq (n%2) 1 then .node (Tr.setN x d l (n/2)) v r else .node l v (Tr.setN x d r (n/2-1)):=rfl
def Tr.set{α:Type}(t:Tr α)(n:Nat)(x:Option α):Tr α:=Tr.setN x (n+1) t n
def Tr.putL{α:Type}:Tr α->Nat->List α->Tr α
 | t,_,[]=>t
 | t,n,x::l=>Tr.putL (t.set n (some x)) (n+1) l
def Tr.getL{α:Type}(t:Tr α):Nat->Nat->Option (List α)
 | _,0=>some []
 | i,n+1=>match t.get i with
  | none=>none
  | some x=>match Tr.getL t (i+1) n with
   | none=>none
   | some l=>some (x::l)
inductive TV where
 | bool (b:Bool)
 | int (k:IntKind) (n:Int)
 | str (s:LN)
 | nilptr
 | ptr (b g o e:Nat)
 | nilsl
 | sl (b g o n q z:Nat)
 | nilmap
 | map (b:Nat)
 | fn (f:Nat) (cap:List TV)
 | yield (l:Nat)
 | nilfn
 | iface (t:Nat) (v:TV)
 | niliface
 | agg (vs:List TV)
 | tuple (vs:List TV)
 deriving Inhabited
abbrev LK:=List TV
abbrev LA:=Tr TV
abbrev LE:=Option TV
def TV.cells:TV->LK
 | .agg l=>l
 | .tuple _=>[]
 | v=>[v]
inductive TOp where
 | tmp (t:Nat)
 | new (t:Nat)
 | const (v:TV)
 | fn (f:Nat)
abbrev LY:=List TOp
inductive zaf where
 | mov
 | pick
 | load (agg:Bool) (n:Nat)
 | nilchk
 | bin (op:BinOp)
 | eqnil (neg:Bool) (f:Nat)
 | eqB (neg:Bool)
 | cstr
 | eqagg (neg:Bool) (ks:LN)
 | un (op:UnOp)
 | conv (k:IntKind)
 | mkif (t:Nat)
 | mkfn (f:Nat)
 | slice (esz:Nat) (lo hi mx:Bool)
 | slstr (lo hi:Bool)
 | slarr (len esz:Nat) (lo hi:Bool)
 | faddr (off size:Nat)
 | fld (agg:Bool) (off size:Nat)
 | iaddr (esz:Nat)
 | iaddrA (len esz:Nat)
 | idxstr
 | idxagg (len:Nat) (agg:Bool) (esz:Nat)
 | look (kf:Nat) (zero:TV) (ok:Bool)
 | tassert (t:Nat) (zero:TV) (ok:Bool)
 | extr (i:Nat)
 | len (f:Nat)
 | maxI
 | minI
 | build (zero:LK) (places:List (Nat×Nat))
 | box (e n:Nat)
 | alloc (e:Nat) (zero:LK)
 | bslice (e esz len:Nat) (zero:LK) (places:List (Nat×Nat))
 | mkslice (e esz bytes:Nat) (zero:LK)
 | mkmap
 | store (n:Nat)
 | mupd (kf:Nat)
 | ment (kf:Nat) (zero:TV)
 | estore
 | append (e esz bytes:Nat)
 | appz (e esz bytes:Nat) (zero:LK)
 | tobytes (e:Nat)
 | tostr
 | copy (esz:Nat)
 | call
 | panic
 | defer
def zaf.cls:zaf->Nat
 | .box .. | .alloc .. | .bslice .. | .mkslice .. | .mkmap | .tobytes ..=>1
 | .store .. | .mupd .. | .ment .. | .estore | .append .. | .appz .. | .copy .. | .call | .panic | .defer=>2
 | _=>0
structure zbP where
 dst:LC
 kind:zaf
 args:LY
 guard:Option (TOp×Bool)
abbrev LS:=List zbP
structure zdp where
 chk:LS
 exe:LS
 act:Option zbP
abbrev AI:=List zdp
inductive zbS where
 | skip
 | region (ops:LS)
 | drawn (zd5:AI) (ds:LN)
 | seq (a b:zbS)
 | cond (c:TOp) (thn els:zbS)
 | block (id:Nat) (body:zbS)
 | loop (body:zbS)
 | rangef (f:TOp) (params:LN) (assign body:zbS)
 | exit (id:Nat)
 | scope (body:zbS) (l:Nat) (rest:zbS)
 | scope0 (body:zbS)
 | goto (l:Nat)
 | ret
inductive TX where
 | norm|exit (id:Nat)|goto (l:Nat)|ret|panic (v:TV)
inductive TD where
 | caught (p clear:TV)
 | mark (b:Nat)
abbrev AT:=List TD
structure zdv where
 k:TV
 v:TV
 n:Nat
abbrev LZ:=List zdv
inductive TO where
 | row (e G M len:Nat) (cells:LA)
 | map (es:LZ) (clock:Nat)
 | dfr (shut:Bool)
 | loop (st:LoopState) (pending:TX) (tm:LA) (params:LN) (assign body:zbS) (df:Nat)
 | ro (cells:LA)
structure TH where
 next:Nat
 objs:Tr TO
structure St where
 tm:LA
 df:AT
 h:TH
def TH.push(h:TH)(o:TO):TH:=⟨h.next+1,h.objs.set h.next (some o)⟩
def TH.get(h:TH)(b:Nat):Option TO:=bif Nat.blt b h.next then h.objs.get b else none
def TH.set(h:TH)(b:Nat)(o:TO):TH:=⟨h.next,h.objs.set b (some o)⟩
def St.put(s:St)(d:LC)(v:TV):St:=match d with
 | none=>s
 | some d=>⟨s.tm.set d (some v),s.df,s.h⟩
def zjb:Int->Int->Bool
 | .ofNat a,.ofNat b=>Nat.beq a b
 | .negSucc a,.negSucc b=>Nat.beq a b
 | _,_=>false
def ile(a b:Int):Bool:=match b-a with
 | .ofNat _=>true
 | .negSucc _=>false
def kno:IntKind->Nat
 | .i8=>0 | .i16=>1 | .i32=>2 | .i64=>3 | .u8=>4 | .u16=>5 | .u32=>6 | .u64=>7
def zeO:LN->LN->Bool
 | [],[]=>true
 | a::l,b::m=>bif Nat.beq a b then zeO l m else false
 | _,_=>false
def znw(f:TV->TV->Bool):LK->LK->Bool
 | [],[]=>true
 | a::l,b::m=>bif f a b then znw f l m else false
 | _,_=>false
def zxw(x:Bool):TV->Bool
 | .bool y=>bif x then y else bif y then false else true
 | _=>false
def zwd(k:IntKind)(x:Int):TV->Bool
 | .int k' y=>bif Nat.beq (kno k) (kno k')then zjb x y else false
 | _=>false
def zAg(s:LN):TV->Bool
 | .str t=>zeO s t
 | _=>false
def zpK(b g o e:Nat):TV->Bool
 | .ptr b' g' o' e'=>bif Nat.beq b b' then bif Nat.beq g g' then bif Nat.beq o o' then Nat.beq e e' else false else false else false
 | _=>false
def zt0(b g o n q z:Nat):TV->Bool
 | .sl b' g' o' n' q' z'=>bif Nat.beq b b' then bif Nat.beq g g' then bif Nat.beq o o' then bif Nat.beq n n' then bif Nat.beq q q' then Nat.beq z z' else false else false else false else false else false
 | _=>false
def zBX(b:Nat):TV->Bool
 | .map b'=>Nat.beq b b'
 | _=>false
def zv5(l:Nat):TV->Bool
 | .yield m=>Nat.beq l m
 | _=>false
def zzT(f:TV->TV->Bool)(g:Nat)(l:LK):TV->Bool
 | .fn g' l'=>bif Nat.beq g g' then znw f l l' else false
 | _=>false
def zo9(f:TV->TV->Bool)(t:Nat)(v:TV):TV->Bool
 | .iface t' v'=>bif Nat.beq t t' then f v v' else false
 | _=>false
def zBe(f:TV->TV->Bool)(l:LK):TV->Bool
 | .agg l'=>znw f l l'
 | _=>false
def zv2(f:TV->TV->Bool)(l:LK):TV->Bool
 | .tuple l'=>znw f l l'
 | _=>false
def zha:TV->Nat
 | .nilptr=>1 | .nilsl=>2 | .nilmap=>3 | .nilfn=>4 | .niliface=>5|_=>0
def TV.beq:Nat->TV->TV->Bool
 | 0,_,_=>false
 | n+1,a,b=>match a with
  | .bool x=>zxw x b
  | .int k x=>zwd k x b
  | .str s=>zAg s b
  | .ptr c g o e=>zpK c g o e b
  | .sl c g o n q z=>zt0 c g o n q z b
  | .map c=>zBX c b
  | .fn f l=>zzT (TV.beq n) f l b
  | .iface t v=>zo9 (TV.beq n) t v b
  | .agg l=>zBe (TV.beq n) l b
  | .tuple l=>zv2 (TV.beq n) l b
  | .yield l=>zv5 l b
  | .nilptr=>Nat.beq (zha b) 1
  | .nilsl=>Nat.beq (zha b) 2
  | .nilmap=>Nat.beq (zha b) 3
  | .nilfn=>Nat.beq (zha b) 4
  | .niliface=>Nat.beq (zha b) 5
def zgG(tm:LA):TOp->LE
 | .tmp t=>tm.get t
 | .new _=>none
 | .const v=>some v
 | .fn f=>some (.fn f [])
def zHX(tm:LA):LY->Option (LK)
 | []=>some []
 | x::l=>match zgG tm x with
  | none=>none
  | some v=>match zHX tm l with
   | none=>none
   | some vs=>some (v::vs)
def zh7(tm nm:LA):TOp->LE
 | .tmp t=>tm.get t
 | .new t=>nm.get t
 | .const v=>some v
 | .fn f=>some (.fn f [])
def zeG(tm nm:LA):LY->Option (LK)
 | []=>some []
 | x::l=>match zh7 tm nm x with
  | none=>none
  | some v=>match zeG tm nm l with
   | none=>none
   | some vs=>some (v::vs)
def zhb(g o n:Nat):TO->Option (LK)
 | .row _ G M _ cells=>bif Nat.ble M g then bif Nat.ble g G then cells.getL o n else none else none
 | .ro cells=>bif Nat.beq g 0 then cells.getL o n else none
 | _=>none
def zb0(h:TH)(b g o n:Nat):Option (LK) :=
 match h.get b with
 | some x=>zhb g o n x
 | none=>none
def zin:IntKind->Nat
 | .i8=>7 | .i16=>15 | .i32=>31 | .i64=>63 | .u8=>8 | .u16=>16 | .u32=>32 | .u64=>64
def zmc(f:Nat->Nat->Nat)(k:IntKind):Int->Int->LE
 | .ofNat a,.ofNat b=>bif Nat.blt a (2 ^ zin k)then bif Nat.blt b (2 ^ zin k)then some (.int k (.ofNat (f a b)))else none else none
 | _,_=>none
def zGt(k:IntKind)(a:Int):Int->LE
 | .ofNat n=>bif Nat.ble n 64 then some (.int k (k.wrap (a*2 ^ (min n k.bits))))else none
 | _=>none
def zGE(k:IntKind):Int->Int->LE
 | .ofNat a,.ofNat n=>bif Nat.ble n 64 then some (.int k (.ofNat (a/2 ^ (min n k.bits))))else none
 | _,_=>none
def zgy(op:BinOp)(k k':IntKind)(x y:Int):LE :=
 match op with
 | .shl=>zGt k x y
 | .shr=>zGE k x y
 | .add=>bif Nat.beq (kno k) (kno k')then some (.int k (k.wrap (x+y)))else none
 | .sub=>bif Nat.beq (kno k) (kno k')then some (.int k (k.wrap (x-y)))else none
 | .mul=>bif Nat.beq (kno k) (kno k')then some (.int k (k.wrap (x*y)))else none
 | .quo=>bif Nat.beq (kno k) (kno k')then(bif zjb y 0 then none else some (.int k (k.wrap (x.tdiv y))))else none
 | .rem=>bif Nat.beq (kno k) (kno k')then(bif zjb y 0 then none else some (.int k (x.tmod y)))else none
 | .and=>bif Nat.beq (kno k) (kno k')then zmc Nat.land k x y else none
 | .or=>bif Nat.beq (kno k) (kno k')then zmc Nat.lor k x y else none
 | .xor=>bif Nat.beq (kno k) (kno k')then zmc Nat.xor k x y else none
 | .eql=>bif Nat.beq (kno k) (kno k')then some (.bool (zjb x y))else none
 | .neq=>bif Nat.beq (kno k) (kno k')then some (.bool (not (zjb x y)))else none
 | .lss=>bif Nat.beq (kno k) (kno k')then some (.bool (not (ile y x)))else none
 | .leq=>bif Nat.beq (kno k) (kno k')then some (.bool (ile x y))else none
 | .gtr=>bif Nat.beq (kno k) (kno k')then some (.bool (not (ile x y)))else none
 | .geq=>bif Nat.beq (kno k) (kno k')then some (.bool (ile y x))else none
 | .andNot=>none
def ziP:LN->LN->Bool
 | _,[]=>false
 | [],_::_=>true
 | a::l,b::m=>bif Nat.blt a b then true else bif Nat.beq a b then ziP l m else false
def zC3(op:BinOp)(a b:LN):LE :=
 match op with
 | .eql=>some (.bool (zeO a b))
 | .neq=>some (.bool (not (zeO a b)))
 | .lss=>some (.bool (ziP a b))
 | .gtr=>some (.bool (ziP b a))
 | .leq=>some (.bool (not (ziP b a)))
 | .geq=>some (.bool (not (ziP a b)))
 | .add=>bif Nat.ble (a.length+b.length) 1000000 then some (.str (a++b))else none
 | _=>none
def ze8(op:BinOp)(k:IntKind)(x:Int):TV->LE
 | .int k' y=>zgy op k k' x y
 | _=>none
def zEG(op:BinOp)(a:LN):TV->LE
 | .str b=>zC3 op a b
 | _=>none
def zc6(op:BinOp)(x y:TV):LE :=
 match x with
 | .int k a=>ze8 op k a y
 | .str a=>zEG op a y
 | _=>none
def zvR:TV->AN
 | .nilptr=>some true
 | .ptr ..=>some false
 | _=>none
def zuJ:TV->AN
 | .nilsl=>some true
 | .sl ..=>some false
 | _=>none
def zvh:TV->AN
 | .nilmap=>some true
 | .map _=>some false
 | _=>none
def zbs:TV->AN
 | .nilfn=>some true
 | .fn ..=>some false
 | _=>none
def zvX:TV->AN
 | .niliface=>some true
 | .iface ..=>some false
 | _=>none
def zq2(f:Nat)(x:TV):AN:=match f with
 | 1=>zvR x
 | 2=>zuJ x
 | 3=>zvh x
 | 4=>zbs x
 | 5=>zvX x
 | _=>none
def zV:AN->AN->AN
 | some a,some b=>bif a then some b else bif b then some false else none
 | _,_=>none
def zkA(f:Nat)(x y:TV):AN:=zV (zq2 f x) (zq2 f y)
def zmi(k:Nat)(x y:TV):AN :=
 match x with
 | .int j a=>bif Nat.beq k 1 then(match y with | .int j' b=>bif Nat.beq (kno j) (kno j')then some (zjb a b)else none|_=>none)else none
 | .bool a=>bif Nat.beq k 2 then(match y with | .bool b=>some (bif a then b else not b)|_=>none)else none
 | .str a=>bif Nat.beq k 3 then(match y with | .str b=>some (zeO a b)|_=>none)else none
 | _=>none
def zcX:LN->LK->LK->AN
 | [],[],[]=>some true
 | k::ks,x::l,y::m=>match zmi k x y with
  | some true=>zcX ks l m
  | r=>r
 | _,_,_=>none
def ziO(x y:TV):AN :=
 match x with
 | .int k a=>(match y with | .int k' b=>bif Nat.beq (kno k) (kno k')then some (zjb a b)else none|_=>none)
 | .str a=>(match y with | .str b=>some (zeO a b)|_=>none)
 | _=>none
def ze9(k:TV):LZ->Nat->Option (Option (Nat×zdv))
 | [],_=>some none
 | e::l,i=>match ziO k e.k with
  | none=>none
  | some true=>some (some (i,e))
  | some false=>ze9 k l (i+1)
def znD:TV->Bool
 | .int ..=>true
 | _=>false
def zmL:TV->Bool
 | .str ..=>true
 | _=>false
def zgN(kf:Nat)(x:TV):Bool:=match kf with
 | 1=>znD x
 | 2=>zmL x
 | _=>false
def zD8:Int->LC
 | .ofNat n=>some n
 | _=>none
def zfJ:TV->LC
 | .int _ n=>zD8 n
 | _=>none
def zIc(x:TV)(m:Nat):LC :=
 match zfJ x with
 | some n=>bif Nat.ble n m then some n else none
 | none=>none
def zkD(cells:LK):List (Nat×Nat)->LK->Option (LK)
 | [],[]=>some cells
 | (off,size)::ps,v::vs =>
  let cs:=v.cells
  bif Nat.beq cs.length size then bif Nat.ble (off+size) cells.length then zkD (cells.take off++cs++cells.drop (off+size)) ps vs else none else none
 | _,_=>none
def zeT{α:Type}(l:List α):Nat->List α
 | 0=>[]
 | n+1=>l++zeT l n
def zcY(vs:LK)(f:TV->LE):LE:=match vs with
 | [x]=>f x
 | _=>none
def zdh(vs:LK)(f:TV->TV->LE):LE:=match vs with
 | [x,y]=>f x y
 | _=>none
def zH9(vs:LK):LE:=match vs with
 | [.bool c,a,b]=>some (bif c then a else b)
 | _=>none
def zpj(agg:Bool)(l:LK):LE:=bif agg then some (.agg l)else match l with
 | [x]=>some x
 | _=>none
def zhZ(agg:Bool)(n:Nat)(h:TH):TV->LE
 | .ptr b g o e=>bif Nat.ble n e then(match zb0 h b g o n with|some l=>zpj agg l|none=>none)else none
 | _=>none
def zsa:TV->LE
 | .ptr b g o e=>some (.ptr b g o e)
 | .fn f c=>some (.fn f c)
 | _=>none
def zpP(neg:Bool):AN->LE
 | some b=>some (.bool (bif neg then not b else b))
 | none=>none
def znq(neg:Bool)(ks:LN)(x y:TV):LE:=match x with
 | .agg l=>(match y with | .agg m=>bif Nat.beq l.length ks.length then bif Nat.beq m.length ks.length then zpP neg (zcX ks l m)else none else none|_=>none)
 | _=>none
def zrw(neg:Bool)(x y:TV):LE:=match x with
 | .bool a=>(match y with | .bool b=>some (.bool (bif neg then(bif a then not b else b)else bif a then b else not b))|_=>none)
 | _=>none
def zzz:TV->LE
 | .str s=>some (.str s)
 | _=>none
def zCp:TV->LE
 | .bool b=>some (.bool (not b))
 | _=>none
def zDL:TV->LE
 | .int k n=>some (.int k (k.wrap (0-n)))
 | _=>none
def zGg:TV->LE
 | .int .u64 n=>zgy .xor .u64 .u64 (.ofNat 18446744073709551615) n
 | _=>none
def pUn(op:UnOp)(x:TV):LE:=match op with
 | .not=>zCp x
 | .neg=>zDL x
 | .xor=>zGg x
 | _=>none
def zn6(k:IntKind):TV->LE
 | .int _ n=>some (.int k (k.wrap n))
 | _=>none
def zjg(b g o z:Nat)(x:TV)(h q:Nat):LE:=match zIc x h with
 | some l=>some (.sl b g (o+l*z) (h-l) (q-2*l) z)
 | none=>none
def zzJ(b g o q z:Nat)(x:TV):LE:=match zIc x (q/2)with
 | some h=>some (.sl b g o h q z)
 | none=>none
def zqX(b g o q z:Nat)(x y:TV):LE:=match zIc y (q/2)with
 | some h=>zjg b g o z x h q
 | none=>none
def zub(b g o q z:Nat)(x y m:TV):LE:=match zIc m (q/2)with
 | some m=>(match zIc y m with|some h=>zjg b g o z x h (2*m+1)|none=>none)
 | none=>none
def zhE(lo hi mx:Bool)(b g o n q z:Nat)(bs:LK):LE :=
 match bs with
 | []=>bif lo then none else bif hi then none else bif mx then none else some (.sl b g o n q z)
 | [x]=>bif mx then none else bif lo then(bif hi then none else zjg b g o z x n q)else bif hi then zzJ b g o q z x else none
 | [x,y]=>bif mx then none else bif lo then bif hi then zqX b g o q z x y else none else none
 | [x,y,m]=>bif lo then bif hi then bif mx then zub b g o q z x y m else none else none else none
 | _=>none
def zmX(lo hi mx:Bool)(bs:LK):LE:=bif mx then none else
 match bs with
 | []=>bif lo then none else bif hi then none else some .nilsl
 | [x]=>(match zIc x 0 with|some _=>bif lo then(bif hi then none else some .nilsl)else bif hi then some .nilsl else none|none=>none)
 | _=>none
def zfD(esz:Nat)(lo hi mx:Bool)(x:TV)(bs:LK):LE:=match x with
 | .nilsl=>zmX lo hi mx bs
 | .sl b g o n q z=>bif Nat.beq esz z then zhE lo hi mx b g o n q z bs else none
 | _=>none
def zj1(esz:Nat)(lo hi mx:Bool)(vs:LK):LE:=match vs with
 | x::bs=>zfD esz lo hi mx x bs
 | []=>none
def zxm(lo hi:Bool)(s:LN)(bs:LK):LE:=match bs with
 | []=>bif lo then none else bif hi then none else some (.str s)
 | [x]=>bif lo then(bif hi then none else match zIc x s.length with|some l=>some (.str (s.drop l))|none=>none)else bif hi then(match zIc x s.length with|some l=>some (.str (s.take l))|none=>none)else none
 | [x,y]=>bif lo then bif hi then(match zIc y s.length with|some h=>(match zIc x h with|some l=>some (.str ((s.take h).drop l))|none=>none)|none=>none)else none else none
 | _=>none
def znr(lo hi:Bool)(vs:LK):LE:=match vs with
 | .str s::bs=>zxm lo hi s bs
 | _=>none
def zpT(len esz:Nat)(lo hi:Bool)(vs:LK):LE:=match vs with
 | [.ptr b g o e]=>bif lo then none else bif hi then none else bif Nat.ble (len*esz) e then some (.sl b g o len (2*len+1) esz)else none
 | _=>none
def zlh(off size:Nat):TV->LE
 | .ptr b g o e=>bif Nat.ble (off+size) e then some (.ptr b g (o+off) size)else none
 | _=>none
def nth:LK->Nat->LE
 | [],_=>none
 | x::l,n=>match n with
  | 0=>some x
  | n+1=>nth l n
def znW(agg:Bool)(off size:Nat)(l:LK):LE :=
 bif agg then(bif Nat.ble (off+size) l.length then some (.agg ((l.drop off).take size))else none)else nth l off
def zCW(agg:Bool)(off size:Nat):TV->LE
 | .agg l=>znW agg off size l
 | _=>none
def zli(esz:Nat)(x y:TV):LE:=match x with
 | .sl b g o n _ z=>bif Nat.beq esz z then(match zfJ y with|some i=>bif Nat.blt i n then some (.ptr b g (o+i*z) z)else none|none=>none)else none
 | _=>none
def zjE(len esz:Nat)(x y:TV):LE:=match x with
 | .ptr b g o e=>(match zfJ y with|some i=>bif Nat.blt i len then bif Nat.ble (len*esz) e then some (.ptr b g (o+i*esz) esz)else none else none|none=>none)
 | _=>none
def zlS:LN->Nat->LC
 | [],_=>none
 | x::l,n=>match n with
  | 0=>some x
  | n+1=>zlS l n
def zlu(x y:TV):LE:=match x with
 | .str s=>(match zfJ y with|some i=>(match zlS s i with|some c=>some (.int .u8 (.ofNat c))|none=>none)|none=>none)
 | _=>none
def zsq(len:Nat)(agg:Bool)(esz:Nat)(x y:TV):LE:=match x with
 | .agg l=>(match zfJ y with|some i=>bif Nat.blt i len then znW agg (i*esz) esz l else none|none=>none)
 | _=>none
def okT(ok:Bool)(v:TV)(b:Bool):TV:=bif ok then .tuple [v,.bool b]else v
def zgL(zero:TV)(ok:Bool)(k:TV):TO->LE
 | .map es _=>(match ze9 k es 0 with
  | some (some (_,e))=>some (okT ok e.v true)
  | some none=>some (okT ok zero false)
  | none=>none)
 | _=>none
def zji(kf:Nat)(zero:TV)(ok:Bool)(h:TH)(x k:TV):LE:=bif zgN kf k then(match x with
 | .nilmap=>some (okT ok zero false)
 | .map b=>(match h.get b with|some o=>zgL zero ok k o|none=>none)
 | _=>none)else none
def zma(t:Nat)(zero:TV)(ok:Bool):TV->LE
 | .iface t' v=>bif Nat.beq t t' then some (okT ok v true)else bif ok then some (.tuple [zero,.bool false])else none
 | .niliface=>bif ok then some (.tuple [zero,.bool false])else none
 | _=>none
def zt4(i:Nat):TV->LE
 | .tuple l=>nth l i
 | _=>none
def zGv:TO->LE
 | .map es _=>some (.int .i64 (.ofNat es.length))
 | _=>none
def zEt:TV->LE
 | .nilsl=>some (.int .i64 (.ofNat 0))
 | .sl _ _ _ n _ _=>some (.int .i64 (.ofNat n))
 | _=>none
def zzf(h:TH):TV->LE
 | .nilmap=>some (.int .i64 (.ofNat 0))
 | .map b=>(match h.get b with|some o=>zGv o|none=>none)
 | _=>none
def zt5:TV->LE
 | .str s=>some (.int .i64 (.ofNat s.length))
 | _=>none
def zrM(f:Nat)(h:TH)(x:TV):LE:=match f with
 | 1=>zEt x
 | 2=>zzf h x
 | 3=>zt5 x
 | _=>none
def zkZ(mx:Bool)(x y:TV):LE:=match x with
 | .int k a=>(match y with | .int k' b=>bif Nat.beq (kno k) (kno k')then some (.int k (bif mx then(bif ile b a then a else b)else(bif ile a b then a else b)))else none|_=>none)
 | _=>none
def zqF(zero:LK)(places:List (Nat×Nat))(vs:LK):LE:=match zkD zero places vs with
 | some l=>some (.agg l)
 | none=>none
def zbB:LK->Option (LN)
 | []=>some []
 | .int .u8 (.ofNat n)::l=>bif Nat.blt n 256 then(match zbB l with
  | some s=>some (n::s)
  | none=>none)else none
 | _=>none
def zhT(h:TH):TV->LE
 | .nilsl=>some (.str [])
 | .sl b g o n _ 1=>(match zb0 h b g o n with
  | some l=>(match zbB l with
   | some s=>some (.str s)
   | none=>none)
  | none=>none)
 | _=>none
def pas(k:zaf)(vs:LK)(h:TH):LE :=
 match k with
 | .mov=>zcY vs some
 | .pick=>zH9 vs
 | .load agg n=>zcY vs (zhZ agg n h)
 | .nilchk=>zcY vs zsa
 | .bin op=>zdh vs (zc6 op)
 | .eqnil neg f=>zdh vs fun x y=>zpP neg (zkA f x y)
 | .eqagg neg ks=>zdh vs (znq neg ks)
 | .eqB neg=>zdh vs (zrw neg)
 | .cstr=>zcY vs zzz
 | .un op=>zcY vs (pUn op)
 | .conv k=>zcY vs (zn6 k)
 | .mkif t=>zcY vs fun x=>some (.iface t x)
 | .mkfn f=>some (.fn f vs)
 | .slice esz lo hi mx=>zj1 esz lo hi mx vs
 | .slstr lo hi=>znr lo hi vs
 | .slarr len esz lo hi=>zpT len esz lo hi vs
 | .faddr off size=>zcY vs (zlh off size)
 | .fld agg off size=>zcY vs (zCW agg off size)
 | .iaddr esz=>zdh vs (zli esz)
 | .iaddrA len esz=>zdh vs (zjE len esz)
 | .idxstr=>zdh vs zlu
 | .idxagg len agg esz=>zdh vs (zsq len agg esz)
 | .look kf zero ok=>zdh vs (zji kf zero ok h)
 | .tassert t zero ok=>zcY vs (zma t zero ok)
 | .extr i=>zcY vs (zt4 i)
 | .len f=>zcY vs (zrM f h)
 | .maxI=>zdh vs (zkZ true)
 | .minI=>zdh vs (zkZ false)
 | .build zero places=>zqF zero places vs
 | .tostr=>zcY vs (zhT h)
 | _=>none
def zcW(e:Nat)(l:LK):TO:=.row e 0 0 l.length (Tr.putL .nil 0 l)
structure zd7 where
 o:TO
 v:TV
abbrev AL:=Option zd7
def zrQ(e n b:Nat)(vs:LK):AL:=match vs with
 | [v]=>bif Nat.beq v.cells.length n then some ⟨zcW e v.cells,.ptr b 0 0 n⟩else none
 | _=>none
def znt(e:Nat)(zero:LK)(b:Nat)(vs:LK):AL:=match vs with
 | []=>some ⟨zcW e zero,.ptr b 0 0 zero.length⟩
 | _=>none
def zjz(e esz len:Nat)(zero:LK)(places:List (Nat×Nat))(b:Nat)(vs:LK):AL :=
 bif Nat.ble (len*esz) 16777216 then(match zkD (zeT zero len) places vs with
  | some l=>some ⟨zcW e l,.sl b 0 0 len (2*len) esz⟩
  | none=>none)else none
def zig(e esz bytes:Nat)(zero:LK)(b:Nat)(vs:LK):AL:=match vs with
 | [x,y]=>(match zfJ x,zfJ y with
  | some n,some c=>bif Nat.ble n c then bif Nat.ble c 1000000 then bif Nat.ble (c*bytes) 140737488355328 then some ⟨zcW e (zeT zero n),.sl b 0 0 n (2*n) esz⟩else none else none else none
  | _,_=>none)
 | _=>none
def zmE(b:Nat)(vs:LK):AL:=match vs with
 | []=>some ⟨.map [] 0,.map b⟩
 | [.int _ _]=>some ⟨.map [] 0,.map b⟩
 | _=>none
def ziD(e b:Nat)(vs:LK):AL:=match vs with
 | [.str s]=>bif Nat.ble s.length 1000000 then some ⟨zcW e (s.map fun n=>.int .u8 (.ofNat n)),.sl b 0 0 s.length (2*s.length) 1⟩else none
 | _=>none
def lay(k:zaf)(vs:LK)(b:Nat):AL :=
 match k with
 | .box e n=>zrQ e n b vs
 | .alloc e zero=>znt e zero b vs
 | .bslice e esz len zero places=>zjz e esz len zero places b vs
 | .mkslice e esz bytes zero=>zig e esz bytes zero b vs
 | .mkmap=>zmE b vs
 | .tobytes e=>ziD e b vs
 | _=>none
inductive TE where
 | ret (v:TV)
 | panic (v:TV)
structure zce where
 fn:Nat->LK->TH->Option (TE×TH)
 rd:Nat->LK->TH->Option (Bool×TH)
def zqY(h:TH)(b g o:Nat)(l:LK):TO->Option TH
 | .row e G _ len cells=>bif Nat.beq g G then bif Nat.ble (o+l.length) len then some (h.set b (.row e G G len (cells.putL o l)))else none else none
 | _=>none
def zfs(h:TH)(b g o:Nat)(l:LK):Option TH :=
 match h.get b with
 | some x=>zqY h b g o l x
 | none=>none
def zfW(h:TH)(esz:Nat)(x:TV)(n:Nat):Option (LK):=match x with
 | .nilsl=>some []
 | .sl b g o _ _ z=>bif Nat.beq esz z then zb0 h b g o (n*z)else none
 | _=>none
def lenV:TV->Nat
 | .sl _ _ _ n _ _=>n
 | .str s=>s.length
 | _=>0
inductive TR where
 | ok (v:TV) (h:TH)
 | panic (v:TV) (h:TH)
 | dfr (d:TD)
abbrev AP:=Option TR
def zmF(h:TH)(e esz bytes m:Nat)(news:LK):AP :=
 bif Nat.ble (m*(bytes+1)) 140737488355328 then some (.ok (.sl h.next 0 0 m (2*m) esz) (h.push (zcW e news)))else none
def zqV(h:TH)(e bytes b g n z m:Nat)(news:LK):TO->AP
 | .row e' G M len cells =>
  bif Nat.beq e e' then bif Nat.beq g G then bif Nat.beq (n*z) len then bif Nat.ble ((n+m)*(bytes+1)) 140737488355328 then
   some (.ok (.sl b (G+1) 0 (n+m) (2*(n+m)) z) (h.set b (.row e' (G+1) M (len+news.length) (cells.putL len news))))
  else none else none else none else none
 | _=>none
def zi9(h:TH)(e esz bytes:Nat)(s:TV)(m:Nat)(news:LK):AP :=
 match s with
 | .nilsl=>bif Nat.beq m 0 then some (.ok .nilsl h)else zmF h e esz bytes m news
 | .sl b g o n q z=>bif Nat.beq m 0 then some (.ok (.sl b g o n q z) h)else
  bif Nat.beq o 0 then bif Nat.beq (q%2) 0 then bif Nat.beq esz z then(match h.get b with
  | some r=>zqV h e bytes b g n z m news r
  | none=>none)else none else none else none
 | _=>none
def zzu(h:TH)(e esz bytes:Nat)(s x:TV):AP :=
 match zfW h esz x (lenV x)with
 | none=>none
 | some news=>zi9 h e esz bytes s (lenV x) news
def setE(i:Nat)(k v:TV)(es:LZ):LZ:=match es with
 | []=>[]
 | e::l=>match i with
  | 0=>⟨k,v,e.n⟩::l
  | i+1=>e::setE i k v l
def zqI(n:Nat)(v:TV):LZ->Option (LZ)
 | []=>none
 | e::l=>bif Nat.beq e.n n then some (⟨e.k,v,e.n⟩::l)else match zqI n v l with
  | none=>none
  | some l'=>some (e::l')
def zi4(n:Nat)(h:TH)(vs:LK):AP:=match vs with
 | [.ptr b g o e,v]=>bif Nat.beq v.cells.length n then bif Nat.ble n e then(match zfs h b g o v.cells with
  | some h=>some (.ok (.tuple []) h)
  | none=>none)else none else none
 | _=>none
def zuF(h:TH)(b:Nat)(k v:TV):TO->AP
 | .map es clock=>(match ze9 k es 0 with
   | none=>none
   | some none=>some (.ok (.tuple []) (h.set b (.map (es++[⟨k,v,clock⟩]) (clock+1))))
   | some (some (i,_))=>some (.ok (.tuple []) (h.set b (.map (setE i k v es) clock))))
 | _=>none
def ziK(kf:Nat)(h:TH)(vs:LK):AP:=match vs with
 | [.map b,k,v]=>bif zgN kf k then(match h.get b with|some o=>zuF h b k v o|none=>none)else none
 | _=>none
def zyG(zero:TV)(h:TH)(b:Nat)(k:TV):TO->AP
 | .map es clock=>(match ze9 k es 0 with
   | none=>none
   | some none=>some (.ok (.tuple [zero,.int .i64 (.ofNat clock)]) (h.set b (.map (es++[⟨k,zero,clock⟩]) (clock+1))))
   | some (some (_,e))=>some (.ok (.tuple [e.v,.int .i64 (.ofNat e.n)]) h))
 | _=>none
def ztZ(kf:Nat)(zero:TV)(h:TH)(vs:LK):AP:=match vs with
 | [.map b,k]=>bif zgN kf k then(match h.get b with|some o=>zyG zero h b k o|none=>none)else none
 | _=>none
def zCw(h:TH)(b n:Nat)(v:TV):TO->AP
 | .map es clock=>(match zqI n v es with
   | none=>none
   | some es=>some (.ok (.tuple []) (h.set b (.map es clock))))
 | _=>none
def zof(h:TH)(vs:LK):AP:=match vs with
 | [.map b,s,v]=>(match zfJ s with|some n=>(match h.get b with|some o=>zCw h b n v o|none=>none)|none=>none)
 | _=>none
def zhG(e esz bytes:Nat)(h:TH)(vs:LK):AP:=match vs with
 | [s,x]=>zzu h e esz bytes s x
 | _=>none
def zmb(e esz bytes:Nat)(zero:LK)(h:TH)(vs:LK):AP:=match vs with
 | [s,.int _ (.ofNat m)]=>bif Nat.ble m 1000000 then bif Nat.ble (m*(bytes+1)) 140737488355328 then zi9 h e esz bytes s m (zeT zero m)else none else none
 | _=>none
def zh0(esz:Nat)(h:TH)(vs:LK):AP:=match vs with
 | [d,x]=>let m:=min (lenV x) (lenV d);(match zfW h esz x m with
  | none=>none
  | some news=>match d with
   | .nilsl=>some (.ok (.int .i64 (.ofNat 0)) h)
   | .sl b g o _ _ z=>bif Nat.beq m 0 then some (.ok (.int .i64 (.ofNat 0)) h)else bif Nat.beq esz z then(match zfs h b g o news with
    | some h=>some (.ok (.int .i64 (.ofNat m)) h)
    | none=>none)else none
   | _=>none)
 | _=>none
def zn7:Option (TE×TH)->AP
 | some (.ret v,h)=>some (.ok v h)
 | some (.panic v,h)=>some (.panic v h)
 | none=>none
def zvn:Option (Bool×TH)->AP
 | some (b,h)=>some (.ok (.bool b) h)
 | none=>none
def zol(C:zce)(h:TH)(vs:LK):AP:=match vs with
 | .fn f cap::args=>zn7 (C.fn f (args++cap) h)
 | .yield l::args=>zvn (C.rd l args h)
 | _=>none
def zBq(h:TH)(vs:LK):AP:=match vs with
 | [.iface t v]=>some (.panic (.iface t v) h)
 | _=>none
def zvU(caught:LH)(vs:LK):AP:=match vs with
 | [.fn f [],p,c]=>(match caught.get f with
  | some _=>some (.dfr (.caught p c))
  | none=>none)
 | _=>none
def act(C:zce)(caught:LH)(k:zaf)(vs:LK)(h:TH):AP :=
 match k with
 | .store n=>zi4 n h vs
 | .mupd kf=>ziK kf h vs
 | .ment kf zero=>ztZ kf zero h vs
 | .estore=>zof h vs
 | .append e esz bytes=>zhG e esz bytes h vs
 | .appz e esz bytes zero=>zmb e esz bytes zero h vs
 | .copy esz=>zh0 esz h vs
 | .call=>zol C h vs
 | .panic=>zBq h vs
 | .defer=>zvU caught vs
 | _=>none
def ziS(b:Bool):LE->AN
 | some (.bool c)=>some (bif b then c else not c)
 | some _=>some false
 | none=>none
def zgg(tm:LA):Option (TOp×Bool)->AN
 | none=>some true
 | some (x,b)=>ziS b (zgG tm x)
def zfR(tm nm:LA):Option (TOp×Bool)->AN
 | none=>some true
 | some (x,b)=>ziS b (zh7 tm nm x)
inductive TS where
 | go (s:St)
 | panic (v:TV) (s:St)
abbrev AC:=Option TS
def zrb(d:LC)(s:St):AP->AC
 | some (.ok v h)=>some (.go ((⟨s.tm,s.df,h⟩:St).put d v))
 | some (.panic v h)=>some (.panic v ⟨s.tm,s.df,h⟩)
 | some (.dfr x)=>some (.go ((⟨s.tm,x::s.df,s.h⟩:St).put d (.tuple [])))
 | none=>none
def zG2(d:LC)(s:St):AL->AC
 | some x=>some (.go ((⟨s.tm,s.df,s.h.push x.o⟩:St).put d x.v))
 | none=>none
def zGR(d:LC)(s:St):LE->AC
 | some v=>some (.go (s.put d v))
 | none=>none
def zk2(C:zce)(caught:LH)(o:zbP)(s:St)(vs:LK):AC :=
 match o.kind.cls with
 | 0=>zGR o.dst s (pas o.kind vs s.h)
 | 1=>zG2 o.dst s (lay o.kind vs s.h.next)
 | _=>zrb o.dst s (act C caught o.kind vs s.h)
def zhc(C:zce)(caught:LH)(o:zbP)(s:St):AC :=
 match zgg s.tm o.guard with
 | none=>none
 | some false=>some (.go (s.put o.dst (.tuple [])))
 | some true=>match zHX s.tm o.args with
  | none=>none
  | some vs=>zk2 C caught o s vs
def zf1(C:zce)(caught:LH):LS->St->AC
 | [],s=>some (.go s)
 | o::l,s=>match zhc C caught o s with
  | some (.go s')=>zf1 C caught l s'
  | r=>r
def zok:Nat->Nat->LA->LA->Bool
 | _,0,_,_=>true
 | i,n+1,a,b=>match a.get i,b.get i with
  | some x,some y=>bif TV.beq 4 x y then zok (i+1) n a b else false
  | _,_=>false
def zru(a b:TO):Bool :=
 match a,b with
 | .row e G M n c,.row e' G' M' n' c'=>bif Nat.beq e e' then bif Nat.beq G G' then bif Nat.beq M M' then bif Nat.beq n n' then zok 0 n c c' else false else false else false else false
 | .map [] c,.map [] c'=>Nat.beq c c'
 | _,_=>false
def zfE:TV->LC
 | .ptr b _ _ _ | .sl b _ _ _ _ _ | .map b=>some b
 | _=>none
def zhV(nm:LA)(d:LC)(v:TV):Option (LA):=match d with
 | none=>some nm
 | some d=>match nm.get d with
  | none=>some (nm.set d (some v))
  | some _=>none
structure DS where
 nm:LA
 df:AT
 h:TH
abbrev AD:=Option DS
def dput(df:AT)(h:TH):Option (LA)->AD
 | some nm=>some ⟨nm,df,h⟩
 | none=>none
def zt8(h:TH)(k:zaf)(vs:LK)(u:TV):Bool:=match pas k vs h with
 | some v=>TV.beq 4 v u
 | none=>false
def zt3(h:TH)(k:zaf)(vs:LK)(u:TV):Bool:=match zfE u with
 | none=>false
 | some b=>match lay k vs b with
  | some x=>(match h.get b with
   | some y=>bif TV.beq 4 x.v u then zru x.o y else false
   | none=>false)
  | none=>false
def zt6(h:TH)(k:zaf)(vs:LK):LE->Bool
 | some u=>(match k.cls with
  | 0=>zt8 h k vs u
  | 1=>zt3 h k vs u
  | _=>false)
 | none=>false
def zuc(tm:LA)(s:DS)(o:zbP):Bool:=match o.dst with
 | none=>false
 | some d=>match zeG tm s.nm o.args with
  | some vs=>zt6 s.h o.kind vs (s.nm.get d)
  | none=>false
def ziT(tm:LA)(s:DS)(o:zbP):Bool:=match zfR tm s.nm o.guard with
 | none=>false
 | some false=>true
 | some true=>zuc tm s o
def ziG(tm:LA)(s:DS):LS->Bool
 | []=>true
 | o::l=>bif ziT tm s o then ziG tm s l else false
def zDV(s:DS)(d:LC):LE->AD
 | some v=>dput s.df s.h (zhV s.nm d v)
 | none=>none
def zCK(s:DS)(d:LC):AL->AD
 | some x=>dput s.df (s.h.push x.o) (zhV s.nm d x.v)
 | none=>none
def zvd(tm:LA)(o:zbP)(s:DS):AD:=match zeG tm s.nm o.args with
 | none=>none
 | some vs=>match o.kind.cls with
  | 0=>zDV s o.dst (pas o.kind vs s.h)
  | 1=>zCK s o.dst (lay o.kind vs s.h.next)
  | _=>none
def znI(tm:LA)(o:zbP)(s:DS):AD:=match zfR tm s.nm o.guard with
 | none=>none
 | some false=>dput s.df s.h (zhV s.nm o.dst (.tuple []))
 | some true=>zvd tm o s
def zkH(tm:LA):LS->DS->AD
 | [],s=>some s
 | o::l,s=>match znI tm o s with
  | some s=>zkH tm l s
  | none=>none
inductive DR where
 | go (s:DS)
 | panic (v:TV) (df:AT) (h:TH)
abbrev AH:=Option DR
def dgo:AD->AH
 | some s=>some (.go s)
 | none=>none
def zmJ(d:LC)(s:DS):AP->AH
 | some (.ok v h)=>dgo (dput s.df h (zhV s.nm d v))
 | some (.panic v h)=>some (.panic v s.df h)
 | some (.dfr x)=>dgo (dput (x::s.df) s.h (zhV s.nm d (.tuple [])))
 | none=>none
def znA(C:zce)(caught:LH)(tm:LA)(o:zbP)(s:DS):AH:=match zfR tm s.nm o.guard with
 | none=>none
 | some false=>dgo (dput s.df s.h (zhV s.nm o.dst (.tuple [])))
 | some true=>match zeG tm s.nm o.args with
  | none=>none
  | some vs=>zmJ o.dst s (act C caught o.kind vs s.h)
def zd5(C:zce)(caught:LH)(tm:LA):AI->DS->AH
 | [],s=>some (.go s)
 | g::l,s=>bif ziG tm s g.chk then(match zkH tm g.exe s with
  | some s=>match g.act with
   | none=>zd5 C caught tm l s
   | some o=>match znA C caught tm o s with
    | some (.go s)=>zd5 C caught tm l s
    | r=>r
  | none=>none)else none
def zl2(nm:LA):LN->LA->LA
 | [],tm=>tm
 | d::l,tm=>zl2 nm l (tm.set d (nm.get d))
def zio:LN->LA->LA
 | [],tm=>tm
 | d::l,tm=>zio l (tm.set d none)
def zkj(f:St->Option (TX×St)):Nat->St->Option (TX×St)
 | 0,_=>none
 | n+1,s=>match f s with
  | some (.norm,s')=>zkj f n s'
  | r=>r
def zqx(dsts:LA->LA):AC->Option (TX×St)
 | some (.go s)=>some (.norm,s)
 | some (.panic v s)=>some (.panic v,{ s with tm:=dsts s.tm })
 | none=>none
def zne(ds:LN)(tm:LA):AH->Option (TX×St)
 | some (.go s)=>some (.norm,⟨zl2 s.nm ds tm,s.df,s.h⟩)
 | some (.panic v df h)=>some (.panic v,⟨zio ds tm,df,h⟩)
 | none=>none
def zfe:LS->LA->LA
 | [],tm=>tm
 | o::l,tm=>zfe l (match o.dst with|some d=>tm.set d none|none=>tm)
structure zEv where
 h:TH
 df:AT
 d:Nat
 l:Nat
def zEE:TO->LC
 | .loop _ _ _ _ _ _ d=>some d
 | _=>none
def zno(rnd:LC)(s:St):Option zEv:=match rnd with
 | none=>some ⟨s.h.push (.dfr false),.mark s.h.next::s.df,s.h.next,s.h.next+1⟩
 | some l0=>match s.h.get l0 with
  | some o=>(match zEE o with
   | some d=>some ⟨s.h,s.df,d,s.h.next⟩
   | none=>none)
  | none=>none
def zEK(h:TH)(l:Nat)(tm:LA)(df:AT):TO->Option (TX×St)
 | .loop st pe tm' ps aS bo d=>(match st with
  | .busy=>none
  | _=>some (pe,⟨tm,df,h.set l (.loop .exhausted pe tm' ps aS bo d)⟩))
 | _=>none
def zul(l:Nat)(tm:LA)(df:AT):Option (TE×TH)->Option (TX×St)
 | some (.ret _,h)=>(match h.get l with
  | some o=>zEK h l tm df o
  | none=>none)
 | _=>none
def zpH(C:zce)(rnd:LC)(g:Nat)(cap:LK)(params:LN)(assign body:zbS)(s:St):Option (TX×St) :=
 match zno rnd s with
 | none=>none
 | some x=>zul x.l s.tm x.df (C.fn g (.yield x.l::cap) (x.h.push (.loop .ready .norm s.tm params assign body x.d)))
def zbX(C:zce)(caught:LH)(N:Nat)(rnd:LC):zbS->St->Option (TX×St)
 | .skip,s=>some (.norm,s)
 | .region ops,s=>zqx (zfe ops) (zf1 C caught ops s)
 | .drawn gs ds,s=>zne ds s.tm (zd5 C caught s.tm gs ⟨.nil,s.df,s.h⟩)
 | .seq a b,s=>match zbX C caught N rnd a s with
  | some (.norm,s')=>zbX C caught N rnd b s'
  | r=>r
 | .cond c a b,s=>match zgG s.tm c with
  | some (.bool true)=>zbX C caught N rnd a s
  | some (.bool false)=>zbX C caught N rnd b s
  | _=>none
 | .block id b,s=>match zbX C caught N rnd b s with
  | some (.exit j,s')=>bif Nat.beq j id then some (.norm,s')else some (.exit j,s')
  | r=>r
 | .loop b,s=>zkj (zbX C caught N rnd b) N s
 | .exit id,s=>some (.exit id,s)
 | .goto l,s=>some (.goto l,s)
 | .ret,s=>some (.ret,s)
 | .scope b l rest,s=>match zbX C caught N rnd b s with
  | some (.goto j,s')=>bif Nat.beq j l then(match zbX C caught N rnd rest s' with
   | some (.goto _,_)=>none
   | r=>r)else none
  | r=>r
 | .scope0 b,s=>match zbX C caught N rnd b s with
  | some (.goto _,_)=>none
  | r=>r
 | .rangef f params assign body,s =>
  match zgG s.tm f with
  | some (.fn g cap)=>zpH C rnd g cap params assign body s
  | _=>none
inductive zpp where
 | tmp (t:Nat)
 | cell (t:Nat) (agg:Bool) (n:Nat)
structure zd where
 body:zbS
 res:List zpp
 N:Nat
abbrev AJ:=Tr zd
structure Env where
 funcs:AJ
 spec:Nat->Option (LK->TH->Option (TE×TH))
 caught:LH
 errno:Nat
 N:Nat
def zjW(tm:LA)(h:TH):List zpp->Option (LK)
 | []=>some []
 | r::l=>match(match r with
   | .tmp t=>tm.get t
   | .cell t agg n=>match tm.get t with
    | some p=>pas (.load agg n) [p] h
    | none=>none)with
  | none=>none
  | some v=>match zjW tm h l with
   | none=>none
   | some vs=>some (v::vs)
def tup:LK->TV
 | [v]=>v
 | l=>.tuple l
inductive TM where
 | returning
 | panicking (v:TV)
def zeb(E:Env)(C:zce):AT->TM->TH->Option (TM×TH)
 | [],m,h=>some (m,h)
 | .mark b::l,m,h=>match h.get b with
  | some (.dfr false)=>zeb E C l m (h.set b (.dfr true))
  | _=>none
 | .caught p c::l,m,h=>match m with
  | .returning=>zeb E C l m h
  | .panicking (.iface t (.int .i64 n))=>bif Nat.beq t E.errno then(match c with
   | .fn g cap=>match C.fn g cap h with
    | some (.ret (.tuple []),h)=>match p with
     | .ptr b g 0 _=>match zfs h b g 0 [.int .i64 n]with
      | some h=>zeb E C l .returning h
      | none=>none
     | _=>none
    | _=>none
   | _=>none)else none
  | _=>none
def zkh(E:Env)(F:zd)(tm:LA):Option (TM×TH)->Option (TE×TH)
 | some (.returning,h)=>(match zjW tm h F.res with
  | some vs=>some (.ret (tup vs),h)
  | none=>none)
 | some (.panicking v,h)=>some (.panic v,h)
 | none=>none
def zCL(E:Env)(C:zce)(F:zd):Option (TX×St)->Option (TE×TH)
 | some (x,s)=>(match x with
  | .norm=>zkh E F s.tm (zeb E C s.df .returning s.h)
  | .ret=>zkh E F s.tm (zeb E C s.df .returning s.h)
  | .panic v=>zkh E F s.tm (zeb E C s.df (.panicking v) s.h)
  | _=>none)
 | none=>none
def zbm(E:Env)(C:zce)(f:Nat)(args:LK)(h:TH):Option (TE×TH) :=
 match E.funcs.get f with
 | some F=>bif Nat.ble args.length F.N then zCL E C F (zbX C E.caught E.N none F.body ⟨Tr.putL .nil 0 args,[],h⟩)else none
 | none=>match E.spec f with
  | some g=>g args h
  | none=>none
def zjq:LN->LK->LA->LA
 | p::ps,v::vs,t=>zjq ps vs (t.set p (some v))
 | _,_,t=>t
def zyk(x:TX)(h:TH)(l:Nat):TO->Option (Bool×TH)
 | .loop _ _ tm ps aS bo d=>(match x with
  | .norm=>some (true,h.set l (.loop .ready .norm tm ps aS bo d))
  | .panic _=>none
  | x=>some (false,h.set l (.loop .done x tm ps aS bo d)))
 | _=>none
def zmw(l:Nat):Option (TX×St)->Option (Bool×TH)
 | some (x,s)=>(match s.df with
  | []=>(match s.h.get l with
   | some o=>zyk x s.h l o
   | none=>none)
  | _=>none)
 | none=>none
def zu1(E:Env)(C:zce)(l:Nat)(bo:zbS)(s:St):TO->Option (Bool×TH)
 | .loop st pe tm ps aS bo' d=>(match st with
  | .ready=>zmw l (zbX C .nil E.N (some l) bo ⟨s.tm,s.df,s.h.set l (.loop .busy pe tm ps aS bo' d)⟩)
  | _=>none)
 | _=>none
def zCC(E:Env)(C:zce)(l:Nat)(bo:zbS):Option (TX×St)->Option (Bool×TH)
 | some (x,s)=>(match x with
  | .norm=>(match s.h.get l with
   | some o=>zu1 E C l bo s o
   | none=>none)
  | _=>none)
 | none=>none
def zuz(E:Env)(C:zce)(l:Nat)(args:LK)(h:TH):TO->Option (Bool×TH)
 | .loop _ _ tm ps aS bo _=>bif Nat.beq ps.length args.length then zCC E C l bo (zbX C .nil E.N (some l) aS ⟨zjq ps args tm,[],h⟩)else none
 | _=>none
def zrv(E:Env)(C:zce)(l:Nat)(args:LK)(h:TH):Option (Bool×TH) :=
 match h.get l with
 | some o=>zuz E C l args h o
 | none=>none
def zdX(E:Env):Nat->zce
 | 0=>⟨fun _ _ _=>none,fun _ _ _=>none⟩
 | d+1=>⟨zbm E (zdX E d),zrv E (zdX E d)⟩
end
end Tw
namespace Tw
def zl8:Value->LE
 | .bool b=>some (.bool b)
 | .int k n=>some (.int k n)
 | .string s=>some (.str (s.data.toList.map (·.toNat)))
 | .pointer none=>some .nilptr
 | .slice none 0 0=>some .nilsl
 | .map none=>some .nilmap
 | .nilFunc=>some .nilfn
 | .nilIface=>some .niliface
 | _=>none
def zd2{α β:Type}(f:α->Option β):List α->Option (List β)
 | []=>some []
 | a::l=>match f a with
  | none=>none
  | some b=>match zd2 f l with
   | none=>none
   | some bs=>some (b::bs)
def zqg:Value->LE
 | .agg cs=>match zd2 zl8 cs.toList with
  | some l=>some (.agg l)
  | none=>none
 | .tuple cs=>match zd2 zl8 cs.toList with
  | some l=>some (.tuple l)
  | none=>none
 | .iface t v=>match zl8 v with
  | some v=>some (.iface t v)
  | none=>none
 | v=>zl8 v
def opT:Operand->Option TOp
 | .tmp t=>some (.tmp t)
 | .const v=>(zqg v).map .const
 | .func f=>some (.fn f)
 | .global _=>none
section
variable (P:Program)
def zem(t:TypeId):AN:=match P.underlying t with
 | some (.struct _)|some (.array ..)=>some true
 | some _=>some false
 | none=>none
def zcv(t:TypeId):LC:=match P.info? t with
 | some i=>if i.size=0 then none else some i.size
 | none=>none
def zj4(t:TypeId):LC:=(P.info? t).map (·.bytes)
def zew(t:TypeId):LE:=match P.info? t with
 | some i=>match i.zero with
  | some z=>zqg z
  | none=>none
 | none=>none
def zlr(t:TypeId)(f:Nat):Option (Nat×Bool×Nat):=match P.underlying t with
 | some (.struct fs)=>match fs[f]? with
  | some x=>match zem P x.type,zcv P x.type with
   | some a,some n=>some (x.offset,a,n)
   | _,_=>none
  | none=>none
 | _=>none
def zn9(t:TypeId):Option TypeId:=match P.underlying t with
 | some (.slice e)=>some e
 | _=>none
def znB(f:TypeId->Option (LN)):List Field->Nat->Option (LN)
 | [],_=>some []
 | x :: l, n => if x.name = "_" then none else if x.offset ≠ n then none else match f x.type, zcv P x.type with
  | some ks,some z=>if ks.length=z then(match znB f l (n+z)with
   | some ms=>some (ks++ms)
   | none=>none)else none
  | _,_=>none
def znd(ks:LN):Nat->LN
 | 0=>[]
 | n+1=>ks++znd ks n
def zf5:Nat->TypeId->Option (LN)
 | 0,_=>none
 | d+1,t=>match P.underlying t with
  | some (.int _)=>some [1]
  | some .bool=>some [2]
  | some .string=>some [3]
  | some (.struct fs)=>if P.stoodInHeld t then none else znB P (zf5 d) fs.toList 0
  | some (.array n e)=>match zf5 d e,zcv P e with
   | some ks,some z=>if ks.length=z then some (znd ks n)else none
   | _,_=>none
  | _=>none
def zqn(t:TypeId):Option (LN):=match P.underlying t with
 | some (.struct _)|some (.array ..)=>if P.eqGuardType P.depth t then none else zf5 P 8 t
 | _=>none
def zFF(fs:List Field):Option (List (Nat×Nat)):=fs.mapM fun f=>(P.info? f.type).map fun i=>(f.offset,i.size)
def zse(pl:List (Nat×Nat))(p:Nat×Operand):Option (Nat×Nat):=match pl[p.1]? with
 | some q=>if q.2=0 then none else some q
 | none=>none
def zsb(t:TypeId)(parts:List (Nat×Operand)):Option (List (Nat×Nat)):=match P.underlying t with
 | some (.struct fs)=>match zFF P fs.toList with
  | some pl=>zd2 (zse pl) parts
  | none=>none
 | some (.array _ e)=>match zcv P e with
  | some n=>some (parts.map fun p=>(p.1*n,n))
  | none=>none
 | _=>none
def mk(k:zaf)(xs:AA):Option (zaf×LY):=match zd2 opT xs with
 | some l=>some (k,l)
 | none=>none
def zhs:Operand->Bool
 | .const _=>true
 | _=>false
def zus(t:TypeId):Bool:=match P.underlying t with
 | some (.int _)=>true
 | _=>false
def zni(t:TypeId):Bool:=match P.underlying t with
 | some (.int .u8)=>match zcv P t with
  | some 1=>true
  | _=>false
 | _=>false
def opK(o:Op):Option (zaf×LY) :=
 match o with
 | .move x | .assign x=>mk .mov [x]
 | .pick c a b=>mk .pick [c,a,b]
 | .load t a=>match zem P t,zcv P t with
  | some g,some n=>mk (.load g n) [a]
  | _,_=>none
 | .store t a v=>match zcv P t with
  | some n=>mk (.store n) [a,v]
  | none=>none
 | .nilCheck x=>mk .nilchk [x]
 | .binOp op t x y _=>match op,P.underlying t with
  | .eql,some (.int _) | .eql,some .string=>mk (.bin .eql) [x,y]
  | .neq,some (.int _) | .neq,some .string=>mk (.bin .neq) [x,y]
  | .eql,some .bool=>mk (.eqB false) [x,y]
  | .neq,some .bool=>mk (.eqB true) [x,y]
  | .eql,some (.struct _) | .eql,some (.array ..)=>match zqn P t with|some n=>mk (.eqagg false n) [x,y]|none=>none
  | .neq,some (.struct _) | .neq,some (.array ..)=>match zqn P t with|some n=>mk (.eqagg true n) [x,y]|none=>none
  | .eql,some (.pointer _)=>mk (.eqnil false 1) [x,y]
  | .eql,some (.slice _)=>mk (.eqnil false 2) [x,y]
  | .eql,some (.map ..)=>mk (.eqnil false 3) [x,y]
  | .eql,some (.func ..)=>mk (.eqnil false 4) [x,y]
  | .eql,some (.interface _)=>if zhs x||zhs y then mk (.eqnil false 5) [x,y]else none
  | .neq,some (.pointer _)=>mk (.eqnil true 1) [x,y]
  | .neq,some (.slice _)=>mk (.eqnil true 2) [x,y]
  | .neq,some (.map ..)=>mk (.eqnil true 3) [x,y]
  | .neq,some (.func ..)=>mk (.eqnil true 4) [x,y]
  | .neq,some (.interface _)=>if zhs x||zhs y then mk (.eqnil true 5) [x,y]else none
  | .eql,_ | .neq,_=>none
  | op,_=>mk (.bin op) [x,y]
 | .unOp op _ x=>mk (.un op) [x]
 | .convert src dst x=>match P.underlying src,P.underlying dst with
  | some (.int _),some (.int k)=>mk (.conv k) [x]
  | some .string,some .string=>mk .cstr [x]
  | some .string,some (.slice e)=>if zni P e then mk (.tobytes e) [x]else none
  | some (.slice e),some .string=>if zni P e then mk .tostr [x]else none
  | _,_=>none
 | .makeInterface t x=>match P.underlying t with
  | some (.interface _)|none=>none
  | _=>mk (.mkif t) [x]
 | .makeFunc (.func f) first captured=>if first.size=0 then mk (.mkfn f) captured.toList else none
 | .makeMap t r=>match P.underlying t,r with
  | some (.map ..),none=>mk .mkmap []
  | some (.map ..),some x=>mk .mkmap [x]
  | _,_=>none
 | .makeSlice t l c=>match zn9 P t with
  | some e=>match zcv P e,zj4 P e,zew P e with
   | some n,some b,some z=>if z.cells.length=n then mk (.mkslice e n b z.cells) [l,c]else none
   | _,_,_=>none
  | none=>none
 | .slice t x lo hi mx=>match P.underlying t with
  | some (.slice e)=>match zcv P e with
   | some n=>mk (.slice n lo.isSome hi.isSome mx.isSome) ([x]++lo.toList++hi.toList++mx.toList)
   | none=>none
  | some .string=>if mx.isSome then none else mk (.slstr lo.isSome hi.isSome) ([x]++lo.toList++hi.toList)
  | some (.array len e)=>if mx.isSome then none else match zcv P e with
   | some n=>if len<=1000000 then mk (.slarr len n lo.isSome hi.isSome) ([x]++lo.toList++hi.toList)else none
   | none=>none
  | _=>none
 | .fieldAddr t x f=>match zlr P t f with
  | some (o,_,n)=>mk (.faddr o n) [x]
  | none=>none
 | .field t x f=>match zlr P t f with
  | some (o,a,n)=>mk (.fld a o n) [x]
  | none=>none
 | .indexAddr t x i=>match P.underlying t with
  | some (.slice e)=>match zcv P e with
   | some n=>mk (.iaddr n) [x,i]
   | none=>none
  | some (.array len e)=>match zcv P e with
   | some n=>mk (.iaddrA len n) [x,i]
   | none=>none
  | _=>none
 | .index t x i=>match P.underlying t with
  | some .string=>mk .idxstr [x,i]
  | some (.array len e)=>match zem P e,zcv P e with
   | some a,some n=>mk (.idxagg len a n) [x,i]
   | _,_=>none
  | _=>none
 | .lookup t m k ok=>match P.underlying t with
  | some (.map key e)=>match P.underlying key,zew P e with
   | some (.int _),some z=>mk (.look 1 z ok) [m,k]
   | some .string,some z=>mk (.look 2 z ok) [m,k]
   | _,_=>none
  | _=>none
 | .mapUpdate t m k v | .insert t m k v=>match P.underlying t with
  | some (.map key _)=>match P.underlying key with
   | some (.int _)=>mk (.mupd 1) [m,k,v]
   | some .string=>mk (.mupd 2) [m,k,v]
   | _=>none
  | _=>none
 | .mapEntry t m k=>match P.underlying t with
  | some (.map key e)=>match P.underlying key,zew P e with
   | some (.int _),some z=>mk (.ment 1 z) [m,k]
   | some .string,some z=>mk (.ment 2 z) [m,k]
   | _,_=>none
  | _=>none
 | .entryStore _ m s v=>mk .estore [m,s,v]
 | .typeAssert x _ t ok=>match P.underlying t,zew P t with
  | some (.interface _),_|none,_|_,none=>none
  | _,some z=>mk (.tassert t z ok) [x]
 | .extract t i=>mk (.extr i) [t]
 | .alloc e=>match zew P e,zcv P e with
  | some z,some n=>if z.cells.length=n then mk (.alloc e z.cells) []else none
  | _,_=>none
 | .box e v=>match zcv P e with
  | some n=>mk (.box e n) [v]
  | none=>none
 | .build t parts=>match zew P t,zsb P t parts.toList with
  | some (.agg z),some ps=>mk (.build z ps) (parts.toList.map (·.2))
  | _,_=>none
 | .buildSlice t len parts=>match zn9 P t with
  | some e=>match zcv P e,zew P e with
   | some n,some z=>if z.cells.length=n then mk (.bslice e n len z.cells (parts.toList.map fun p=>(p.1*n,n))) (parts.toList.map (·.2))else none
   | _,_=>none
  | none=>none
 | .panic x=>mk .panic [x]
 | .defer { callee:=.value f,args,.. }=>mk .defer (f::args.toList)
 | .call { callee:=.value f,args,.. }=>mk .call (f::args.toList)
 | .call { callee:=.builtin b,args,argTypes }=>match b,argTypes.toList with
  | .append,[t,u]=>match zn9 P t with
   | some e=>match zcv P e,zj4 P e,zew P e with
    | some n,some b,some z=>if z.cells.length=n then if u=t then mk (.append e n b) args.toList else if zus P u then mk (.appz e n b z.cells) args.toList else none else none
    | _,_,_=>none
   | none=>none
  | .copy,[t,_]=>match zn9 P t with
   | some e=>match zcv P e with
    | some n=>mk (.copy n) args.toList
    | none=>none
   | none=>none
  | .len,[t]=>match P.underlying t with
   | some (.slice _)=>mk (.len 1) args.toList
   | some (.map ..)=>mk (.len 2) args.toList
   | some .string=>mk (.len 3) args.toList
   | _=>none
  | .max,_=>if args.size=2 then mk .maxI args.toList else none
  | .min,_=>if args.size=2 then mk .minI args.toList else none
  | .panic,_=>if args.size=1 then mk .panic args.toList else none
  | _,_=>none
 | _=>none
def znS(N:Nat)(ops:AF)(o:Oper):Option zbP:=if(o.dst.all fun d=>decide (d<N))=false then none else match opK P o.op with
 | none=>none
 | some (k,args)=>match o.guard with
  | none=>some ⟨o.dst,k,args,none⟩
  | some (j,b)=>match(ops[j]?).bind (·.dst)with
   | some t=>some ⟨o.dst,k,args,some (.tmp t,b)⟩
   | none=>none
end
def zdH:AM->LN->LN
 | [],acc=>acc.reverse
 | o::l,acc =>
  let m:=o.after.toList.foldl (fun s e=>if Region.binds .any e then Nat.lor (Nat.lor s (2 ^ e.on)) (acc.reverse.getD e.on 0)else s) 0
  zdH l (m::acc)
structure Item where
 i:Nat
 o:zbP
 m:Nat
abbrev LO:=List Item
def zh4:LS->LN->Nat->LO
 | o::l,m::ms,i=>⟨i,o,m⟩::zh4 l ms (i+1)
 | _,_,_=>[]
def znf:LO->Bool
 | a::b::l=>b.m.testBit a.i&&znf (b::l)
 | _=>true
def zhi(acts:LO)(x:Item):Nat:=(acts.filter fun a=>x.m.testBit a.i).length
def zjX:TOp->Bool
 | .new _=>false
 | _=>true
def ztY:TOp->LC
 | .tmp t=>some t
 | _=>none
def zmH(o:zbP):LN:=(o.args++(match o.guard with|some (x,_)=>[x]|none=>[])).filterMap ztY
def znY(all:LO):Bool :=
  all.all fun x =>
    (match x.o.dst with
     | none=>x.o.kind.cls==2
     | some d=>all.all fun y=>y.i==x.i || !(y.o.dst==some d)) &&
    (x.o.args.all zjX&&(match x.o.guard with|some (p,_)=>zjX p|none=>true)) &&
    (zmH x.o).all fun t=>all.all fun y=>!(y.o.dst==some t)||x.m.testBit y.i||y.m.testBit x.i
def zo8(all:LO)(x:Item):TOp->TOp
 | .tmp t=>if all.any fun y=>y.o.dst==some t&&x.m.testBit y.i then .new t else .tmp t
 | a=>a
def zec(all:LO)(x:Item):zbP:=⟨x.o.dst,x.o.kind,x.o.args.map (zo8 all x),x.o.guard.map fun p=>(zo8 all x p.1,p.2)⟩
def zCV(all acts:LO)(s:Nat):LS:=(all.filter fun x=>x.o.kind.cls != 2&&decide (zhi acts x<s)&&(acts.take s).all fun a=>!a.m.testBit x.i).map (zec all)
def zuI(all acts:LO)(s:Nat):LS:=(all.filter fun x=>x.o.kind.cls != 2&&zhi acts x==s).map (zec all)
def zf8(all acts:LO):Nat->LO->AI
 | s,[]=>[⟨zCV all acts s,zuI all acts s,none⟩]
 | s,a::l=>⟨zCV all acts s,zuI all acts s,some (zec all a)⟩::zf8 all acts (s+1) l
def zoo:AM->Nat->Bool
 | [],_=>true
 | o::l,i=>(o.after.all fun e=>!Region.binds .any e||decide (e.on<i))&&zoo l (i+1)
def zqS(ops:AM)(os:LS):Option zbS :=
 let all:=zh4 os (zdH ops []) 0
 let acts:=all.filter fun x=>x.o.kind.cls==2
 if zoo ops 0&&znf acts&&znY all then some (.drawn (zf8 all acts 0 acts) (all.filterMap fun x=>x.o.dst))else none
def zv6:Code->LC
 | .label l=>some l
 | .seq a b=>match zv6 a with
  | some l=>some l
  | none=>zv6 b
 | _=>none
section
variable (P:Program)
def zc7(N:Nat):Nat->Code->Option zbS
 | 0,_=>none
 | n+1,c=>match c with
  | .skip | .label _=>some .skip
  | .region _ ops draw=>match zd2 (znS P N ops) ops.toList with
   | none=>none
   | some os=>if draw then zqS ops.toList os else some (.region os)
  | .seq a b=>match zc7 N n a,zc7 N n b with
   | some a,some b=>some (.seq a b)
   | _,_=>none
  | .cond c a b=>match opT c,zc7 N n a,zc7 N n b with
   | some c,some a,some b=>some (.cond c a b)
   | _,_,_=>none
  | .block id b=>match zc7 N n b with
   | some b=>some (.block id b)
   | none=>none
  | .loop b=>match zc7 N n b with
   | some b=>some (.loop b)
   | none=>none
  | .rangeFunc f ps a b=>if(ps.toList.all fun d=>decide (d<N))=false then none else match opT f,zc7 N n a,zc7 N n b with
   | some f,some a,some b=>some (.rangef f ps.toList a b)
   | _,_,_=>none
  | .exit id=>some (.exit id)
  | .goto l=>some (.goto l)
  | .ret=>some .ret
  | .scope b=>match zv6 b with
   | none=>match zc7 N n b with
    | some b=>some (.scope0 b)
    | none=>none
   | some l=>match findLabel b l with
    | none=>none
    | some r=>match zc7 N n b,zc7 N n r with
     | some b,some r=>some (.scope b l r)
     | _,_=>none
  | .refuse _=>none
def zjJ:ResultVar->Option zpp
 | .tmp t=>some (.tmp t)
 | .cell t ty=>match zem P ty,zcv P ty with
  | some a,some n=>some (.cell t a n)
  | _,_=>none
def zlz(F:Func):Option zd:=match F.body with
 | none=>none
 | some c=>match zc7 P F.ntmps 1000 c,zd2 (zjJ P) F.results.toList with
  | some c,some r=>some ⟨c,r,F.ntmps⟩
  | _,_=>none
end
open Go.RowKit
section tries
variable {α:Type}
theorem Tr.get_setN(x:Option α):∀(d:Nat) (t:Tr α) (n m:Nat),n<d->(Tr.setN x d t n).get m=if m=n then x else t.get m
 | 0,_,_,_,h=>absurd h (Nat.not_lt_zero _)
 | d+1,.nil,n,m,h=>by
  have ih1:=Tr.get_setN x d .nil (n/2) (m/2);have ih2:=Tr.get_setN x d .nil (n/2-1) (m/2-1);simp only[Tr.setN_none,Tr.get_none,zFG9,zGQ9]at ih1 ih2⊢;have h2:(Tr.node .nil x .nil:Tr α).get m=if m=0 then x else none:=by simp only[Tr.get_node,Tr.get_none,zFG9,zGQ9];grind
  have h3:∀t:Tr α,(Tr.node t none .nil).get m=if m=0 then none else if m%2=1 then t.get (m/2)else none:=fun t=>by simp only[Tr.get_node,Tr.get_none,zFG9,zGQ9]
  have h4:∀t:Tr α,(Tr.node .nil none t).get m=if m=0 then none else if m%2=1 then none else t.get (m/2-1):=fun t=>by simp only[Tr.get_node,Tr.get_none,zFG9,zGQ9]
  grind
 | d+1,.node l v r,n,m,h=>by
  have ih1:=Tr.get_setN x d l (n/2) (m/2);have ih2:=Tr.get_setN x d r (n/2-1) (m/2-1);simp only[Tr.setN_node,zFG9,zGQ9]at ih1 ih2⊢;have h2:∀(l r:Tr α) (v:Option α),(Tr.node l v r).get m=if m=0 then v else if m%2=1 then l.get (m/2)else r.get (m/2-1):=fun l r v=>by simp only[Tr.get_node,zFG9,zGQ9]
  grind
theorem Tr.get_set(t:Tr α)(n:Nat)(x:Option α)(m:Nat):(t.set n x).get m=if m=n then x else t.get m:=Tr.get_setN x (n+1) t n m (zCS9 _)
theorem Tr.get_nil(n:Nat):(Tr.nil:Tr α).get n=none:=rfl
theorem Tr.get_putL:∀(l:List α) (t:Tr α) (n m:Nat),(Tr.putL t n l).get m=if n<=m/\m<n+l.length then l[m-n]? else t.get m
 | [],t,n,m=>by simp only[Tr.putL,zAN9];grind
 | x::l,t,n,m=>by
  rw[Tr.putL,Tr.get_putL l _ (n+1) m,Tr.get_set]
  grind
theorem Tr.getL_some:∀{n i:Nat} {t:Tr α} {l:List α},Tr.getL t i n=some l->l.length=n/\∀j,j<n->l[j]?=t.get (i+j)
 | 0,i,t,l,h=>by simp[Tr.getL]at h;grind
 | n+1,i,t,l,h=>by
  unfold Tr.getL at h
  split at h
  .cases h
  .rename_i x hx
   split at h
   .cases h
   .rename_i l' hl'
    cases h
    obtain⟨h1,h2⟩:=Tr.getL_some hl'
    grind
end tries
variable {a b:Nat}
theorem zks(h:a<b):Nat.blt a b=true:=zCT9.mpr h
theorem zED(h:¬a<b):Nat.blt a b=false:=by
 cases hb:Nat.blt a b
 .rfl
 .exact absurd (zCT9.mp hb) h
theorem TH.gP(h:TH)(o:TO)(b:Nat):(h.push o).get b=if b=h.next then some o else h.get b:=by
 unfold TH.get TH.push;dsimp only;rw[Tr.get_set]
 by_cases e:b=h.next
 .subst e;rw[if_pos rfl,if_pos rfl,zks (zCS9 _)];rfl
 .rw[if_neg e,if_neg e]
  by_cases hlt:b<h.next
  .rw[zks hlt,zks (Nat.lt_succ_of_lt hlt)]
  .rw[zED hlt,zED zo]
theorem TH.get_set(h:TH)(b:Nat)(o:TO)(c:Nat)(hb:b<h.next):(h.set b o).get c=if c=b then some o else h.get c:=by
 unfold TH.get TH.set;dsimp only;rw[Tr.get_set]
 by_cases e:c=b
 .subst e;rw[if_pos rfl,if_pos rfl,zks hb];rfl
 grind
theorem TH.get_lt{h:TH}{o:TO}(hg:h.get b=some o):b<h.next:=by
 unfold TH.get at hg
 cases hb:Nat.blt b h.next
 all_goals simp_all
theorem TH.nP(h:TH)(o:TO):(h.push o).next=h.next+1:=rfl
theorem TH.next_set(h:TH)(b:Nat)(o:TO):(h.set b o).next=h.next:=rfl
structure Loc where
 r:Nat
 L:Nat
 S:Nat
abbrev Rho:=Nat->Nat->Option Loc
def TV.one:TV->Bool
 | .agg _ | .tuple _=>false
 | _=>true
inductive VR(ρ:Rho):TV->Value->Prop
 | bool (b:Bool):VR ρ (.bool b) (.bool b)
 | int (k:IntKind) (n:Int):VR ρ (.int k n) (.int k n)
 | str (s:ByteArray):VR ρ (.str (s.data.toList.map (·.toNat))) (.string s)
 | nilptr:VR ρ .nilptr (.pointer none)
 | ptr {b g o e:Nat} {loc:Loc} (h:ρ b g=some loc) (hc:o+e<=loc.L):VR ρ (.ptr b g o e) (.pointer (some ⟨loc.r,o,none⟩))
 | nilsl:VR ρ .nilsl (.slice none 0 0)
 | sl {b g o n q z o' c:Nat} {loc:Loc} (h:ρ b g=some loc) (hn:n<=q/2) (hq:q/2<=c) (hc:o+q/2*z<=loc.L) (ho:o'=o\/n=0/\c=0/\o≠0) (hs:q%2=0->o+c*z=loc.S) (hm:c<=maxLen) :
   VR ρ (.sl b g o n q z) (.slice (some ⟨loc.r,o',none⟩) n c)
 | nilmap:VR ρ .nilmap (.map none)
 | map {b:Nat} {loc:Loc} (h:ρ b 0=some loc):VR ρ (.map b) (.map (some loc.r))
 | fn {f:Nat} {l:LK} {cs:LM} (hl:l.length=cs.length) (h:∀(i:Nat) (x:TV) (y:Value),l[i]?=some x->cs[i]?=some y->VR ρ x y):VR ρ (.fn f l) (.func (.func f) #[] cs.toArray)
 | yield {l:Nat} {loc:Loc} (h:ρ l 0=some loc):VR ρ (.yield l) (.func (.yield loc.r) #[] #[])
 | nilfn:VR ρ .nilfn .nilFunc
 | iface {t:Nat} {v:TV} {v':Value} (h:VR ρ v v'):VR ρ (.iface t v) (.iface t v')
 | niliface:VR ρ .niliface .nilIface
 | agg {l:LK} {cs:LM} (hl:l.length=cs.length) (h1:∀x∈l,x.one=true) (h:∀(i:Nat) (x:TV) (y:Value),l[i]?=some x->cs[i]?=some y->VR ρ x y):VR ρ (.agg l) (.agg cs.toArray)
 | tuple {l:LK} {cs:LM} (hl:l.length=cs.length) (h:∀(i:Nat) (x:TV) (y:Value),l[i]?=some x->cs[i]?=some y->VR ρ x y):VR ρ (.tuple l) (.tuple cs.toArray)
def VL(ρ:Rho)(l:LK)(cs:LM):Prop:=l.length=cs.length/\∀(i:Nat) (x:TV) (y:Value),l[i]?=some x->cs[i]?=some y->VR ρ x y
variable {cs:LM}{l:LK}{x:TV}{y:Value}{ρ:Rho}
theorem VL.nil(ρ:Rho):VL ρ [] []:=⟨rfl,fun i x y h=>by simp at h⟩
theorem VL.cons(h:VR ρ x y)(hl:VL ρ l cs):VL ρ (x::l) (y::cs) :=
 ⟨by simp[hl.1],fun i a b ha hb=>by
  cases i with
  | zero=>simp at ha hb;subst ha;subst hb;exact h
  | succ i=>simp at ha hb;exact hl.2 i a b ha hb⟩
theorem VL.oc(h:VL ρ (x::l) cs):∃y cs',cs=y::cs'/\VR ρ x y/\VL ρ l cs':=by
 cases cs with
 | nil=>have:=h.1;grind
 | cons y cs'=>exact⟨y,cs',rfl,h.2 0 x y rfl rfl,by have:=h.1;grind,fun i a b ha hb=>h.2 (i+1) a b (by grind) (by grind)⟩
theorem VL.oN(h:VL ρ [] cs):cs=[]:=by
 cases cs with
 | nil=>rfl
 | cons y cs'=>have:=h.1;grind
theorem VL.one(h:VR ρ x y):VL ρ [x] [y]:=.cons h (.nil ρ)
theorem VL.app{m:LK}{ds:LM}(h:VL ρ l cs)(k:VL ρ m ds):VL ρ (l++m) (cs++ds):=by
 refine⟨by simp[h.1,k.1],fun i x y hx hy=>?_⟩;rw[zFR9]at hx hy;rw[h.1]at hx
 split at hx
 .rename_i hi;rw[if_pos hi]at hy;exact h.2 i x y hx hy
 .rename_i hi;rw[if_neg hi]at hy;exact k.2 _ x y hx hy
theorem VL.drop(h:VL ρ l cs)(k:Nat):VL ρ (l.drop k) (cs.drop k) :=
 ⟨by simp[h.1],fun i x y hx hy=>h.2 (k+i) x y (by grind) (by grind)⟩
theorem VL.take(h:VL ρ l cs)(k:Nat):VL ρ (l.take k) (cs.take k):=by
 refine⟨by simp[h.1],fun i x y hx hy=>?_⟩;rw[zBU9]at hx hy
 split at hx
 .rename_i hi;rw[if_pos hi]at hy;exact h.2 i x y hx hy
 .cases hx
theorem VL.at(h:VL ρ l cs){i:Nat}(hx:l[i]?=some x):∃y,cs[i]?=some y/\VR ρ x y:=by
 have hi:i<cs.length:=by rw[<- h.1];exact(zAC9.1 hx).1
 exact⟨cs[i],zAA9 hi,h.2 i x _ hx (zAA9 hi)⟩
theorem VR.aggL(h:VL ρ l cs)(h1:∀x∈l,x.one=true):VR ρ (.agg l) (.agg cs.toArray):=.agg h.1 h1 h.2
theorem VR.tL(h:VL ρ l cs):VR ρ (.tuple l) (.tuple cs.toArray):=.tuple h.1 h.2
theorem VR.fnL{f:Nat}(h:VL ρ l cs):VR ρ (.fn f l) (.func (.func f) #[] cs.toArray):=.fn h.1 h.2
theorem VR.undef(ρ:Rho):VR ρ (.tuple []) Go.undef:=VR.tL (VL.nil ρ)
structure Rho.le(n:Nat)(ρ ρ':Rho):Prop where
 more:∀b g loc,ρ b g=some loc->ρ' b g=some loc
 none:∀b,b<n->(∀g,ρ b g=none)->∀g,ρ' b g=none
variable {v:TV}{v':Value}{ρ':Rho}
theorem Rho.le.refl(n:Nat)(ρ:Rho):Rho.le n ρ ρ:=⟨fun _ _ _ h=>h,fun _ _ h=>h⟩
theorem Rho.le.trans{n m:Nat}{ρ'':Rho}(h:Rho.le n ρ ρ')(k:Rho.le m ρ' ρ'')(hnm:n<=m):Rho.le n ρ ρ'' :=
 ⟨fun b g loc hb=>k.more b g loc (h.more b g loc hb),fun b hb hn=>k.none b (zBM9 hb hnm) (h.none b hb hn)⟩
theorem VR.mono(hρ:∀b g loc,ρ b g=some loc->ρ' b g=some loc)(h:VR ρ v v'):VR ρ' v v':=by
 induction h with
 | bool b=>exact .bool b
 | int k n=>exact .int k n
 | str s=>exact .str s
 | nilptr=>exact .nilptr
 | ptr h hc=>exact .ptr (hρ _ _ _ h) hc
 | nilsl=>exact .nilsl
 | sl h hn hq hc ho hs hm=>exact .sl (hρ _ _ _ h) hn hq hc ho hs hm
 | nilmap=>exact .nilmap
 | map h=>exact .map (hρ _ _ _ h)
 | fn hl _ ih=>exact .fn hl ih
 | yield h=>exact .yield (hρ _ _ _ h)
 | nilfn=>exact .nilfn
 | iface _ ih=>exact .iface ih
 | niliface=>exact .niliface
 | agg hl h1 _ ih=>exact .agg hl h1 ih
 | tuple hl _ ih=>exact .tuple hl ih
theorem VL.mono(hρ:∀b g loc,ρ b g=some loc->ρ' b g=some loc){l:LK}{cs:LM}(h:VL ρ l cs):VL ρ' l cs:=⟨h.1,fun i x y hx hy=>(h.2 i x y hx hy).mono hρ⟩
theorem VR.oneCell(h:VR ρ v v')(h1:v.one=true):v'.oneCell'=true:=by
 cases h<;>first|rfl|(simp[TV.one]at h1)
theorem VR.cells(h:VR ρ v v')(hn:v.cells ≠ []\/∃l,v=.agg l):VL ρ v.cells v'.cells.toList/\(∀x∈v.cells,x.one=true):=by
 cases h with
 | agg hl h1 h=>exact⟨⟨by simpa[TV.cells,Value.cells]using hl,by simpa[TV.cells,Value.cells]using h⟩,h1⟩
 | tuple hl h=>rcases hn with hn|⟨l,hn⟩<;>simp[TV.cells]at hn
 | bool b=>exact⟨VL.one (.bool b),by simp[TV.cells,TV.one]⟩
 | int k n=>exact⟨VL.one (.int k n),by simp[TV.cells,TV.one]⟩
 | str s=>exact⟨VL.one (.str s),by simp[TV.cells,TV.one]⟩
 | nilptr=>exact⟨VL.one .nilptr,by simp[TV.cells,TV.one]⟩
 | ptr h hc=>exact⟨VL.one (.ptr h hc),by simp[TV.cells,TV.one]⟩
 | nilsl=>exact⟨VL.one .nilsl,by simp[TV.cells,TV.one]⟩
 | sl h hn' hq hc ho hs hm=>exact⟨VL.one (.sl h hn' hq hc ho hs hm),by simp[TV.cells,TV.one]⟩
 | nilmap=>exact⟨VL.one .nilmap,by simp[TV.cells,TV.one]⟩
 | map h=>exact⟨VL.one (.map h),by simp[TV.cells,TV.one]⟩
 | fn hl h=>exact⟨VL.one (.fn hl h),by simp[TV.cells,TV.one]⟩
 | yield h=>exact⟨VL.one (.yield h),by simp[TV.cells,TV.one]⟩
 | nilfn=>exact⟨VL.one .nilfn,by simp[TV.cells,TV.one]⟩
 | iface h=>exact⟨VL.one (.iface h),by simp[TV.cells,TV.one]⟩
 | niliface=>exact⟨VL.one .niliface,by simp[TV.cells,TV.one]⟩
def EsR(ρ:Rho)(es:LZ)(es':List MapEntry):Prop:=es.length=es'.length/\∀(i:Nat) (e:zdv) (e':MapEntry),es[i]?=some e->es'[i]?=some e'->VR ρ e.k e'.key/\VR ρ e.v e'.val/\e'.born=e.n
def PeR:TX->Option Code->Prop
 | .norm,c=>c=none
 | .exit id,c=>c=some (.exit id)
 | .goto l,c=>c=some (.goto l)
 | .ret,c=>c=some .ret
 | .panic _,_=>False
def TmR(ρ:Rho)(tm:LA)(tmps:LW):Prop:=∀t v,tm.get t=some v->∃v',tmps[t]?=some v'/\VR ρ v v'
def zsp(P:Program)(e:TypeId)(fz:Nat×Nat)(n:Nat):Prop:=fz=(0,0)\/zni P e=true/\n<=fz.1
def zif(P:Program)(w:World)(r:Nat)(cur:LW)(e:TypeId):Prop:=∃fz,w.heap[r]?=some (.cells cur e fz)/\zsp P e fz cur.size
variable {P:Program}{cur:LW}{e:TypeId}{r:Nat}{w:World}
theorem zif.of(h:w.heap[r]?=some (.cells cur e (0,0))):zif P w r cur e:=⟨_,h,.inl rfl⟩
theorem zif.move{w':World}(h:zif P w r cur e)(k:w'.heap[r]?=w.heap[r]?):zif P w' r cur e:=let ⟨fz,a,b⟩:=h;⟨fz,k.trans a,b⟩
theorem zif.plain(h:zif P w r cur e)(he:zni P e=false):w.heap[r]?=some (.cells cur e (0,0)):=by
 obtain⟨fz,a,rfl|⟨b,_⟩⟩:=h
 .exact a
 .rw[he]at b;cases b
def OR(P:Program)(ρ:Rho)(b:Nat)(w:World):TO->Prop
 | .row e G M len cells=>M<=G/\(∀g loc,ρ b g=some loc->g<=G)/\∀g,M<=g->g<=G->∃loc cur,ρ b g=some loc/\zif P w loc.r cur e/\(g=G->cur.size=loc.S)/\loc.L<=len/\loc.L<=cur.size/\(g=G->loc.L=len) /\
   ∀i,i<loc.L->∃x v,cells.get i=some x/\cur[i]?=some v/\x.one=true/\VR ρ x v
 | .map es ck=>∃loc es',ρ b 0=some loc/\w.heap[loc.r]?=some (.map es' ck)/\EsR ρ es es'.toList
 | .dfr shut=>∃loc,ρ b 0=some loc/\w.heap[loc.r]?=some (.deferred (if shut=true then none else some []))
 | .loop st pe tm ps aS bo d=>∃loc rec locd N n m,ρ b 0=some loc/\ρ d 0=some locd/\w.heap[loc.r]?=some (.loop rec)/\rec.state=st/\PeR pe rec.pending/\TmR ρ tm rec.tmps/\N<=rec.tmps.size /\
   rec.params.toList=ps/\(∀p∈ps,p<N)/\zc7 P N n rec.assign=some aS/\zc7 P N m rec.body=some bo/\rec.defers=locd.r
 | .ro cells=>∀g loc,ρ b g=some loc->g=0/\∀i x,cells.get i=some x->∃v,w.cell? ⟨loc.r,i,none⟩=some v/\x.one=true/\VR ρ x v
def RO(h:TH)(b:Nat):Prop:=∃cs,h.get b=some (.ro cs)
structure WR(P:Program)(Z:Nat)(ρ:Rho)(h:TH)(w:World):Prop where
 dom:∀b g loc,ρ b g=some loc->b<h.next/\(Z<=loc.r\/RO h b)/\loc.r<w.heap.size
 obj:∀b g loc,ρ b g=some loc->∃o,h.get b=some o/\OR P ρ b w o
 sep:∀b b' g g' loc loc',ρ b g=some loc->ρ b' g'=some loc'->loc.r=loc'.r->Z<=loc.r->b=b'
variable {Z c g:Nat}{h:TH}{loc:Loc}{w':World}{x:TO}
theorem EsR.mono(hρ:∀b g loc,ρ b g=some loc->ρ' b g=some loc){es es'}(h:EsR ρ es es'):EsR ρ' es es' :=
 ⟨h.1,fun i e e' he he'=>let ⟨a,b,c⟩:=h.2 i e e' he he';⟨a.mono hρ,b.mono hρ,c⟩⟩
theorem TmR.mono(hρ:∀b g loc,ρ b g=some loc->ρ' b g=some loc){tm tmps}(h:TmR ρ tm tmps):TmR ρ' tm tmps :=
 fun t v hv=>let ⟨v',h1,h2⟩:=h t v hv;⟨v',h1,h2.mono hρ⟩
theorem OR.move(hρ:∀b g loc,ρ b g=some loc->ρ' b g=some loc){o:TO}(hsame:∀g,ρ' b g=ρ b g)(hb:∀g loc,ρ b g=some loc->w'.heap[loc.r]?=w.heap[loc.r]?)(h:OR P ρ b w o):OR P ρ' b w' o:=by
 cases o with
 | row e G M len cells =>
  refine⟨h.1,fun g loc hg=>h.2.1 g loc (by grind),fun g h1 h2=>?_⟩;obtain⟨loc,cur,hl,hc,r1,r2,r3,r4,r5⟩:=h.2.2 g h1 h2;refine⟨loc,cur,hρ _ _ _ hl,hc.move (hb _ _ hl),r1,r2,r3,r4,fun i hi=>?_⟩;obtain⟨x,v,c1,c2,c3,c4⟩:=r5 i hi;exact⟨x,v,c1,c2,c3,c4.mono hρ⟩
 | map es ck =>
  obtain⟨loc,es',hl,hc,he⟩:=h;exact⟨loc,es',hρ _ _ _ hl,(hb _ _ hl).trans hc,he.mono hρ⟩
 | dfr shut =>
  obtain⟨loc,hl,hc⟩:=h;exact⟨loc,hρ _ _ _ hl,(hb _ _ hl).trans hc⟩
 | loop st pe tm ps aS bo d =>
  obtain⟨loc,rec,locd,N,n,m,hl,hd,hc,r1,r2,r3,r4⟩:=h;exact⟨loc,rec,locd,N,n,m,hρ _ _ _ hl,hρ _ _ _ hd,(hb _ _ hl).trans hc,r1,r2,r3.mono hρ,r4⟩
 | ro cells =>
  intro g loc hl;rw[hsame]at hl;obtain⟨h1,h2⟩:=h g loc hl;refine⟨h1,fun i x hx=>?_⟩;obtain⟨v,v1,v2,v3⟩:=h2 i x hx;exact⟨v,by rw[World.cell?,hb _ _ hl];exact v1,v2,v3.mono hρ⟩
theorem WR.own(k:WR P Z ρ h w)(hl:ρ b g=some loc)(hx:h.get b=some x)(hn:∀cs,x ≠ .ro cs):Z<=loc.r:=by
 rcases(k.dom b g loc hl).2.1 with h1|⟨cs,h1⟩
 all_goals grind
theorem WR.drew(k:WR P Z ρ h w):WR P Z ρ h w.drew :=
 ⟨k.dom,fun b g loc hl=>let ⟨o,ho,hr⟩:=k.obj b g loc hl;⟨o,ho,hr.move (fun _ _ _ h=>h) (fun _=>rfl) (fun _ _ _=>rfl)⟩,k.sep⟩
theorem WR.world(k:WR P Z ρ h w)(hs:w.heap.size<=w'.heap.size)(hb:∀r,r<w.heap.size->w'.heap[r]?=w.heap[r]?):WR P Z ρ h w' :=
  ⟨fun b g loc hl=>let ⟨a,b,c⟩:=k.dom b g loc hl;⟨a,b,zBM9 c hs⟩,
   fun b g loc hl=>let ⟨o,ho,hr⟩:=k.obj b g loc hl;⟨o,ho,hr.move (fun _ _ _ h=>h) (fun _=>rfl) (fun g loc hg=>hb _ (k.dom b g loc hg).2.2)⟩,k.sep⟩
theorem WR.push(k:WR P Z ρ h w)(o:TO):WR P Z ρ (h.push o) w :=
  ⟨fun b g loc hl=>let ⟨a,b,c⟩:=k.dom b g loc hl;⟨Nat.lt_succ_of_lt a,b.imp id fun⟨cs,h⟩=>⟨cs,by rw[TH.gP,if_neg zo];exact h⟩,c⟩,
   fun b g loc hl=>by
    obtain⟨x,hx,hr⟩:=k.obj b g loc hl;have hlt:=(k.dom b g loc hl).1;exact⟨x,by rw[TH.gP,if_neg zo];exact hx,hr⟩,k.sep⟩
def Rho.add(ρ:Rho)(b:Nat)(g:Nat)(loc:Loc):Rho:=fun c k=>if c=b/\k=g then some loc else ρ c k
theorem Rho.aS(ρ:Rho)(b g:Nat)(loc:Loc):ρ.add b g loc b g=some loc:=by simp[Rho.add]
theorem Rho.add_more(hn:ρ b g=none):∀c k l,ρ c k=some l->ρ.add b g loc c k=some l:=fun c k l h=>by
 unfold Rho.add
 grind
theorem Rho.add_ne(hc:c≠b)(k:Nat):ρ.add b g loc c k=ρ c k:=by
 unfold Rho.add;grind
theorem Rho.add_inv{k:Nat}{l:Loc}(h:ρ.add b g loc c k=some l):(c=b/\k=g/\l=loc)\/ρ c k=some l:=by
 unfold Rho.add at h
 grind
theorem WR.real(k:WR P Z ρ h w)(hn:∀g,ρ b g=none)(hb:b<h.next)(hZ:Z<=w.heap.size)(hx:h.get b=some x){o:Obj}{L S:Nat}(hr:OR P (ρ.add b 0 ⟨w.heap.size,L,S⟩) b (w.alloc o) x):WR P Z (ρ.add b 0 ⟨w.heap.size,L,S⟩) h (w.alloc o):=by
 have hm:=Rho.add_more (loc:=⟨w.heap.size,L,S⟩) (hn 0);refine⟨fun c g loc hl=>?_,fun c g loc hl=>?_,fun c c' g g' loc loc' hl hl' e hZ1=>?_⟩
 .rcases Rho.add_inv hl with⟨rfl,rfl,rfl⟩|hl
  .simp_all
  .obtain⟨a,b,d⟩:=k.dom c g loc hl;exact⟨a,b,by simp;omega⟩
 .by_cases hc:c=b
  .grind
  .have hl':ρ c g=some loc:=by rw[<- hl,Rho.add_ne hc]
   obtain⟨y,hy,hor⟩:=k.obj c g loc hl';refine⟨y,hy,hor.move hm (fun g=>Rho.add_ne hc g) fun g loc hg=>?_⟩;exact Below.heap_alloc w o _ (k.dom c g loc hg).2.2
 .rcases Rho.add_inv hl with⟨h1,h2,h3⟩|ha
  .rcases Rho.add_inv hl' with⟨h4,h5,h6⟩|ha'
   .omega
   .have:=(k.dom c' g' loc' ha').2.2;grind
  .rcases Rho.add_inv hl' with⟨h4,h5,h6⟩|ha'
   .have:=(k.dom c g loc ha).2.2;grind
   .exact k.sep c c' g g' loc loc' ha ha' e hZ1
variable {P:Program}{ρ:Rho}{Z:Nat}{h:TH}{w:World}
variable {a:Act}{g:Bool}{n:Nat}{t:TypeId}{tm:LA}{v:Value}{z:TV}
theorem zn3(hg:zem P t=some g)(w:World):(isAgg t).run P w=.ok g w:=by
 unfold zem at hg
 split at hg<;>first|(cases hg;done)|skip
 all_goals (injection hg with hg;subst hg)
 .rename_i hu;simp[isAgg,run_underlying hu]
 .rename_i hu;simp[isAgg,run_underlying hu]
 .rename_i d _ _ hu
  cases d<;>simp_all [isAgg,run_underlying hu]
theorem zeE(hn:zcv P t=some n):n≠0/\∃i,P.info? t=some i/\i.size=n:=by
 unfold zcv at hn
 grind
theorem zcj(hn:zcv P t=some n)(w:World):(sizeOf t).run P w=.ok n w:=by
 obtain⟨_,i,hi,rfl⟩:=zeE hn;simp[sizeOf,typeInfo,hi]
theorem zmZ(hn:zj4 P t=some n):∃i,P.info? t=some i/\i.bytes=n:=by
 unfold zj4 at hn
 simp_all
theorem zlM{t:TV}(hv:zl8 v=some t):VR ρ t v/\t.one=true:=by
 unfold zl8 at hv
 split at hv<;>first|(cases hv;done)|(injection hv with hv;subst hv;exact⟨by constructor,rfl⟩)
theorem zlm{α β:Type}{f:α->Option β}:∀{l:List α} {m:List β},zd2 f l=some m->m.length=l.length/\∀(i:Nat) a b,l[i]?=some a->m[i]?=some b->f a=some b
 | [],m,hm=>by simp[zd2]at hm;subst hm;exact⟨rfl,fun i a b ha=>by simp at ha⟩
 | x::l,m,hm=>by
  unfold zd2 at hm
  split at hm
  .cases hm
  .rename_i b hb
   split at hm
   .cases hm
   .rename_i bs hbs;injection hm with hm;subst hm;obtain⟨h1,h2⟩:=zlm hbs
    grind
theorem ztk{l:LM}{m:LK}(hm:zd2 zl8 l=some m):VL ρ m l/\∀x∈m,x.one=true:=by
 obtain⟨h1,h2⟩:=zlm hm;refine⟨⟨h1,fun i x y hx hy=>(zlM (h2 i y x hy hx)).1⟩,fun x hx=>?_⟩;obtain⟨i,hi,rfl⟩:=zBN9.1 hx;have hi':i<l.length:=by rw[<- h1];exact hi
 exact(zlM (ρ:=ρ) (h2 i l[i] m[i] (zAA9 hi') (zAA9 hi))).2
theorem zsS{t:TV}(hv:zqg v=some t):VR ρ t v:=by
 unfold zqg at hv
 split at hv
 .split at hv<;>first|(cases hv;done)|skip
  rename_i cs _ l hl;injection hv with hv;subst hv;have:=ztk (ρ:=ρ) hl;have:=VR.aggL this.1 this.2;omega
 .split at hv<;>first|(cases hv;done)|skip
  rename_i cs _ l hl;injection hv with hv;subst hv;have:=ztk (ρ:=ρ) hl;have:=VR.tL this.1;omega
 .split at hv<;>first|(cases hv;done)|skip
  rename_i hl;injection hv with hv;subst hv;exact .iface (zlM hl).1
 .exact(zlM hv).1
theorem zmv(hz:zew P t=some z):∃i zv,P.info? t=some i/\i.zero=some zv/\∀ρ,VR ρ z zv:=by
 unfold zew at hz
 split at hz
 .rename_i i hi
  split at hz
  .rename_i zv hzv;exact⟨i,zv,hi,hzv,fun ρ=>zsS hz⟩
  .cases hz
 .cases hz
theorem zhw(hz:zew P t=some z)(w:World):∃zv,(zeroValue t).run P w=.ok zv w/\VR ρ z zv:=by
 obtain⟨i,zv,hi,hzv,hr⟩:=zmv hz;exact⟨zv,by simp[zeroValue,typeInfo,hi,hzv],hr ρ⟩
theorem zj8{e:TypeId}(he:zn9 P t=some e):P.underlying t=some (.slice e):=by
 unfold zn9 at he
 grind
theorem zlW(ht:TmR ρ tm a.tmps){x:Operand}{y:TOp}(hx:opT x=some y){v:TV}(hv:zgG tm y=some v):VR ρ v (a.eval x):=by
 cases x with
 | tmp t =>
  simp[opT]at hx;subst hx;obtain⟨v',h1,h2⟩:=ht t v hv;simpa[Act.eval,h1]using h2
 | const c =>
  simp[opT]at hx;obtain⟨u,hu,rfl⟩:=hx;simp[zgG]at hv;subst hv;exact zsS hu
 | global g=>simp[opT]at hx
 | func f =>
  simp[opT]at hx;subst hx;simp[zgG]at hv;subst hv;exact VR.fnL (VL.nil ρ)
theorem zgk(ht:TmR ρ tm a.tmps):∀{xs:AA} {ys:LY},zd2 opT xs=some ys->∀{vs:LK},zHX tm ys=some vs->VL ρ vs (xs.map a.eval)
 | [],ys,hy,vs,hv=>by simp[zd2]at hy;subst hy;simp[zHX]at hv;subst hv;exact VL.nil ρ
 | x::xs,ys,hy,vs,hv=>by
  unfold zd2 at hy
  split at hy
  .cases hy
  .rename_i b hb
   split at hy
   .cases hy
   .rename_i bs hbs;injection hy with hy;subst hy;unfold zHX at hv
    split at hv
    .cases hv
    .rename_i u hu
     split at hv
     .cases hv
     .rename_i us hus;injection hv with hv;subst hv;exact .cons (zlW ht hb hu) (zgk ht hbs hus)
theorem zlY(k:WR P Z ρ h w){b g o:Nat}{loc:Loc}(hl:zb0 h b g o n=some l)(hρ:ρ b g=some loc)(hc:o+n<=loc.L):
  ∃cs,VL ρ l cs/\cs.length=n/\(∀(j:Nat) v,cs[j]?=some v->w.cell? ⟨loc.r,o+j,none⟩=some v)/\∀x∈l,x.one=true:=by
 unfold zb0 at hl
 split at hl
 .rename_i x hx;obtain⟨y,hy,hr⟩:=k.obj b g loc hρ;rw[hx]at hy;injection hy with hy;subst hy;unfold zhb at hl
  split at hl
  .rename_i e G M len cells;have h1:Nat.ble M g=true:=by cases hq:Nat.ble M g<;>simp[hq]at hl⊢
   have h2:Nat.ble g G=true:=by cases hq:Nat.ble g G<;>simp[h1,hq]at hl⊢
   simp only[h1,h2,cond_true]at hl;obtain⟨hlen,hget⟩:=Tr.getL_some hl;obtain⟨loc',cur,hρ',hheap,r1,r2,r3,r4,r5⟩:=hr.2.2 g (zAW9 h1) (zAW9 h2);rw[hρ]at hρ';injection hρ' with hρ';subst hρ';refine⟨(cur.toList.drop o).take n,⟨by simp[hlen];omega,fun i x y hx hy=>?_⟩,by simp;omega,fun j v hv=>?_,fun x hx=>?_⟩
   .have hi:i<n:=by rw[<- hlen];exact(zAC9.1 hx).1
    rw[hget i hi]at hx;obtain⟨x',v',c1,c2,c3,c4⟩:=r5 (o+i) zo
    grind
   .have hj:j<n:=by grind
    rw[zBU9,if_pos hj,zCP9,zCD9]at hv;obtain⟨fz,hheap,_⟩:=hheap;simp[World.cell?,hheap,hv]
   .obtain⟨i,hi,rfl⟩:=zBN9.1 hx;have hx':=zAA9 hi;rw[hget i zo]at hx';obtain⟨x',v',c1,c2,c3,c4⟩:=r5 (o+i) zo
    grind
  .rename_i cells;have h1:Nat.beq g 0=true:=by cases hq:Nat.beq g 0<;>simp[hq]at hl⊢
   rw[h1]at hl;simp only[cond_true]at hl;obtain⟨hlen,hget⟩:=Tr.getL_some hl;have hrow:=(hr g loc hρ).2;have hex:∀j,j<n->∃v,w.cell? ⟨loc.r,o+j,none⟩=some v/\∃x,l[j]?=some x/\x.one=true/\VR ρ x v:=fun j hj=>by grind
   have hd:∀j,j<n->∃v,w.cell? ⟨loc.r,o+j,none⟩=some v:=fun j hj=>by obtain⟨v,v1,_⟩:=hex j hj;exact⟨v,v1⟩
   refine⟨(List.range n).map fun j=>(w.cell? ⟨loc.r,o+j,none⟩).getD undef,⟨by simp[hlen],fun i x y hx hy=>?_⟩,by simp,fun j v hv=>?_,fun x hx=>?_⟩
   .grind
   .grind
   .obtain⟨i,hi,rfl⟩:=zBN9.1 hx
    grind
  .cases hl
 .cases hl
theorem zqv{agg:Bool}{v:TV}(hv:zpj agg l=some v):(agg=true/\v=.agg l)\/(agg=false/\l=[v]):=by
 unfold zpj at hv
 grind
theorem zea(r o j:Nat):(⟨r,o,none⟩:Addr).add j=⟨r,o+j,none⟩:=by unfold Addr.add;split<;>simp_all
theorem zuG(k:WR P Z ρ h w)(hg:zem P t=some g)(hn:zcv P t=some n){p:TV}{p':Value}(hp:VR ρ p p'){v:TV}(hv:zhZ g n h p=some v):
  ∃v',(Instr.loadAt t p').run P w=.ok v' w/\VR ρ v v':=by
 unfold zhZ at hv
 split at hv
 .rename_i b g' o e
  cases hb:Nat.ble n e<;>simp only[hb,cond_true,cond_false]at hv
  .cases hv
  .have hne:=zAW9 hb
   split at hv
   .rename_i l hl
    cases hp with
    | ptr hρ hc =>
     rename_i loc;obtain⟨cs,h1,h2,h3,h4⟩:=zlY k hl hρ zo;have hload:=run_loadCells_list (P:=P) w ⟨loc.r,o,none⟩ cs (fun j v hv=>by rw[zea];exact h3 j v hv);rw[h2]at hload;rcases zqv hv with⟨rfl,rfl⟩|⟨rfl,rfl⟩
     .refine⟨.agg cs.toArray,?_,VR.aggL h1 h4⟩;simp[Instr.loadAt,Instr.sureAddr,loadVar,zn3 hg,zcj hn,hload]
     .obtain⟨y,cs',rfl,hy,hr⟩:=h1.oc;obtain rfl:=hr.oN;have:=h3 0 y rfl;rw[zDC9]at this;exact⟨y,by simp[Instr.loadAt,Instr.sureAddr,loadVar,zn3 hg,load,Sem.run,this],hy⟩
   .cases hv
 .cases hv
theorem zjI{k k':IntKind}(h:Nat.beq (kno k) (kno k')=true):k=k':=by
 have:=zAL9 h
 cases k<;>cases k'<;>first|rfl|(simp[kno]at this)
theorem zdM(a b:Int):zjb a b=(a==b):=by
 cases a<;>cases b<;>simp only[zjb]
 .rename_i x y;show Nat.beq x y=_
  by_cases h:x=y
  .simp_all
  .have:Nat.beq x y=false:=by cases hb:Nat.beq x y;rfl;exact absurd (zAL9 hb) h
   grind
 .simp
 .simp
 .rename_i x y
  by_cases h:x=y
  .simp_all
  .have:Nat.beq x y=false:=by cases hb:Nat.beq x y;rfl;exact absurd (zAL9 hb) h
   grind
theorem zf2(a b:Int):ile a b=decide (a<=b):=by
 unfold ile
 split
 all_goals grind
theorem ziu:∀(a b:LN),zeO a b=(a==b)
 | [],[]=>rfl
 | [],_::_=>rfl
 | _::_,[]=>rfl
 | a::l,b::m=>by
  unfold zeO;rw[ziu l m]
  cases hb:Nat.beq a b
  .have:a≠b:=fun e=>by subst e;simp at hb
   simp[this]
  simp_all
def bts(s:ByteArray):LN:=s.data.toList.map (·.toNat)
variable {b:Bool}{k k':IntKind}{op:BinOp}{v x:TV}{α:Type}
theorem zx2{s t:ByteArray}(h:bts s=bts t):s.toList=t.toList:=by
 rw[ByteArray.toList_eq,ByteArray.toList_eq];exact List.map_inj_right (f:=fun x:UInt8=>x.toNat) (fun x y=>UInt8.toNat_inj.1) |>.1 h
theorem zu4(s t:ByteArray):(bts s==bts t)=(s.toList==t.toList):=by
 by_cases e:s.toList=t.toList
 .have:bts s=bts t:=by unfold bts;rw[<- ByteArray.toList_eq,<- ByteArray.toList_eq,e]
  grind
 .have:bts s≠bts t:=fun h=>e (zx2 h)
  grind
theorem zpu:∀(a b:List UInt8),ziP (a.map (·.toNat)) (b.map (·.toNat))=Op.bytesLess a b
 | [],[]=>rfl
 | [],_::_=>rfl
 | _::_,[]=>by simp[ziP,Op.bytesLess]
 | a::l,b::m=>by
  simp only[zBY9,ziP,Op.bytesLess,zpu l m];have h1:Nat.blt a.toNat b.toNat=decide (a<b):=by
   by_cases h:a<b
   .rw[zCT9.mpr (UInt8.lt_iff_toNat_lt.1 h)];simp[h]
   .cases hb:Nat.blt a.toNat b.toNat
    .simp[h]
    .exact absurd (UInt8.lt_iff_toNat_lt.2 (zCT9.mp hb)) h
  have h2:Nat.beq a.toNat b.toNat=(a==b):=by
   cases hb:Nat.beq a.toNat b.toNat
   .have:a≠b:=fun e=>by subst e;simp at hb
    simp[this]
   .have:=UInt8.toNat_inj.1 (zAL9 hb);simp[this]
  grind
theorem zEM{x:Option α}{y:α}(h:(bif Nat.beq (kno k) (kno k')then x else none)=some y):k=k'/\x=some y:=by
 cases hb:Nat.beq (kno k) (kno k')<;>rw[hb]at h
 .cases h
 .exact⟨zjI hb,h⟩
theorem zac{x:Option α}{y:α}(h:(bif b then x else none)=some y):b=true/\x=some y:=by grind
theorem zo5{n:Nat}(h:n<2 ^ zin k):k.wrap (n:Int)=n:=by
 cases k<;>simp only[zin]at h<;>simp[IntKind.wrap,IntKind.bits,IntKind.signed]<;>omega
theorem zij(k:IntKind):2 ^ zin k<=2 ^ k.bits:=zDK9 zo (by cases k<;>simp[zin,IntKind.bits])
theorem zxe(op:BinOp)(t:TypeId)(x y:Operand)(k k':IntKind)(a b:Int)(w:World):(eqGuard op t x y (.int k a) (.int k' b)).run P w=.ok () w:=by
 cases op<;>simp[eqGuard]
theorem zwD(op:BinOp)(t:TypeId)(x y:Operand)(a b:ByteArray)(w:World):(eqGuard op t x y (.string a) (.string b)).run P w=.ok () w:=by
 cases op<;>simp[eqGuard]
theorem zrL{f:Nat->Nat->Nat}{x y:Int}(hv:zmc f k x y=some v):∃a b:Nat,x=a/\y=b/\a<2 ^ zin k/\b<2 ^ zin k/\v=.int k (f a b:Nat):=by
 unfold zmc at hv
 split at hv
 .rename_i a b;obtain⟨h1,hv⟩:=zac hv;obtain⟨h2,hv⟩:=zac hv;injection hv with hv;exact⟨a,b,rfl,rfl,zCT9.mp h1,zCT9.mp h2,hv.symm⟩
 .cases hv
theorem zEj(a n:Nat):(a:Int).fdiv (2 ^ n)=((a/2 ^ n:Nat):Int):=by grind
theorem zxF{a b:Int}(hv:zgy op k k' a b=some v)(w:World):∃v',(binOp op t (.int k a) (.int k' b)).run P w=.ok v' w/\VR ρ v v':=by
 cases op<;>simp only[zgy]at hv<;>try(obtain⟨hk,hv2⟩:=zEM hv;clear hv;subst hk;have hv:=hv2;clear hv2)
 case add=>injection hv with hv;subst hv;exact⟨_,by simp[binOp,Op.intArith],.int _ _⟩
 case sub=>injection hv with hv;subst hv;exact⟨_,by simp[binOp,Op.intArith],.int _ _⟩
 case mul=>injection hv with hv;subst hv;exact⟨_,by simp[binOp,Op.intArith],.int _ _⟩
 case quo =>
  cases hb:zjb b 0<;>rw[hb]at hv
  .injection hv with hv;subst hv;rw[zdM]at hb;exact⟨_,by simp[binOp,Op.intDiv,(by simpa using hb:b≠0)],.int _ _⟩
  .cases hv
 case rem =>
  cases hb:zjb b 0<;>rw[hb]at hv
  .injection hv with hv;subst hv;rw[zdM]at hb;exact⟨_,by simp[binOp,Op.intDiv,(by simpa using hb:b≠0)],.int _ _⟩
  .cases hv
 case and =>
  obtain⟨x,y,rfl,rfl,hx,hy,rfl⟩:=zrL hv;refine⟨.int k ((Nat.land x y:Nat):Int),?_,.int _ _⟩;have:Nat.land x y<2 ^ zin k:=zHE9 _ hy;have ex:x%2 ^ k.bits=x:=zDA9 (zBM9 hx (zij k));have ey:y%2 ^ k.bits=y:=zDA9 (zBM9 hy (zij k));simp[binOp,Op.intBits,BitVec.toNat_and,ex,ey];exact zo5 this
 case or =>
  obtain⟨x,y,rfl,rfl,hx,hy,rfl⟩:=zrL hv;refine⟨.int k ((Nat.lor x y:Nat):Int),?_,.int _ _⟩;have:Nat.lor x y<2 ^ zin k:=Nat.or_lt_two_pow hx hy;have ex:x%2 ^ k.bits=x:=zDA9 (zBM9 hx (zij k));have ey:y%2 ^ k.bits=y:=zDA9 (zBM9 hy (zij k));simp[binOp,Op.intBits,BitVec.toNat_or,ex,ey];exact zo5 this
 case xor =>
  obtain⟨x,y,rfl,rfl,hx,hy,rfl⟩:=zrL hv;refine⟨.int k ((Nat.xor x y:Nat):Int),?_,.int _ _⟩;have:Nat.xor x y<2 ^ zin k:=zET9 hx hy;have ex:x%2 ^ k.bits=x:=zDA9 (zBM9 hx (zij k));have ey:y%2 ^ k.bits=y:=zDA9 (zBM9 hy (zij k));simp[binOp,Op.intBits,BitVec.toNat_xor,ex,ey];exact zo5 this
 case shl =>
  unfold zGt at hv
  split at hv
  .rename_i n;obtain⟨_,hv⟩:=zac hv;injection hv with hv;subst hv;exact⟨_,by simp[binOp,Op.shift,Int.not_lt.2 (zDO9 n)],.int _ _⟩
  .cases hv
 case shr =>
  unfold zGE at hv
  split at hv
  .rename_i a n;obtain⟨_,hv⟩:=zac hv;injection hv with hv;subst hv;refine⟨_,?_,.int _ _⟩;simp[binOp,Op.shift,Int.not_lt.2 (zDO9 n)];exact zEj a _
  .cases hv
 case andNot=>cases hv
 case eql=>injection hv with hv;subst hv;exact⟨_,by simp[binOp,Op.intCmp];rfl,by rw[zdM];exact .bool _⟩
 case neq=>injection hv with hv;subst hv;exact⟨_,by simp[binOp,Op.intCmp];rfl,by rw[zdM];exact .bool _⟩
 case lss =>
  injection hv with hv;subst hv;refine⟨.bool (decide (a<b)),by simp[binOp,Op.intCmp],?_⟩;have:(decide (a<b))=!(ile b a):=by rw[zf2];by_cases h:b<=a<;>simp[h]<;>omega
  rw[this];exact .bool _
 case leq=>injection hv with hv;subst hv;exact⟨.bool (decide (a<=b)),by simp[binOp,Op.intCmp],by rw[<- zf2];exact .bool _⟩
 case gtr =>
  injection hv with hv;subst hv;refine⟨.bool (decide (a>b)),by simp[binOp,Op.intCmp],?_⟩;have:(decide (a>b))=!(ile a b):=by rw[zf2];by_cases h:a<=b<;>simp[h]<;>omega
  rw[this];exact .bool _
 case geq=>injection hv with hv;subst hv;exact⟨.bool (decide (a ≥ b)),by simp[binOp,Op.intCmp],by rw[show decide (a ≥ b)=ile b a by rw[zf2]];exact .bool _⟩
theorem zxP(a b:List UInt8):(Op.bytesLess a b||(a==b))=!(Op.bytesLess b a):=by
 induction a generalizing b with
 | nil=>cases b<;>simp[Op.bytesLess]
 | cons x l ih =>
  cases b with
  | nil=>simp[Op.bytesLess]
  | cons y m =>
   simp only[Op.bytesLess];have:=ih m
   by_cases h1:x<y
   .have h2:¬y<x:=fun h=>by have:=UInt8.lt_trans h1 h;simp at this
    have h3:(y==x)=false:=by simp;rintro rfl;simp at h1
    simp[h1,h2,h3]
   .by_cases h2:x=y
    .subst h2;simp[this]
    .have h3:y<x:=by grind
     simp[h1,h2,h3]
theorem zEW{a b:ByteArray}(hv:zC3 op (bts a) (bts b)=some v)(w:World):∃v',(binOp op t (.string a) (.string b)).run P w=.ok v' w/\VR ρ v v':=by
 have h1:zeO (bts a) (bts b)=(a.toList==b.toList):=by rw[ziu,zu4]
 have h2:ziP (bts a) (bts b)=Op.bytesLess a.toList b.toList:=by unfold bts;rw[zpu,ByteArray.toList_eq,ByteArray.toList_eq]
 have h3:ziP (bts b) (bts a)=Op.bytesLess b.toList a.toList:=by unfold bts;rw[zpu,ByteArray.toList_eq,ByteArray.toList_eq]
 cases op<;>simp only[zC3]at hv<;>first|(cases hv;done)|skip
 case eql=>injection hv with hv;subst hv;rw[h1];exact⟨_,by simp[binOp,Op.stringOp],.bool _⟩
 case neq=>injection hv with hv;subst hv;rw[h1];exact⟨_,by simp[binOp,Op.stringOp],.bool _⟩
 case lss=>injection hv with hv;subst hv;rw[h2];exact⟨_,by simp[binOp,Op.stringOp],.bool _⟩
 case leq=>injection hv with hv;subst hv;rw[h3];exact⟨.bool (!(Op.bytesLess b.toList a.toList)),by simp[binOp,Op.stringOp,zxP],.bool _⟩
 case gtr=>injection hv with hv;subst hv;rw[h3];exact⟨.bool (Op.bytesLess b.toList a.toList),by simp[binOp,Op.stringOp,zxP],.bool _⟩
 case geq=>injection hv with hv;subst hv;rw[h2];exact⟨_,by simp[binOp,Op.stringOp],.bool _⟩
 case add =>
  obtain⟨h0,hv⟩:=zac hv;injection hv with hv;subst hv;have hle:=zAW9 h0;have e1:(bts a).length=a.size:=by simp[bts]
  have e2:(bts b).length=b.size:=by simp[bts]
  refine⟨.string (a++b),?_,?_⟩
  .have:¬(((a.size+b.size:Nat):Int)>IntKind.i64.max):=by simp[IntKind.max,IntKind.signed,IntKind.bits];omega
   simp only[binOp,Op.stringOp];rw[if_neg this];simp
  .have:bts a++bts b=bts (a++b):=by simp[bts]
   rw[this];exact .str _
theorem zFa{X Y:Operand}{y:TV}{x' y':Value}(hx:VR ρ x x')(hy:VR ρ y y')(hv:zc6 op x y=some v)(w:World):
  ∃v',(do eqGuard op t X Y x' y';binOp op t x' y':Sem Value).run P w=.ok v' w/\VR ρ v v':=by
 unfold zc6 at hv
 split at hv
 .unfold ze8 at hv
  split at hv
  .cases hx;cases hy
   obtain⟨v',h1,h2⟩:=zxF (P:=P) (ρ:=ρ) (t:=t) hv w;exact⟨v',by simp[zxe,h1],h2⟩
  .cases hv
 .unfold zEG at hv
  split at hv
  .cases hx with
   | str a=>cases hy with
    | str b =>
     obtain⟨v',h1,h2⟩:=zEW (P:=P) (ρ:=ρ) (t:=t) hv w;exact⟨v',by simp[zwD,h1],h2⟩
  .cases hv
 .cases hv
theorem zuM{neg:Bool}{x:AN}(hv:zpP neg x=some v):∃b,x=some b/\v=.bool (neg ^^ b):=by
 unfold zpP at hv
 split at hv
 .rename_i b;injection hv with hv;exact⟨b,rfl,by rw[<- hv];cases neg<;>cases b<;>rfl⟩
 .cases hv
theorem zhI{x y:AN}(hb:zV x y=some b):(x=some true/\y=some true/\b=true)\/(x=some true/\y=some false/\b=false)\/(x=some false/\y=some true/\b=false):=by
 cases x with
 | none=>cases hb
 | some x=>cases y with
  | none=>cases hb
  | some y=>cases x<;>cases y<;>simp[zV]at hb<;>simp[<- hb]
theorem zq5(h:zvR x=some true):x=.nilptr:=by cases x<;>simp[zvR]at h;rfl
theorem zAk(h:zvR x=some false):∃b g o e,x=.ptr b g o e:=by cases x<;>simp[zvR]at h;exact⟨_,_,_,_,rfl⟩
theorem zqR(h:zuJ x=some true):x=.nilsl:=by cases x<;>simp[zuJ]at h;rfl
theorem zBY(h:zuJ x=some false):∃b g o n q z,x=.sl b g o n q z:=by cases x<;>simp[zuJ]at h;exact⟨_,_,_,_,_,_,rfl⟩
theorem zqb(h:zvh x=some true):x=.nilmap:=by cases x<;>simp[zvh]at h;rfl
theorem zAB(h:zvh x=some false):∃b,x=.map b:=by cases x<;>simp[zvh]at h;exact⟨_,rfl⟩
theorem zqU(h:zbs x=some true):x=.nilfn:=by cases x<;>simp[zbs]at h;rfl
theorem zAY(h:zbs x=some false):∃f l,x=.fn f l:=by cases x<;>simp[zbs]at h;exact⟨_,_,rfl⟩
theorem zqy(h:zvX x=some true):x=.niliface:=by cases x<;>simp[zvX]at h;rfl
theorem zBK(h:zvX x=some false):∃t v,x=.iface t v:=by cases x<;>simp[zvX]at h;exact⟨_,_,rfl⟩
theorem zkm(t:TypeId)(x y:Value):Op.equal t x y=Op.equalIn (9999+1) t x y:=rfl
def ziX(P:Program)(t:TypeId)(X Y:Operand)(x y:Value)(b:Bool)(w:World):Prop :=
 (∀op,(eqGuard op t X Y x y).run P w=.ok () w)/\(binOp .eql t x y).run P w=.ok (.bool b) w/\(binOp .neq t x y).run P w=.ok (.bool (!b)) w
variable {X Y:Operand}{hi:AE}{i l:Nat}{lo:AE}{m off:Nat}{vs:LK}{x':Value}{y:TV}{y':Value}{z:Nat}
theorem zdA{x y:Value}(hg:∀op,(eqGuard op t X Y x y).run P w=.ok () w)(he:∀d,(Op.equalIn (d+1) t x y).run P w=.ok b w)(h1:binOp .eql t x y=(do pure (.bool (<- Op.equal t x y))))(h2:binOp .neq t x y=(do pure (.bool (!(<- Op.equal t x y))))):ziX P t X Y x y b w :=
 ⟨hg,by rw[h1,zkm];simp[he 9999],by rw[h2,zkm];simp[he 9999]⟩
theorem zsX(hu:P.underlying t=some (.pointer e))(hx:VR ρ x x')(hy:VR ρ y y')(hb:zkA 1 x y=some b):ziX P t X Y x' y' b w:=by
 rcases zhI hb with⟨h1,h2,rfl⟩|⟨h1,h2,rfl⟩|⟨h1,h2,rfl⟩
 .obtain rfl:=zq5 h1;obtain rfl:=zq5 h2
  cases hx;cases hy
  exact zdA (fun op=>by cases op<;>simp[eqGuard]) (fun d=>by simp[Op.equalIn,run_underlying hu]) rfl rfl
 .obtain rfl:=zq5 h1;obtain⟨_,_,_,_,rfl⟩:=zAk h2
  cases hx;cases hy
  exact zdA (fun op=>by cases op<;>simp[eqGuard]) (fun d=>by simp[Op.equalIn,run_underlying hu]) rfl rfl
 .obtain⟨_,_,_,_,rfl⟩:=zAk h1;obtain rfl:=zq5 h2
  cases hx;cases hy
  exact zdA (fun op=>by cases op<;>simp[eqGuard]) (fun d=>by simp[Op.equalIn,run_underlying hu]) rfl rfl
theorem ztO(hu:P.underlying t=some (.slice e))(hx:VR ρ x x')(hy:VR ρ y y')(hb:zkA 2 x y=some b):ziX P t X Y x' y' b w:=by
 rcases zhI hb with⟨h1,h2,rfl⟩|⟨h1,h2,rfl⟩|⟨h1,h2,rfl⟩
 .obtain rfl:=zqR h1;obtain rfl:=zqR h2
  cases hx;cases hy
  exact zdA (fun op=>by cases op<;>simp[eqGuard]) (fun d=>by simp[Op.equalIn,run_underlying hu]) rfl rfl
 .obtain rfl:=zqR h1;obtain⟨_,_,_,_,_,_,rfl⟩:=zBY h2
  cases hx;cases hy
  exact zdA (fun op=>by cases op<;>simp[eqGuard]) (fun d=>by simp[Op.equalIn,run_underlying hu]) rfl rfl
 .obtain⟨_,_,_,_,_,_,rfl⟩:=zBY h1;obtain rfl:=zqR h2
  cases hx;cases hy
  exact zdA (fun op=>by cases op<;>simp[eqGuard]) (fun d=>by simp[Op.equalIn,run_underlying hu]) rfl rfl
theorem ztq{e':TypeId}(hu:P.underlying t=some (.map e e'))(hx:VR ρ x x')(hy:VR ρ y y')(hb:zkA 3 x y=some b):ziX P t X Y x' y' b w:=by
 rcases zhI hb with⟨h1,h2,rfl⟩|⟨h1,h2,rfl⟩|⟨h1,h2,rfl⟩
 .obtain rfl:=zqb h1;obtain rfl:=zqb h2
  cases hx;cases hy
  exact zdA (fun op=>by cases op<;>simp[eqGuard]) (fun d=>by simp[Op.equalIn,run_underlying hu]) rfl rfl
 .obtain rfl:=zqb h1;obtain⟨_,rfl⟩:=zAB h2
  cases hx;cases hy
  exact zdA (fun op=>by cases op<;>simp[eqGuard]) (fun d=>by simp[Op.equalIn,run_underlying hu]) rfl rfl
 .obtain⟨_,rfl⟩:=zAB h1;obtain rfl:=zqb h2
  cases hx;cases hy
  exact zdA (fun op=>by cases op<;>simp[eqGuard]) (fun d=>by simp[Op.equalIn,run_underlying hu]) rfl rfl
theorem zsT{ps rs:Array TypeId}{vr:Bool}(hu:P.underlying t=some (.func ps rs vr))(hx:VR ρ x x')(hy:VR ρ y y')(hb:zkA 4 x y=some b):ziX P t X Y x' y' b w:=by
 rcases zhI hb with⟨h1,h2,rfl⟩|⟨h1,h2,rfl⟩|⟨h1,h2,rfl⟩
 .obtain rfl:=zqU h1;obtain rfl:=zqU h2
  cases hx;cases hy
  exact zdA (fun op=>by cases op<;>simp[eqGuard]) (fun d=>by simp[Op.equalIn,run_underlying hu]) rfl rfl
 .obtain rfl:=zqU h1;obtain⟨_,_,rfl⟩:=zAY h2
  cases hx;cases hy
  exact zdA (fun op=>by cases op<;>simp[eqGuard]) (fun d=>by simp[Op.equalIn,run_underlying hu]) rfl rfl
 .obtain⟨_,_,rfl⟩:=zAY h1;obtain rfl:=zqU h2
  cases hx;cases hy
  exact zdA (fun op=>by cases op<;>simp[eqGuard]) (fun d=>by simp[Op.equalIn,run_underlying hu]) rfl rfl
theorem zsQ{ms:Array (String×TypeId)}(hu:P.underlying t=some (.interface ms))(hXY:(zhs X||zhs Y)=true)(hx:VR ρ x x')(hy:VR ρ y y')(hb:zkA 5 x y=some b):ziX P t X Y x' y' b w:=by
 rcases zhI hb with⟨h1,h2,rfl⟩|⟨h1,h2,rfl⟩|⟨h1,h2,rfl⟩
 .obtain rfl:=zqy h1;obtain rfl:=zqy h2
  cases hx;cases hy
  refine zdA (fun op=>?_) (fun d=>by simp[Op.equalIn,run_underlying hu]) rfl rfl
  cases X<;>cases Y<;>simp[zhs]at hXY<;>cases op<;>simp[eqGuard]
 .obtain rfl:=zqy h1;obtain⟨_,_,rfl⟩:=zBK h2
  cases hx;cases hy
  exact zdA (fun op=>by cases op<;>simp[eqGuard]) (fun d=>by simp[Op.equalIn,run_underlying hu]) rfl rfl
 .obtain⟨_,_,rfl⟩:=zBK h1;obtain rfl:=zqy h2
  cases hx;cases hy
  exact zdA (fun op=>by cases op<;>simp[eqGuard]) (fun d=>by simp[Op.equalIn,run_underlying hu]) rfl rfl
theorem zhx(hx:zfJ x=some n)(hr:VR ρ x x'):∃k,x=.int k (n:Nat)/\x'=.int k (n:Nat):=by
 cases x<;>simp[zfJ]at hx
 rename_i k i
 cases i<;>simp[zD8]at hx
 subst hx
 cases hr
 grind
theorem zel(hx:zIc x m=some l)(hr:VR ρ x x'):∃k,x'=.int k (l:Nat)/\l<=m:=by
 unfold zIc at hx
 split at hx
 .rename_i n hn;obtain⟨h1,hx⟩:=zac hx
  cases hx
  obtain⟨k,_,rfl⟩:=zhx hn hr
  simp_all
 grind
theorem zcT{k:IntKind}{y:Nat}(hl:l<=y)(code:BoundsCode)(w:World):(Instr.sliceBound (.int k (l:Nat)) y code).run P w=.ok l w:=by
 simp[Instr.sliceBound,asIntOf,hl]
theorem zi5{b g o q o' c:Nat}{loc:Loc}(hρ:ρ b g=some loc)(hn:n<=q/2)(hq:q/2<=c)(hc:o+q/2*z<=loc.L)(ho:o'=o\/n=0/\c=0/\o≠0)(hs:q%2=0->o+c*z=loc.S)(hm:c<=maxLen){j q':Nat}(hlj:l<=j)(hjm:j<=m)(hmc:m<=c)(hq1:j-l<=q'/2)(hq2:q'/2<=m-l)(hq3:l+q'/2<=q/2)(hq4:q'%2=0->m=c/\q%2=0):
  VR ρ (.sl b g (o+l*z) (j-l) q' z) (.slice (if m=l then some ⟨loc.r,o',none⟩else some ((⟨loc.r,o',none⟩:Addr).add (l*z))) (j-l) (m-l)):=by
 have hcov:o+l*z+q'/2*z<=loc.L:=by
  have:(l+q'/2)*z<=q/2*z:=zCK9 z hq3
  grind
 by_cases e:m=l
 .rw[if_pos e];have e1:j-l=0:=zo;have e2:m-l=0:=zo;rw[e1]at hq1⊢;rw[e2]at hq2⊢;refine .sl hρ hq1 hq2 hcov ?_ (fun h0=>?_) (zAJ9 _)
  all_goals grind
 .rw[if_neg e,zea];refine .sl hρ hq1 hq2 hcov ?_ (fun h0=>?_) zo
  .omega
  .obtain⟨h1,h2⟩:=hq4 h0;have:=hs h2;rw[<- this,h1,zEY9,<- zCZ9]
   grind
theorem zps{α:Type}{x:Option α}{y:α}(h:(bif b then none else x)=some y):b=false/\x=some y:=by grind
theorem zBm(hu:P.underlying t=some (.slice e))(x:Value)(lo hi mx:AE)(w:World):(Instr.sliceAt t x lo hi mx).run P w=(Instr.slice t x lo hi mx).run P w:=by
 simp[Instr.sliceAt,run_underlying hu]
theorem VL.cons'(h:VL ρ vs (x'::cs)):∃y l,vs=y::l/\VR ρ y x'/\VL ρ l cs:=by
 cases vs with
 | nil=>have:=h.1;grind
 | cons y l=>obtain⟨_,_,e,h1,h2⟩:=h.oc;grind
theorem VL.nil'(h:VL ρ vs []):vs=[]:=zBZ9 h.1
theorem zAu(hu:P.underlying t=some (.slice e))(hz:zcv P e=some z){mx:AE}(hv:VL ρ vs (x'::(lo.toList++hi.toList++mx.toList)))(hp:zj1 z lo.isSome hi.isSome mx.isSome vs=some v)(w:World):
  ∃v',(Instr.sliceAt t x' lo hi mx).run P w=.ok v' w/\VR ρ v v':=by
 rw[zBm hu];obtain⟨x,bs,rfl,hx,hbs⟩:=hv.cons';simp only[zj1,zfD]at hp
 cases x<;>simp only at hp<;>first|(cases hp;done)|skip
 case nilsl =>
  cases hx
  unfold zmX at hp;obtain⟨h0,hp⟩:=zps hp
  cases mx<;>first|(simp at h0;done)|skip
  cases lo<;>cases hi<;>simp only[Option.toList,zAV9,zCY9,zAS9]at hbs
  .obtain rfl:=hbs.nil';simp at hp;subst hp;exact⟨_,by simp[Instr.slice,run_underlying hu,Instr.sliceBounds,zcj hz],.nilsl⟩
  iterate 2
   obtain⟨y,_,rfl,hy,hbs⟩:=hbs.cons';obtain rfl:=hbs.nil';simp only at hp
   split at hp
   .rename_i l hl;obtain⟨k,rfl,hl0⟩:=zel hl hy;simp at hp;subst hp;obtain rfl:l=0:=zo;exact⟨_,by simp[Instr.slice,run_underlying hu,Instr.sliceBounds,zcj hz,Instr.sliceBound,asIntOf],.nilsl⟩
   .cases hp
  grind
 case sl b g o n q z' =>
  obtain⟨hzz,hp⟩:=zac hp;obtain rfl:=zAL9 hzz
  cases hx with
  | sl hρ hn hq hc ho hs hm =>
   rename_i o' c loc;unfold zhE at hp;have fin:=fun l j m q'=>zi5 hρ hn hq hc ho hs hm (l:=l) (j:=j) (m:=m) (q':=q');have rn:∀{k:IntKind} {l y:Nat} (code:BoundsCode),l<=y->(Instr.sliceBound (.int k (l:Nat)) y code).run P w=.ok l w:=fun code hl=>zcT hl code w
   cases mx<;>cases lo<;>cases hi<;>simp only[Option.toList,zAV9,zCY9,zAS9]at hbs
   all_goals
    (try obtain⟨y,_,rfl,hy,hbs⟩:=hbs.cons');(try obtain⟨y2,_,rfl,hy2,hbs⟩:=hbs.cons');(try obtain⟨y3,_,rfl,hy3,hbs⟩:=hbs.cons');obtain rfl:=hbs.nil';simp[zqX,zzJ,zub,zjg]at hp
    try(repeat' split at hp)
    all_goals first|(cases hp;done)|skip
    all_goals ((try injection hp with hp);subst hp)
   .have:=fin 0 n c q (zAJ9 _) zo (zAE9 _) zo zo zo (fun h=>⟨rfl,h⟩);simp only[zGR9,zDC9,Nat.sub_zero]at this;exact⟨_,by simp[Instr.slice,run_underlying hu,Instr.sliceBounds,zcj hz],this⟩
   .rename_i j hj;obtain⟨k,rfl,hj0⟩:=zel hj hy;have:=fin 0 j c q (zAJ9 _) zo (zAE9 _) zo zo zo (fun h=>⟨rfl,h⟩);simp only[zGR9,zDC9,Nat.sub_zero]at this;exact⟨_,by simp[Instr.slice,run_underlying hu,Instr.sliceBounds,zcj hz,rn _ (show j<=c by omega)],this⟩
   .rename_i l hl;obtain⟨k,rfl,hl0⟩:=zel hl hy;exact⟨_,by simp[Instr.slice,run_underlying hu,Instr.sliceBounds,zcj hz,rn _ hl0],fin l n c (q-2*l) hl0 zo (zAE9 _) zo zo zo (fun h=>⟨rfl,by omega⟩)⟩
   .rename_i j hj _ l hl;obtain⟨k,rfl,hl0⟩:=zel hl hy;obtain⟨k2,rfl,hj0⟩:=zel hj hy2;exact⟨_,by simp[Instr.slice,run_underlying hu,Instr.sliceBounds,zcj hz,rn _ (show j<=c by omega),rn _ hl0],fin l j c (q-2*l) hl0 zo (zAE9 _) zo zo zo (fun h=>⟨rfl,by omega⟩)⟩
   .rename_i m hm' _ j hj _ l hl;obtain⟨k,rfl,hl0⟩:=zel hl hy;obtain⟨k2,rfl,hj0⟩:=zel hj hy2;obtain⟨k3,rfl,hm0⟩:=zel hm' hy3;exact⟨_,by simp[Instr.slice,run_underlying hu,Instr.sliceBounds,zcj hz,rn _ (show m<=c by omega),rn _ hj0,rn _ hl0],fin l j m (2*m+1-2*l) hl0 zo zo zo zo zo (fun h=>by omega)⟩
theorem zd9{f:TV->LE}(hv:zcY vs f=some v):∃x,vs=[x]/\f x=some v:=by
 unfold zcY at hv
 grind
theorem zeD{f:TV->TV->LE}(hv:zdh vs f=some v):∃x y,vs=[x,y]/\f x y=some v:=by
 unfold zdh at hv
 grind
theorem zjK:∀(l:LK) (n:Nat),nth l n=l[n]?
 | [],_=>by simp[nth]
 | _::_,0=>rfl
 | _::l,n+1=>by simp only[nth,zBO9];exact zjK l n
theorem zld:∀(l:LN) (n:Nat),zlS l n=l[n]?
 | [],_=>by simp[zlS]
 | _::_,0=>rfl
 | _::l,n+1=>by simp only[zlS,zBO9];exact zld l n
theorem zu2(hg:zem P t=some g)(hn:zcv P t=some n){l:LK}(hl:VL ρ l cs)(h1:∀x∈l,x.one=true)(hv:znW g off n l=some v)(w:World):
  ∃v',(part t cs.toArray off).run P w=.ok v' w/\VR ρ v v':=by
 unfold znW at hv
 cases g
 .simp only[cond_false,zjK]at hv;obtain⟨y,hy,hr⟩:=hl.at hv;refine⟨y,?_,hr⟩;simp[part,zn3 hg,hy]
 .simp only[cond_true]at hv;obtain⟨h0,hv⟩:=zac hv;injection hv with hv;subst hv;have hle:=zAW9 h0;refine⟨.agg ((cs.drop off).take n).toArray,?_,VR.aggL ((hl.drop off).take n) fun x hx=>h1 x (zBX9 (zBP9 hx))⟩;simp[part,zn3 hg,zcj hn]
theorem ztH(hf:zlr P t i=some (off,g,n)):∃fs f,P.underlying t=some (.struct fs)/\fs[i]?=some f/\f.offset=off/\zem P f.type=some g/\zcv P f.type=some n:=by
 unfold zlr at hf
 grind
theorem zBS(hf:zlr P t i=some (off,g,n))(hx:VR ρ x x')(hv:zlh off n x=some v)(w:World):∃v',(Instr.fieldAt t x' i).run P w=.ok v' w/\VR ρ v v':=by
 obtain⟨fs,f,hu,hfi,rfl,_,hm⟩:=ztH hf;unfold zlh at hv
 split at hv
 .obtain⟨h0,hv⟩:=zac hv;injection hv with hv;subst hv;have hle:=zAW9 h0
  cases hx with
  | ptr hρ hc =>
   have:=(zeE hm).1;exact⟨_,by simp[Instr.fieldAt,run_underlying hu,hfi,Instr.sureAddr,fieldPlace,zcj hm,this,zea],.ptr hρ zo⟩
 .cases hv
theorem zFk(hf:zlr P t i=some (off,g,n))(hx:VR ρ x x')(hv:zCW g off n x=some v)(w:World):∃v',(Instr.field t x' i).run P w=.ok v' w/\VR ρ v v':=by
 obtain⟨fs,f,hu,hfi,rfl,hg,hm⟩:=ztH hf;unfold zCW at hv
 split at hv
 .cases hx with
  | agg hl h1 hr =>
   obtain⟨v',h2,h3⟩:=zu2 hg hm ⟨hl,hr⟩ h1 hv w;exact⟨v',by simp[Instr.field,run_underlying hu,hfi,asAgg,h2],h3⟩
 .cases hv
theorem zAy(hu:P.underlying t=some (.slice e))(hz:zcv P e=some z)(hx:VR ρ x x')(hy:VR ρ y y')(hv:zli z x y=some v)(w:World):∃v',(Instr.indexAt t x' y').run P w=.ok v' w/\VR ρ v v':=by
 unfold zli at hv
 split at hv
 .rename_i b g o n q zz;obtain⟨hzz,hv⟩:=zac hv;obtain rfl:=zAL9 hzz
  split at hv
  .rename_i i hi;obtain⟨h0,hv⟩:=zac hv;injection hv with hv;subst hv;have hlt:=zCT9.mp h0;obtain⟨k,_,rfl⟩:=zhx hi hy
   cases hx with
   | sl hρ hn hq hc ho hs hm =>
    rename_i o' c loc;have ho':o'=o:=by rcases ho with h|⟨h,_⟩;exact h;omega
    subst ho';refine⟨.pointer (some ⟨loc.r,o'+i*z,none⟩),?_,.ptr hρ ?_⟩
    .simp[Instr.indexAt,asIntOf,run_underlying hu,zcj hz,hlt,zea]
    .have:(i+1)*z<=q/2*z:=zCK9 z zo;rw[zCZ9]at this;omega
  .cases hv
 .cases hv
theorem zyT{len:Nat}(hu:P.underlying t=some (.array len e))(hz:zcv P e=some z)(hx:VR ρ x x')(hy:VR ρ y y')(hv:zjE len z x y=some v)(w:World):∃v',(Instr.indexAt t x' y').run P w=.ok v' w/\VR ρ v v':=by
 unfold zjE at hv
 split at hv
 .rename_i b g o e
  split at hv
  .rename_i i hi;obtain⟨h0,hv⟩:=zac hv;obtain⟨h1,hv⟩:=zac hv;injection hv with hv;subst hv;have hlt:=zCT9.mp h0;have hle:=zAW9 h1;obtain⟨k,_,rfl⟩:=zhx hi hy
   cases hx with
   | ptr hρ hc =>
    rename_i loc;refine⟨.pointer (some ⟨loc.r,o+i*z,none⟩),?_,.ptr hρ ?_⟩
    .simp[Instr.indexAt,asIntOf,run_underlying hu,zcj hz,hlt,zea,Instr.sureAddr]
    .have:(i+1)*z<=len*z:=zCK9 z zo;rw[zCZ9]at this;omega
  .cases hv
 .cases hv
theorem zzS{len:Nat}(hu:P.underlying t=some (.array len e))(hg:zem P e=some g)(hz:zcv P e=some z)(hx:VR ρ x x')(hy:VR ρ y y')(hv:zsq len g z x y=some v)(w:World):
  ∃v',(Instr.index t x' y').run P w=.ok v' w/\VR ρ v v':=by
 unfold zsq at hv
 split at hv
 .split at hv
  .rename_i i hi;obtain⟨h0,hv⟩:=zac hv;have hlt:=zCT9.mp h0;obtain⟨k,_,rfl⟩:=zhx hi hy
   cases hx with
   | agg hl h1 hr =>
    obtain⟨v',h2,h3⟩:=zu2 hg hz ⟨hl,hr⟩ h1 hv w;exact⟨v',by simp[Instr.index,asIntOf,run_underlying hu,zcj hz,hlt,h2],h3⟩
  .cases hv
 .cases hv
theorem zyH(hu:P.underlying t=some .string)(hx:VR ρ x x')(hy:VR ρ y y')(hv:zlu x y=some v)(w:World):∃v',(Instr.index t x' y').run P w=.ok v' w/\VR ρ v v':=by
 unfold zlu at hv
 split at hv
 .split at hv
  .rename_i i hi
   split at hv
   .rename_i c hc;injection hv with hv;subst hv;obtain⟨k,_,rfl⟩:=zhx hi hy
    cases hx with
    | str s =>
     rw[zld]at hc;simp at hc;obtain⟨u,hu',rfl⟩:=hc;have:s[i]?=some u:=by
      have hlt:=(zCH9.1 hu').1;have h2:=(zCH9.1 hu').2;have hs:i<s.size:=hlt;rw[getElem?_pos s i hs];exact congrArg some h2
     exact⟨.int .u8 ((u.toNat:Nat):Int),by simp[Instr.index,asIntOf,run_underlying hu,this],.int _ _⟩
   .cases hv
  .cases hv
 .cases hv
theorem zH2(hu:P.underlying t=some .string)(hv:VL ρ vs (x'::(lo.toList++hi.toList)))(hp:znr lo.isSome hi.isSome vs=some v)(w:World):
  ∃v',(Instr.sliceAt t x' lo hi none).run P w=.ok v' w/\VR ρ v v':=by
 have hunf:(Instr.sliceAt t x' lo hi none).run P w=(Instr.slice t x' lo hi none).run P w:=by simp[Instr.sliceAt,run_underlying hu]
 rw[hunf];obtain⟨x,bs,rfl,hx,hbs⟩:=hv.cons';unfold znr at hp
 split at hp
 .rename_i s bs e
  cases e
  cases hx with
  | str s =>
   have hsz:(s.data.toList.map (·.toNat)).length=s.size:=by simp
   unfold zxm at hp;have hex:∀l j,l<=j->j<=s.size->VR ρ (.str (((s.data.toList.map (·.toNat)).take j).drop l)) (.string (s.extract l j)):=fun l j h1 h2=>by
    have:((s.data.toList.map (·.toNat)).take j).drop l=(s.extract l j).data.toList.map (·.toNat):=by
     simp[ByteArray.data_extract,Array.toList_extract,List.extract_eq_take_drop,zCN9,zCA9,zDJ9]
    rw[this];exact .str _
   cases lo<;>cases hi<;>simp only[Option.toList,zAV9,zCY9,zAS9]at hbs
   all_goals
    (try obtain⟨y,_,rfl,hy,hbs⟩:=hbs.cons');(try obtain⟨y2,_,rfl,hy2,hbs⟩:=hbs.cons');obtain rfl:=hbs.nil';simp at hp
    try(repeat' split at hp)
    all_goals first|(cases hp;done)|skip
    all_goals ((try injection hp with hp);subst hp)
   .have:=hex 0 s.size (zAJ9 _) (zAE9 _);rw[<- hsz,zBF9,zER9,hsz]at this;exact⟨.string s,by simp[Instr.slice,run_underlying hu,Instr.sliceBounds],by simpa using this⟩
   .rename_i j hj;obtain⟨k,rfl,hj0⟩:=zel hj hy;have:=hex 0 j (zAJ9 _) hj0;rw[zER9]at this;exact⟨_,by simp[Instr.slice,run_underlying hu,Instr.sliceBounds,zcT hj0];rfl,by simpa using this⟩
   .rename_i j hj;obtain⟨k,rfl,hj0⟩:=zel hj hy;have:=hex j s.size hj0 (zAE9 _);rw[<- hsz,zBF9,hsz]at this;exact⟨_,by simp[Instr.slice,run_underlying hu,Instr.sliceBounds,zcT hj0];rfl,by simpa using this⟩
   .rename_i j hj _ l hl;obtain⟨k,rfl,hj0⟩:=zel hj hy2;obtain⟨k2,rfl,hl0⟩:=zel hl hy;have:=hex l j hl0 hj0;exact⟨_,by simp[Instr.slice,run_underlying hu,Instr.sliceBounds,zcT hj0,zcT hl0];rfl,by simpa using this⟩
 .cases hp
theorem zBx{len:Nat}(hu:P.underlying t=some (.array len e))(hz:zcv P e=some z)(hlen:len<=1000000)(hv:VL ρ vs (x'::(lo.toList++hi.toList)))(hp:zpT len z lo.isSome hi.isSome vs=some v)(w:World):
  ∃v',(Instr.sliceAt t x' lo hi none).run P w=.ok v' w/\VR ρ v v':=by
 unfold zpT at hp
 split at hp
 .obtain⟨h0,hp⟩:=zps hp;obtain⟨h1,hp⟩:=zps hp;obtain⟨h2,hp⟩:=zac hp;injection hp with hp;subst hp;have hle:=zAW9 h2
  cases lo with
  | some _=>simp at h0
  | none=>cases hi with
   | some _=>simp at h1
   | none =>
    obtain⟨_,cs',e,hx,hbs⟩:=hv.oc;injection e with e1 e2;subst e1;subst e2
    cases hx with
    | ptr hρ hc =>
     refine⟨_,?_,.sl hρ (c:=len) zo zo ?_ (.inl rfl) (fun h=>by omega) (by simp only[maxLen];omega)⟩
     .simp[Instr.sliceAt,run_underlying hu,Instr.sliceBounds,Instr.sureAddr,zcj hz,zea]
     .have:(2*len+1)/2=len:=zo;rw[this];omega
 .cases hp
def zzU(P:Program)(t:TypeId):Prop:=(∃k,P.underlying t=some (.int k))\/P.underlying t=some .string
variable {key:TypeId}
theorem zjQ(hk:zzU P key)(b:Bool)(n:Nat)(v:Value)(w:World):(Instr.checkKey b (n+1) key v).run P w=.ok () w:=by
 rcases hk with⟨k,hu⟩|hu<;>simp[Instr.checkKey,run_underlying hu]
theorem EsR.oc{e:zdv}{es:LZ}{es':List MapEntry}(h:EsR ρ (e::es) es'):∃e' r,es'=e'::r/\VR ρ e.k e'.key/\VR ρ e.v e'.val/\e'.born=e.n/\EsR ρ es r:=by
 cases es' with
 | nil=>have:=h.1;simp at this
 | cons e' r =>
  obtain⟨a,b,c⟩:=h.2 0 e e' rfl rfl;exact⟨e',r,rfl,a,b,c,by have:=h.1;simpa using this,fun i x y hx hy=>h.2 (i+1) x y (by simpa using hx) (by simpa using hy)⟩
theorem zp0{d:TypeDesc}(hu:P.underlying key=some d)(hk:zzU P key){x y:TV}{x' y':Value}(hx:VR ρ x x')(hy:VR ρ y y'){b:Bool}(he:ziO x y=some b)(hx1:(∃k,d=.int k)->∃j n,x=.int j n)(hx2:d=.string->∃s,x=.str s):Instr.sameNow d x' y'=some b:=by
 unfold ziO at he
 split at he
 .split at he
  .rename_i k a _ k' b';obtain⟨hk',he2⟩:=zac he;obtain rfl:=zjI hk';injection he2 with he2;subst he2
   cases hx;cases hy
   have:∃k,d=.int k:=by
    rcases hk with⟨j,hj⟩|hj
    all_goals grind
   obtain⟨j,rfl⟩:=this;simp[Instr.sameNow,zdM]
  .cases he
 .split at he
  .injection he with he;subst he
   cases hx with
   | str a=>cases hy with
    | str c =>
     have:d=.string:=by
      rcases hk with⟨j,hj⟩|hj
      all_goals grind
     subst this;have h1:zeO (bts a) (bts c)=(a==c):=by rw[ziu,zu4,beq_toListBytes]
     simp only[Instr.sameNow];exact congrArg some h1.symm
  .cases he
 .cases he
def zGo(d:TypeDesc)(x:TV):Prop:=((∃k,d=.int k)->∃j n,x=.int j n)/\(d=.string->∃s,x=.str s)
theorem zhj{key:TypeId}{d:TypeDesc}(hu:P.underlying key=some d)(hk:zzU P key){x:TV}{x':Value}(hx:VR ρ x x')(hkv:zGo d x):∀{es:LZ} {es':List MapEntry} {i:Nat} {r:Option (Nat×zdv)},EsR ρ es es'->ze9 x es i=some r ->
  ∃r',Instr.findNow d x' es' i=some r'/\((r=none/\r'=none)\/∃j e e',r=some (i+j,e)/\r'=some (i+j,e'.val)/\es[j]?=some e/\es'[j]?=some e'/\ziO x e.k=some true)
 | [],es',i,r,he,hf=>by
  have:es'=[]:=by have:=he.1;cases es' with|nil=>rfl|cons _ _=>simp at this
  subst this;simp[ze9]at hf;subst hf;exact⟨none,rfl,.inl ⟨rfl,rfl⟩⟩
 | e::es,es',i,r,he,hf=>by
  obtain⟨e',rr,rfl,h1,h2,h3,h4⟩:=he.oc;unfold ze9 at hf
  split at hf
  .cases hf
  .rename_i hq;injection hf with hf;subst hf;have:=zp0 hu hk hx h1 hq hkv.1 hkv.2;refine⟨some (i,e'.val),by simp[Instr.findNow,this],.inr ⟨0,e,e',rfl,rfl,rfl,rfl,hq⟩⟩
  .rename_i hq;have:=zp0 hu hk hx h1 hq hkv.1 hkv.2;obtain⟨r',hr',hc⟩:=zhj hu hk hx hkv h4 hf;refine⟨r',by simp[Instr.findNow,this,hr'],?_⟩;rcases hc with hc|⟨j,a,b,c1,c2,c3,c4,c5⟩
   .grind
   .exact .inr ⟨j+1,a,b,by rw[c1];congr 2;omega,by rw[c2];congr 2;omega,by simpa using c3,by simpa using c4,c5⟩
def kfT(kf:Nat)(d:TypeDesc):Prop:=(kf=1/\∃k,d=.int k)\/(kf=2/\d=.string)
variable {ck:Nat}{d:TypeDesc}{kf:Nat}{z:TV}
theorem zpA(hk:kfT kf d)(h:zgN kf x=true):zGo d x:=by
 rcases hk with⟨rfl,k,rfl⟩|⟨rfl,rfl⟩
 .cases x<;>simp[zgN,znD]at h
  exact⟨fun _=>⟨_,_,rfl⟩,fun h=>by cases h⟩
 .cases x<;>simp[zgN,zmL]at h
  exact⟨fun h=>(by obtain⟨_,h⟩:=h;cases h),fun _=>⟨_,rfl⟩⟩
theorem zsm(hu:P.underlying key=some d)(hk:kfT kf d):zzU P key:=by
 rcases hk with⟨_,k,rfl⟩|⟨_,rfl⟩
 .exact .inl ⟨k,hu⟩
 .exact .inr hu
theorem zmO(k:WR P Z ρ h w){b:Nat}{loc:Loc}(hρ:ρ b 0=some loc){es:LZ}(hb:h.get b=some (.map es ck)):∃es',w.heap[loc.r]?=some (.map es' ck)/\EsR ρ es es'.toList:=by
 obtain⟨o,ho,hr⟩:=k.obj b 0 loc hρ;rw[hb]at ho;injection ho with ho;subst ho;obtain⟨loc',es',h1,h2,h3⟩:=hr
 grind
theorem ze6{r:Nat}{es:Array MapEntry}(hh:w.heap[r]?=some (.map es ck)):(getObj r).run P w=.ok (.map es ck) w:=by
 simp[getObj,Sem.run,hh]
theorem zqG{ok:Bool}{v':Value}(h:VR ρ v v')(b:Bool):VR ρ (okT ok v b) (if ok=true then .tuple #[v',.bool b]else v'):=by
 cases ok
 .exact h
 .exact VR.tL (.cons h (VL.one (.bool b)))
theorem zvl(k:WR P Z ρ h w){e:TypeId}(hu:P.underlying t=some (.map key e))(hd:P.underlying key=some d)(hkf:kfT kf d)(hz:zew P e=some z){ok:Bool}(hx:VR ρ x x')(hy:VR ρ y y')(hv:zji kf z ok h x y=some v):
  ∃v',(Instr.lookup t x' y' ok).run P w=.ok v' w/\VR ρ v v':=by
 have hkt:=zsm hd hkf;obtain⟨zv,hzv,hzr⟩:=zhw (ρ:=ρ) hz w;unfold zji at hv;obtain⟨h0,hv⟩:=zac hv;have hkv:=zpA hkf h0;have hck:∀b,(Instr.checkKey b 10000 key y').run P w=.ok () w:=fun b=>zjQ hkt b 9999 y' w
 split at hv
 .injection hv with hv;subst hv
  cases hx
  refine⟨_,?_,zqG hzr false⟩;simp[Instr.lookup,run_underlying hu,hck,Instr.findKey,run_underlying hd,Instr.findNow,hzv]
 .split at hv
  .rename_i o ho;unfold zgL at hv
   split at hv
   .rename_i es ck
    cases hx with
    | map hρ =>
     obtain⟨es',he,her⟩:=zmO k hρ ho
     split at hv
     .rename_i j e hf;injection hv with hv;subst hv;obtain⟨r',hr',hc⟩:=zhj hd hkt hy hkv her hf;rcases hc with⟨hc,_⟩|⟨j',a,b,c1,c2,c3,c4,c5⟩
      .cases hc
      .injection c1 with c1;injection c1 with _ c1;subst c1;subst c2;obtain⟨_,hvv,_⟩:=her.2 j' e b c3 c4;refine⟨_,?_,zqG hvv true⟩;simp[Instr.lookup,run_underlying hu,ze6 he,hck,Instr.findKey,run_underlying hd,hr']
     .rename_i hf;injection hv with hv;subst hv;obtain⟨r',hr',hc⟩:=zhj hd hkt hy hkv her hf;rcases hc with⟨_,rfl⟩|⟨j',a,b,c1,_⟩
      .refine⟨_,?_,zqG hzr false⟩;simp[Instr.lookup,run_underlying hu,ze6 he,hck,Instr.findKey,run_underlying hd,hr',hzv]
      .cases c1
     .cases hv
   .cases hv
  .cases hv
 .cases hv
theorem zwL{X:TypeId}(hu:P.underlying t=some d)(hd:∀ms,d ≠ .interface ms)(hz:zew P t=some z){ok:Bool}(hx:VR ρ x x')(hv:zma t z ok x=some v)(w:World):
  ∃v',(Instr.typeAssert x' X t ok).run P w=.ok v' w/\VR ρ v v':=by
 obtain⟨zv,hzv,hzr⟩:=zhw (ρ:=ρ) hz w;unfold zma at hv
 split at hv
 .cases hx with
  | iface hr =>
   rename_i t' u u'
   cases hb:Nat.beq t t'<;>rw[hb]at hv
   .have hne:t'≠t:=fun e=>by subst e;simp at hb
    simp only[cond_false]at hv;obtain⟨rfl,hv⟩:=zac hv;injection hv with hv;subst hv;refine⟨_,?_,VR.tL (.cons hzr (VL.one (.bool false)))⟩
    cases d<;>first|(exact absurd rfl (hd _))|simp[Instr.typeAssert,run_underlying hu,hne,hzv]
   .obtain rfl:=zAL9 hb;simp only[cond_true]at hv;injection hv with hv;subst hv;refine⟨_,?_,zqG hr true⟩
    cases d<;>first|(exact absurd rfl (hd _))|simp[Instr.typeAssert,run_underlying hu]
 .obtain⟨rfl,hv⟩:=zac hv;injection hv with hv;subst hv
  cases hx
  refine⟨_,?_,VR.tL (.cons hzr (VL.one (.bool false)))⟩
  cases d<;>first|(exact absurd rfl (hd _))|simp[Instr.typeAssert,run_underlying hu,hzv]
 .cases hv
theorem zsC(off:Nat):∀(cs:LM) (k:Nat) (cells:LW),off+k+cs.length<=cells.size ->
  ((cs.zipIdx k).foldl (fun a (x:Value×Nat)=>a.setIfInBounds (off+x.2) x.1) cells).toList=cells.toList.take (off+k)++cs++cells.toList.drop (off+k+cs.length)
 | [],k,cells,_=>by simp
 | c::cs,k,cells,h=>by
  simp only[zAG9]at h;have hlt:off+k<cells.toList.length:=by simp;omega
  rw[List.zipIdx_cons,zFZ9,zsC off cs (k+1) _ (by simp;omega)];have h1:(cells.setIfInBounds (off+k) c).toList.take (off+(k+1))=cells.toList.take (off+k)++[c]:=by
   rw[zFT9,show off+(k+1)=(off+k)+1 by omega,zBB9];rw[List.take_set_of_le (zAE9 _)]
   grind
  have h2:(cells.setIfInBounds (off+k) c).toList.drop (off+(k+1)+cs.length)=cells.toList.drop (off+k+(cs.length+1)):=by
   rw[zFT9,List.drop_set_of_lt zo]
   grind
  simp_all
theorem zDD(cells v:LW)(off:Nat)(h:off+v.size<=cells.size) :
  v.zipIdx.foldl (fun cs (x:Value×Nat)=>cs.setIfInBounds (off+x.2) x.1) cells=(cells.toList.take off++v.toList++cells.toList.drop (off+v.size)).toArray:=by
 apply Array.ext'
 have:=zsC off v.toList 0 cells (by simpa using h);simp only[zDC9,zEQ9]at this;rw[<- this,<- Array.foldl_toList];simp
theorem zmn{place:Nat->Option (Nat×Nat)}:∀{parts:List (Nat×Value)} {places:List (Nat×Nat)} {vs:LK} {cells:LK} {cs:LW} {l:LK},
  places.length=parts.length->(∀(i:Nat) p q,parts[i]?=some p->places[i]?=some q->place p.1=some q)->VL ρ vs (parts.map (·.2))->VL ρ cells cs.toList->(∀x∈cells,x.one=true)->(∀q∈places,q.2≠0)->zkD cells places vs=some l ->
  ∃ds,Instr.fill place cs parts=some ds/\VL ρ l ds.toList/\(∀x∈l,x.one=true)/\l.length=cells.length
 | [],places,vs,cells,cs,l,hl,_,hv,hc,h1,_,hf=>by
  have:places=[]:=by cases places;rfl;simp at hl
  subst this;have:vs=[]:=by have:=hv.1;cases vs;rfl;simp at this
  subst this;simp[zkD]at hf;subst hf;exact⟨cs,rfl,hc,h1,rfl⟩
 | (i,v)::parts,places,vs,cells,cs,l,hl,hp,hv,hc,h1,hz,hf=>by
  cases places with
  | nil=>simp at hl
  | cons q places =>
   cases vs with
   | nil=>have:=hv.1;simp at this
   | cons u vs =>
    obtain⟨_,_,e,hu,hvs⟩:=hv.oc;simp at e;obtain⟨rfl,rfl⟩:=e;obtain⟨off,size⟩:=q;simp only[zkD]at hf;obtain⟨ha,hf⟩:=zac hf;obtain⟨hb,hf⟩:=zac hf;have hsz:=zAL9 ha;have hle:=zAW9 hb;have hz0:size≠0:=hz (off,size) (by simp);obtain⟨hcl,hc1⟩:=hu.cells (.inl (by intro e;rw[e]at hsz;simp at hsz;omega));have hvsz:v.cells.size=size:=by have:=hcl.1;rw[hsz]at this;simpa using this.symm
    have hcsz:cs.size=cells.length:=by have:=hc.1;simpa using this.symm
    have hpl:=hp 0 (i,v) (off,size) rfl rfl;dsimp only at hpl;have hstep:=zDD cs v.cells off zo;obtain⟨ds,hd,hd1,hd2,hd3⟩:=zmn (place:=place) (parts:=parts) (places:=places) (vs:=vs) (cs:=(cs.toList.take off++v.cells.toList++cs.toList.drop (off+v.cells.size)).toArray) (by simpa using hl) (fun j p q hj hq=>hp (j+1) p q (by simpa using hj) (by simpa using hq)) hvs
     (by rw[hvsz];exact((hc.take off).app hcl).app (hc.drop (off+size))) (fun x hx=>by
      rcases zBG9.1 hx with hx|hx
      .rcases zBG9.1 hx with hx|hx
       .exact h1 x (zBP9 hx)
       .exact hc1 x hx
      .exact h1 x (zBX9 hx)) (fun q hq=>hz q (zAQ9 _ hq)) hf
    refine⟨ds,?_,hd1,hd2,by rw[hd3];simp[hsz];omega⟩;unfold Instr.fill;rw[hpl];simp only;rw[if_neg (by simp[hvsz];omega)];rw[<- hd]
    congr 1
theorem zAC{z:LK}(hz:zew P t=some (.agg z)){ops:Array (Nat×Operand)}{ps:List (Nat×Nat)}(hps:zsb P t ops.toList=some ps){a:Act}{vs:LK}(hv:VL ρ vs ((ops.toList.map (·.2)).map a.eval))(hp:zqF z ps vs=some v)(w:World):
  ∃v',(Instr.build t (ops.map fun(i,x)=>(i,a.eval x))).run P w=.ok v' w/\VR ρ v v':=by
 obtain⟨i,zv,hi,hzi,hzr⟩:=zmv hz;have hzr:=hzr ρ;unfold zqF at hp
 split at hp
 .rename_i l hl;injection hp with hp;subst hp;unfold zsb at hps
  split at hps
  .rename_i fs hu
   split at hps
   .rename_i pl hpl;obtain⟨m1,m2⟩:=zlm hps
    cases hzr with
    | agg hl0 h1 hr =>
     rename_i cs;obtain⟨ds,hd,hd1,hd2,_⟩:=zmn (place:=fun i=>pl[i]?) (parts:=(ops.map fun(i,x)=>(i,a.eval x)).toList) (places:=ps) (vs:=vs) (cells:=z) (cs:=cs.toArray) (by simp[m1]) (fun j p q hj hq=>by
       simp only[zES9,zAF9]at hj
       cases ho:ops.toList[j]? with
       | none=>rw[ho]at hj;cases hj
       | some o =>
        rw[ho]at hj;simp at hj;have:=m2 j o q ho hq;unfold zse at this
        split at this
        .split at this
         .cases this
         .injection this with this;subst this;rw[<- hj];assumption
        .cases this) (by simpa[Function.comp_def]using hv) ⟨by simpa using hl0,by simpa using hr⟩ h1 (fun q hq=>by
       obtain⟨j,hj,rfl⟩:=zBN9.1 hq;have hj':j<ops.toList.length:=by rw[<- m1];exact hj
       have:=m2 j ops.toList[j] ps[j] (zAA9 hj') (zAA9 hj);unfold zse at this
       split at this
       .split at this
        .cases this
        .injection this with this;rw[<- this];assumption
       .cases this) hl
     refine⟨.agg ds,?_,by have:=VR.aggL hd1 hd2;simpa using this⟩;simp only[zES9]at hd;simp[Instr.build,run_underlying hu,typeInfo,zeroValue,hi,hzi,Array.mapM_eq_mapM_toList,run_places w _ _ hpl,Value.cells,hd]
   .cases hps
  .rename_i len e hu
   split at hps
   .rename_i n hn;injection hps with hps;subst hps
    cases hzr with
    | agg hl0 h1 hr =>
     rename_i cs;obtain⟨ds,hd,hd1,hd2,_⟩:=zmn (place:=fun i=>some (i*n,n)) (parts:=(ops.map fun(i,x)=>(i,a.eval x)).toList) (places:=ops.toList.map fun p=>(p.1*n,n)) (vs:=vs) (cells:=z) (cs:=cs.toArray) (by simp) (fun j p q hj hq=>by
       simp only[zES9,zAF9]at hj hq
       cases ho:ops.toList[j]? with
       | none=>rw[ho]at hj;cases hj
       | some o=>rw[ho]at hj hq;simp at hj hq;subst hj;subst hq;rfl) (by simpa[Function.comp_def]using hv) ⟨by simpa using hl0,by simpa using hr⟩ h1 (fun q hq=>by obtain⟨p,_,rfl⟩:=zAH9.1 hq;exact(zeE hn).1) hl
     refine⟨.agg ds,?_,by have:=VR.aggL hd1 hd2;simpa using this⟩;simp only[zES9]at hd;simp[Instr.build,run_underlying hu,typeInfo,zeroValue,hi,hzi,zcj hn,Value.cells,hd]
   .cases hps
  .cases hps
 .cases hp
theorem zwe{k:Nat}(hk:(k=1/\∃j,P.underlying t=some (.int j))\/(k=2/\P.underlying t=some .bool)\/(k=3/\P.underlying t=some .string))(hx:VR ρ x x')(hy:VR ρ y y'){b:Bool}(he:zmi k x y=some b)(d:Nat)(w:World):
  (Op.equalIn (d+1) t x' y').run P w=.ok b w/\(isAgg t).run P w=.ok false w:=by
 unfold zmi at he
 split at he
 .obtain⟨hk1,he1⟩:=zac he;have hk0:=zAL9 hk1;clear he hk1;subst hk0;have he:=he1;clear he1;rcases hk with⟨_,j,hu⟩|⟨h,_⟩|⟨h,_⟩<;>first|omega|skip
  split at he
  .obtain⟨hkk,he2⟩:=zac he;obtain rfl:=zjI hkk;injection he2 with he2;subst he2
   cases hx;cases hy
   exact⟨by rw[run_equalIn_int w d t _ j _ _ hu,zdM],by simp[isAgg,run_underlying hu]⟩
  .cases he
 .obtain⟨hk1,he1⟩:=zac he;have hk0:=zAL9 hk1;clear he hk1;subst hk0;have he:=he1;clear he1;rcases hk with⟨h,_⟩|⟨_,hu⟩|⟨h,_⟩<;>first|omega|skip
  split at he
  .injection he with he;subst he
   cases hx;cases hy
   have hbc:∀a c:Bool,(a==c)=(bif a then c else not c):=by decide
   exact⟨by rw[run_equalIn_bool' w d t _ _ hu,hbc],by simp[isAgg,run_underlying hu]⟩
  .cases he
 .obtain⟨hk1,he1⟩:=zac he;have hk0:=zAL9 hk1;clear he hk1;subst hk0;have he:=he1;clear he1;rcases hk with⟨h,_⟩|⟨h,_⟩|⟨_,hu⟩<;>first|omega|skip
  split at he
  .injection he with he;subst he
   cases hx with
   | str a=>cases hy with
    | str c =>
     refine⟨?_,by simp[isAgg,run_underlying hu]⟩;rw[run_equalIn_string w d t _ _ hu];have:zeO (bts a) (bts c)=(a.toList==c.toList):=by rw[ziu,zu4]
     exact congrArg (fun b=>Result.ok b w) this.symm
  .cases he
 .cases he
theorem zkK:∀{ks ms:LN} {l m:LK} {b:Bool},zcX (ks++ms) l m=some b->∃b1,zcX ks (l.take ks.length) (m.take ks.length)=some b1/\(b1=true->zcX ms (l.drop ks.length) (m.drop ks.length)=some b)/\(b1=false->b=false)
 | [],ms,l,m,b,h=>⟨true,by simp[zcX],fun _=>by simpa using h,fun h=>by cases h⟩
 | k::ks,ms,l,m,b,h=>by
  rw[zAS9]at h;unfold zcX at h
  split at h
  .grind
  .rename_i k0 ks0 x l0 y m0 hkk;injection hkk with hk1 hk2;subst hk1;subst hk2
   split at h
   .rename_i hsc;obtain⟨b1,h1,h2,h3⟩:=zkK h;exact⟨b1,by simp[zcX,hsc,h1],by simpa using h2,h3⟩
   .rename_i r hsc;have hb:b=false:=by grind
    subst hb;exact⟨false,by simp[zcX,h],fun h=>(by cases h),fun _=>rfl⟩
  .cases h
def zjU(P:Program)(t:TypeId)(cs:LM):Value:=if zem P t=some true then .agg cs.toArray else cs.headD default
theorem zC6{g:Bool}(h:zem P t=some g)(w:World):(isAgg t).run P w=.ok g w:=by
 unfold zem at h
 split at h
 .rename_i hu;injection h with h;subst h;simp[isAgg,run_underlying hu]
 .rename_i hu;injection h with h;subst h;simp[isAgg,run_underlying hu]
 .rename_i u hn1 hn2 hu;injection h with h;subst h
  cases u<;>first|exact absurd rfl (hn1 _)|exact absurd rfl (hn2 _ _)|exact absurd hu (hn1 _)|exact absurd hu (hn2 _ _)|simp[isAgg,run_underlying hu]
 .cases h
def EqD(P:Program)(ρ:Rho)(D:Nat)(t:TypeId)(ks:LN):Prop:=∀{l m:LK} {cs ds:LM},VL ρ l cs->VL ρ m ds->cs.length=ks.length->ds.length=ks.length->∀{b:Bool},zcX ks l m=some b->∀w,(Op.equalIn D t (zjU P t cs) (zjU P t ds)).run P w=.ok b w
variable {D:Nat}{a:Value}{args:LY}{b d:Nat}{dst:TypeId}{kd:zaf}{ks:LN}{l:LK}{neg:Bool}{s:Sem Value}{src:TypeId}
theorem zkl{z:Nat}(hg:zem P t=some g)(hz:zcv P t=some z)(h1:g=false->z=1){cs:LM}{o:Nat}(h:o+z<=cs.length)(w:World):(part t cs.toArray o).run P w=.ok (zjU P t ((cs.drop o).take z)) w:=by
 unfold part;simp only[Sem.run_bind,zC6 hg w,Result.andThen_ok]
 cases g
 .have hz1:=h1 rfl;subst hz1;have ho:o<cs.length:=zo;simp only[zCQ9,if_false,zjU,hg,Option.some.injEq];have e:cs.toArray[o]?=some cs[o]:=by simp[ho]
  rw[e];have e2:(cs.drop o).take 1=[cs[o]]:=by rw[zAM9 ho];rfl
  rw[e2];rfl
 .simp only[if_true,Sem.run_bind,zcj hz,Result.andThen_ok,zjU,hg];have:cs.toArray.extract o (o+z)=((cs.drop o).take z).toArray:=by
   apply Array.ext'
   simp[List.take_drop]
  rw[this];rfl
theorem zqa(h:zf5 P d t=some ks):∃g,zem P t=some g/\(g=false->ks.length=1):=by
 cases d with
 | zero=>simp[zf5]at h
 | succ d =>
  unfold zf5 at h;unfold zem
  split at h
  .rename_i hu;rw[hu];injection h with h;subst h;exact⟨false,rfl,fun _=>rfl⟩
  .rename_i hu;rw[hu];injection h with h;subst h;exact⟨false,rfl,fun _=>rfl⟩
  .rename_i hu;rw[hu];injection h with h;subst h;exact⟨false,rfl,fun _=>rfl⟩
  .rename_i hu;rw[hu];exact⟨true,rfl,fun h=>(by cases h)⟩
  .rename_i hu;rw[hu];exact⟨true,rfl,fun h=>(by cases h)⟩
  .cases h
theorem zsJ(IH:∀t ks,zf5 P d t=some ks->EqD P ρ D t ks):∀{fs:List Field} {n:Nat} {ks:LN},znB P (zf5 P d) fs n=some ks->∀{l m:LK} {cs ds:LM},VL ρ l (cs.drop n)->VL ρ m (ds.drop n)->cs.length=n+ks.length->ds.length=n+ks.length->∀{b:Bool},zcX ks l m=some b->∀w,(Op.eqFields D cs.toArray ds.toArray fs).run P w=.ok b w
 | [],n,ks,hf,l,m,cs,ds,hl,hm,hc,hd,b,he,w=>by
  simp[znB]at hf;subst hf;unfold zcX at he
  split at he
  .injection he with he;subst he;simp[Op.eqFields]
  all_goals grind
 | f::fs,n,ks,hf,l,m,cs,ds,hl,hm,hc,hd,b,he,w=>by
  unfold znB at hf
  split at hf
  .cases hf
  rename_i hname
  split at hf
  .cases hf
  rename_i hoff;have hoff:f.offset=n:=Classical.not_not.1 hoff
  split at hf
  .rename_i k1 z hk1 hz
   split at hf
   .rename_i hkz
    split at hf
    .rename_i ms hms;injection hf with hf;subst hf;subst hkz;simp only[zAB9]at hc hd;obtain⟨b1,e1,e2,e3⟩:=zkK he;obtain⟨g,hg,hg1⟩:=zqa hk1;have p1:=zkl hg hz hg1 (cs:=cs) (o:=n) zo w;have p2:=zkl hg hz hg1 (cs:=ds) (o:=n) zo w;have q:=IH _ _ hk1 (hl.take k1.length) (hm.take k1.length) (by simp;omega) (by simp;omega) e1 w;have hlr:=hl.drop k1.length;have hmr:=hm.drop k1.length;rw[zEF9]at hlr hmr
     cases b1 with
     | true =>
      have ih:=zsJ IH hms hlr hmr zo zo (e2 rfl) w;simp[Op.eqFields,hname,hoff,p1,p2,q,ih]
     | false =>
      obtain rfl:=e3 rfl;simp[Op.eqFields,hname,hoff,p1,p2,q]
    .cases hf
   .cases hf
  .cases hf
theorem ztN{z:Nat}(hg:zem P e=some g)(hg1:g=false->ks.length=1)(hz:zcv P e=some z)(hkz:ks.length=z)(IH:EqD P ρ D e ks):∀{n i:Nat} {l m:LK} {cs ds:LM},VL ρ l (cs.drop (i*z))->VL ρ m (ds.drop (i*z))->cs.length=(i+n)*z->ds.length=(i+n)*z->∀{b:Bool},zcX (znd ks n) l m=some b->∀w,(Op.eqItems D e z cs.toArray ds.toArray (List.range' i n)).run P w=.ok b w
 | 0,i,l,m,cs,ds,hl,hm,hc,hd,b,he,w=>by
  unfold znd zcX at he
  split at he
  .injection he with he;subst he;simp[Op.eqItems]
  all_goals grind
 | n+1,i,l,m,cs,ds,hl,hm,hc,hd,b,he,w=>by
  unfold znd at he;obtain⟨b1,e1,e2,e3⟩:=zkK he;rw[hkz]at e1 e2 hg1;have hlen:(i+(n+1))*z=i*z+z+n*z:=by rw[show i+(n+1)=i+1+n by omega,zCZ9,zCZ9,Nat.one_mul]
  have p1:=zkl hg hz hg1 (cs:=cs) (o:=i*z) zo w;have p2:=zkl hg hz hg1 (cs:=ds) (o:=i*z) zo w;have q:=IH (hl.take z) (hm.take z) (by simp;omega) (by simp;omega) e1 w;have hlr:=hl.drop z;have hmr:=hm.drop z;rw[zEF9]at hlr hmr;have e4:i*z+z=(i+1)*z:=by rw[zCZ9,Nat.one_mul]
  rw[e4]at hlr hmr;rw[List.range'_succ]
  cases b1 with
  | true =>
   have ih:=ztN hg (by rw[hkz];exact hg1) hz hkz IH hlr hmr (by rw[hc];congr 1;omega) (by rw[hd];congr 1;omega) (e2 rfl) w;simp[Op.eqItems,p1,p2,q,ih]
  | false =>
   obtain rfl:=e3 rfl;simp[Op.eqItems,p1,p2,q]
theorem znR:∀(d D:Nat) (t:TypeId) (ks:LN),zf5 P d t=some ks->EqD P ρ (D+d) t ks
 | 0,_,_,_,h=>by simp[zf5]at h
 | d+1,D,t,ks,h=>by
  rename_i l m cs ds;intro hl hm hc hd b he w;have hOne:∀k,ks=[k]->zem P t=some false->((k=1/\∃j,P.underlying t=some (.int j))\/(k=2/\P.underlying t=some .bool)\/(k=3/\P.underlying t=some .string))->(Op.equalIn (D+(d+1)) t (zjU P t cs) (zjU P t ds)).run P w=.ok b w:=by
   intro k hk hg hkk;subst hk;unfold zcX at he
   split at he
   .grind
   .rename_i k0 ks0 x l0 y m0 hk0;injection hk0 with hk1 hk2;subst hk1;subst hk2;obtain⟨x',cs',rfl,hx,hl'⟩:=hl.oc;obtain⟨y',ds',rfl,hy,hm'⟩:=hm.oc;simp only[zjU,hg,Option.some.injEq,zCQ9,if_false,List.headD_cons]
    split at he
    .rename_i hsc;unfold zcX at he
     split at he
     .injection he with he;subst he;exact(zwe hkk hx hy hsc (D+d) w).1
     all_goals grind
    .exact(zwe hkk hx hy he (D+d) w).1
   .cases he
  unfold zf5 at h
  split at h
  .rename_i k hu;injection h with h;exact hOne 1 h.symm (by simp[zem,hu]) (.inl ⟨rfl,_,hu⟩)
  .rename_i hu;injection h with h;exact hOne 2 h.symm (by simp[zem,hu]) (.inr (.inl ⟨rfl,hu⟩))
  .rename_i hu;injection h with h;exact hOne 3 h.symm (by simp[zem,hu]) (.inr (.inr ⟨rfl,hu⟩))
  .rename_i fs hu
   split at h
   .cases h
   rename_i hs;have hs:P.stoodInHeld t=false:=by simpa using hs
   have hfo:P.fieldsOf t=fs:=by simp[Program.fieldsOf,hu]
   have hg:zem P t=some true:=by simp[zem,hu]
   simp only[zjU,hg,if_true];rw[show D+(d+1)=(D+d)+1 from rfl,run_equalIn_struct w (D+d) t cs.toArray ds.toArray (by rw[hfo];exact hu) hs,hfo];exact zsJ (fun t ks hk=>znR d D t ks hk) h (by simpa using hl) (by simpa using hm) zo zo he w
  .rename_i n e hu
   split at h
   .rename_i k1 z hk1 hz
    split at h
    .rename_i hkz;injection h with h;subst h;obtain⟨hz0,i,hi,hiz⟩:=zeE hz;have hg:zem P t=some true:=by simp[zem,hu]
     obtain⟨g,hg2,hg1⟩:=zqa hk1;simp only[zjU,hg,if_true];have hco:P.cellsOf e=z:=by simp[Program.cellsOf,hi,hiz]
     rw[show D+(d+1)=(D+d)+1 from rfl,run_equalIn_array w (D+d) cs.toArray ds.toArray hu hi,hco,List.range_eq_range'];have hrl:∀n,(znd k1 n).length=n*z:=fun n=>by induction n with|zero=>simp[znd]|succ n ih=>simp[znd,ih,hkz,zCZ9,zDS9]
     rw[hrl]at hc hd;exact ztN hg2 hg1 hz hkz (znR d D e k1 hk1) (by simpa using hl) (by simpa using hm) (by simpa using hc) (by simpa using hd) he w
    .cases h
   .cases h
  .cases h
theorem zBV(hf:zqn P t=some ks)(hx:VR ρ x x')(hy:VR ρ y y')(hv:znq neg ks x y=some v)(X Y:Operand)(w:World):
  ∃v',(do eqGuard (if neg=true then .neq else .eql) t X Y x' y';binOp (if neg=true then .neq else .eql) t x' y':Sem Value).run P w=.ok v' w/\VR ρ v v':=by
 obtain⟨hg,hfl,ha⟩:P.eqGuardType P.depth t=false/\zf5 P 8 t=some ks/\zem P t=some true:=by
  unfold zqn at hf;unfold zem
  grind
 unfold znq at hv
 split at hv
 .split at hv
  .obtain⟨hll,hv⟩:=zac hv;obtain⟨hmm,hv⟩:=zac hv;have hll:=zAL9 hll;have hmm:=zAL9 hmm;obtain⟨b,hb,rfl⟩:=zuM hv
   cases hx with
   | agg hl h1 hr =>
    cases hy with
    | agg hm h2 hq =>
     rename_i cs ds;have heq:∀w,(Op.equalIn 10000 t (.agg cs.toArray) (.agg ds.toArray)).run P w=.ok b w:=fun w=>by
      have:=znR 8 9992 t ks hfl (ρ:=ρ) (cs:=cs) (ds:=ds) ⟨hl,hr⟩ ⟨hm,hq⟩ zo zo hb w;simpa[zjU,ha]using this
     have hgr:∀op,(eqGuard op t X Y (.agg cs.toArray) (.agg ds.toArray)).run P w=.ok () w:=fun op=>run_eqGuard_agg w op t X Y _ _ hg
     cases neg
     .refine⟨.bool b,?_,by simpa using VR.bool (ρ:=ρ) b⟩;have h4:=run_eql_struct (P:=P) w t cs.toArray ds.toArray;rw[heq]at h4;simp only[zCQ9,if_false,Sem.run_bind,hgr,Result.andThen_ok];exact h4
     .refine⟨.bool (!b),?_,by simpa using VR.bool (ρ:=ρ) (!b)⟩;have h4:=run_neq_struct (P:=P) w t cs.toArray ds.toArray;rw[heq]at h4;simp only[if_true,Sem.run_bind,hgr,Result.andThen_ok];exact h4
  .cases hv
 .cases hv
theorem zlI{k:zaf}{xs:AA}(hm:mk k xs=some (kd,args)):kd=k/\zd2 opT xs=some args:=by
 unfold mk at hm
 grind
theorem zfA{v:Value}{w':World}(hs:s.run P w=.ok v w'):(do pure (Next.value (<- s)):Sem Next).run P w=.ok (.value v) w':=by simp[hs]
theorem VL.two{b:Value}(h:VL ρ l [a,b])(e:l=[x,y]):VR ρ x a/\VR ρ y b:=by
 subst e;exact⟨h.2 0 x a rfl rfl,h.2 1 y b rfl rfl⟩
theorem VL.uno(h:VL ρ l [a])(e:l=[x]):VR ρ x a:=by
 subst e;exact h.2 0 x a rfl rfl
theorem toV{k:WR P Z ρ h w}{op:BinOp}{x y:Operand}{b:Bool}(hc:ziX P t x y x' y' b w)(hop:op=if neg=true then .neq else .eql):
  (do eqGuard op t x y x' y';binOp op t x' y':Sem Value).run P w=.ok (.bool (neg ^^ b)) w:=by
 subst hop;obtain⟨h1,h2,h3⟩:=hc
 cases neg
 all_goals simp_all
theorem zFJ(hu:P.underlying t=some .bool)(hx:VR ρ x x')(hy:VR ρ y y')(hv:zrw neg x y=some v)(X Y:Operand)(w:World):
  ∃v',(do eqGuard (if neg=true then .neq else .eql) t X Y x' y';binOp (if neg=true then .neq else .eql) t x' y':Sem Value).run P w=.ok v' w/\VR ρ v v':=by
 unfold zrw at hv
 split at hv
 .rename_i a
  split at hv
  .rename_i c;injection hv with hv;subst hv
   cases hx with
   | bool _=>cases hy with
    | bool _ =>
     have he:=run_equalIn_bool' (P:=P) w 9999 t a c hu;have hbc:∀a c:Bool,(a==c)=(bif a then c else not c):=by decide
     have hbd:∀a c:Bool,(!(a==c))=(bif a then not c else c):=by decide
     cases neg
     .refine⟨.bool (a==c),?_,by rw[hbc];exact .bool _⟩;have:binOp .eql t (.bool a) (.bool c)=(do pure (.bool (<- Op.equal t (.bool a) (.bool c)))):=rfl;simp[this,zkm,he,eqGuard]
     .refine⟨.bool (!(a==c)),?_,by rw[hbd];exact .bool _⟩;have:binOp .neq t (.bool a) (.bool c)=(do pure (.bool (!(<- Op.equal t (.bool a) (.bool c))))):=rfl;simp[this,zkm,he,eqGuard]
  .cases hv
 .cases hv
theorem zGr{op:UnOp}(hx:VR ρ x x')(hv:pUn op x=some v)(w:World):∃v',(Op.unary op x').run P w=.ok v' w/\VR ρ v v':=by
 unfold pUn at hv
 split at hv
 .unfold zCp at hv
  split at hv
  .injection hv with hv;subst hv;cases hx
   exact⟨_,by simp[Op.unary],.bool _⟩
  .cases hv
 .unfold zDL at hv
  split at hv
  .injection hv with hv;subst hv;cases hx
   exact⟨_,by simp[Op.unary,Op.intArith],.int _ _⟩
  .cases hv
 .unfold zGg at hv
  split at hv
  .rename_i n
   cases hx
   obtain⟨v',h1,h2⟩:=zxF (ρ:=ρ) (t:=0) hv w;refine⟨v',?_,h2⟩;have e:(Op.unary .xor (.int .u64 n):Sem Value)=binOp .xor 0 (.int .u64 (.ofNat 18446744073709551615)) (.int .u64 n):=by
    simp[Op.unary,binOp,IntKind.signed,IntKind.max,IntKind.bits]
   rw[e];exact h1
  .cases hv
 .cases hv
theorem zFP(k:WR P Z ρ h w){d:TypeDesc}(hu:P.underlying t=some d){f:Nat}(hd:(f=1/\∃e,d=.slice e)\/(f=2/\∃a b,d=.map a b)\/(f=3/\d=.string))(hx:VR ρ x x')(hv:zrM f h x=some v)(ty:TypeId):
  ∃v',(Builtin.len_ #[t] ty #[x']).run P w=.ok v' w/\VR ρ v v':=by
 rcases hd with⟨rfl,e,rfl⟩|⟨rfl,a,b,rfl⟩|⟨rfl,rfl⟩
 .simp only[zrM]at hv
  cases x<;>simp[zEt]at hv
  .subst hv;cases hx
   exact⟨_,by simp[Builtin.len_,run_underlying hu,goInt],.int _ _⟩
  .subst hv;cases hx
   exact⟨_,by simp[Builtin.len_,run_underlying hu,goInt],.int _ _⟩
 .simp only[zrM]at hv;unfold zzf at hv
  split at hv
  .injection hv with hv;subst hv;cases hx
   exact⟨_,by simp[Builtin.len_,run_underlying hu,goInt],.int _ _⟩
  .split at hv
   .rename_i o ho;unfold zGv at hv
    split at hv
    .rename_i es ck;injection hv with hv;subst hv
     cases hx with
     | map hρ =>
      obtain⟨es',he,her⟩:=zmO k hρ ho;have:es.length=es'.size:=by have:=her.1;simpa using this
      refine⟨.int .i64 (es'.size:Nat),by simp[Builtin.len_,run_underlying hu,ze6 he,goInt],?_⟩;rw[this];exact .int _ _
    .cases hv
   .cases hv
  .cases hv
 .simp only[zrM]at hv;unfold zt5 at hv
  split at hv
  .injection hv with hv;subst hv
   cases hx with
   | str s=>exact⟨_,by simp[Builtin.len_,run_underlying hu,goInt];rfl,by simpa using VR.int (ρ:=ρ) .i64 (s.size:Nat)⟩
  .cases hv
theorem zxn{mx:Bool}(hx:VR ρ x x')(hy:VR ρ y y')(hv:zkZ mx x y=some v)(ts:Array TypeId)(ty:TypeId)(w:World):
  ∃v',(if mx=true then Builtin.max_ ts ty #[x',y']else Builtin.min_ ts ty #[x',y']).run P w=.ok v' w/\VR ρ v v':=by
 unfold zkZ at hv
 split at hv
 .split at hv
  .rename_i k a _ k' b;obtain⟨hk,hv1⟩:=zac hv;have hkk:=zjI hk;subst hkk;injection hv1 with hv1;subst hv1
   cases hx;cases hy
   cases mx
   .refine⟨.int k (if b<a then b else a),by simp[Builtin.min_,Builtin.min2],?_⟩;have:(if b<a then b else a)=(bif ile a b then a else b):=by
     rw[zf2];by_cases h:a<=b
     all_goals grind
    rw[this];exact .int _ _
   .refine⟨.int k (if b>a then b else a),by simp[Builtin.max_,Builtin.max2],?_⟩;have:(if b>a then b else a)=(bif ile b a then a else b):=by
     rw[zf2];by_cases h:b<=a
     all_goals grind
    rw[this];exact .int _ _
  .cases hv
 .cases hv
theorem zEl{c b:Value}(h:VL ρ vs [c,a,b])(hv:zH9 vs=some v)(w:World):∃v',(do pure (if <- asBool c then a else b):Sem Value).run P w=.ok v' w/\VR ρ v v':=by
 unfold zH9 at hv
 split at hv
 .injection hv with hv;subst hv;rename_i c0 a0 b0;have h0:=h.2 0 _ _ rfl rfl;have h1:=h.2 1 _ _ rfl rfl;have h2:=h.2 2 _ _ rfl rfl
  cases h0
  cases c0
  .exact⟨b,by simp[asBool],h2⟩
  .exact⟨a,by simp[asBool],h1⟩
 .cases hv
theorem zdU(f:Operand->Value)(b:Builtin)(args:AX)(ts:Array TypeId)(ty:TypeId)(w:World):(do let d <- resolve f { callee:=.builtin b,args:=args,argTypes:=ts } ty;invoke d.target d.args:Sem Next).run P w=(builtin b ts ty (args.map fun | .const _=>true|_=>false) (args.map f)).run P w:=by
 simp only[resolve,invoke,Sem.run_bind,Sem.run_pure,Result.andThen_ok];rfl
def zkz(P:Program)(ρ:Rho)(w:World)(s:Sem Next)(v:TV):Prop:=∃v',s.run P w=.ok (.value v') w/\VR ρ v v'
theorem zkz.of(hs:∃v',s.run P w=.ok v' w/\VR ρ v v'):zkz P ρ w (do pure (.value (<- s))) v :=
 let ⟨v',h1,h2⟩:=hs;⟨v',zfA h1,h2⟩
theorem zvm:∀(ns:LG) (acc:ByteArray),(ns.foldl (fun(r:ByteArray) n=>r.push (UInt8.ofNat n.toNat)) acc).data.toList.map (·.toNat)=acc.data.toList.map (·.toNat)++ns.map fun n=>n.toNat%256
 | [],acc=>by simp
 | n::ns,acc=>by
  rw[zFZ9,zvm ns]
  simp_all
theorem zxC:∀{l:LK} {s:LN} {cs:LM},zbB l=some s->VL ρ l cs->∃ns:LG,cs=ns.map (Value.int .u8)/\s=ns.map fun n=>n.toNat%256
 | [],s,cs,h,hl=>by
  simp[zbB]at h;subst h;exact⟨[],hl.oN,rfl⟩
 | x::l,s,cs,h,hl=>by
  unfold zbB at h
  split at h
  .grind
  .rename_i n l0 hh
   cases hh
   obtain⟨hn,h⟩:=zac h;have hn:n<256:=zCT9.mp hn
   split at h
   .rename_i s0 hs
    cases h
    obtain⟨y,cs',rfl,hy,hl'⟩:=hl.oc;obtain⟨ns,rfl,rfl⟩:=zxC hs hl'
    cases hy
    exact⟨Int.ofNat n::ns,rfl,by grind⟩
   grind
  grind
theorem zBz(k:WR P Z ρ h w)(hs:P.underlying src=some (.slice e))(hd:P.underlying dst=some .string)(he:zni P e=true)(hx:VR ρ x x')(hv:zhT h x=some v):
  ∃v',(convert src dst x').run P w=.ok v' w/\VR ρ v v':=by
 have hu:P.underlying e=some (.int .u8):=by
  unfold zni at he
  split at he
  .omega
  .cases he
 unfold zhT at hv
 split at hv
 .cases hv
  cases hx
  exact⟨_,by simp[convert,run_underlying hs,run_underlying hd,run_underlying hu,Conv.bytesToString],VR.str ByteArray.empty⟩
 .rename_i b g o n q
  split at hv
  .rename_i l hl
   split at hv
   .rename_i s hs'
    cases hv
    cases hx with
    | sl hρ h1 h2 h3 h4 h5 h6 =>
     rename_i o' c loc;obtain⟨cs,c1,c2,c3,c4⟩:=zlY k hl hρ zo;obtain⟨ns,rfl,rfl⟩:=zxC hs' c1;have hld:=run_loadCells_list (P:=P) w ⟨loc.r,o',none⟩ (ns.map (Value.int .u8)) (fun j v hj=>by
      have hj':=(zAC9.1 hj).1;rw[zea]
      grind)
     rw[c2]at hld;have hr:=run_bytesToString (P:=P) w ⟨loc.r,o',none⟩ n c ns hld;refine⟨_,by simp only[convert,Sem.run_bind,run_underlying hs,run_underlying hd,run_underlying hu,Result.andThen_ok];exact hr,?_⟩;have:=VR.str (ρ:=ρ) (ns.foldl (fun(r:ByteArray) n=>r.push (UInt8.ofNat n.toNat)) ByteArray.empty);rw[zvm]at this;simpa using this
   grind
  grind
 grind
theorem zra(k:WR P Z ρ h w){o:Oper}(ho:opK P o.op=some (kd,args))(hc:kd.cls=0){a:Act}{tm:LA}(ht:TmR ρ tm a.tmps)(hv:zHX tm args=some vs)(hp:pas kd vs h=some v):
  zkz P ρ w (execOp a.eval o) v:=by
 have key:∀{k0:zaf} {xs:AA},mk k0 xs=some (kd,args)->kd=k0/\VL ρ vs (xs.map a.eval):=fun hm=>by
  obtain⟨h1,h2⟩:=zlI hm;exact⟨h1,zgk ht h2 hv⟩
 obtain⟨dst,op,ty,pos,after,guard⟩:=o
 cases op with
 | pick c x y =>
  obtain⟨rfl,hl⟩:=key ho;obtain⟨v',h1,h2⟩:=zEl (P:=P) hl hp w;exact⟨v',by simpa[execOp]using zfA h1,h2⟩
 | nilCheck x =>
  obtain⟨rfl,hl⟩:=key ho;obtain⟨y,rfl,hp⟩:=zd9 hp;have hx:=hl.uno rfl;change zsa y=some v at hp;unfold zsa at hp
  split at hp
  .cases hp
   generalize hax:a.eval x=x' at hx
   cases hx with
   | ptr hρ hb=>exact⟨_,by simp[execOp,hax],.ptr hρ hb⟩
  .cases hp
   generalize hax:a.eval x=x' at hx
   cases hx with
   | fn hl h=>exact⟨_,by simp[execOp,hax],.fn hl h⟩
  .cases hp
 | binOp op t x y yt =>
  have two:∀{f:TV->TV->LE} {Q:Prop},zdh vs f=some v->VL ρ vs [a.eval x,a.eval y]->(∀{u v0},f u v0=some v->VR ρ u (a.eval x)->VR ρ v0 (a.eval y)->Q)->Q:=fun hp hl hQ=>by
   obtain⟨u,v0,rfl,hp⟩:=zeD hp;obtain⟨hu,hv0⟩:=hl.two rfl;exact hQ hp hu hv0
  have hnil:∀{neg:Bool} {f:Nat},kd=.eqnil neg f->VL ρ vs [a.eval x,a.eval y]->op=(if neg=true then .neq else .eql)->(∀{x' y':Value} {u v:TV},VR ρ u x'->VR ρ v y'->∀{b:Bool},zkA f u v=some b->ziX P t x y x' y' b w) ->
    zkz P ρ w (execOp a.eval ⟨dst,.binOp op t x y yt,ty,pos,after,guard⟩) v:=fun hkd hl hop hcmp=>by
   subst hkd;exact two hp hl fun hp hu hv0=>by
    obtain⟨b,hb,rfl⟩:=zuM hp;exact .of ⟨_,toV (k:=k) (hcmp hu hv0 hb) hop,.bool _⟩
  simp only[opK]at ho;(repeat' (split at ho))<;>first|(cases ho;done)|skip
  all_goals
   obtain⟨h1,h2⟩:=key ho
   first|exact hnil h1 h2 rfl (fun hx hy _ hb=>zsX ‹_› hx hy hb)|exact hnil h1 h2 rfl (fun hx hy _ hb=>ztO ‹_› hx hy hb)|exact hnil h1 h2 rfl (fun hx hy _ hb=>ztq ‹_› hx hy hb)|exact hnil h1 h2 rfl (fun hx hy _ hb=>zsT ‹_› hx hy hb)|exact hnil h1 h2 rfl (fun hx hy _ hb=>zsQ ‹_› ‹_› hx hy hb)|(subst h1;exact two hp h2 fun hp hu hv0=>by first|exact .of (zBV ‹_› hu hv0 hp x y w)|exact .of (zFJ ‹_› hu hv0 hp x y w)|exact .of (zFa hu hv0 hp w))
 | convert src dst' x =>
  simp only[opK]at ho
  split at ho
  .rename_i hs hd;obtain⟨rfl,hl⟩:=key ho;obtain⟨y,rfl,hp⟩:=zd9 hp;have hx:=hl.uno rfl;change zn6 _ y=some v at hp;unfold zn6 at hp
   split at hp
   .cases hp
    generalize hax:a.eval x=x' at hx
    cases hx
    refine .of (s:=convert src dst' (a.eval x)) ⟨_,?_,.int _ _⟩;rw[hax];simp[convert,run_underlying hs,run_underlying hd,Conv.intToInt]
   .cases hp
  .rename_i hs hd;obtain⟨rfl,hl⟩:=key ho;obtain⟨y,rfl,hp⟩:=zd9 hp;have hx:=hl.uno rfl;change zzz y=some v at hp;unfold zzz at hp
   split at hp
   .cases hp
    generalize hax:a.eval x=x' at hx
    cases hx with
    | str s =>
     refine .of (s:=convert src dst' (a.eval x)) ⟨_,?_,.str s⟩;rw[hax];simp[convert,run_underlying hs,run_underlying hd]
   .cases hp
  .rename_i e hs hd
   split at ho
   .obtain⟨rfl,_⟩:=key ho;cases hc
   .cases ho
  .rename_i e hs hd
   split at ho
   .rename_i he;obtain⟨rfl,hl⟩:=key ho;obtain⟨y,rfl,hp⟩:=zd9 hp;exact .of (zBz k hs hd he (hl.uno rfl) hp)
   .cases ho
  .cases ho
 | makeInterface t x =>
  simp only[opK]at ho
  split at ho
  .cases ho
  .cases ho
  .rename_i d hu hni;obtain⟨rfl,hl⟩:=key ho;obtain⟨y,rfl,hp⟩:=zd9 hp
   cases hp
   refine .of (s:=Instr.makeInterface t (a.eval x)) ⟨_,?_,.iface (hl.uno rfl)⟩
   cases hd:P.underlying t with
   | none=>exact absurd hd hni
   | some d=>cases d<;>first|(exact absurd hd (hu _))|simp[Instr.makeInterface,run_underlying hd]
 | makeFunc fn first captured =>
  cases fn<;>simp only[opK]at ho<;>first|(cases ho;done)|skip
  split at ho
  .rename_i f hf;obtain⟨rfl,hl⟩:=key ho;simp[pas]at hp;subst hp;have h0:first=#[]:=Array.eq_empty_of_size_eq_zero hf;subst h0;refine .of (s:=Instr.makeFunc (.func f) ((#[]:AX).map a.eval) (captured.map a.eval)) ⟨_,?_,VR.fnL hl⟩;simp[Instr.makeFunc];obtain⟨c⟩:=captured;simp
  .cases ho
 | slice t x lo hi mx =>
  simp only[opK]at ho
  split at ho
  .rename_i hu
   split at ho
   .rename_i hz;obtain⟨rfl,hl⟩:=key ho;have h1:=zAu hu hz (lo:=lo.map a.eval) (hi:=hi.map a.eval) (mx:=mx.map a.eval) (x':=a.eval x) (vs:=vs) (by cases lo<;>cases hi<;>cases mx<;>simpa using hl) (v:=v) (by have hp2:zj1 _ _ _ _ vs=some v:=hp;simpa using hp2) w;exact .of h1
   .cases ho
  .rename_i hu
   split at ho
   .cases ho
   .rename_i hmx;have:mx=none:=by cases mx<;>simp at hmx;rfl
    subst this;obtain⟨rfl,hl⟩:=key ho;have h1:=zH2 hu (lo:=lo.map a.eval) (hi:=hi.map a.eval) (x':=a.eval x) (vs:=vs) (by cases lo<;>cases hi<;>simpa using hl) (v:=v) (by have hp2:znr _ _ vs=some v:=hp;simpa using hp2) w;exact .of h1
  .rename_i len e hu
   split at ho
   .cases ho
   .rename_i hmx;have:mx=none:=by cases mx<;>simp at hmx;rfl
    subst this
    split at ho
    .rename_i hz
     split at ho
     .rename_i hlen;obtain⟨rfl,hl⟩:=key ho;have h1:=zBx hu hz hlen (lo:=lo.map a.eval) (hi:=hi.map a.eval) (x':=a.eval x) (vs:=vs) (by cases lo<;>cases hi<;>simpa using hl) (v:=v) (by have hp2:zpT _ _ _ _ vs=some v:=hp;simpa using hp2) w;exact .of h1
     .cases ho
    .cases ho
  .cases ho
 | typeAssert x xt t ok =>
  simp only[opK]at ho
  split at ho
  .cases ho
  .cases ho
  .cases ho
  .rename_i z hz hni hnn;obtain⟨rfl,hl⟩:=key ho;obtain⟨y,rfl,hp⟩:=zd9 hp
   cases hd:P.underlying t with
   | none=>exact absurd hd hnn
   | some d=>exact .of (zwL hd (fun ms e=>by subst e;exact hni _ hd) hz (hl.uno rfl) hp w)
 | extract x i =>
  obtain⟨rfl,hl⟩:=key ho;obtain⟨y,rfl,hp⟩:=zd9 hp;have hx:=hl.uno rfl;change zt4 i y=some v at hp;unfold zt4 at hp
  split at hp
  .generalize hax:a.eval x=x' at hx
   cases hx with
   | tuple hl0 hr =>
    rename_i cs;rw[zjK]at hp;obtain⟨u,hu,hur⟩:=VL.at (ρ:=ρ) (l:=_) (cs:=cs) ⟨hl0,hr⟩ hp;refine .of (s:=Instr.extract (a.eval x) i) ⟨u,?_,hur⟩;rw[hax];simp[Instr.extract,hu]
  .cases hp
 | call c =>
  obtain⟨callee,cargs,ts⟩:=c
  cases callee with
  | value f=>obtain⟨rfl,_⟩:=key ho;cases hc
  | invoke r m=>cases ho
  | builtin b =>
   simp only[opK]at ho
   split at ho
   ·(repeat' (split at ho))<;>first|(cases ho;done)|(obtain⟨rfl,_⟩:=key ho;cases hc)
   .split at ho<;>first|(cases ho;done)|skip
    split at ho<;>first|(cases ho;done)|skip
    obtain⟨rfl,_⟩:=key ho;cases hc
   .rename_i t hts;have hlen:∀(f:Nat) {d:TypeDesc},P.underlying t=some d->((f=1/\∃e,d=.slice e)\/(f=2/\∃a b,d=.map a b)\/(f=3/\d=.string))->kd=.len f->VL ρ vs (cargs.toList.map a.eval)->zkz P ρ w (execOp a.eval ⟨dst,.call { callee:=.builtin .len,args:=cargs,argTypes:=ts },ty,pos,after,guard⟩) v:=fun f d hu hd hkd hl=>by
     subst hkd;obtain⟨y,rfl,hp⟩:=zd9 hp;obtain⟨xs⟩:=cargs;obtain⟨ts⟩:=ts;simp at hts;subst hts
     cases xs with
     | nil=>have:=hl.1;simp at this
     | cons x r=>cases r with
      | cons _ _=>have:=hl.1;simp at this
      | nil =>
       obtain⟨v',h1,h2⟩:=zFP k hu hd (hl.uno rfl) hp ty;refine⟨v',?_,h2⟩;simp only[execOp,zdU];simpa[builtin]using zfA h1
    split at ho
    .rename_i hu;obtain⟨h1,h2⟩:=key ho;exact hlen 1 hu (.inl ⟨rfl,_,rfl⟩) h1 h2
    .rename_i hu;obtain⟨h1,h2⟩:=key ho;exact hlen 2 hu (.inr (.inl ⟨rfl,_,_,rfl⟩)) h1 h2
    .rename_i hu;obtain⟨h1,h2⟩:=key ho;exact hlen 3 hu (.inr (.inr ⟨rfl,rfl⟩)) h1 h2
    .cases ho
   .split at ho
    .rename_i hsz;obtain⟨rfl,hl⟩:=key ho;obtain⟨y,j,rfl,hp⟩:=zeD hp;obtain⟨xs⟩:=cargs
     match xs,hsz with
     | [x0,x1],_ =>
      obtain⟨h1,h2⟩:=hl.two rfl;obtain⟨v',h3,h4⟩:=zxn (P:=P) (mx:=true) h1 h2 hp ts ty w;refine⟨v',?_,h4⟩;simp only[execOp,zdU];simpa[builtin]using zfA h3
    .cases ho
   .split at ho
    .rename_i hsz;obtain⟨rfl,hl⟩:=key ho;obtain⟨y,j,rfl,hp⟩:=zeD hp;obtain⟨xs⟩:=cargs
     match xs,hsz with
     | [x0,x1],_ =>
      obtain⟨h1,h2⟩:=hl.two rfl;obtain⟨v',h3,h4⟩:=zxn (P:=P) (mx:=false) h1 h2 hp ts ty w;refine⟨v',?_,h4⟩;simp only[execOp,zdU];simpa[builtin]using zfA h3
    .cases ho
   .split at ho
    .obtain⟨rfl,_⟩:=key ho;cases hc
    .cases ho
   .cases ho
 | defer c =>
  obtain⟨callee,cargs,ts⟩:=c
  cases callee<;>first|(cases ho;done)|(obtain⟨rfl,_⟩:=key ho;cases hc)
 | _=>first|(cases ho;done)|(simp only[opK]at ho;(repeat' (split at ho))<;>first|(cases ho;done)|(obtain⟨rfl,hl⟩:=key ho;first|(cases hc;done)|exact .of (zAC ‹_› ‹_› hl hp w)|(obtain⟨y,rfl,hp⟩:=zd9 hp;have u:=hl.uno rfl;first|(cases hp;exact⟨_,by simp[execOp],u⟩)|exact .of (zGr u hp w)|exact .of (zuG k ‹_› ‹_› u hp)|exact .of (zBS ‹_› u hp w)|exact .of (zFk ‹_› u hp w))|(obtain⟨y,j,rfl,hp⟩:=zeD hp;obtain⟨h1,h2⟩:=hl.two rfl;first|exact .of (zAy ‹_› ‹_› h1 h2 hp w)|exact .of (zyT ‹_› ‹_› h1 h2 hp w)|exact .of (zyH ‹_› h1 h2 hp w)|exact .of (zzS ‹_› ‹_› ‹_› h1 h2 hp w)|exact .of (zvl k ‹_› ‹_› (.inl ⟨rfl,_,rfl⟩) ‹_› h1 h2 hp)|exact .of (zvl k ‹_› ‹_› (.inr ⟨rfl,rfl⟩) ‹_› h1 h2 hp))))
theorem zii(k:WR P Z ρ h w)(hn:∀g,ρ b g=none)(hb:b<h.next)(hZ:Z<=w.heap.size){e:Nat}(hx:h.get b=some (zcW e l)){cs:LW}(hl:l.length<=cs.size)(hr:∀(i:Nat) x y,l[i]?=some x->cs[i]?=some y->VR ρ x y)(h1:∀x∈l,x.one=true):WR P Z (ρ.add b 0 ⟨w.heap.size,l.length,cs.size⟩) h (w.alloc (.cells cs e)):=by
 have hm:=Rho.add_more (loc:=⟨w.heap.size,l.length,cs.size⟩) (hn 0);refine k.real hn hb hZ hx ⟨zAE9 _,fun g loc hg=>?_,fun g hg1 hg2=>?_⟩
 .rcases Rho.add_inv hg with⟨_,rfl,_⟩|hg
  all_goals grind
 .obtain rfl:g=0:=zo;refine⟨_,cs,Rho.aS _ _ _ _,.of (World.alloc_heap_new w _),fun _=>rfl,zAE9 _,hl,fun _=>rfl,fun i hi=>?_⟩;dsimp only at hi;have hi':i<cs.size:=zo;refine⟨l[i],cs[i],?_,zCM9 hi',h1 _ (zBK9 hi),(hr i _ _ (zAA9 hi) (zCM9 hi')).mono hm⟩;rw[Tr.get_putL,if_pos zo,Nat.sub_zero,zAA9 hi]
theorem ziB(l:List α):∀n,(zeT l n).length=n*l.length
 | 0=>by simp[zeT]
 | n+1=>by rw[zeT,zAB9,ziB l n,zDL9,zDS9]
theorem zvp(l:List α):∀(n i:Nat),i<n*l.length->(zeT l n)[i]?=l[i%l.length]?
 | 0,i,h=>by simp at h
 | n+1,i,h=>by
  rw[zeT,zFR9]
  split
  .rename_i hi;rw[zDA9 hi]
  .rename_i hi;rw[zDL9]at h;rw[zvp l n (i-l.length) zo]
   congr 1
   rw[Nat.mod_eq_sub_mod (show i ≥ l.length by omega)]
theorem zly{l:List α}:∀{n:Nat} {x:α},x∈zeT l n->x∈l
 | 0,x,h=>by simp[zeT]at h
 | n+1,x,h=>by
  rw[zeT,zBG9]at h;exact h.elim id zly
theorem zpv{zv:Value}(hz:VR ρ z zv)(hc:z.cells ≠ [])(n m:Nat)(hnm:n<=m):∀(i:Nat) x y,(zeT z.cells n)[i]?=some x->(((Array.range (m*zv.cells.size)).map (fun j=>zv.cells[j%zv.cells.size]!)))[i]?=some y->VR ρ x y:=fun i x y hx hy=>by
 obtain⟨⟨hl,hr⟩,_⟩:=hz.cells (.inl hc);have hi:i<n*z.cells.length:=by rw[<- ziB];exact(zAC9.1 hx).1
 rw[zvp _ _ _ hi]at hx
 grind
def zjj(P:Program)(Z:Nat)(ρ:Rho)(h:TH)(w:World)(b:Nat)(s:Sem Next)(v:TV):Prop :=
 ∃v' w1 L S,s.run P w=.ok (.value v') w1/\WR P Z (ρ.add b 0 ⟨w.heap.size,L,S⟩) h w1/\VR (ρ.add b 0 ⟨w.heap.size,L,S⟩) v v'/\Below Z w w1
theorem zjj.of{v':Value}{o:Obj}(hZ:Z<=w.heap.size)(L S:Nat)(hs:s.run P w=.ok v' (w.alloc o))(hw:WR P Z (ρ.add b 0 ⟨w.heap.size,L,S⟩) h (w.alloc o))(hv:VR (ρ.add b 0 ⟨w.heap.size,L,S⟩) v v'):zjj P Z ρ h w b (do pure (.value (<- s))) v :=
 ⟨v',w.alloc o,L,S,zfA hs,hw,hv,(Below.refl Z w).alloc hZ o⟩
theorem zgH(e:TypeId)(cs:LW):(newRow e cs).run P w=.ok ⟨w.heap.size,0,none⟩ (w.alloc (.cells cs e)):=by
 simp[newRow,run_newObj_alloc]
theorem zFn(k:WR P Z ρ h w)(hn:∀g,ρ b g=none)(hb:b<h.next)(hZ:Z<=w.heap.size)(hs:zcv P e=some n)(hv:VL ρ vs [x']){x:zd7}(hl:zrQ e n b vs=some x)(hx:h.get b=some x.o):
  zjj P Z ρ h w b (do pure (.value (<- Instr.box e x'))) x.v:=by
 unfold zrQ at hl
 split at hl
 .rename_i v;obtain⟨h0,hl⟩:=zac hl;injection hl with hl;subst hl;have hlen:=zAL9 h0;have hv0:=hv.uno rfl;have hn0:=(zeE hs).1;obtain⟨hc,h1⟩:=hv0.cells (.inl (by intro e;rw[e]at hlen;simp at hlen;omega));have hsz:x'.cells.size=n:=by have:=hc.1;rw[hlen]at this;simpa using this.symm
  refine .of hZ v.cells.length x'.cells.size (v':=.pointer (some ⟨w.heap.size,0,none⟩)) (o:=.cells x'.cells e) (by simp[Instr.box,newVar,zgH]) (zii k hn hb hZ hx zo (fun i x y hx hy=>hc.2 i x y hx (by simpa using hy)) h1) ?_;exact .ptr (loc:=⟨w.heap.size,v.cells.length,x'.cells.size⟩) (Rho.aS _ _ _ _) (by simp[hlen])
 .cases hl
theorem zBu(k:WR P Z ρ h w)(hn:∀g,ρ b g=none)(hb:b<h.next)(hZ:Z<=w.heap.size)(hs:zcv P e=some n)(hz:zew P e=some z)(hzl:z.cells.length=n){x:zd7}(hl:znt e z.cells b vs=some x)(hx:h.get b=some x.o):
  zjj P Z ρ h w b (do pure (.value (<- Instr.alloc e true (.tuple #[])))) x.v:=by
 unfold znt at hl
 split at hl
 .injection hl with hl;subst hl;obtain⟨zv,hzv,hzr⟩:=zhw (ρ:=ρ) hz w;have hn0:=(zeE hs).1;obtain⟨hc,h1⟩:=hzr.cells (.inl (by intro e;rw[e]at hzl;simp at hzl;omega));have hsz:zv.cells.size=n:=by have:=hc.1;rw[hzl]at this;simpa using this.symm
  refine .of hZ z.cells.length zv.cells.size (v':=.pointer (some ⟨w.heap.size,0,none⟩)) (o:=.cells zv.cells e) (by simp[Instr.alloc,newVar,zgH,hzv]) (zii k hn hb hZ hx zo (fun i x y hx hy=>hc.2 i x y hx (by simpa using hy)) h1) ?_;exact .ptr (loc:=⟨w.heap.size,z.cells.length,zv.cells.size⟩) (Rho.aS _ _ _ _) (by simp)
 .cases hl
theorem zy0(k:WR P Z ρ h w)(hn:∀g,ρ b g=none)(hb:b<h.next)(hZ:Z<=w.heap.size){len:Nat}(hu:P.underlying t=some (.slice e))(hs:zcv P e=some n)(hz:zew P e=some z)(hzl:z.cells.length=n){ops:Array (Nat×Operand)}{a:Act}(hv:VL ρ vs ((ops.toList.map (·.2)).map a.eval)){x:zd7}(hl:zjz e n len z.cells (ops.toList.map fun p=>(p.1*n,n)) b vs=some x)(hx:h.get b=some x.o):
  zjj P Z ρ h w b (do pure (.value (<- Instr.buildSlice t len (ops.map fun(i,x)=>(i,a.eval x))))) x.v:=by
 unfold zjz at hl;obtain⟨h0,hl⟩:=zac hl;have hle:=zAW9 h0
 split at hl
 .rename_i l hf;injection hl with hl;subst hl;obtain⟨zv,hzv,hzr⟩:=zhw (ρ:=ρ) hz w;have hn0:=(zeE hs).1;have hcn:z.cells ≠ []:=by intro e;rw[e]at hzl;simp at hzl;omega
  obtain⟨hc,h1⟩:=hzr.cells (.inl hcn);have hsz:zv.cells.size=n:=by have:=hc.1;rw[hzl]at this;simpa using this.symm
  obtain⟨ds,hd,hd1,hd2,hd3⟩:=zmn (place:=fun i=>some (i*n,n)) (parts:=(ops.map fun(i,x)=>(i,a.eval x)).toList) (places:=ops.toList.map fun p=>(p.1*n,n)) (vs:=vs) (cells:=zeT z.cells len) (cs:=(Array.range (len*n)).map (fun j=>zv.cells[j%zv.cells.size]!)) (by simp) (fun j p q hj hq=>by
    simp only[zES9,zAF9]at hj hq
    cases ho:ops.toList[j]? with
    | none=>rw[ho]at hj;cases hj
    | some o=>rw[ho]at hj hq;simp at hj hq;subst hj;subst hq;rfl) (by simpa[Function.comp_def]using hv) ⟨by rw[ziB];simp[hzl],fun i x y hx hy=>by
     have:=zpv hzr hcn len len (zAE9 _) i x y hx;rw[hsz]at this;rw[hsz]at hy;rw[zCD9]at hy;exact this hy⟩ (fun x hx=>h1 x (zly hx)) (fun q hq=>by obtain⟨p,_,rfl⟩:=zAH9.1 hq;exact hn0) hf
  have hlen:l.length=len*n:=by rw[hd3,ziB,hzl]
  have hdsz:ds.size=len*n:=by have:=hd1.1;rw[hlen]at this;simpa using this.symm
  refine .of hZ l.length ds.size (v':=.slice (some ⟨w.heap.size,0,none⟩) len len) (o:=.cells ds e) ?_ (zii k hn hb hZ hx zo (fun i x y hx hy=>hd1.2 i x y hx (by simpa using hy)) hd2) ?_
  .simp only[zES9]at hd;have hgt:¬(16777216<len*n):=zo
   by_cases h00:len*n=0
   .have hz0:(Array.range (len*n)).map (fun j=>zv.cells[j%zv.cells.size]!)=(Array.range (len*n)).map (fun j=>(#[]:LW)[j%(#[]:LW).size]!):=by rw[h00];simp
    rw[hz0]at hd;simp[Instr.buildSlice,run_underlying hu,zcj hs,h00]at hd⊢;simp[hd,zgH]
   .simp[Instr.buildSlice,run_underlying hu,zcj hs,hgt,h00,hzv,hd,zgH]
  .refine .sl (loc:=⟨w.heap.size,l.length,ds.size⟩) (Rho.aS _ _ _ _) zo zo ?_ (.inl rfl) (fun _=>?_) ?_
   .grind
   .grind
   .have:len*1<=len*n:=Nat.mul_le_mul_left len zo;simp only[maxLen];omega
 .cases hl
theorem zwx(k:WR P Z ρ h w)(hn:∀g,ρ b g=none)(hb:b<h.next)(hZ:Z<=w.heap.size){by_:Nat}(hu:P.underlying t=some (.slice e))(hs:zcv P e=some n)(hby:zj4 P e=some by_)(hz:zew P e=some z)(hzl:z.cells.length=n)(hv:VL ρ vs [x',y']){x:zd7}(hl:zig e n by_ z.cells b vs=some x)(hx:h.get b=some x.o):zjj P Z ρ h w b (do pure (.value (<- Instr.makeSlice t x' y'))) x.v:=by
 unfold zig at hl
 split at hl
 .rename_i u v
  split at hl
  .rename_i m c hm hc0;obtain⟨h0,hl⟩:=zac hl;obtain⟨h1,hl⟩:=zac hl;obtain⟨h2,hl⟩:=zac hl;injection hl with hl;subst hl;have hmc:=zAW9 h0;have hc1:=zAW9 h1;have hc2:=zAW9 h2;obtain⟨ru,rv⟩:=hv.two rfl;obtain⟨k1,_,rfl⟩:=zhx hm ru;obtain⟨k2,_,rfl⟩:=zhx hc0 rv;obtain⟨zv,hzv,hzr⟩:=zhw (ρ:=ρ) hz w;obtain⟨i,hi,hib⟩:=zmZ hby;have hn0:=(zeE hs).1;have hcn:z.cells ≠ []:=by intro e;rw[e]at hzl;simp at hzl;omega
   obtain⟨hc,h1'⟩:=hzr.cells (.inl hcn);have hsz:zv.cells.size=n:=by have:=hc.1;rw[hzl]at this;simpa using this.symm
   have hlen:(zeT z.cells m).length=m*n:=by rw[ziB,hzl]
   have hmn:m*n<=c*n:=zCK9 n hmc;refine .of hZ (zeT z.cells m).length (c*n) (v':=.slice (some ⟨w.heap.size,0,none⟩) m c) (o:=.cells ((Array.range (c*n)).map (fun j=>zv.cells[j%zv.cells.size]!)) e) ?_ ?_ ?_
   .have w1:IntKind.i64.wrap (m:Int)=m:=by simp[IntKind.wrap,IntKind.bits,IntKind.signed];omega
    have w2:IntKind.i64.wrap (c:Int)=c:=by simp[IntKind.wrap,IntKind.bits,IntKind.signed];omega
    have hbc:¬((by_:Int)*(c:Int)>2 ^ 48):=by grind
    have hbm:¬((c:Int)<(m:Int)):=zo;have hask:∀(x:Nat) (w:World),(askRoom x).run P w=.ok () w:=fun x w=>by unfold askRoom;split<;>simp[mark,Sem.run]
    by_cases h00:c*n=0
    .have hz0:(Array.range (c*n)).map (fun j=>zv.cells[j%zv.cells.size]!)=(Array.range (c*n)).map (fun j=>(#[]:LW)[j%(#[]:LW).size]!):=by rw[h00];simp
     rw[hz0];simp[Instr.makeSlice,run_underlying hu,asInt,asIntOf,typeInfo,hi,hib,w1,w2,hbm,zcj hs,h00,hask,zgH];omega
    .simp[Instr.makeSlice,run_underlying hu,asInt,asIntOf,typeInfo,hi,hib,w1,w2,hbm,zcj hs,h00,hzv,hask,zgH];omega
   .have:=zii k hn hb hZ hx (cs:=(Array.range (c*n)).map (fun j=>zv.cells[j%zv.cells.size]!)) (by simp[hlen];omega) (fun i x y hx hy=>by
     have:=zpv hzr hcn m c hmc i x y hx;rw[hsz]at this hy;exact this hy) (fun x hx=>h1' x (zly hx))
    grind
   .refine .sl (loc:=⟨w.heap.size,(zeT z.cells m).length,c*n⟩) (Rho.aS _ _ _ _) zo zo ?_ (.inl rfl) (fun _=>?_) ?_
    .grind
    .simp
    .simp only[maxLen];omega
  .cases hl
 .cases hl
theorem zsI(k:WR P Z ρ h w)(hn:∀g,ρ b g=none)(hb:b<h.next)(hZ:Z<=w.heap.size){a1 a2:TypeId}(hu:P.underlying t=some (.map a1 a2)){r:AE}(hv:VL ρ vs r.toList){x:zd7}(hl:zmE b vs=some x)(hx:h.get b=some x.o):
  zjj P Z ρ h w b (do pure (.value (<- Instr.makeMap t r))) x.v:=by
 have hm:=Rho.add_more (loc:=⟨w.heap.size,0,0⟩) (hn 0);have hw:∀{x:zd7},x=⟨.map [] 0,.map b⟩->h.get b=some x.o->WR P Z (ρ.add b 0 ⟨w.heap.size,0,0⟩) h (w.alloc (.map #[] 0)):=fun e hx=>by
  subst e;exact k.real hn hb hZ hx ⟨_,#[],Rho.aS _ _ _ _,World.alloc_heap_new w _,rfl,fun i e e' he=>by simp at he⟩
 have hvr:VR (ρ.add b 0 ⟨w.heap.size,0,0⟩) (.map b) (.map (some w.heap.size)):=.map (loc:=⟨w.heap.size,0,0⟩) (Rho.aS _ _ _ _);unfold zmE at hl
 split at hl
 .injection hl with hl;subst hl
  cases r with
  | some _=>have:=hv.1;simp at this
  | none=>exact .of hZ 0 0 (o:=.map #[] 0) (by simp[Instr.makeMap,run_newObj_alloc]) (hw rfl hx) hvr
 .injection hl with hl;subst hl
  cases r with
  | none=>have:=hv.1;simp at this
  | some y =>
   have:=hv.uno rfl
   cases this
   exact .of hZ 0 0 (o:=.map #[] 0) (by simp[Instr.makeMap,run_underlying hu,asInt,asIntOf,run_newObj_alloc]) (hw rfl hx) hvr
 .cases hl
theorem WR.realW(k:WR P Z ρ h w){w1:World}(hsz:w1.heap.size=w.heap.size+1)(hold:∀j,j<w.heap.size->w1.heap[j]?=w.heap[j]?)(hn:∀g,ρ b g=none)(hb:b<h.next)(hZ:Z<=w.heap.size){x:TO}(hx:h.get b=some x){L S:Nat}(hr:OR P (ρ.add b 0 ⟨w.heap.size,L,S⟩) b w1 x):WR P Z (ρ.add b 0 ⟨w.heap.size,L,S⟩) h w1:=by
 have hm:=Rho.add_more (loc:=⟨w.heap.size,L,S⟩) (hn 0);refine⟨fun c g loc hl=>?_,fun c g loc hl=>?_,fun c c' g g' loc loc' hl hl' e hZ1=>?_⟩
 .rcases Rho.add_inv hl with⟨rfl,rfl,rfl⟩|hl
  .exact⟨hb,.inl hZ,by dsimp only;omega⟩
  .obtain⟨a,b,d⟩:=k.dom c g loc hl;exact⟨a,b,by omega⟩
 .by_cases hc:c=b
  .grind
  .have hl':ρ c g=some loc:=by rw[<- hl,Rho.add_ne hc]
   obtain⟨y,hy,hor⟩:=k.obj c g loc hl';exact⟨y,hy,hor.move hm (fun g=>Rho.add_ne hc g) fun g loc hg=>hold _ (k.dom c g loc hg).2.2⟩
 .rcases Rho.add_inv hl with⟨r1,r2,r3⟩|hl<;>rcases Rho.add_inv hl' with⟨q1,q2,q3⟩|hl'
  .rw[r1,q1]
  .subst r3;have:=(k.dom _ _ _ hl').2.2;dsimp only at e;omega
  .subst q3;have:=(k.dom _ _ _ hl).2.2;dsimp only at e;omega
  .exact k.sep _ _ _ _ _ _ hl hl' e hZ1
theorem zwy(k:WR P Z ρ h w)(hn:∀g,ρ b g=none)(hb:b<h.next)(hZ:Z<=w.heap.size)(hs:P.underlying src=some .string)(hd:P.underlying dst=some (.slice e))(he:zni P e=true)(hv:VL ρ vs [x']){x:zd7}(hl:ziD e b vs=some x)(hx:h.get b=some x.o):
  zjj P Z ρ h w b (do pure (.value (<- convert src dst x'))) x.v:=by
 have hu:P.underlying e=some (.int .u8):=by
  unfold zni at he
  split at he
  .assumption
  .cases he
 unfold ziD at hl
 split at hl
 .rename_i s0;obtain⟨h0,hl⟩:=zac hl;have hle:=zAW9 h0;injection hl with hl;subst hl;have hxr:=hv.uno rfl
  cases hxr with
  | str s =>
   have hds:s.data.size=s.size:=rfl;have hlen:(s.data.toList.map (·.toNat)).length=s.size:=by rw[zAP9,zEQ9];rfl
   rw[hlen]at hle;have hrun:=Lib.run_convert_string_bytes (P:=P) w src dst e s hs hd hu;have hcap:=grownCap_ge w s.size 0 e;have hcap2:=grownCap_le_maxLen w s.size 0 e (by simp only[maxLen];omega);have hsz:(Lib.bytesCells w e s).size=grownCap w s.size 0 e:=by
    unfold Lib.bytesCells;rw[zFA9,Array.size_map,Array.size_replicate,hds];omega
   have hnew:=Lib.bytesWorld_at_new w e s;have hold:=fun j hj=>Lib.bytesWorld_at_old w e s j hj;have hgetn:∀i,i<s.size->(Lib.bytesCells w e s)[i]?=some (.int .u8 (s.data.toList[i]?.getD 0).toNat):=fun i hi=>by
    have hi':i<s.data.size:=hi;unfold Lib.bytesCells;rw[zFU9 (by rw[Array.size_map];exact hi'),Array.getElem?_map,zCM9 hi',zCD9,zCM9 hi'];rfl
   have hwr:WR P Z (ρ.add b 0 ⟨w.heap.size,s.size,(Lib.bytesCells w e s).size⟩) h (Lib.bytesWorld w e s):=by
    refine k.realW (Lib.bytesWorld_size w e s) hold hn hb hZ hx ⟨zAE9 _,fun g loc hg=>?_,fun g g1 g2=>?_⟩
    .rcases Rho.add_inv hg with⟨_,rfl,_⟩|hg
     .exact zAE9 _
     .rw[hn]at hg;cases hg
    .obtain rfl:g=0:=zo;refine⟨_,_,Rho.aS _ _ _ _,⟨_,hnew,.inr ⟨he,zAE9 _⟩⟩,fun _=>rfl,by rw[zAP9,hlen];exact zAE9 _,by dsimp only;omega,fun _=>by rw[zAP9,hlen],fun i hi=>?_⟩;dsimp only at hi;have hi':i<s.data.toList.length:=by rw[zEQ9];exact hi
     refine⟨.int .u8 (.ofNat (s.data.toList[i]).toNat),_,?_,hgetn i hi,rfl,?_⟩
     .rw[Tr.get_putL,if_pos (by rw[zAP9,hlen];omega),Nat.sub_zero,zAF9,zAF9,zAA9 hi'];rfl
     .rw[zAA9 hi'];exact .int _ _
   refine⟨_,_,_,_,zfA hrun,hwr,?_,⟨rfl,rfl,rfl,by rw[Lib.bytesWorld_size];omega,fun j hj=>hold j zo⟩⟩;rw[hlen];refine .sl (loc:=⟨w.heap.size,s.size,(Lib.bytesCells w e s).size⟩) (Rho.aS _ _ _ _) zo zo ?_ (.inl rfl) (fun _=>?_) hcap2
   .dsimp only;omega
   .dsimp only;omega
 .cases hl
variable {P:Program}{ρ ρ':Rho}{Z:Nat}{h:TH}{w:World}
variable {g:Nat}
theorem WR.change(k:WR P Z ρ h w){x':TO}(hm:∀c g loc,ρ c g=some loc->ρ' c g=some loc)(hsame:∀c,c≠b->∀g,ρ' c g=ρ c g){g0:Nat}{loc0:Loc}(hex:ρ b g0=some loc0){w':World}(hs:w.heap.size<=w'.heap.size)(hb:∀c g loc,c≠b->ρ c g=some loc->w'.heap[loc.r]?=w.heap[loc.r]?)(hr:OR P ρ' b w' x')(hdom:∀g loc,ρ' b g=some loc->Z<=loc.r/\loc.r<w'.heap.size)(hsep:∀g loc,ρ' b g=some loc->∀c g' loc',c≠b->ρ c g'=some loc'->loc.r≠loc'.r):WR P Z ρ' (h.set b x') w':=by
 have hlt:=(k.dom b g0 loc0 hex).1;refine⟨fun c g loc hl=>?_,fun c g loc hl=>?_,fun c c' g g' loc loc' hl hl' e hZ1=>?_⟩
 .by_cases hc:c=b
  .subst hc;exact⟨hlt,.inl (hdom g loc hl).1,(hdom g loc hl).2⟩
  .rw[hsame c hc]at hl;obtain⟨a1,a2,a3⟩:=k.dom c g loc hl;exact⟨a1,a2.imp id fun⟨cs,h1⟩=>⟨cs,by rw[TH.get_set _ _ _ _ hlt,if_neg hc];exact h1⟩,by omega⟩
 .by_cases hc:c=b
  .subst hc;exact⟨x',by rw[TH.get_set _ _ _ _ hlt,if_pos rfl],hr⟩
  .rw[hsame c hc]at hl;obtain⟨o,ho,hor⟩:=k.obj c g loc hl;exact⟨o,by rw[TH.get_set _ _ _ _ hlt,if_neg hc];exact ho,hor.move hm (hsame c hc) fun g loc hg=>hb c g loc hc hg⟩
 .by_cases hc:c=b<;>by_cases hc':c'=b
  .omega
  .grind
  .grind
  .rw[hsame c hc]at hl;rw[hsame c' hc']at hl';exact k.sep c c' g g' loc loc' hl hl' e hZ1
theorem zte(hg:Z<=g)(cs:LW):Below Z w (w.setRow g cs):=⟨rfl,rfl,rfl,by simp,fun k hk=>setRow_other w g k cs zo⟩
theorem zlj{α:Type}(l m:List α)(o i:Nat)(h:o+m.length<=l.length):(l.take o++m++l.drop (o+m.length))[i]?=if o<=i/\i<o+m.length then m[i-o]? else l[i]?:=by
 rw[zAD9,zFR9]
 grind
theorem zhR(g o:Nat)(t:TypeId)(fz:Nat×Nat):∀(vs:LM) (i:Nat) (cur:LW) (w:World),w.heap[g]?=some (.cells cur t fz)->zsp P t fz cur.size->o+i+vs.length<=cur.size->(∀v∈vs,v.oneCell'=true) ->
  (storeCells ⟨g,o,none⟩ vs i).run P w=.ok () (w.setRow g (cur.toList.take (o+i)++vs++cur.toList.drop (o+i+vs.length)).toArray)
 | [],i,cur,w,hg,_,_,_=>by
  simp only[storeCells,zCY9,zAN9,zDC9,zEG9,Array.toArray_toList];rw[setRow_self w g cur t fz hg];rfl
 | v::l,i,cur,w,hg,hz,hl,h1=>by
  rw[zAG9]at hl;have hfro:w.frozen? ⟨g,o+i,none⟩=false:=by
   rcases hz with rfl|⟨_,hz⟩
   .simp[World.frozen?,hg]
   .obtain⟨lo,hi⟩:=fz;simp only[World.frozen?,hg,Bool.and_eq_false_iff,decide_eq_false_iff_not]
    left
    dsimp only at hz;omega
  have hi:o+i<cur.size:=zo;have hst:(store ((⟨g,o,none⟩:Addr).add i) v).run P w=.ok () (w.setRow g (cur.setIfInBounds (o+i) v)):=by
   rw[zea,run_store P w _ v _ (h1 v (by simp)),show w.cell? ⟨g,o+i,none⟩=some cur[o+i] by simp[World.cell?,hg,hi]];simp[hfro,setCell_eq_setRow w g (o+i) cur t fz v hg]
  have ih:=zhR g o t fz l (i+1) (cur.setIfInBounds (o+i) v) (w.setRow g (cur.setIfInBounds (o+i) v)) (setRow_heap w g cur _ t _ hg) (by simpa using hz) (by simp;omega) (fun x hx=>h1 x (by simp[hx]));simp only[storeCells,Sem.run_bind,hst,Result.andThen_ok,ih,setRow_setRow]
  congr 3
  have e:=list_seg_step cur.toList (o+i) v l (by simp;omega);simpa[zFT9,zEY9]using e
theorem zsp.same{t:TypeId}{fz:Nat×Nat}{n m:Nat}(h:zsp P t fz n)(e:m=n):zsp P t fz m:=by rw[e];exact h
theorem zlJ(k:WR P Z ρ h w){o:Nat}{loc:Loc}(hρ:ρ b g=some loc){l:LK}{cs:LM}(hl:VL ρ l cs)(h1:∀x∈l,x.one=true){h':TH}(hw:zfs h b g o l=some h'):
  ∃w',(storeCells ⟨loc.r,o,none⟩ cs).run P w=.ok () w'/\WR P Z ρ h' w'/\Below Z w w'/\h'.next=h.next:=by
 unfold zfs at hw
 split at hw
 .rename_i x hx;unfold zqY at hw
  split at hw
  .rename_i e G M len cells;obtain⟨ha,hw⟩:=zac hw;obtain⟨hb,hw⟩:=zac hw;injection hw with hw;obtain rfl:=zAL9 ha;have hfit:=zAW9 hb;obtain⟨y,hy,hr⟩:=k.obj b g loc hρ;rw[hx]at hy;injection hy with hy;subst hy;obtain⟨hM,hg0,hr⟩:=hr
   .obtain⟨loc',cur,hρ',hheap,r1,r2,r3,r4,r5⟩:=hr g hM (zAE9 _);rw[hρ]at hρ';injection hρ' with hρ';subst hρ';have hL:=r4 rfl;have hcl:cs.length=l.length:=hl.1.symm;have hfit':o+cs.length<=cur.size:=zo;obtain⟨fz,hheap,hfz⟩:=hheap;have hst:=zhR (P:=P) loc.r o e fz cs 0 cur w hheap hfz (by simpa using hfit') (fun v hv=>by
     obtain⟨i,hi,rfl⟩:=zBN9.1 hv;have hi':i<l.length:=by rw[hl.1];exact hi
     exact(hl.2 i l[i] cs[i] (zAA9 hi') (zAA9 hi)).oneCell (h1 _ (zBK9 hi')))
    simp only[zDC9]at hst;have hnew0:=setRow_heap w loc.r cur (cur.toList.take o++cs++cur.toList.drop (o+cs.length)).toArray e fz hheap;have hnew:zif P _ loc.r _ e:=⟨fz,hnew0,hfz.same (by simp;omega)⟩
    have hZo:∀g' loc',ρ b g'=some loc'->Z<=loc'.r:=fun g' loc' hl'=>k.own hl' hx (fun cs h=>by cases h);have hZr:=hZo g loc hρ;refine⟨_,hst,?_,zte hZr _,by rw[<- hw];rfl⟩;rw[<- hw];refine k.change (fun _ _ _ h=>h) (fun _ _ _=>rfl) hρ (by simp) (fun c g' loc' hc hl'=>setRow_other w loc.r loc'.r _ (fun e=>hc (k.sep c b g' g loc' loc hl' hρ e zo))) ⟨zAE9 _,hg0,fun g' h1' h2'=>?_⟩ (fun g' loc' hl'=>⟨hZo g' loc' hl',by have:=(k.dom b g' loc' hl').2.2;simpa using this⟩) (fun g' loc' hl' c g'' loc'' hc hl'' e=>hc ((k.sep b c g' g'' loc' loc'' hl' hl'' e (hZo g' loc' hl')).symm));obtain rfl:g'=g:=zo;refine⟨loc,_,hρ,hnew,fun _=>?_,r2,?_,fun _=>hL,fun i hi=>?_⟩
    .grind
    .grind
    .have hil:i<cur.size:=zo;have e1:((cur.toList.take o++cs++cur.toList.drop (o+cs.length)).toArray)[i]?=if o<=i/\i<o+cs.length then cs[i-o]? else cur[i]?:=by
      rw[List.getElem?_toArray,zlj _ _ _ _ (by simpa using hfit'),zCD9 (xs:=cur)]
     rw[e1,Tr.get_putL,hcl]
     by_cases hio:o<=i/\i<o+l.length
     .rw[if_pos hio,if_pos hio];have hi1:i-o<l.length:=zo;have hi2:i-o<cs.length:=zo;exact⟨_,_,zAA9 hi1,zAA9 hi2,h1 _ (zBK9 hi1),hl.2 (i-o) _ _ (zAA9 hi1) (zAA9 hi2)⟩
     grind
  .cases hw
 .cases hw
variable {P:Program}{ρ ρ':Rho}{Z:Nat}{h h':TH}{w:World}
variable {b:Value}{d:TypeDesc}{es':Array MapEntry}{m':Value}
def zjk(P:Program)(Z:Nat)(ρ:Rho)(h h':TH)(w:World)(s:Sem Next)(v:TV):Prop :=
 ∃n v' w' ρ',s.run P w=.ok n w'/\(n=.value v'\/(n=.skip/\v'=undef))/\Rho.le h.next ρ ρ'/\WR P Z ρ' h' w'/\Below Z w w'/\VR ρ' v v'/\h.next<=h'.next
theorem zjk.val{s:Sem Value}(hs:s.run P w=.ok v' w')(hle:Rho.le h.next ρ ρ')(hw:WR P Z ρ' h' w')(hb:Below Z w w')(hv:VR ρ' v v')(hn:h.next<=h'.next):zjk P Z ρ h h' w (do pure (.value (<- s))) v :=
 ⟨_,v',w',ρ',zfA hs,.inl rfl,hle,hw,hb,hv,hn⟩
theorem zjk.skip{s:Sem Unit}(hs:s.run P w=.ok () w')(hle:Rho.le h.next ρ ρ')(hw:WR P Z ρ' h' w')(hb:Below Z w w')(hn:h.next<=h'.next):zjk P Z ρ h h' w (do s;pure .skip) (.tuple []) :=
 ⟨_,undef,w',ρ',by simp[hs],.inr ⟨rfl,rfl⟩,hle,hw,hb,VR.undef _,hn⟩
theorem zBv(k:WR P Z ρ h w)(hs:zcv P t=some n){p':Value}(hv:VL ρ vs [p',v'])(ha:zi4 n h vs=some (.ok v h')):v=.tuple []/\zjk P Z ρ h h' w (do Instr.storeAt t p' v';pure .skip) v:=by
 unfold zi4 at ha
 split at ha
 .rename_i b g o e u;obtain⟨h0,ha⟩:=zac ha;obtain⟨h1,ha⟩:=zac ha;have hlen:=zAL9 h0;have hle:=zAW9 h1
  split at ha
  .rename_i h2 hw;injection ha with ha;injection ha with ha1 ha2;subst ha1;subst ha2;obtain⟨hp,hu⟩:=hv.two rfl;have hn0:=(zeE hs).1;obtain⟨hc,hone⟩:=hu.cells (.inl (by intro e;rw[e]at hlen;simp at hlen;omega))
   cases hp with
   | ptr hρ hcov =>
    rename_i loc;obtain⟨w',hst,hw',hb,hnx⟩:=zlJ k hρ hc hone hw;have hsz:v'.cells.size=n:=by have:=hc.1;rw[hlen]at this;simpa using this.symm
    exact⟨rfl,.skip (by simp[Instr.storeAt,Instr.sureAddr,storeVar,zcj hs,hsz,hst]) (Rho.le.refl _ _) hw' hb (by rw[hnx];exact zAE9 _)⟩
  .cases ha
 .cases ha
theorem zuC(h:ziO x y=some true):x=y:=by
 unfold ziO at h
 split at h
 .split at h
  .rename_i k a _ k' b;obtain⟨hk,h1⟩:=zac h;have:=zjI hk;subst this;injection h1 with h1;rw[zdM]at h1
   grind
  .cases h
 .split at h
  .rename_i a _ b;injection h with h;rw[ziu]at h
   grind
  .cases h
 .cases h
theorem VR.str_inv{l:LN}{v:Value}(h:VR ρ (.str l) v):∃s,v=.string s/\bts s=l:=by
 cases h with
 | str s=>exact⟨s,rfl,rfl⟩
theorem znH(ha:VR ρ x a)(hb:VR ρ x b){d:TypeDesc}(hk:zgN kf x=true)(w:World):(Instr.keyThatStays a b).run P w=.ok b w:=by
 have:Instr.sameBits 10000 a b=true:=by
  match kf,hk with
  | 1,hk =>
   cases x<;>simp[zgN,znD]at hk
   cases ha;cases hb
   simp[Instr.sameBits]
  | 2,hk =>
   cases x<;>simp[zgN,zmL]at hk
   obtain⟨s1,rfl,e1⟩:=ha.str_inv;obtain⟨s2,rfl,e2⟩:=hb.str_inv;have h1:=zx2 (s:=s1) (t:=s2) (e1.trans e2.symm);have h2:(s1==s2)=true:=by rw[beq_toListBytes,h1];simp
   simp only[Instr.sameBits];exact h2
 simp[Instr.keyThatStays,this]
theorem EsR.push{es:LZ}{es':List MapEntry}(h:EsR ρ es es'){e:zdv}{e':MapEntry}(hk:VR ρ e.k e'.key)(hv:VR ρ e.v e'.val)(hb:e'.born=e.n):EsR ρ (es++[e]) (es'++[e']):=by
 refine⟨by simp[h.1],fun i x y hx hy=>?_⟩;rw[zFR9]at hx hy;rw[h.1]at hx
 split at hx
 .rename_i hi;rw[if_pos hi]at hy;exact h.2 i x y hx hy
 grind
theorem zu3:∀(es:LZ) (i:Nat) (k v:TV) (j:Nat),(setE i k v es)[j]?=if j=i then(es[j]?).map (fun e=>⟨k,v,e.n⟩)else es[j]?
 | [],i,k,v,j=>by simp[setE]
 | e::es,0,k,v,j=>by cases j<;>simp[setE]
 | e::es,i+1,k,v,j=>by
  cases j with
  | zero=>simp[setE]
  | succ j=>simp only[setE,zBO9];rw[zu3 es i k v j];simp
theorem zwb:∀(es:LZ) (i:Nat) (k v:TV),(setE i k v es).length=es.length
 | [],i,k,v=>by simp[setE]
 | e::es,0,k,v=>by simp[setE]
 | e::es,i+1,k,v=>by simp[setE,zwb es i k v]
theorem EsR.setE{es:LZ}(h:EsR ρ es es'.toList){i:Nat}{k:TV}{f:MapEntry->MapEntry}(hf:∀e e',es[i]?=some e->es'[i]?=some e'->VR ρ k (f e').key/\VR ρ v (f e').val/\(f e').born=e'.born):EsR ρ (setE i k v es) (es'.modify i f).toList:=by
 refine⟨by rw[zwb];simpa using h.1,fun j x y hx hy=>?_⟩;rw[zu3]at hx;rw[zCD9,zGN9]at hy
 by_cases hj:j=i
 .subst hj;rw[if_pos rfl]at hx hy
  cases he:es[j]? with
  | none=>rw[he]at hx;cases hx
  | some e =>
   cases he':es'[j]? with
   | none=>rw[he']at hy;cases hy
   | some e' =>
    rw[he]at hx;rw[he']at hy;simp at hx hy;subst hx;subst hy;obtain⟨a,b,c⟩:=hf e e' he he';exact⟨a,b,c.trans (h.2 j e e' he (by simpa using he')).2.2⟩
 .rw[if_neg hj]at hx;rw[if_neg (fun e=>hj e.symm)]at hy;exact h.2 j x y hx (by simpa using hy)
theorem zid{r:Nat}{es:Array MapEntry}(hh:w.heap[r]?=some (.map es ck))(o:Obj):(setObj r o).run P w=.ok () (w.putObj r o):=by
 simp[setObj,Sem.run,hh,World.putObj]
theorem WR.setMap(k:WR P Z ρ h w){b:Nat}{loc:Loc}(hρ:ρ b 0=some loc){es:LZ}(hh:∃es0 ck0,w.heap[loc.r]?=some (.map es0 ck0))(he:EsR ρ es es'.toList){x0:TO}(hx0:h.get b=some x0)(hn0:∀cs,x0 ≠ .ro cs):WR P Z ρ (h.set b (.map es ck)) (w.putObj loc.r (.map es' ck))/\Below Z w (w.putObj loc.r (.map es' ck)):=by
 have hZo:∀g' loc',ρ b g'=some loc'->Z<=loc'.r:=fun g' loc' hl'=>k.own hl' hx0 hn0;obtain⟨es0,ck0,hh⟩:=hh;have hlt:loc.r<w.heap.size:=(zCH9.1 hh).1;have hZ:=hZo 0 loc hρ;refine⟨k.change (fun _ _ _ h=>h) (fun _ _ _=>rfl) hρ (by simp[World.putObj]) (fun c g' loc' hc hl'=>World.putObj_heap_other (fun e=>hc (k.sep c b g' 0 loc' loc hl' hρ e zo))) ⟨loc,es',hρ,World.putObj_heap_same hlt,he⟩
  (fun g' loc' hl'=>⟨hZo g' loc' hl',by have:=(k.dom b g' loc' hl').2.2;simpa[World.putObj]using this⟩) (fun g' loc' hl' c g'' loc'' hc hl'' e=>hc ((k.sep b c g' g'' loc' loc'' hl' hl'' e (hZo g' loc' hl')).symm)),?_⟩
 exact⟨rfl,rfl,rfl,by simp[World.putObj],fun j hj=>World.putObj_heap_other zo⟩
theorem VL.three{c:Value}(h:VL ρ l [a,b,c])(e:l=[x,y,z]):VR ρ x a/\VR ρ y b/\VR ρ z c:=by
 subst e;exact⟨h.2 0 x a rfl rfl,h.2 1 y b rfl rfl,h.2 2 z c rfl rfl⟩
theorem zmp(k:WR P Z ρ h w)(hu:P.underlying t=some (.map key e))(hd:P.underlying key=some d)(hkf:kfT kf d)(hv:VL ρ vs [m',x',y'])(ha:ziK kf h vs=some (.ok v h')):
  v=.tuple []/\zjk P Z ρ h h' w (do Instr.mapUpdate t m' x' y';pure .skip) v:=by
 have hkt:=zsm hd hkf;unfold ziK at ha
 split at ha
 .rename_i b x y;obtain⟨h0,ha⟩:=zac ha;have hkv:=zpA hkf h0;obtain⟨hm,hx,hy⟩:=hv.three rfl;have hck:∀b,(Instr.checkKey b 10000 key x').run P w=.ok () w:=fun b=>zjQ hkt b 9999 x' w
  split at ha
  .rename_i o ho;unfold zuF at ha
   split at ha
   .rename_i es ck
    cases hm with
    | map hρ =>
     rename_i loc;obtain⟨es',he,her⟩:=zmO k hρ ho
     split at ha
     .cases ha
     .rename_i hf;injection ha with ha;injection ha with ha1 ha2;subst ha1;subst ha2;obtain⟨r',hr',hc⟩:=zhj hd hkt hx hkv her hf;rcases hc with⟨_,rfl⟩|⟨j',a,b,c1,_⟩
      .obtain⟨hw,hb⟩:=k.setMap hρ ⟨_,_,he⟩ (es:=es++[⟨x,y,ck⟩]) (ck:=ck+1) (es':=es'.push { key:=x',val:=y',born:=ck }) (by simpa using her.push hx hy rfl) ho (fun cs h=>by cases h);exact⟨rfl,.skip (by simp[Instr.mapUpdate,run_underlying hu,ze6 he,hck,Instr.findKey,run_underlying hd,hr',zid he]) (Rho.le.refl _ _) hw hb (zAE9 _)⟩
      .cases c1
     .rename_i j e0 hf;injection ha with ha;injection ha with ha1 ha2;subst ha1;subst ha2;obtain⟨r',hr',hc⟩:=zhj hd hkt hx hkv her hf;rcases hc with⟨hc,_⟩|⟨j',a,b,c1,c2,c3,c4,c5⟩
      .cases hc
      .injection c1 with c1;injection c1 with c1 c1';subst c1';simp at c1;subst c1;simp at c2;subst c2;have hxe:=zuC c5;obtain⟨hek,_,_⟩:=her.2 j e0 b c3 c4;rw[<- hxe]at hek;have c4':es'[j]?=some b:=by simpa using c4
       have hks:=znH (P:=P) hek hx (d:=d) h0 w;obtain⟨hw,hb⟩:=k.setMap hρ ⟨_,_,he⟩ (es:=setE j x y es) (ck:=ck) (es':=es'.modify j fun e=>{ e with key:=x',val:=y' }) (her.setE fun e e' _ _=>⟨hx,hy,rfl⟩) ho (fun cs h=>by cases h);exact⟨rfl,.skip (by simp[Instr.mapUpdate,run_underlying hu,ze6 he,hck,Instr.findKey,run_underlying hd,hr',zid he,c4',hks]) (Rho.le.refl _ _) hw hb (zAE9 _)⟩
   .cases ha
  .cases ha
 .cases ha
theorem zvq(k:WR P Z ρ h w)(hu:P.underlying t=some (.map key e))(hd:P.underlying key=some d)(hkf:kfT kf d)(hz:zew P e=some z)(hv:VL ρ vs [m',x'])(ha:ztZ kf z h vs=some (.ok v h')):
  zjk P Z ρ h h' w (do pure (.value (<- Instr.mapEntry t m' x'))) v:=by
 have hkt:=zsm hd hkf;obtain⟨zv,hzv,hzr⟩:=zhw (ρ:=ρ) hz w;unfold ztZ at ha
 split at ha
 .rename_i b x;obtain⟨h0,ha⟩:=zac ha;have hkv:=zpA hkf h0;obtain⟨hm,hx⟩:=hv.two rfl;have hck:∀b,(Instr.checkKey b 10000 key x').run P w=.ok () w:=fun b=>zjQ hkt b 9999 x' w
  split at ha
  .rename_i o ho;unfold zyG at ha
   split at ha
   .rename_i es ck
    cases hm with
    | map hρ =>
     rename_i loc;obtain⟨es',he,her⟩:=zmO k hρ ho
     split at ha
     .cases ha
     .rename_i hf;injection ha with ha;injection ha with ha1 ha2;subst ha1;subst ha2;obtain⟨r',hr',hc⟩:=zhj hd hkt hx hkv her hf;rcases hc with⟨_,rfl⟩|⟨j',a,b,c1,_⟩
      .obtain⟨hw,hb⟩:=k.setMap hρ ⟨_,_,he⟩ (es:=es++[⟨x,z,ck⟩]) (ck:=ck+1) (es':=es'.push { key:=x',val:=zv,born:=ck }) (by simpa using her.push hx hzr rfl) ho (fun cs h=>by cases h);exact .val (v':=.tuple #[zv,.int .i64 (ck:Nat)]) (by simp[Instr.mapEntry,run_underlying hu,ze6 he,hck,Instr.findKey,run_underlying hd,hr',zid he,hzv,goInt]) (Rho.le.refl _ _) hw hb (VR.tL (.cons hzr (VL.one (.int _ _)))) (zAE9 _)
      .cases c1
     .rename_i j e0 hf;injection ha with ha;injection ha with ha1 ha2;subst ha1;subst ha2;obtain⟨r',hr',hc⟩:=zhj hd hkt hx hkv her hf;rcases hc with⟨hc,_⟩|⟨j',a,b,c1,c2,c3,c4,c5⟩
      .cases hc
      .injection c1 with c1;injection c1 with c1 c1';subst c1';simp at c1;subst c1;simp at c2;subst c2;have hxe:=zuC c5;obtain⟨hek,hev,hen⟩:=her.2 j e0 b c3 c4;rw[<- hxe]at hek;have c4':es'[j]?=some b:=by simpa using c4
       have hks:=znH (P:=P) hek hx (d:=d) h0 w;have hsame:EsR ρ es (es'.modify j fun e=>{ e with key:=x' }).toList:=by
        refine⟨by simpa using her.1,fun i p q hp hq=>?_⟩;rw[zCD9,zGN9]at hq
        split at hq
        .grind
        .exact her.2 i p q hp (by simpa using hq)
       obtain⟨hw,hb⟩:=k.setMap hρ ⟨_,_,he⟩ (es:=es) (ck:=ck) (es':=es'.modify j fun e=>{ e with key:=x' }) hsame ho (fun cs h=>by cases h);have hh:WR P Z ρ h (w.putObj loc.r (.map (es'.modify j fun e=>{ e with key:=x' }) ck)):=by
        refine⟨fun c g l hl=>?_,fun c g l hl=>?_,hw.sep⟩
        .obtain⟨a1,a2,a3⟩:=hw.dom c g l hl;refine⟨a1,a2.imp id fun⟨cs,h1⟩=>?_,a3⟩;rw[TH.get_set _ _ _ _ (TH.get_lt ho)]at h1
         split at h1
         .cases h1
         .exact⟨cs,h1⟩
        obtain⟨o',ho',hor⟩:=hw.obj c g l hl;rw[TH.get_set _ _ _ _ (TH.get_lt ho)]at ho'
        grind
       refine .val (v':=.tuple #[b.val,.int .i64 (e0.n:Nat)]) ?_ (Rho.le.refl _ _) hh hb (VR.tL (.cons hev (VL.one (.int _ _)))) (zAE9 _);simp[Instr.mapEntry,run_underlying hu,ze6 he,hck,Instr.findKey,run_underlying hd,hr',zid he,c4',hks,goInt,hen]
   .cases ha
  .cases ha
 .cases ha
theorem ztM(hv:VR ρ v v'):∀{es:LZ} {es':List MapEntry} {r:LZ},EsR ρ es es'->zqI n v es=some r->∃i,es'.findIdx? (fun e=>(e.born:Int)==(n:Int))=some i/\EsR ρ r (es'.modify i fun e=>{ e with val:=v' })
 | [],_,_,_,hs=>by cases hs
 | e::es,es',r,he,hs=>by
  obtain⟨e',rr,rfl,h1,h2,h3,h4⟩:=he.oc;simp only[zqI]at hs
  cases hb:Nat.beq e.n n<;>rw[hb]at hs
  .simp only[cond_false]at hs
   split at hs
   .cases hs
   .rename_i l hl;injection hs with hs;subst hs;obtain⟨i,hi,her⟩:=ztM hv h4 hl;have hne:¬((e'.born:Int)==(n:Int))=true:=by
     rw[h3];intro hh;have:=beq_iff_eq.1 hh;have:e.n=n:=zo
     simp_all
    refine⟨i+1,by rw[zEU9];simp only[hne,if_false,zCQ9];rw[hi];rfl,?_⟩;refine⟨by have:=her.1;simpa using this,fun j p q hp hq=>?_⟩
    cases j with
    | zero=>simp at hp hq;subst hp;subst hq;exact⟨h1,h2,h3⟩
    | succ j=>simp at hp hq;exact her.2 j p q hp (by simpa using hq)
  .simp only[cond_true]at hs;injection hs with hs;subst hs;have hen:=zAL9 hb;refine⟨0,by rw[zEU9];simp[h3,hen],?_⟩;refine⟨by have:=h4.1;simpa using this,fun j p q hp hq=>?_⟩
   cases j with
   | zero=>simp at hp hq;subst hp;subst hq;exact⟨h1,hv,h3⟩
   | succ j=>simp at hp hq;exact h4.2 j p q hp hq
theorem zyO(k:WR P Z ρ h w){s':Value}(hv:VL ρ vs [m',s',y'])(ha:zof h vs=some (.ok v h')):v=.tuple []/\zjk P Z ρ h h' w (do Instr.entryStore t m' s' y';pure .skip) v:=by
 unfold zof at ha
 split at ha
 .rename_i b s y;obtain⟨hm,hs,hy⟩:=hv.three rfl
  split at ha
  .rename_i n hn;obtain⟨kk,_,rfl⟩:=zhx hn hs
   split at ha
   .rename_i o ho;unfold zCw at ha
    split at ha
    .rename_i es ck
     split at ha
     .cases ha
     .rename_i es2 hst;injection ha with ha;injection ha with ha1 ha2;subst ha1;subst ha2
      cases hm with
      | map hρ =>
       rename_i loc;obtain⟨es',he,her⟩:=zmO k hρ ho;obtain⟨i,hi,hr⟩:=ztM hy her hst;obtain⟨hw,hb⟩:=k.setMap hρ ⟨_,_,he⟩ (es:=es2) (ck:=ck) (es':=es'.modify i fun e=>{ e with val:=y' }) (by rw[Array.toList_modify];exact hr) ho (fun cs h=>by cases h);have hi':es'.findIdx? (fun e=>(e.born:Int)==(n:Int))=some i:=by obtain⟨l⟩:=es';rw[List.findIdx?_toArray];exact hi
       exact⟨rfl,.skip (by simp[Instr.entryStore,ze6 he,asInt,asIntOf,hi',zid he]) (Rho.le.refl _ _) hw hb (zAE9 _)⟩
    .cases ha
   .cases ha
  .cases ha
 .cases ha
theorem zk3(k:WR P Z ρ h w){esz:Nat}(hx:VR ρ x x')(hl:zfW h esz x n=some l)(hn:n<=lenV x):
  ∃A m c cs,x'=.slice A m c/\m=lenV x/\VL ρ l cs/\cs.length=n*esz/\(∀y∈l,y.one=true)/\(n≠0->∃a,A=some a/\∀(j:Nat) v,cs[j]?=some v->w.cell? (a.add j)=some v):=by
 unfold zfW at hl
 split at hl
 .injection hl with hl;subst hl
  cases hx
  have:n=0:=by simp[lenV]at hn;exact hn
  subst this;exact⟨none,0,0,[],rfl,rfl,VL.nil ρ,by simp,fun y hy=>(by cases hy),fun h=>absurd rfl h⟩
 .rename_i b g o n0 q z;obtain⟨hz,hl⟩:=zac hl;obtain rfl:=zAL9 hz
  cases hx with
  | sl hρ h1 h2 h3 h4 h5 h6 =>
   rename_i o' c loc;have hn':n<=n0:=hn;have:n*esz<=q/2*esz:=zCK9 esz zo;obtain⟨cs,c1,c2,c3,c4⟩:=zlY k hl hρ zo;refine⟨_,n0,c,cs,rfl,rfl,c1,c2,c4,fun hne=>⟨_,rfl,fun j v hj=>?_⟩⟩;have ho:o'=o:=by rcases h4 with h|⟨h,_⟩;exact h;omega
   rw[zea,ho];exact c3 j v hj
 .cases hl
theorem zuP{ty:TypeId}(ht:P.underlying t=some (.slice e)){z:Nat}(hz:zcv P e=some z){base A:Option Addr}{c m c2:Nat}(hn:n<=c)(hm:m=0):(Builtin.append_ #[t,t] ty #[.slice base n c,.slice A m c2]).run P w=.ok (.slice base n c) w:=by
 subst hm;obtain⟨_,i,hi,rfl⟩:=zeE hz
 cases A<;>cases base<;>simp[Builtin.append_,run_underlying ht,sizeOf,typeInfo,hi,Builtin.lenOf,Builtin.firstCells,hn,loadCells,loadCellsFrom,storeCells]
structure zph(P:Program)(w:World)(t u e:TypeId)(i:TypeInfo)(zv:Value)(x':Value)(m:Nat)(cs:LM):Prop where
 zero:∀(ty:TypeId) (base:Option Addr) (n c:Nat),n<=c->m=0->(Builtin.append_ #[t,u] ty #[.slice base n c,x']).run P w=.ok (.slice base n c) w
 nil:∀(ty:TypeId),0<m->(m:Int)<=9223372036854775807->m*i.bytes<=281474976710656->(Builtin.append_ #[t,u] ty #[.slice none 0 0,x']).run P w=.ok (.slice (some ⟨w.heap.size,0,none⟩) m (grownCap w m 0 e)) (w.drew.alloc (.cells (cs.toArray++Builtin.zeroCells zv.cells (grownCap w m 0 e-m)) e))
 room:∀(ty:TypeId) (g n cc:Nat) (cur:LW) (fz:Nat×Nat),w.heap[g]?=some (.cells cur e fz)->zsp P e fz cur.size->0<m->n+m<=cc->n*i.size+cs.length<=cur.size->(Builtin.append_ #[t,u] ty #[.slice (some ⟨g,0,none⟩) n cc,x']).run P w=.ok (.slice (some ⟨g,0,none⟩) (n+m) cc) (w.setRow g (cur.toList.take (n*i.size)++cs++cur.toList.drop (n*i.size+cs.length)).toArray)
 grow:∀(ty:TypeId) (b:Addr) (n cc:Nat) (olds:LM),olds.length=n*i.size->(∀j u,olds[j]?=some u->w.cell? (b.add j)=some u)->0<m->cc<n+m->((n+m:Nat):Int)<=9223372036854775807->Builtin.nextslicecap (n+m) cc*i.bytes<=281474976710656->(Builtin.append_ #[t,u] ty #[.slice (some b) n cc,x']).run P w=.ok (.slice (some ⟨w.heap.size,0,none⟩) (n+m) (grownCap w (n+m) cc e)) (w.drew.alloc (.cells (olds.toArray++cs.toArray++Builtin.zeroCells zv.cells (grownCap w (n+m) cc e-(n+m))) e))
variable {a:Act}{by_ esz:Nat}{i:TypeInfo}{o:Oper}{s':Value}{ty u:TypeId}{zv:Value}
theorem zph.slice(ht:P.underlying t=some (.slice e))(hi:P.info? e=some i)(hz:i.zero=some zv)(h0:0<i.size){A:Option Addr}{c:Nat}(hcl:cs.length=m*i.size)(hone:∀u∈cs,u.oneCell'=true)(hmem:m≠0->∃a,A=some a/\∀(j:Nat) v,cs[j]?=some v->w.cell? (a.add j)=some v):zph P w t t e i zv (.slice A m c) m cs:=by
 refine⟨fun ty base n cc hn hm=>?_,fun ty hm h1 h2=>?_,fun ty g n cc cur fz hg hfz hm hr hf=>?_,fun ty b n cc olds ho ho2 hm hc h1 h2=>?_⟩
 .exact zuP ht (z:=i.size) (by simp[zcv,hi];omega) hn hm
 .obtain⟨a,rfl,ha⟩:=hmem zo;exact run_append_nil (P:=P) w t ty e i zv ht hi hz a m c cs hcl ha hm h1 h2
 .obtain⟨a,rfl,ha⟩:=hmem zo;have hfc:=run_firstCells_some (P:=P) w i.size m a m c cs hcl ha;have hst:=zhR (P:=P) g (n*i.size) e fz cs 0 cur w hg hfz (by simpa using hf) hone;simp only[zDC9]at hst;simp[Builtin.append_,run_underlying ht,sizeOf,typeInfo,hi,Builtin.lenOf,hr,hfc,zea,hst]
 .obtain⟨a,rfl,ha⟩:=hmem zo;exact run_append_grow (P:=P) w t ty e i zv ht hi hz b n cc olds ho ho2 a m c cs hcl ha hc h1 h2
theorem zph.zeros{kn kq:IntKind}(ht:P.underlying t=some (.slice e))(hu:P.underlying u=some (.int kn))(hi:P.info? e=some i)(hz:i.zero=some zv)(h0:0<i.size)(hzs:zv.cells.size=i.size)(hone:∀u∈zv.cells.toList,u.oneCell'=true)(hm1:m<=1000000)(hm2:m*i.bytes<=281474976710656):zph P w t u e i zv (.int kq (.ofNat m)) m (Builtin.zeroCells zv.cells m).toList:=by
 have hw:IntKind.i64.wrap (m:Int)=m:=by simp[IntKind.wrap,IntKind.bits,IntKind.signed];omega
 have hneg:¬((m:Int)<0):=zo;have h48i:¬(281474976710656<(m:Int)*(i.bytes:Int)):=by rw[<- zGS9];omega
 refine⟨fun ty base n cc hn hm=>?_,fun ty hm h1 h2=>?_,fun ty g n cc cur fz hg hfz hm hr hf=>?_,fun ty b n cc olds ho ho2 hm hc h1 h2=>?_⟩
 .subst hm;have hw0:IntKind.i64.wrap 0=0:=by decide
  cases base<;>simp[Builtin.append_,run_underlying ht,run_underlying hu,sizeOf,typeInfo,hi,asInt,asIntOf,hw0,hn,storeCells]
 .have:=Lib.run_append_nil_zeros (P:=P) w t u ty e i zv kq kn ht hu hi hz m hm h0 h1 h2;simpa using this
 .have hst:=zhR (P:=P) g (n*i.size) e fz (Builtin.zeroCells zv.cells m).toList 0 cur w hg hfz (by simpa using hf) (fun v hv=>by
   obtain⟨j,hj,rfl⟩:=zBN9.1 hv;simp only[Builtin.zeroCells,zES9,List.getElem_map];refine hone _ ?_;have hj':(Array.range (m*zv.cells.size)).toList[j]'(by simpa[Builtin.zeroCells]using hj)=j:=by simp
   rw[hj'];have:j%zv.cells.size<zv.cells.size:=zFJ9 _ zo;rw[getElem!_pos zv.cells _ this];simp)
  simp only[zDC9]at hst;have hns:¬(m*i.size=0):=Nat.mul_ne_zero zo zo;simp[Builtin.append_,run_underlying ht,run_underlying hu,sizeOf,typeInfo,zeroValue,hi,hz,asInt,asIntOf,hw,hneg,h48i,hns,hr,zea,hst]
 .have hfo:=run_firstCells_some (P:=P) w.drew i.size n b n cc olds ho (by simpa using ho2);have:=Lib.run_append_grow_zeros (P:=P) w t u ty e i zv kq kn ht hu hi hz (some b) n cc olds hfo m hm h0 hc h1 hm2 h2;simpa using this
theorem zxx(k:WR P Z ρ h w)(hZ:Z<=w.heap.size)(hi:P.info? e=some i)(hisz:i.size=esz)(hn0:0<esz)(hib:i.bytes=by_)(hzvs:zv.cells.size=esz){s:TV}(hsr:VR ρ s s'){news:LK}(hAS:zph P w t u e i zv x' m cs)(hcs:VL ρ news cs)(hcl:cs.length=m*esz)(hone:∀y∈news,y.one=true)(ha:zi9 h e esz by_ s m news=some (.ok v h')):∃v' w' ρ',(Builtin.append_ #[t,u] ty #[s',x']).run P w=.ok v' w'/\Rho.le h.next ρ ρ'/\WR P Z ρ' h' w'/\Below Z w w'/\VR ρ' v v'/\h.next<=h'.next:=by
 have hcl':cs.length=m*i.size:=by rw[hcl,hisz]
 have hnl:news.length=m*esz:=by rw[hcs.1,hcl]
 unfold zi9 at ha
 cases s<;>simp only at ha<;>first|(cases ha;done)|skip
 case nilsl =>
  cases hsr
  cases hm0:Nat.beq m 0<;>rw[hm0]at ha
  ·-- a new block
   have hmne:m≠0:=fun e=>by subst e;simp at hm0
   simp only[cond_false]at ha;unfold zmF at ha;obtain⟨hfit,ha⟩:=zac ha;injection ha with ha;injection ha with ha1 ha2;subst ha1;subst ha2;have hfit:=zAW9 hfit;rw[zHC9]at hfit;have hr:=hAS.nil ty zo zo (by rw[hib];omega);have hcap:=grownCap_ge w m 0 e;have hcap2:=grownCap_le_maxLen w m 0 e (by simp only[maxLen];omega);have hnone:∀g,ρ h.next g=none:=fun g=>by
    cases hg:ρ h.next g with
    | none=>rfl
    | some loc=>have:=(k.dom _ _ _ hg).1;omega
   have hbsz:(cs.toArray++Builtin.zeroCells zv.cells (grownCap w m 0 e-m)).size=grownCap w m 0 e*esz:=by
    simp only[zFA9,zEN9,size_zeroCells,hzvs,hcl',hisz,<- zCZ9]
    grind
   have hwr:=zii (k.drew.push (zcW e news)) (b:=h.next) hnone (by rw[TH.nP];omega) (by exact hZ) (by rw[TH.gP,if_pos rfl]) (cs:=cs.toArray++Builtin.zeroCells zv.cells (grownCap w m 0 e-m)) (by rw[hbsz,hnl];exact zCK9 _ hcap) (fun j x y hx hy=>by
    have hj:j<cs.length:=by rw[<- hcs.1];exact(zAC9.1 hx).1
    rw[zFU9 (by simpa using hj)]at hy;exact hcs.2 j x y hx (by simpa using hy)) hone
   refine⟨_,_,_,hr,⟨Rho.add_more (hnone 0),fun c hc hn g=>by rw[Rho.add_ne zo];exact hn g⟩,hwr,?_,?_,by rw[TH.nP];omega⟩
   .exact⟨rfl,rfl,rfl,by simp,fun j hj=>Below.heap_alloc w.drew _ j (by show j<w.heap.size;omega)⟩
   .refine .sl (Rho.aS _ _ _ _) zo zo ?_ (.inl rfl) (fun _=>?_) hcap2
    .show 0+2*m/2*esz<=news.length;have:2*m/2=m:=zo;rw[this,hnl];omega
    .exact(zBS9 _).trans hbsz.symm
  .have hm0':=zAL9 hm0;simp only[cond_true]at ha;injection ha with ha;injection ha with ha1 ha2;subst ha1;subst ha2;exact⟨_,_,ρ,hAS.zero ty _ _ _ (zAE9 _) hm0',Rho.le.refl _ _,k,Below.refl _ _,.nilsl,zAE9 _⟩
 case sl b g o n q z =>
  cases hm0:Nat.beq m 0<;>rw[hm0]at ha
  .have hmne:m≠0:=fun e=>by subst e;simp at hm0
   simp only[cond_false]at ha;obtain⟨hoz,hb1⟩:=zac ha;clear ha;obtain⟨hq2,hb2⟩:=zac hb1;clear hb1;obtain⟨hzz,ha⟩:=zac hb2;clear hb2;have hoz':=zAL9 hoz;have hq2':=zAL9 hq2;have hzz':=zAL9 hzz;clear hoz hq2 hzz;have hq2:=hq2';clear hq2';subst hoz';subst hzz'
   split at ha
   .rename_i r hr0;unfold zqV at ha
    split at ha
    .rename_i e' G M len cells;obtain⟨he,hb1⟩:=zac ha;clear ha;obtain⟨hg,hb2⟩:=zac hb1;clear hb1;obtain⟨hlen,hb3⟩:=zac hb2;clear hb2;obtain⟨hfit,ha⟩:=zac hb3;clear hb3;injection ha with ha;injection ha with ha1 ha2;subst ha1;subst ha2;have he':=zAL9 he;have hg':=zAL9 hg;have hlen':=zAL9 hlen;have hfit':=zAW9 hfit;rw[zHC9]at hfit';clear he hg hlen hfit;have hlen:=hlen';have hfit:=hfit';clear hlen' hfit';subst he';subst hg'
     cases hsr with
     | sl hρ s1 s2 s3 s4 s5 s6 =>
      rename_i o' cc loc;have ho':o'=0:=by rcases s4 with h|⟨_,_,h⟩;exact h;exact absurd rfl h
      subst ho';obtain⟨y,hy,hr⟩:=k.obj b g loc hρ;rw[hr0]at hy;injection hy with hy;subst hy;obtain⟨hMG,hg0,hrow⟩:=hr;obtain⟨loc',cur,hρ',⟨fz,hheap,hfz⟩,r1,r2,r3,r4,r5⟩:=hrow g hMG (zAE9 _);rw[hρ]at hρ';injection hρ' with hρ';subst hρ';have hS:=s5 hq2;have hcur:cur.size=cc*esz:=by rw[r1 rfl,<- hS];omega
      have hL:loc.L=len:=r4 rfl;have hnone:ρ b (g+1)=none:=by
       cases hq:ρ b (g+1)with
       | none=>rfl
       | some l=>have:=hg0 _ _ hq;omega
      have hZo:∀g' loc',ρ b g'=some loc'->Z<=loc'.r:=fun g' loc' hl'=>k.own hl' hr0 (fun cs h=>by cases h);have hZr:=hZo g loc hρ;have hrlt:=(k.dom b g loc hρ).2.2
      by_cases hroom:n+m<=cc
      ·-- in place
       have hfits:n*i.size+cs.length<=cur.size:=by rw[hcl',hcur,hisz,<- zCZ9];exact zCK9 _ hroom
       have hrun:=hAS.room ty loc.r n cc cur fz hheap hfz zo hroom hfits;have hnew0:=setRow_heap w loc.r cur (cur.toList.take (n*i.size)++cs++cur.toList.drop (n*i.size+cs.length)).toArray e fz hheap;have hnsz:((cur.toList.take (n*i.size)++cs++cur.toList.drop (n*i.size+cs.length)).toArray).size=cur.size:=by simp;omega
       have hnew:zif P _ loc.r _ e:=⟨fz,hnew0,hfz.same hnsz⟩
       have hget:∀j,((cur.toList.take (n*i.size)++cs++cur.toList.drop (n*i.size+cs.length)).toArray)[j]?=if n*i.size<=j/\j<n*i.size+cs.length then cs[j-n*i.size]? else cur[j]?:=fun j=>by
        rw[List.getElem?_toArray,zlj _ _ _ _ (by simpa using hfits),zCD9 (xs:=cur)]
       have hm:=Rho.add_more (loc:=⟨loc.r,len+news.length,loc.S⟩) hnone;refine⟨_,_,ρ.add b (g+1) ⟨loc.r,len+news.length,loc.S⟩,hrun,⟨hm,fun c' hc' hn' g'=>?_⟩,?_,zte hZr _,?_,zAE9 _⟩
       .have:c'≠b:=fun e=>by subst e;rw[hn']at hρ;cases hρ
        rw[Rho.add_ne this];exact hn' g'
       .refine k.change hm (fun c' hc' g'=>Rho.add_ne hc' g') hρ (by simp) (fun c' g' loc' hc' hl'=>setRow_other w loc.r loc'.r _ (fun e=>hc' (k.sep c' b g' g loc' loc hl' hρ e zo))) ⟨by omega,fun g' l hl=>?_,fun g' h1' h2'=>?_⟩ (fun g' l hl=>?_) (fun g' l hl c' g'' loc'' hc' hl'' e=>?_)
        .rcases Rho.add_inv hl with⟨_,rfl,_⟩|hl
         .exact zAE9 _
         .have:=hg0 _ _ hl;omega
        .by_cases hgg:g'=g+1
         .subst hgg;refine⟨_,_,Rho.aS _ _ _ _,hnew,fun _=>by rw[hnsz];exact r1 rfl,zAE9 _,by dsimp only;rw[hnsz,hnl];rw[hcl',hisz]at hfits;omega,fun _=>rfl,fun j hj=>?_⟩;dsimp only at hj;rw[hget,Tr.get_putL];have e1:len=n*i.size:=by rw[hisz,hlen]
          by_cases hjn:len<=j/\j<len+news.length
          .rw[if_pos hjn,if_pos (by rw[<- e1,<- hcs.1];exact hjn)];have hi1:j-len<news.length:=zo;have hi2:j-n*i.size<cs.length:=by rw[<- e1,<- hcs.1];exact hi1
           rw[<- e1]at hi2⊢;exact⟨_,_,zAA9 hi1,zAA9 hi2,hone _ (zBK9 hi1),(hcs.2 (j-len) _ _ (zAA9 hi1) (zAA9 hi2)).mono hm⟩
          .rw[if_neg hjn,if_neg (by rw[<- e1,<- hcs.1];exact hjn)];obtain⟨x,u,q1,q2,q3,q4⟩:=r5 j zo;exact⟨x,u,q1,q2,q3,q4.mono hm⟩
         .obtain⟨l,cu,p1,p2,p3,p4,p5,p6,p7⟩:=hrow g' h1' zo
          by_cases hlr:l.r=loc.r
          .obtain⟨fz',p2,_⟩:=p2;rw[hlr,hheap]at p2;injection p2 with p2;injection p2 with p2;subst p2;refine⟨l,_,hm _ _ _ p1,by rw[hlr];exact hnew,fun h=>absurd h hgg,by omega,by rw[hnsz];exact p5,fun h=>absurd h hgg,fun j hj=>?_⟩;obtain⟨x,u,q1,q2,q3,q4⟩:=p7 j hj;have e1:len=n*i.size:=by rw[hisz,hlen]
           exact⟨x,u,by rw[Tr.get_putL,if_neg zo];exact q1,by rw[hget,if_neg zo];exact q2,q3,q4.mono hm⟩
          .refine⟨l,cu,hm _ _ _ p1,p2.move (setRow_other w loc.r l.r _ hlr),fun h=>absurd h hgg,by omega,p5,fun h=>absurd h hgg,fun j hj=>?_⟩;obtain⟨x,u,q1,q2,q3,q4⟩:=p7 j hj;exact⟨x,u,by rw[Tr.get_putL,if_neg zo];exact q1,q2,q3,q4.mono hm⟩
        .rcases Rho.add_inv hl with⟨_,_,rfl⟩|hl
         .exact⟨hZr,by simpa using hrlt⟩
         .exact⟨hZo _ _ hl,by have:=(k.dom _ _ _ hl).2.2;simpa using this⟩
        .rcases Rho.add_inv hl with⟨_,_,rfl⟩|hl
         .exact hc' (k.sep _ _ _ _ _ _ hl'' hρ e.symm (by dsimp only at e;omega))
         .exact hc' (k.sep _ _ _ _ _ _ hl'' hl e.symm (by have:=hZo _ _ hl;omega))
       .refine .sl (loc:=⟨loc.r,len+news.length,loc.S⟩) (Rho.aS _ _ _ _) zo zo ?_ (.inl rfl) (fun _=>?_) s6
        .show 0+2*(n+m)/2*esz<=len+news.length;have:2*(n+m)/2=n+m:=zo;rw[this,zBS9,zCZ9,hnl,hlen];exact zAE9 _
        .exact hS
      ·-- moved
       have hxl:(cur.toList.take (n*esz)).length=n*i.size:=by grind
       have hrun:=hAS.grow ty ⟨loc.r,0,none⟩ n cc (cur.toList.take (n*esz)) hxl (fun j u hj=>by
        rw[zea,zBS9];have hjn:j<n*esz:=by have:=(zAC9.1 hj).1;simp at this;omega
        rw[zBU9,if_pos hjn,zCD9]at hj;simp[World.cell?,hheap,hj]) zo zo zo (growslice_fits zo (by rw[hib];omega))
       have hcap:=grownCap_ge w (n+m) cc e;have hcap2:=grownCap_le_maxLen w (n+m) cc e (by simp only[maxLen];omega);obtain⟨bl,hbl⟩:∃bl,bl=(cur.toList.take (n*esz)).toArray++cs.toArray++Builtin.zeroCells zv.cells (grownCap w (n+m) cc e-(n+m)):=⟨_,rfl⟩
       rw[<- hbl]at hrun;have hbsz:bl.size=grownCap w (n+m) cc e*esz:=by
        rw[hbl];simp only[zFA9,zEN9,size_zeroCells,hzvs,hcl',hxl,hisz,<- zCZ9]
        grind
       have hget:∀j,j<len+news.length->bl[j]?=if j<len then cur[j]? else cs[j-len]?:=fun j hj=>by
        rw[hbl,zFU9 (by simp only[zFA9,zEN9,hxl,hcl',hisz];rw[hlen,<- hnl];exact hj)]
        grind
       have hm:=Rho.add_more (loc:=⟨w.heap.size,len+news.length,bl.size⟩) hnone;have hnew:zif P (w.drew.alloc (.cells bl e)) w.heap.size bl e:=.of (World.alloc_heap_new w.drew _);have hold:∀r,r<w.heap.size->(w.drew.alloc (.cells bl e)).heap[r]?=w.heap[r]?:=fun r hr=>Below.heap_alloc w.drew _ r hr;refine⟨_,_,ρ.add b (g+1) ⟨w.heap.size,len+news.length,bl.size⟩,hrun,⟨hm,fun c' hc' hn' g'=>?_⟩,?_,?_,?_,zAE9 _⟩
       .have:c'≠b:=fun e=>by subst e;rw[hn']at hρ;cases hρ
        rw[Rho.add_ne this];exact hn' g'
       .refine k.change hm (fun c' hc' g'=>Rho.add_ne hc' g') hρ (by simp) (fun c' g' loc' hc' hl'=>hold _ (k.dom _ _ _ hl').2.2) ⟨by omega,fun g' l hl=>?_,fun g' h1' h2'=>?_⟩ (fun g' l hl=>?_) (fun g' l hl c' g'' loc'' hc' hl'' e=>?_)
        .rcases Rho.add_inv hl with⟨_,rfl,_⟩|hl
         .exact zAE9 _
         .have:=hg0 _ _ hl;omega
        .by_cases hgg:g'=g+1
         .subst hgg;have hle:len+news.length<=bl.size:=by grind
          refine⟨_,_,Rho.aS _ _ _ _,hnew,fun _=>rfl,zAE9 _,hle,fun _=>rfl,fun j hj=>?_⟩;dsimp only at hj;rw[hget j hj,Tr.get_putL]
          by_cases hjn:len<=j/\j<len+news.length
          .rw[if_pos hjn,if_neg zo];have hi1:j-len<news.length:=zo;have hi2:j-len<cs.length:=by rw[<- hcs.1];exact hi1
           exact⟨_,_,zAA9 hi1,zAA9 hi2,hone _ (zBK9 hi1),(hcs.2 (j-len) _ _ (zAA9 hi1) (zAA9 hi2)).mono hm⟩
          .rw[if_neg hjn,if_pos zo];obtain⟨x,u,q1,q2,q3,q4⟩:=r5 j zo;exact⟨x,u,q1,q2,q3,q4.mono hm⟩
         .obtain⟨l,cu,p1,p2,p3,p4,p5,p6,p7⟩:=hrow g' h1' zo;refine⟨l,cu,hm _ _ _ p1,p2.move (hold _ (k.dom _ _ _ p1).2.2),fun h=>absurd h hgg,by omega,p5,fun h=>absurd h hgg,fun j hj=>?_⟩;obtain⟨x,u,q1,q2,q3,q4⟩:=p7 j hj;exact⟨x,u,by rw[Tr.get_putL,if_neg zo];exact q1,q2,q3,q4.mono hm⟩
        .rcases Rho.add_inv hl with⟨_,_,rfl⟩|hl
         .exact⟨hZ,by simp⟩
         .exact⟨hZo _ _ hl,by have:=(k.dom _ _ _ hl).2.2;simp;omega⟩
        .rcases Rho.add_inv hl with⟨_,_,rfl⟩|hl
         .have:=(k.dom _ _ _ hl'').2.2;dsimp only at e;omega
         .exact hc' (k.sep _ _ _ _ _ _ hl'' hl e.symm (by have:=hZo _ _ hl;omega))
       .exact⟨rfl,rfl,rfl,by simp,fun j hj=>hold j zo⟩
       .refine .sl (Rho.aS _ _ _ _) zo zo ?_ (.inl rfl) (fun _=>?_) hcap2
        .show 0+2*(n+m)/2*esz<=len+news.length;have:2*(n+m)/2=n+m:=zo;rw[this,zBS9,zCZ9,hnl,hlen];exact zAE9 _
        .exact(zBS9 _).trans hbsz.symm
    .cases ha
   .cases ha
  .have hm0':=zAL9 hm0;simp only[cond_true]at ha;injection ha with ha;injection ha with ha1 ha2;subst ha1;subst ha2
   cases hsr with
   | sl hρ s1 s2 s3 s4 s5 s6=>exact⟨_,_,ρ,hAS.zero ty _ _ _ zo hm0',Rho.le.refl _ _,k,Below.refl _ _,.sl hρ s1 s2 s3 s4 s5 s6,zAE9 _⟩
theorem zF4(k:WR P Z ρ h w)(hZ:Z<=w.heap.size)(ht:P.underlying t=some (.slice e))(hs:zcv P e=some esz)(hby:zj4 P e=some by_){zt:TV}(hzt:zew P e=some zt)(hzl:zt.cells.length=esz)(hv:VL ρ vs [s',x'])(ha:zhG e esz by_ h vs=some (.ok v h')):∃v' w' ρ',(Builtin.append_ #[t,t] ty #[s',x']).run P w=.ok v' w'/\Rho.le h.next ρ ρ'/\WR P Z ρ' h' w'/\Below Z w w'/\VR ρ' v v'/\h.next<=h'.next:=by
 obtain⟨hn0,i,hi,hisz⟩:=zeE hs;obtain⟨i2,hi2,hib⟩:=zmZ hby;rw[hi]at hi2;injection hi2 with hi2;subst hi2;obtain⟨i3,zv,hi3,hzv,hzr⟩:=zmv hzt;rw[hi]at hi3;injection hi3 with hi3;subst hi3;have hzr:=hzr ρ;have hzvs:zv.cells.size=esz:=by
  obtain⟨hc,_⟩:=hzr.cells (.inl (by intro e;rw[e]at hzl;simp at hzl;omega));have:=hc.1;rw[hzl]at this;simpa using this.symm
 unfold zhG at ha
 split at ha
 .rename_i s x;obtain⟨hsr,hxr⟩:=hv.two rfl;unfold zzu at ha
  split at ha
  .cases ha
  .rename_i news hnews;obtain⟨A,m,c,cs,rfl,hm,hcs,hcl,hone,hmem⟩:=zk3 k hxr hnews (zAE9 _);rw[<- hm]at ha hcl hmem;have hone':∀u∈cs,u.oneCell'=true:=fun u hu=>by
    obtain⟨j,hj,rfl⟩:=zBN9.1 hu;have hj':j<news.length:=by rw[hcs.1];exact hj
    exact(hcs.2 j news[j] cs[j] (zAA9 hj') (zAA9 hj)).oneCell (hone _ (zBK9 hj'))
   exact zxx k hZ hi hisz (zHF9 hn0) hib hzvs hsr (zph.slice ht hi hzv zo (by rw[hcl,hisz]) hone' hmem) hcs hcl hone ha
 .cases ha
theorem zEN(k:WR P Z ρ h w)(hZ:Z<=w.heap.size)(ht:P.underlying t=some (.slice e))(hu:zus P u=true)(hs:zcv P e=some esz)(hby:zj4 P e=some by_){zt:TV}(hzt:zew P e=some zt)(hzl:zt.cells.length=esz)(hv:VL ρ vs [s',x'])(ha:zmb e esz by_ zt.cells h vs=some (.ok v h')):∃v' w' ρ',(Builtin.append_ #[t,u] ty #[s',x']).run P w=.ok v' w'/\Rho.le h.next ρ ρ'/\WR P Z ρ' h' w'/\Below Z w w'/\VR ρ' v v'/\h.next<=h'.next:=by
 obtain⟨kn,hu⟩:∃kn,P.underlying u=some (.int kn):=by
  unfold zus at hu
  split at hu
  .exact⟨_,by assumption⟩
  .cases hu
 obtain⟨hn0,i,hi,hisz⟩:=zeE hs;obtain⟨i2,hi2,hib⟩:=zmZ hby;rw[hi]at hi2;injection hi2 with hi2;subst hi2;obtain⟨i3,zv,hi3,hzv,hzr⟩:=zmv hzt;rw[hi]at hi3;injection hi3 with hi3;subst hi3;have hzr:=hzr ρ;have hcn:zt.cells ≠ []:=by intro e;rw[e]at hzl;simp at hzl;omega
 obtain⟨hc,h1⟩:=hzr.cells (.inl hcn);have hzvs:zv.cells.size=esz:=by have:=hc.1;rw[hzl]at this;simpa using this.symm
 unfold zmb at ha
 split at ha
 .rename_i s kq m;obtain⟨hsr,hxr⟩:=hv.two rfl;obtain⟨g1,ha⟩:=zac ha;obtain⟨g2,ha⟩:=zac ha;have g1:=zAW9 g1;have g2:=zAW9 g2;rw[zHC9]at g2
  cases hxr
  refine zxx k hZ hi hisz (zHF9 hn0) hib hzvs hsr (zph.zeros ht hu hi hzv zo zo (fun y hy=>?_) g1 (by rw[hib];omega)) ⟨?_,fun j x y hx hy=>?_⟩ ?_ (fun x hx=>h1 x (zly hx)) ha
  .obtain⟨j,hj,rfl⟩:=zBN9.1 hy;have hj':j<zt.cells.length:=by rw[hc.1];exact hj
   exact(hc.2 j zt.cells[j] _ (zAA9 hj') (zAA9 hj)).oneCell (h1 _ (zBK9 hj'))
  .rw[ziB];simp[Builtin.zeroCells,hzl,hzvs]
  .rw[zCD9]at hy;exact zpv hzr hcn m m (zAE9 _) j x y hx hy
  .simp[Builtin.zeroCells,hzvs]
 .cases ha
theorem zD7(k:WR P Z ρ h w){dT sT:TypeId}(ht:P.underlying dT=some (.slice e))(hs:zcv P e=some esz){d':Value}(hv:VL ρ vs [d',x'])(ha:zh0 esz h vs=some (.ok v h')):∃v' w',(Builtin.copy_ #[dT,sT] ty #[d',x']).run P w=.ok v' w'/\WR P Z ρ h' w'/\Below Z w w'/\VR ρ v v'/\h.next<=h'.next:=by
 unfold zh0 at ha
 split at ha
 .rename_i d x;obtain⟨hdr,hxr⟩:=hv.two rfl;dsimp only at ha
  split at ha
  .cases ha
  .rename_i news hnews;obtain⟨A,m,c,cs,hx',hm,hcs,hcl,hone,hmem⟩:=zk3 k hxr hnews (Nat.min_le_left _ _);subst hx'
   split at ha
   .cases ha
    cases hdr
    refine⟨goInt 0,w,?_,k,Below.refl _ _,.int _ _,zAE9 _⟩
    cases A<;>simp[Builtin.copy_,run_underlying ht,Builtin.lenOf,Builtin.firstCells,zcj hs,loadCells,loadCellsFrom]
   .rename_i b g o n q z
    cases hdr with
    | sl hρ s1 s2 s3 s4 s5 s6 =>
     rename_i o' cc loc;have hmin:Nat.min m n=min (lenV x) (lenV (.sl b g o n q z)):=by rw[hm];rfl
     cases hm0:Nat.beq (min (lenV x) (lenV (.sl b g o n q z))) 0<;>rw[hm0]at ha
     .simp only[cond_false]at ha;have hne:min (lenV x) (lenV (.sl b g o n q z))≠0:=fun e=>by simp_all
      obtain⟨hz,ha2⟩:=zac ha;have hz':=zAL9 hz;clear ha hz;subst hz'
      split at ha2
      .rename_i h2 hw
       cases ha2
       obtain⟨a,hA,hmem2⟩:=hmem hne;subst hA;have ho:o'=o:=by grind
       subst ho;obtain⟨w',hst,hw',hb,hnx⟩:=zlJ k hρ hcs hone hw;have hl:=run_loadCells_list (P:=P) w a cs hmem2;refine⟨.int .i64 (Int.ofNat (min (lenV x) (lenV (.sl b g o' n q esz)))),w',?_,hw',hb,.int _ _,by omega⟩;rw[hcl,<- hmin]at hl;rw[<- hmin];simp[Builtin.copy_,run_underlying ht,Builtin.lenOf,Builtin.firstCells,zcj hs,hl,hst,goInt]
      grind
     .simp only[cond_true]at ha
      cases ha
      have he:=zAL9 hm0;rw[<- hmin]at he;refine⟨goInt 0,w,?_,k,Below.refl _ _,.int _ _,zAE9 _⟩;have hz0:∀a:Addr,(storeCells a [] 0).run P w=.ok () w:=fun a=>by simp[storeCells]
      cases A<;>simp[Builtin.copy_,run_underlying ht,Builtin.lenOf,Builtin.firstCells,zcj hs,he,loadCells,loadCellsFrom,hz0]
   grind
 grind
theorem zqm(k:WR P Z ρ h w)(hZ:Z<=w.heap.size)(ho:opK P o.op=some (kd,args))(hc:kd.cls=2)(hn:kd ≠ .call/\kd ≠ .panic/\kd ≠ .defer)(ht:TmR ρ tm a.tmps)(hv:zHX tm args=some vs){C:zce}{ca:LH}(hp:act C ca kd vs h=some (.ok v h')):
  zjk P Z ρ h h' w (execOp a.eval o) v:=by
 have key:∀{k0:zaf} {xs:AA},mk k0 xs=some (kd,args)->kd=k0/\VL ρ vs (xs.map a.eval):=fun hm=>by
  obtain⟨h1,h2⟩:=zlI hm;exact⟨h1,zgk ht h2 hv⟩
 obtain⟨dst,op,ty,pos,after,guard⟩:=o
 cases op with
 | makeFunc fn first captured=>cases fn<;>simp only[opK]at ho<;>(repeat' (split at ho))<;>first|(cases ho;done)|(obtain⟨rfl,_⟩:=key ho;cases hc)
 | call c =>
  obtain⟨callee,cargs,ts⟩:=c
  cases callee with
  | value f=>obtain⟨rfl,_⟩:=key ho;exact absurd rfl hn.1
  | invoke r m=>cases ho
  | builtin b =>
   simp only[opK]at ho
   split at ho
   .rename_i t u hts
    split at ho<;>first|(cases ho;done)|skip
    rename_i e he
    split at ho<;>first|(cases ho;done)|skip
    rename_i n by_ z hs hby hz
    split at ho<;>first|(cases ho;done)|skip
    rename_i hzl
    split at ho
    .rename_i hut;subst hut;obtain⟨rfl,hl⟩:=key ho;obtain⟨xs⟩:=cargs;obtain⟨ts⟩:=ts;simp at hts;subst hts;have hlen:xs.length=2:=by
      have h1:=hl.1;change zhG _ _ _ h vs=_ at hp;unfold zhG at hp
      grind
     match xs,hlen with
     | [x0,x1],_ =>
      obtain⟨v',w',ρ',h1,h2,h3,h4,h5,h6⟩:=zF4 (ty:=ty) k hZ (zj8 he) hs hby hz hzl hl hp;refine⟨_,v',w',ρ',?_,.inl rfl,h2,h3,h4,h5,h6⟩;simp only[execOp,zdU];simpa[builtin]using zfA h1
    .split at ho
     .rename_i hu;obtain⟨rfl,hl⟩:=key ho;obtain⟨xs⟩:=cargs;obtain⟨ts⟩:=ts;simp at hts;subst hts;have hlen:xs.length=2:=by
       have h1:=hl.1;change zmb _ _ _ _ h vs=_ at hp;unfold zmb at hp
       grind
      match xs,hlen with
      | [x0,x1],_ =>
       obtain⟨v',w',ρ',h1,h2,h3,h4,h5,h6⟩:=zEN (ty:=ty) k hZ (zj8 he) hu hs hby hz hzl hl hp;refine⟨_,v',w',ρ',?_,.inl rfl,h2,h3,h4,h5,h6⟩;simp only[execOp,zdU];simpa[builtin]using zfA h1
     .cases ho
   .rename_i t u hts
    split at ho<;>first|(cases ho;done)|skip
    rename_i e he
    split at ho<;>first|(cases ho;done)|skip
    rename_i n hs;obtain⟨rfl,hl⟩:=key ho;obtain⟨xs⟩:=cargs;obtain⟨ts⟩:=ts;simp at hts;subst hts;have hlen:xs.length=2:=by
     have h1:=hl.1;change zh0 _ h vs=_ at hp;unfold zh0 at hp
     grind
    match xs,hlen with
    | [x0,x1],_ =>
     obtain⟨v',w',h1,h3,h4,h5,h6⟩:=zD7 (ty:=ty) (sT:=u) k (zj8 he) hs hl hp;refine⟨_,v',w',ρ,?_,.inl rfl,Rho.le.refl _ _,h3,h4,h5,h6⟩;simp only[execOp,zdU];simpa[builtin]using zfA h1
   all_goals (repeat' (split at ho))<;>first|(cases ho;done)|(obtain⟨rfl,_⟩:=key ho;first|(cases hc;done)|exact absurd rfl hn.2.1)
 | defer c =>
  obtain⟨callee,cargs,ts⟩:=c
  cases callee<;>first|(cases ho;done)|(obtain⟨rfl,_⟩:=key ho;exact absurd rfl hn.2.2)
 | _=>first|(cases ho;done)|(simp only[opK]at ho;(repeat' (split at ho))<;>first|(cases ho;done)|(obtain⟨rfl,hl⟩:=key ho;first|(cases hc;done)|exact absurd rfl hn.2.1|(obtain⟨rfl,h1⟩:=zmp k ‹_› ‹_› (.inl ⟨rfl,_,rfl⟩) hl hp;exact h1)|(obtain⟨rfl,h1⟩:=zmp k ‹_› ‹_› (.inr ⟨rfl,rfl⟩) hl hp;exact h1)|(obtain⟨rfl,h1⟩:=zBv k ‹_› hl hp;exact h1)|exact zvq k ‹_› ‹_› (.inl ⟨rfl,_,rfl⟩) ‹_› hl hp|exact zvq k ‹_› ‹_› (.inr ⟨rfl,rfl⟩) ‹_› hl hp|(obtain⟨rfl,h1⟩:=zyO k hl hp;exact h1)))
theorem zqE(k:WR P Z ρ h w){b:Nat}(hnone:∀g,ρ b g=none)(hb:b<h.next)(hZ:Z<=w.heap.size)(ho:opK P o.op=some (kd,args))(hc:kd.cls=1)(ht:TmR ρ tm a.tmps)(hv:zHX tm args=some vs){x:zd7}(hp:lay kd vs b=some x)(hx:h.get b=some x.o):
  zjj P Z ρ h w b (execOp a.eval o) x.v:=by
 have key:∀{k0:zaf} {xs:AA},mk k0 xs=some (kd,args)->kd=k0/\VL ρ vs (xs.map a.eval):=fun hm=>by
  obtain⟨h1,h2⟩:=zlI hm;exact⟨h1,zgk ht h2 hv⟩
 obtain⟨dst,op,ty,pos,after,guard⟩:=o
 cases op with
 | makeFunc fn first captured=>cases fn<;>simp only[opK]at ho<;>(repeat' (split at ho))<;>first|(cases ho;done)|(obtain⟨rfl,_⟩:=key ho;cases hc)
 | defer c =>
  obtain⟨callee,cargs,ts⟩:=c
  cases callee<;>first|(cases ho;done)|(obtain⟨rfl,_⟩:=key ho;cases hc)
 | call c =>
  obtain⟨callee,cargs,ts⟩:=c
  cases callee<;>first|(cases ho;done)|(obtain⟨rfl,_⟩:=key ho;cases hc;done)|(simp only[opK]at ho;(repeat' (split at ho))<;>first|(cases ho;done)|(obtain⟨rfl,_⟩:=key ho;cases hc))
 | _=>first|(cases ho;done)|(simp only[opK]at ho;(repeat' (split at ho))<;>first|(cases ho;done)|(obtain⟨rfl,hl⟩:=key ho;first|(cases hc;done)|exact zBu k hnone hb hZ ‹_› ‹_› ‹_› hp hx|exact zFn k hnone hb hZ ‹_› hl hp hx|exact zy0 k hnone hb hZ (zj8 ‹_›) ‹_› ‹_› ‹_› hl hp hx|exact zwx k hnone hb hZ (zj8 ‹_›) ‹_› ‹_› ‹_› ‹_› hl hp hx|exact zsI k hnone hb hZ ‹_› (r:=none) hl hp hx|exact zsI k hnone hb hZ ‹_› (r:=some _) hl hp hx|exact zwy k hnone hb hZ ‹_› ‹_› ‹_› hl hp hx))
def Fr(r:LC):Fence:={ Fence.wide with round:=r }
variable {R:Ending->World->Prop}{r:LC}
theorem zyP{f:FuncId}{args:LW}:CallsIn (Fr r) n P f args w R↔CallsIn (Fr none) n P f args w R:=Iff.rfl
theorem zzg{l f:Nat}{tmps:LW}{assign body:Code}:RoundIn (Fr r) n P l f tmps assign body w R↔RoundIn (Fr none) n P l f tmps assign body w R:=Iff.rfl
def zgp(P:Program)(Z:Nat)(ρ:Rho)(h h':TH)(w:World)(r:TE)(e:Ending)(w':World):Prop :=
 ∃ρ',Rho.le h.next ρ ρ'/\WR P Z ρ' h' w'/\Below Z w w'/\h.next<=h'.next/\match r with
  | .ret v=>∃v',e=.returned v'/\VR ρ' v v'
  | .panic v=>∃v',e=.panicked [{ v:=v',recovered:=false }]/\VR ρ' v v'
def zhS(P:Program)(C:zce):Prop:=∀f args h r h',C.fn f args h=some (r,h')->∀(Z:Nat) ρ w (args':LM),WR P Z ρ h w->Z<=w.heap.size->VL ρ args args' ->
 (∀w,(callFunc f args'.toArray).run P w=.ok (.enter f args'.toArray) w)/\CallsIn (Fr none) 0 P f args'.toArray w (zgp P Z ρ h h' w r)
def zj9(P:Program)(C:zce):Prop:=∀l args h b h',C.rd l args h=some (b,h')->∀(Z:Nat) ρ w (args':LM) loc,WR P Z ρ h w->Z<=w.heap.size->ρ l 0=some loc->VL ρ args args' ->
 ∃fn tmps assign body,(Instr.yield loc.r args'.toArray).run P w=.ok (.round loc.r fn tmps assign body) w/\RoundIn (Fr none) 0 P loc.r fn tmps assign body w (zgp P Z ρ h h' w (.ret (.bool b)))
inductive DfR(ρ:Rho)(ca:LH):AT->List Deferred->Prop
 | nil:DfR ρ ca [] []
 | mark {b:Nat} {loc:Loc} {l:AT} {ds:List Deferred} (h:ρ b 0=some loc) (hl:DfR ρ ca l ds):DfR ρ ca (.mark b::l) ({ target:=.collected loc.r,args:=#[] }::ds)
 | caught {f:Nat} {p c:TV} {p' c':Value} {l:AT} {ds:List Deferred} (h:ca.get f=some ()) (hp:VR ρ p p') (hc:VR ρ c c') (hl:DfR ρ ca l ds):DfR ρ ca (.caught p c::l) ({ target:=.fn (.func f) #[],args:=#[p',c'] }::ds)
theorem DfR.mono{ca:LH}(hρ:∀b g loc,ρ b g=some loc->ρ' b g=some loc){l:AT}{ds:List Deferred}(k:DfR ρ ca l ds):DfR ρ' ca l ds:=by
 induction k with
 | nil=>exact .nil
 | mark h _ ih=>exact .mark (hρ _ _ _ h) ih
 | caught h hp hc _ ih=>exact .caught h (hp.mono hρ) (hc.mono hρ) ih
structure StR(P:Program)(Z:Nat)(ρ:Rho)(N:Nat)(ca:LH)(s:St)(a:Act)(w:World):Prop where
 wr:WR P Z ρ s.h w
 tm:TmR ρ s.tm a.tmps
 sz:N<=a.tmps.size
 df:DfR ρ ca s.df a.defers
 hZ:Z<=w.heap.size
variable (s:St)(d:LC)
theorem TmR.put{tm:LA}(k:TmR ρ tm a.tmps){d:LC}(hv:VR ρ v v')(hd:∀t,d=some t->t<a.tmps.size):TmR ρ (match d with|none=>tm|some d=>tm.set d (some v)) (a.put d v').tmps:=by
 cases d with
 | none=>exact k
 | some d =>
  intro t u hu;have hlt:=hd d rfl;simp only[Tr.get_set]at hu;simp only[Act.put]
  by_cases ht:t=d
  .subst ht;rw[if_pos rfl]at hu;injection hu with hu;subst hu;exact⟨v',by simp[hlt],hv⟩
  .rw[if_neg ht]at hu;obtain⟨u',h1,h2⟩:=k t u hu;exact⟨u',by rw[zGP9 (fun e=>ht e.symm)];exact h1,h2⟩
theorem zpa(a:Act)(d:LC)(v:Value):(a.put d v).tmps.size=a.tmps.size:=by cases d<;>simp[Act.put]
theorem zkI(a:Act)(d:LC)(v:Value):(a.put d v).defers=a.defers:=by cases d<;>rfl
theorem St.put_df(v:TV):(s.put d v).df=s.df:=by cases d<;>rfl
theorem St.put_h(v:TV):(s.put d v).h=s.h:=by cases d<;>rfl
theorem StR.put{N:Nat}{ca:LH}{s:St}(k:StR P Z ρ N ca s a w){d:LC}(hv:VR ρ v v')(hd:∀t,d=some t->t<N):StR P Z ρ N ca (s.put d v) (a.put d v') w :=
 ⟨by rw[St.put_h];exact k.wr,by have:=k.tm.put (d:=d) hv (fun t ht=>zBM9 (hd t ht) k.sz);cases d<;>exact this,by rw[zpa];exact k.sz,by rw[St.put_df,zkI];exact k.df,k.hZ⟩
structure OpR(P:Program)(N:Nat)(ops:AF)(o:Oper)(t:zbP):Prop where
 op:opK P o.op=some (t.kind,t.args)
 dst:t.dst=o.dst
 lt:∀d,t.dst=some d->d<N
 guard:(o.guard=none/\t.guard=none)\/∃j b d,o.guard=some (j,b)/\(ops[j]?).bind (·.dst)=some d/\t.guard=some (.tmp d,b)
variable {b:Bool}{ops:AF}{t:zbP}
theorem zvJ{N:Nat}(ht:znS P N ops o=some t):OpR P N ops o t:=by
 unfold znS at ht
 split at ht
 .cases ht
 .rename_i hb;have hlt:∀d,o.dst=some d->d<N:=fun d hd=>by grind
  split at ht
  .cases ht
  .rename_i kd args hk
   split at ht
   .rename_i hg;injection ht with ht;subst ht;exact⟨hk,rfl,hlt,.inl ⟨hg,rfl⟩⟩
   .rename_i j b hg
    split at ht
    .rename_i d hd;injection ht with ht;subst ht;exact⟨hk,rfl,hlt,.inr ⟨j,b,d,hg,hd,rfl⟩⟩
    .cases ht
def zvQ:AE->AN
 | some (.bool b)=>some b
 | _=>none
theorem zyL(ops:AF)(tmps:LW)(j:Nat):yielded ops tmps j=zvQ (((ops[j]?).bind (·.dst)).bind (tmps[·]?)):=by
 unfold yielded zvQ
 grind
theorem zDK{x:LE}{c:Bool}(hw:ziS c x=some b){y:AE}(hxy:∀v,x=some v->∃v',y=some v'/\VR ρ v v'):(zvQ y==some c)=b:=by
 unfold ziS at hw
 split at hw
 .rename_i u;injection hw with hw;subst hw;obtain⟨v',e1,e2⟩:=hxy _ rfl
  cases e2
  rw[e1]
  cases c<;>cases u<;>rfl
 .rename_i v hv;injection hw with hw;subst hw;obtain⟨v',e1,e2⟩:=hxy _ rfl;rw[e1]
  cases e2<;>first|rfl|(exact absurd rfl (hv _))
 .cases hw
theorem zgb{N:Nat}(k:OpR P N ops o t){tm:LA}{tmps:LW}(ht:TmR ρ tm tmps)(hw:zgg tm t.guard=some b):Region.wanted o (yielded ops tmps)=b:=by
 rcases k.guard with⟨h1,h2⟩|⟨j,c,d,h1,h2,h3⟩
 .rw[h2]at hw;injection hw with hw;subst hw;simp[Region.wanted,h1]
 .rw[h3]at hw;simp only[zgg,zgG]at hw;simp only[Region.wanted,h1];have:=zDK (ρ:=ρ) hw (y:=tmps[d]?) (fun v hv=>ht d v hv);rw[zyL,h2];exact this
def TSR(P:Program)(Z:Nat)(ρ:Rho)(N:Nat)(ca:LH)(h0:TH)(w0:World)(r:TS)(e:Exit)(a':Act)(w':World):Prop :=
 ∃ρ',Rho.le h0.next ρ ρ'/\Below Z w0 w'/\match r with
  | .go s=>h0.next<=s.h.next/\e=.normal/\StR P Z ρ' N ca s a' w'
  | .panic v s=>h0.next<=s.h.next/\∃v',e=.panic [{ v:=v',recovered:=false }]/\VR ρ' v v'/\StR P Z ρ' N ca s a' w'
variable {C:zce}{K:Act->World->Prop}{N:Nat}{Q:Exit->Act->World->Prop}{ca:LH}{r:TS}{s:St}
theorem zfN{r:LC}(hd:∀c,o.op=.defer c->r=none)(h1:o.uponIn (Fr r) 0 P a K Q ((execOp a.eval o).run P w)):o.wpIn (Fr r) 0 P a w K Q:=by
 refine⟨fun _ _=>trivial,?_⟩;have:o.semAt (Fr r).round a.eval=execOp a.eval o:=by
  unfold Oper.semAt
  split
  .rename_i l c hr ho;have:=hd c ho;simp[Fr,this]at hr
  .rfl
 grind
inductive zp9(args:LY):zaf->Op->Prop
 | call {f:Operand} {xs:AX} {ts:Array TypeId} (hm:zd2 opT (f::xs.toList)=some args):zp9 args .call (.call { callee:=.value f,args:=xs,argTypes:=ts })
 | panic {x:Operand} (hm:zd2 opT [x]=some args):zp9 args .panic (.panic x)
 | panicB {x:Operand} {ts:Array TypeId} (hm:zd2 opT [x]=some args):zp9 args .panic (.call { callee:=.builtin .panic,args:=#[x],argTypes:=ts })
 | defer {f:Operand} {xs:AX} {ts:Array TypeId} (hm:zd2 opT (f::xs.toList)=some args):zp9 args .defer (.defer { callee:=.value f,args:=xs,argTypes:=ts })
theorem zsz{op:Op}{args:LY}(ho:opK P op=some (kd,args))(hk:kd=.call\/kd=.panic\/kd=.defer):zp9 args kd op:=by
 have key:∀{k0:zaf} {xs:AA},mk k0 xs=some (kd,args)->kd=k0/\zd2 opT xs=some args:=fun hm=>zlI hm;have no:∀{α:Prop} {k0:zaf} {xs:AA},mk k0 xs=some (kd,args)->k0 ≠ .call/\k0 ≠ .panic/\k0 ≠ .defer->α:=fun hm h1=>by grind
 cases op with
 | makeFunc fn first captured=>cases fn<;>simp only[opK]at ho<;>(repeat' (split at ho))<;>first|(cases ho;done)|exact no ho (by simp)
 | call c =>
  obtain⟨callee,cargs,ts⟩:=c
  cases callee with
  | value f=>obtain⟨rfl,hm⟩:=key ho;exact .call hm
  | invoke r m=>cases ho
  | builtin b =>
   simp only[opK]at ho;(repeat' (split at ho))<;>first|(cases ho;done)|(refine no ho ?_;simp;done)|skip
   rename_i hsz;obtain⟨rfl,hm⟩:=key ho;obtain⟨xs⟩:=cargs
   match xs,hsz with
   | [x],_=>exact .panicB hm
 | defer c =>
  obtain⟨callee,cargs,ts⟩:=c
  cases callee<;>first|(cases ho;done)|(obtain⟨rfl,hm⟩:=key ho;exact .defer hm)
 | panic x=>obtain⟨rfl,hm⟩:=key ho;exact .panic hm
 | _=>first|(cases ho;done)|exact no ho (by simp)|(simp only[opK]at ho;(repeat' (split at ho))<;>first|(cases ho;done)|exact no ho (by simp))
theorem ztQ(hn:kd ≠ .call/\kd ≠ .panic/\kd ≠ .defer){r:TR}(ha:act C ca kd vs h=some r):∃v h',r=.ok v h':=by
 have orr:∀{b:Bool} {x y:AP},(bif b then x else y)=some r->x=some r\/y=some r:=fun{b} _ _ e=>by grind
 have fin:∀{v h'} {r:TR},some (TR.ok v h')=some r->∃v h',r=.ok v h':=fun e=>by grind
 have finM:∀{e esz by_ m:Nat} {s:TV} {news:LK},zi9 h e esz by_ s m news=some r->∃v h',r=.ok v h':=fun ha=>by
  unfold zi9 at ha
  split at ha
  .rcases orr ha with ha|ha
   .grind
   .simp only[zmF]at ha
    grind
  .rcases orr ha with ha|ha
   .grind
   .obtain⟨_,ha1⟩:=zac ha;obtain⟨_,ha2⟩:=zac ha1;obtain⟨_,ha3⟩:=zac ha2
    split at ha3
    .unfold zqV at ha3
     grind
    grind
  grind
 cases kd<;>simp only[act]at ha<;>first|(cases ha;done)|(exact absurd rfl hn.1)|(exact absurd rfl hn.2.1)|(exact absurd rfl hn.2.2)|skip
 case store n =>
  unfold zi4 at ha
  split at ha
  .obtain⟨_,ha1⟩:=zac ha;obtain⟨_,ha2⟩:=zac ha1
   split at ha2
   .exact fin ha2
   .cases ha2
  .cases ha
 case mupd kf =>
  unfold ziK at ha
  split at ha
  .obtain⟨_,ha1⟩:=zac ha
   split at ha1
   .unfold zuF at ha1
    split at ha1
    .split at ha1
     .cases ha1
     .exact fin ha1
     .exact fin ha1
    .cases ha1
   .cases ha1
  .cases ha
 case ment kf z =>
  unfold ztZ at ha
  split at ha
  .obtain⟨_,ha1⟩:=zac ha
   split at ha1
   .unfold zyG at ha1
    split at ha1
    .split at ha1
     .cases ha1
     .exact fin ha1
     .exact fin ha1
    .cases ha1
   .cases ha1
  .cases ha
 case estore =>
  unfold zof at ha
  split at ha
  .split at ha
   .split at ha
    .unfold zCw at ha
     split at ha
     .split at ha
      .cases ha
      .exact fin ha
     .cases ha
    .cases ha
   .cases ha
  .cases ha
 case append e n b =>
  unfold zhG at ha
  split at ha
  .unfold zzu at ha
   split at ha
   .cases ha
   .exact finM ha
  .cases ha
 case appz e n b z =>
  unfold zmb at ha
  split at ha
  .obtain⟨_,ha1⟩:=zac ha;obtain⟨_,ha2⟩:=zac ha1;exact finM ha2
  .cases ha
 case copy n =>
  unfold zh0 at ha
  split at ha
  .dsimp only at ha
   split at ha
   .cases ha
   .split at ha
    .exact fin ha
    .rcases orr ha with ha|ha
     .exact fin ha
     .obtain⟨_,ha1⟩:=zac ha
      split at ha1
      .exact fin ha1
      .cases ha1
    .cases ha
  .cases ha
theorem zGd{k:zaf}(h0:k.cls≠0)(h1:k.cls≠1):k.cls=2:=by cases k<;>simp[zaf.cls]at h0 h1⊢
theorem zBi{r:LC}{f:FuncId}{args:LW}(h:CallsIn (Fr none) 0 P f args w fun
  | .returned v,w''=>K (a.put o.dst v) w''
  | .panicked chain,w''=>Q (.panic chain) a w''
  | .outgrown,_=>LetsOut Q):o.uponIn (Fr r) 0 P a K Q (.ok (.enter f args) w):=⟨fun h=>by simp[Fr,Fence.wide]at h,h⟩
theorem StR.world(k:StR P Z ρ N ca s a w){n:Nat}(hle:Rho.le n ρ ρ')(hw:WR P Z ρ' h' w')(hb:Below Z w w'):StR P Z ρ' N ca ⟨s.tm,s.df,h'⟩ a w' :=
 ⟨hw,k.tm.mono hle.more,k.sz,k.df.mono hle.more,zBW9 k.hZ hb.size⟩
theorem zxh{rnd:LC}(k:WR P Z ρ h w)(ktm:TmR ρ tm a.tmps)(ko:OpR P N ops o t)(hv:zHX tm t.args=some vs)(h0:t.kind.cls=0){v:TV}(hp:pas t.kind vs h=some v)(hK:∀v',VR ρ v v'->K (a.put o.dst v') w):o.wpIn (Fr rnd) 0 P a w K Q:=by
 obtain⟨v',h1,h2⟩:=zra k ko.op h0 ktm hv hp;refine zfN (fun c hc=>?_) ?_
 .exfalso
  have hk:=ko.op;rw[hc]at hk;obtain⟨callee,xs,ts⟩:=c
  cases callee<;>first|(cases hk;done)|(obtain⟨e,_⟩:=zlI hk;rw[e]at h0;cases h0)
 .rw[h1,Oper.uponIn_value]
  grind
theorem zxl{rnd:LC}(k:WR P Z ρ h w)(hZ:Z<=w.heap.size)(ktm:TmR ρ tm a.tmps)(ko:OpR P N ops o t)(hv:zHX tm t.args=some vs)(h1:t.kind.cls=1){b:Nat}(hnone:∀g,ρ b g=none)(hb:b<h.next){x:zd7}(hp:lay t.kind vs b=some x)(hx:h.get b=some x.o)(hK:∀v' w1 L S,WR P Z (ρ.add b 0 ⟨w.heap.size,L,S⟩) h w1->VR (ρ.add b 0 ⟨w.heap.size,L,S⟩) x.v v'->Below Z w w1->K (a.put o.dst v') w1):o.wpIn (Fr rnd) 0 P a w K Q:=by
 obtain⟨v',w1,L,S,g1,g2,g3,g4⟩:=zqE k hnone hb hZ ko.op h1 ktm hv hp hx;refine zfN (fun c hc=>?_) ?_
 .exfalso
  have hk:=ko.op;rw[hc]at hk;obtain⟨callee,xs,ts⟩:=c
  cases callee<;>first|(cases hk;done)|(obtain⟨e,_⟩:=zlI hk;rw[e]at h1;cases h1)
 .rw[g1,Oper.uponIn_value]
  grind
theorem zya(hC:zhS P C)(hR:zj9 P C){rnd:LC}(hrnd:rnd=none\/∀f,ca.get f=none){df:AT}(k:WR P Z ρ h w)(hZ:Z<=w.heap.size)(ktm:TmR ρ tm a.tmps)(kdf:DfR ρ ca df a.defers)(ko:OpR P N ops o t)(hv:zHX tm t.args=some vs)(h2:t.kind.cls=2){r:TR}(hd:act C ca t.kind vs h=some r)(hOk:∀v h',r=.ok v h'->∀v' w' ρ',Rho.le h.next ρ ρ'->WR P Z ρ' h' w'->Below Z w w'->VR ρ' v v'->h.next<=h'.next->K (a.put o.dst v') w')(hPan:∀v h',r=.panic v h'->∀v' w' ρ',Rho.le h.next ρ ρ'->WR P Z ρ' h' w'->Below Z w w'->VR ρ' v v'->h.next<=h'.next->Q (.panic [{ v:=v',recovered:=false }]) a w')(hDfr:∀d,r=.dfr d->∀d',DfR ρ ca (d::df) (d'::a.defers)->K ({ a with defers:=d'::a.defers }.put o.dst undef) w):o.wpIn (Fr rnd) 0 P a w K Q:=by
 by_cases hcall:t.kind=.call
 ·-- a call
  have hop:=zsz ko.op (.inl hcall);rw[hcall]at hop hd;generalize hoo:o.op=op at hop
  cases hop with
  | call hm =>
   rename_i f xs ts;have hl:=zgk ktm hm hv;simp only[zBY9]at hl;simp only[act]at hd;unfold zol at hd
   split at hd
   .rename_i g cap args;obtain⟨f',cs',e1,hf,hargs⟩:=hl.oc
    cases e1
    generalize hfv:a.eval f=fv at hf
    cases hf with
    | fn hcl hcr =>
     rename_i caps
     cases hcr0:C.fn g (args++cap) h with
     | none=>rw[hcr0]at hd;cases hd
     | some res =>
      obtain⟨te,h'⟩:=res;rw[hcr0]at hd;obtain⟨hent,hcalls⟩:=hC g _ _ te h' hcr0 Z ρ w (xs.toList.map a.eval++caps) k hZ (hargs.app ⟨hcl,hcr⟩);have hrun:(execOp a.eval o).run P w=.ok (.enter g (xs.toList.map a.eval++caps).toArray) w:=by
       have hargsA:xs.map a.eval++caps.toArray=(xs.toList.map a.eval++caps).toArray:=by grind
       simp only[execOp,hoo,resolve,hfv,Deferred.ofValue,Sem.run_bind,Sem.run_pure,Result.andThen_ok,invoke,Array.empty_append,hargsA];exact hent w
      refine zfN (fun c hc=>by grind) ?_;rw[hrun];refine zBi (hcalls.mono ?_);rintro e w' ⟨ρ',hle,hwr,hb,hn,he⟩
      cases te with
      | ret v =>
       obtain⟨v',rfl,hvr⟩:=he;simp only[zn7]at hd
       cases hd
       exact hOk v h' rfl v' w' ρ' hle hwr hb hvr hn
      | panic v =>
       obtain⟨v',rfl,hvr⟩:=he;simp only[zn7]at hd
       cases hd
       exact hPan v h' rfl v' w' ρ' hle hwr hb hvr hn
   .rename_i l args;obtain⟨f',cs',e1,hf,hargs⟩:=hl.oc
    cases e1
    generalize hfv:a.eval f=fv at hf
    cases hf with
    | yield hloc =>
     rename_i loc
     cases hcr0:C.rd l args h with
     | none=>rw[hcr0]at hd;cases hd
     | some res =>
      obtain⟨b,h'⟩:=res;rw[hcr0]at hd;simp only[zvn]at hd
      cases hd
      obtain⟨fn,tmps,assign,body,hy,hrd⟩:=hR l _ _ b h' hcr0 Z ρ w (xs.toList.map a.eval) loc k hZ hloc hargs;have hrun:(execOp a.eval o).run P w=.ok (.round loc.r fn tmps assign body) w:=by
       have hargsA:xs.map a.eval=(xs.toList.map a.eval).toArray:=by grind
       simp only[execOp,hoo,resolve,hfv,Deferred.ofValue,Sem.run_bind,Sem.run_pure,Result.andThen_ok,invoke,Array.empty_append,hargsA];exact hy
      refine zfN (fun c hc=>by grind) ?_;rw[hrun,Oper.uponIn_round];refine⟨fun h=>by simp[Fr,Fence.wide]at h,zzg.2 (hrd.mono ?_)⟩;rintro e w' ⟨ρ',hle,hwr,hb,hn,v',rfl,hvr⟩;exact hOk _ h' rfl v' w' ρ' hle hwr hb hvr hn
   .cases hd
 .by_cases hpan:t.kind=.panic
  .have hop:=zsz ko.op (.inr (.inl hpan));rw[hpan]at hop hd;simp only[act]at hd;unfold zBq at hd
   split at hd
   .rename_i ty u
    cases hd
    have fin:∀x:Operand,zd2 opT [x]=some t.args->(execOp a.eval o).run P w=.halt (.panic (a.eval x)) w->(∀c,o.op ≠ .defer c)->o.wpIn (Fr rnd) 0 P a w K Q:=fun x hm hrun hnd=>by
     have hl:=zgk ktm hm hv;have hx:=hl.uno rfl;refine zfN (fun c hc=>absurd hc (hnd c)) ?_;rw[hrun,Oper.uponIn_panic];exact hPan _ _ rfl _ w ρ (Rho.le.refl _ _) k (Below.refl _ _) hx (zAE9 _)
    have hpr:∀x:Operand,zd2 opT [x]=some t.args->(Instr.panic (a.eval x)).run P w=.halt (.panic (a.eval x)) w:=fun x hm=>by
     have hl:=zgk ktm hm hv;have hx:=hl.uno rfl;generalize a.eval x=xv at hx
     cases hx
     simp[Instr.panic,goPanic]
    generalize hoo:o.op=op at hop
    cases hop with
    | panic hm =>
     refine fin _ hm ?_ (fun c hc=>by grind);simp only[execOp,hoo,Sem.run_bind,hpr _ hm];rfl
    | panicB hm =>
     refine fin _ hm ?_ (fun c hc=>by grind);simp only[execOp,hoo,zdU];simp[builtin,hpr _ hm]
   .cases hd
  .by_cases hdef:t.kind=.defer
   .have hop:=zsz ko.op (.inr (.inr hdef));rw[hdef]at hop hd;simp only[act]at hd;unfold zvU at hd
    split at hd
    .rename_i g p c
     split at hd
     .rename_i u hca
      cases hd
      generalize hoo:o.op=op at hop
      cases hop with
      | defer hm =>
       rename_i f xs ts;have hl:=zgk ktm hm hv;simp only[zBY9]at hl;obtain⟨f',cs',e1,hf,hargs⟩:=hl.oc;injection e1 with e1 e2;subst e1;obtain⟨p',cs2,e3,hp,hargs⟩:=hargs.oc;obtain⟨c',cs3,e4,hc,hargs⟩:=hargs.oc;obtain rfl:=hargs.oN;subst e4;subst e3;have hrn:rnd=none:=by grind
       generalize hfv:a.eval f=fv at hf
       cases hf with
       | fn hcl hcr =>
        rename_i caps;have hcaps:caps=[]:=by cases caps;rfl;simp at hcl
        subst hcaps;have hrun:(execOp a.eval o).run P w=.ok (.defer { target:=.fn (.func g) #[],args:=#[p',c'] }) w:=by
         have hargsA:xs.map a.eval=#[p',c']:=by grind
         simp only[execOp,hoo,resolve,hfv,Deferred.ofValue,Sem.run_bind,Sem.run_pure,Result.andThen_ok,hargsA];rfl
        refine zfN (fun _ _=>hrn) ?_;rw[hrun,Oper.uponIn_defer];exact hDfr _ rfl _ (.caught hca hp hc kdf)
     .cases hd
    .cases hd
   ·-- what calls nothing
    cases r with
    | ok v h' =>
     obtain⟨n,v',w',ρ',g1,g2,g3,g4,g5,g6,g7⟩:=zqm k hZ ko.op h2 ⟨hcall,hpan,hdef⟩ ktm hv hd;refine zfN (fun c hc=>?_) ?_
     .exfalso
      have hk:=ko.op;rw[hc]at hk;obtain⟨callee,xs,ts⟩:=c
      cases callee<;>first|(cases hk;done)|(obtain⟨e,_⟩:=zlI hk;grind)
     .have hfin:K (a.put o.dst v') w':=hOk _ _ rfl v' w' ρ' g3 g4 g5 g6 g7;rcases g2 with rfl|⟨rfl,rfl⟩
      .rw[g1,Oper.uponIn_value];exact hfin
      .rw[g1,Oper.uponIn_skip];exact hfin
    | panic v h'=>obtain⟨_,_,e⟩:=ztQ ⟨hcall,hpan,hdef⟩ hd;cases e
    | dfr d=>obtain⟨_,_,e⟩:=ztQ ⟨hcall,hpan,hdef⟩ hd;cases e
theorem zE7(hC:zhS P C)(hR:zj9 P C){rnd:LC}(hrnd:rnd=none\/∀f,ca.get f=none)(k:StR P Z ρ N ca s a w)(ko:OpR P N ops o t)(hv:zHX s.tm t.args=some vs)(hd:zk2 C ca t s vs=some r)(hK:∀a' w',TSR P Z ρ N ca s.h w r .normal a' w'->K a' w')(hQ:∀ch a' w',TSR P Z ρ N ca s.h w r (.panic ch) a' w'->Q (.panic ch) a' w'):o.wpIn (Fr rnd) 0 P a w K Q:=by
 have hdst:∀{ρ':Rho} {s':St} {a:Act} {w':World} {v:TV} {v':Value},StR P Z ρ' N ca s' a w'->VR ρ' v v'->StR P Z ρ' N ca (s'.put t.dst v) (a.put o.dst v') w':=fun k' hv'=>by
  rw[<- ko.dst];exact k'.put hv' ko.lt
 unfold zk2 at hd
 by_cases h0:t.kind.cls=0
 .rw[h0]at hd;simp only[zGR]at hd
  split at hd
  .rename_i v hp
   cases hd
   exact zxh k.wr k.tm ko hv h0 hp fun v' h2=>hK _ _ ⟨ρ,Rho.le.refl _ _,Below.refl _ _,by rw[St.put_h];omega,rfl,hdst k h2⟩
  .cases hd
 .by_cases h1:t.kind.cls=1
  .rw[h1]at hd;simp only[zG2]at hd
   split at hd
   .rename_i x hp
    cases hd
    have hnone:∀g,ρ s.h.next g=none:=fun g=>by
     cases hg:ρ s.h.next g with
     | none=>rfl
     | some loc=>have:=(k.wr.dom _ _ _ hg).1;omega
    refine zxl (k.wr.push x.o) k.hZ k.tm ko hv h1 hnone (by rw[TH.nP];omega) hp (by rw[TH.gP,if_pos rfl]) fun v' w1 L S g2 g3 hbl=>?_;have hm:=Rho.add_more (loc:=⟨w.heap.size,L,S⟩) (hnone 0);have hle:Rho.le s.h.next ρ (ρ.add s.h.next 0 ⟨w.heap.size,L,S⟩):=⟨hm,fun c hc hn g=>by rw[Rho.add_ne zo];grind⟩
    exact hK _ _ ⟨_,hle,hbl,by rw[St.put_h,TH.nP];omega,rfl,hdst (k.world hle g2 hbl) g3⟩
   .cases hd
  .have h2:=zGd h0 h1;rw[h2]at hd;change zrb t.dst s (act C ca t.kind vs s.h)=some r at hd
   cases hact:act C ca t.kind vs s.h with
   | none=>rw[hact]at hd;cases hd
   | some tr =>
    rw[hact]at hd;refine zya hC hR hrnd k.wr k.hZ k.tm k.df ko hv h2 hact (fun v h' e v' w' ρ' hle hwr hb hvr hn=>?_) (fun v h' e v' w' ρ' hle hwr hb hvr hn=>?_) (fun d e d' hdf=>?_)
    .subst e;simp only[zrb]at hd
     cases hd
     exact hK _ _ ⟨ρ',hle,hb,by rw[St.put_h];exact hn,rfl,hdst (k.world hle hwr hb) hvr⟩
    .subst e;simp only[zrb]at hd
     cases hd
     exact hQ _ _ _ ⟨ρ',hle,hb,hn,v',rfl,hvr,k.world hle hwr hb⟩
    .subst e;simp only[zrb]at hd
     cases hd
     have k2:StR P Z ρ N ca ⟨s.tm,d::s.df,s.h⟩ { a with defers:=d'::a.defers } w:=⟨k.wr,k.tm,k.sz,hdf,k.hZ⟩
     exact hK _ _ ⟨ρ,Rho.le.refl _ _,Below.refl _ _,by rw[St.put_h];grind,rfl,hdst k2 (VR.undef ρ)⟩
theorem TSR.trans{h0 h1:TH}{w0 w1:World}(hle:Rho.le h0.next ρ ρ')(hb:Below Z w0 w1)(hn:h0.next<=h1.next){e:Exit}{a':Act}(k:TSR P Z ρ' N ca h1 w1 r e a' w'):TSR P Z ρ N ca h0 w0 r e a' w':=by
 obtain⟨ρ2,h1,h2,h3⟩:=k;refine⟨ρ2,hle.trans h1 hn,hb.trans h2,?_⟩
 grind
theorem zuV(hC:zhS P C)(hR:zj9 P C){rnd:LC}(hrnd:rnd=none\/∀f,ca.get f=none)(k:StR P Z ρ N ca s a w)(ko:OpR P N ops o t)(hs:zhc C ca t s=some r)(hK:∀a' w',TSR P Z ρ N ca s.h w r .normal a' w'->K a' w')(hQ:∀ch a' w',TSR P Z ρ N ca s.h w r (.panic ch) a' w'->Q (.panic ch) a' w'):
  (if Region.wanted o (yielded ops a.tmps)then o.wpIn (Fr rnd) 0 P a w K Q else(∀f,o.about P w a.eval=some f->(Fr rnd).fn f)/\K (a.put o.dst undef) w):=by
 unfold zhc at hs
 split at hs
 .cases hs
 .rename_i hw;injection hs with hs;subst hs;rw[zgb ko k.tm hw];simp only[zCQ9,if_false];refine⟨fun _ _=>trivial,hK _ _ ⟨ρ,Rho.le.refl _ _,Below.refl _ _,by rw[St.put_h];exact zAE9 _,rfl,?_⟩⟩;rw[<- ko.dst];exact k.put (VR.undef ρ) ko.lt
 .rename_i hw;rw[zgb ko k.tm hw];simp only[if_true]
  split at hs
  .cases hs
  .rename_i vs hv;exact zE7 hC hR hrnd k ko hv hs hK hQ
theorem zu9(hC:zhS P C)(hR:zj9 P C){rnd:LC}(hrnd:rnd=none\/∀f,ca.get f=none):∀(ts:LS) (is:LN) (s:St) (a:Act) (w:World) (ρ:Rho) (r:TS),
  is.length=ts.length->(∀(j:Nat) t,ts[j]?=some t->∃i o,is[j]?=some i/\ops[i]?=some o/\OpR P N ops o t)->StR P Z ρ N ca s a w->zf1 C ca ts s=some r->(∀e a' w',TSR P Z ρ N ca s.h w r e a' w'->Q e a' w')->wpOpsIn (Fr rnd) 0 P ops Q is a w
 | [],is,s,a,w,ρ,r,hl,_,k,hs,hQ=>by
  have:is=[]:=by cases is;rfl;simp at hl
  subst this;simp only[zf1]at hs;injection hs with hs;subst hs;exact hQ _ _ _ ⟨ρ,Rho.le.refl _ _,Below.refl _ _,zAE9 _,rfl,k⟩
 | t::ts,is,s,a,w,ρ,r,hl,hop,k,hs,hQ=>by
  cases is with
  | nil=>simp at hl
  | cons i is =>
   obtain⟨i',o,hi,ho,ko⟩:=hop 0 t rfl;simp at hi;subst hi;rw[wpOpsIn_cons];unfold wpOpIn;rw[ho];simp only[zf1]at hs;have hop':∀(j:Nat) t,ts[j]?=some t->∃i o,is[j]?=some i/\ops[i]?=some o/\OpR P N ops o t:=fun j t' ht=>hop (j+1) t' (by simpa using ht)
   split at hs
   .rename_i s' hs1;refine zuV hC hR hrnd k ko hs1 (fun a' w' hr=>?_) (fun ch a' w' hr=>?_)
    .obtain⟨ρ',hle,hb,hn,_,k'⟩:=hr;exact zu9 hC hR hrnd ts is s' a' w' ρ' r (by simpa using hl) hop' k' hs fun e a2 w2 hr2=>hQ e a2 w2 (hr2.trans hle hb hn)
    .obtain⟨_,_,_,_,e,_⟩:=hr
     cases e
   .rename_i hs1;refine zuV (r:=r) hC hR hrnd k ko hs (fun a' w' hr=>?_) (fun ch a' w' hr=>hQ _ _ _ hr)
    cases r with
    | go s'=>exact absurd hs (hs1 s')
    | panic v s'=>obtain⟨_,_,_,_,_,e,_⟩:=hr;cases e
def XR(ρ:Rho)(x:TX)(e:Exit):Prop:=match x with
 | .norm=>e=.normal
 | .exit id=>e=.exit id
 | .goto l=>e=.goto l
 | .ret=>e=.ret
 | .panic v=>∃v',e=.panic [{ v:=v',recovered:=false }]/\VR ρ v v'
def CR(P:Program)(Z:Nat)(ρ:Rho)(N:Nat)(ca:LH)(h0:TH)(w0:World)(x:TX)(s:St)(e:Exit)(a':Act)(w':World):Prop :=
 ∃ρ',Rho.le h0.next ρ ρ'/\Below Z w0 w'/\h0.next<=s.h.next/\XR ρ' x e/\StR P Z ρ' N ca s a' w'
variable {x:TX}
theorem CR.trans{h0 h1:TH}{w0 w1:World}(hle:Rho.le h0.next ρ ρ')(hb:Below Z w0 w1)(hn:h0.next<=h1.next){e:Exit}{a':Act}{w':World}(k:CR P Z ρ' N ca h1 w1 x s e a' w'):CR P Z ρ N ca h0 w0 x s e a' w':=by
 obtain⟨ρ2,h1,h2,h3,h4,h5⟩:=k;exact⟨ρ2,hle.trans h1 hn,hb.trans h2,zBW9 hn h3,h4,h5⟩
theorem zmB:∀(ts:LS) (tm:LA) (t:Nat) v,(zfe ts tm).get t=some v->tm.get t=some v
 | [],tm,t,v,h=>h
 | o::ts,tm,t,v,h=>by
  simp only[zfe]at h;have:=zmB ts _ t v h
  split at this
  .rw[Tr.get_set]at this
   grind
  .exact this
theorem StR.forget(k:StR P Z ρ N ca s a w){tm:LA}(ht:∀t v,tm.get t=some v->s.tm.get t=some v):StR P Z ρ N ca ⟨tm,s.df,s.h⟩ a w :=
 ⟨k.wr,fun t v hv=>k.tm t v (ht t v hv),k.sz,k.df,k.hZ⟩
theorem zBh{C:zce}(hC:zhS P C)(hR:zj9 P C){rnd:LC}(hrnd:rnd=none\/∀f,ca.get f=none){id:Nat}{ops:AF}{ts:LS}(hts:zd2 (znS P N ops) ops.toList=some ts)(k:StR P Z ρ N ca s a w){s':St}(hs:zqx (zfe ts) (zf1 C ca ts s)=some (x,s')):
  (Code.region id ops false).wpIn (Fr rnd) 0 P (CR P Z ρ N ca s.h w x s') a w:=by
 obtain⟨h1,h2⟩:=zlm hts;refine wpIn_region ?_
 cases hst:zf1 C ca ts s with
 | none=>rw[hst]at hs;cases hs
 | some r =>
  rw[hst]at hs;refine zu9 hC hR hrnd ts _ s a w ρ r (by simp[h1]) (fun j t ht=>?_) k hst fun e a' w' hr=>?_
  .have hj:j<ops.size:=by have:=(zAC9.1 ht).1;rw[h1]at this;simpa using this
   refine⟨j,ops[j],by simp[hj],zCM9 hj,zvJ (h2 j ops[j] t (by simp[hj]) ht)⟩
  .obtain⟨ρ',hle,hb,hr⟩:=hr
   cases r with
   | go s2 =>
    obtain⟨hn,rfl,k'⟩:=hr;simp only[zqx]at hs;injection hs with hs;injection hs with hs1 hs2;subst hs1;subst hs2;exact⟨ρ',hle,hb,hn,rfl,k'⟩
   | panic v s2 =>
    obtain⟨hn,v',rfl,hv,k'⟩:=hr;simp only[zqx]at hs;injection hs with hs;injection hs with hs1 hs2;subst hs1;subst hs2;exact⟨ρ',hle,hb,hn,⟨v',rfl,hv⟩,k'.forget fun t u hu=>zmB ts _ t u hu⟩
theorem zjs{f:TV->TV->Bool}(hf:∀a b,f a b=true->a=b):∀{l m:LK},znw f l m=true->l=m
 | [],[],_=>rfl
 | a::l,b::m,h=>by
  simp only[znw]at h
  cases hab:f a b
  .grind
  .rw[hab]at h;rw[hf a b hab,zjs hf h]
 | [],_::_,h=>by cases h
 | _::_,[],h=>by cases h
theorem zj7{b:TV}{n:Nat}(h:Nat.beq (zha b) n=true):zha b=n:=zAL9 h
theorem bnd{a b:Bool}(h:(bif a then b else false)=true):a=true/\b=true:=by cases a<;>simp_all
theorem TV.beq_sound:∀(n:Nat) (a b:TV),TV.beq n a b=true->a=b
 | 0,_,_,h=>by cases h
 | n+1,a,b,h=>by
  have ih:=TV.beq_sound n
  cases a with
  | bool x =>
   cases b<;>simp only[TV.beq,zxw]at h<;>try cases h
   rename_i y
   cases x<;>cases y<;>simp_all
  | int k x =>
   cases b<;>simp only[TV.beq,zwd]at h<;>try cases h
   obtain⟨h1,h2⟩:=bnd h;rw[zdM]at h2;rw[zjI h1,eq_of_beq h2]
  | str s =>
   cases b<;>simp only[TV.beq,zAg]at h<;>try cases h
   rw[ziu]at h;rw[eq_of_beq h]
  | ptr c g o e =>
   cases b<;>simp only[TV.beq,zpK]at h<;>try cases h
   obtain⟨h1,h⟩:=bnd h;obtain⟨h2,h⟩:=bnd h;obtain⟨h3,h⟩:=bnd h;rw[zAL9 h1,zAL9 h2,zAL9 h3,zAL9 h]
  | sl c g o m q z =>
   cases b<;>simp only[TV.beq,zt0]at h<;>try cases h
   obtain⟨h1,h⟩:=bnd h;obtain⟨h2,h⟩:=bnd h;obtain⟨h3,h⟩:=bnd h;obtain⟨h4,h⟩:=bnd h;obtain⟨h5,h⟩:=bnd h;rw[zAL9 h1,zAL9 h2,zAL9 h3,zAL9 h4,zAL9 h5,zAL9 h]
  | map c =>
   cases b<;>simp only[TV.beq,zBX]at h<;>try cases h
   rw[zAL9 h]
  | yield c =>
   cases b<;>simp only[TV.beq,zv5]at h<;>try cases h
   rw[zAL9 h]
  | fn f l =>
   cases b<;>simp only[TV.beq,zzT]at h<;>try cases h
   obtain⟨h1,h⟩:=bnd h;rw[zAL9 h1,zjs ih h]
  | iface t v =>
   cases b<;>simp only[TV.beq,zo9]at h<;>try cases h
   obtain⟨h1,h⟩:=bnd h;rw[zAL9 h1,ih _ _ h]
  | agg l =>
   cases b<;>simp only[TV.beq,zBe]at h<;>try cases h
   rw[zjs ih h]
  | tuple l =>
   cases b<;>simp only[TV.beq,zv2]at h<;>try cases h
   rw[zjs ih h]
  | nilptr=>have:=zj7 (by simpa only[TV.beq]using h);cases b<;>simp[zha]at this;rfl
  | nilsl=>have:=zj7 (by simpa only[TV.beq]using h);cases b<;>simp[zha]at this;rfl
  | nilmap=>have:=zj7 (by simpa only[TV.beq]using h);cases b<;>simp[zha]at this;rfl
  | nilfn=>have:=zj7 (by simpa only[TV.beq]using h);cases b<;>simp[zha]at this;rfl
  | niliface=>have:=zj7 (by simpa only[TV.beq]using h);cases b<;>simp[zha]at this;rfl
theorem zou:∀{n i:Nat} {a b:LA},zok i n a b=true->∀j,i<=j->j<i+n->∃x,a.get j=some x/\b.get j=some x
 | 0,i,a,b,_,j,h1,h2=>by omega
 | n+1,i,a,b,h,j,h1,h2=>by
  unfold zok at h
  split at h
  .rename_i x y hx hy;obtain⟨e1,e2⟩:=bnd h;have e:=TV.beq_sound _ _ _ e1
   by_cases hj:j=i
   .grind
   .exact zou e2 j zo zo
  .cases h
def OEq(a b:TO):Prop:=(∀cs,a ≠ .ro cs)/\∀(P:Program) (ρ:Rho) (c:Nat) (w:World),OR P ρ c w a->OR P ρ c w b
variable {b:Nat}{nm nm':LA}
theorem OEq.refl(a:TO)(hn:∀cs,a ≠ .ro cs):OEq a a:=⟨hn,fun _ _ _ _ h=>h⟩
theorem zyV{a b:TO}(h:zru a b=true):OEq a b:=by
 unfold zru at h
 split at h
 .rename_i e G M n c e' G' M' n' c';obtain⟨h1,hA⟩:=bnd h;obtain⟨h2,hB⟩:=bnd hA;obtain⟨h3,hC⟩:=bnd hB;obtain⟨h4,hD⟩:=bnd hC;have e1:=zAL9 h1;have e2:=zAL9 h2;have e3:=zAL9 h3;have e4:=zAL9 h4;subst e1;subst e2;subst e3;subst e4;refine⟨fun cs h=>(by cases h),?_⟩;intro P ρ b w k;refine⟨k.1,k.2.1,fun g g1 g2=>?_⟩;obtain⟨loc,cur,r1,r2,r3,r4,r5,r6,r7⟩:=k.2.2 g g1 g2;refine⟨loc,cur,r1,r2,r3,r4,r5,r6,fun i hi=>?_⟩;obtain⟨x,v,c1,c2,c3,c4⟩:=r7 i hi;obtain⟨y,y1,y2⟩:=zou hD i (zAJ9 _) zo
  grind
 .rename_i c c';have e:=zAL9 h;subst e;exact .refl _ (fun cs h=>by cases h)
 .cases h
theorem zDT{k:zaf}{x:zd7}(hx:lay k vs b=some x):∀cs,x.o ≠ .ro cs:=by
 have h1:∀(e:Nat) (l:LK) cs,zcW e l ≠ .ro cs:=fun e l cs h=>by cases h
 intro cs h
 cases k<;>simp only[lay]at hx<;>try cases hx
 case box e n =>
  unfold zrQ at hx
  split at hx
  .obtain⟨_,hx⟩:=zac hx;injection hx with hx;subst hx;cases h
  .cases hx
 case alloc e z =>
  unfold znt at hx
  split at hx
  .injection hx with hx;subst hx;cases h
  .cases hx
 case bslice e esz len z p =>
  unfold zjz at hx;obtain⟨_,hx⟩:=zac hx
  split at hx
  .injection hx with hx;subst hx;cases h
  .cases hx
 case mkslice e esz by_ z =>
  unfold zig at hx
  split at hx
  .split at hx
   .obtain⟨_,hx⟩:=zac hx;obtain⟨_,hx⟩:=zac hx;obtain⟨_,hx⟩:=zac hx;injection hx with hx;subst hx;cases h
   .cases hx
  .cases hx
 case mkmap =>
  unfold zmE at hx
  split at hx
  .injection hx with hx;subst hx;cases h
  .injection hx with hx;subst hx;cases h
  .cases hx
 case tobytes e =>
  unfold ziD at hx
  split at hx
  .obtain⟨_,hx⟩:=zac hx;injection hx with hx;subst hx;cases h
  .cases hx
theorem zBy{k:zaf}{x:zd7}(hx:lay k vs b=some x):zfE x.v=some b:=by
 cases k<;>simp only[lay]at hx<;>try cases hx
 case box e n =>
  unfold zrQ at hx
  split at hx
  .obtain⟨_,hx⟩:=zac hx;injection hx with hx;subst hx;rfl
  .cases hx
 case alloc e z =>
  unfold znt at hx
  split at hx
  .injection hx with hx;subst hx;rfl
  .cases hx
 case bslice e n l z p =>
  unfold zjz at hx;obtain⟨_,hx⟩:=zac hx
  split at hx
  .injection hx with hx;subst hx;rfl
  .cases hx
 case mkslice e n b z =>
  unfold zig at hx
  split at hx
  .split at hx
   .obtain⟨_,hx⟩:=zac hx;obtain⟨_,hx⟩:=zac hx;obtain⟨_,hx⟩:=zac hx;injection hx with hx;subst hx;rfl
   .cases hx
  .cases hx
 case mkmap =>
  unfold zmE at hx
  split at hx
  .injection hx with hx;subst hx;rfl
  .injection hx with hx;subst hx;rfl
  .cases hx
 case tobytes e =>
  unfold ziD at hx
  split at hx
  .obtain⟨_,hx⟩:=zac hx;injection hx with hx;subst hx;rfl
  .cases hx
def TH.sub(h h':TH):Prop:=∀b o,h.get b=some o->h'.get b=some o
theorem TH.sub.refl(h:TH):h.sub h:=fun _ _ k=>k
theorem TH.sub.trans{h1 h2 h3:TH}(k:h1.sub h2)(l:h2.sub h3):h1.sub h3:=fun b o hb=>l b o (k b o hb)
theorem TH.sub_push(h:TH)(o:TO):h.sub (h.push o):=fun b x hb=>by rw[TH.gP,if_neg (by have:=TH.get_lt hb;omega)];exact hb
theorem zm9(k:h.sub h'){g o n:Nat}{l:LK}(hl:zb0 h b g o n=some l):zb0 h' b g o n=some l:=by
 unfold zb0 at hl⊢
 split at hl
 .rename_i x hx;rw[k _ _ hx];exact hl
 .cases hl
theorem zlC{f g:TV->LE}(hfg:∀x v,f x=some v->g x=some v)(hv:zcY vs f=some v):zcY vs g=some v:=by
 unfold zcY at *
 grind
theorem zzq{f g:TV->TV->LE}(hfg:∀x y v,f x y=some v->g x y=some v)(hv:zdh vs f=some v):zdh vs g=some v:=by
 unfold zdh at *
 grind
theorem zDa(k:h.sub h'){kd:zaf}(hv:pas kd vs h=some v):pas kd vs h'=some v:=by
 cases kd<;>first|exact hv|skip
 case load agg n =>
  refine zlC (fun x v hv=>?_) hv;unfold zhZ at hv⊢
  split at hv
  .obtain⟨h1,hv⟩:=zac hv
   split at hv
   .rename_i l hl;rw[h1,zm9 k hl];exact hv
   .cases hv
  .cases hv
 case tostr =>
  refine zlC (fun x v hv=>?_) hv;unfold zhT at hv⊢
  split at hv
  .exact hv
  .split at hv
   .rename_i l hl;rw[zm9 k hl];exact hv
   .cases hv
  .cases hv
 case look kf z ok =>
  refine zzq (fun x y v hv=>?_) hv;unfold zji at hv⊢;obtain⟨h1,hv⟩:=zac hv;rw[h1];simp only[cond_true]
  split at hv
  .exact hv
  .split at hv
   .rename_i o ho;rw[k _ _ ho];exact hv
   .cases hv
  .cases hv
 case len f =>
  refine zlC (fun x v hv=>?_) hv;unfold zrM at hv⊢
  split at hv
  .exact hv
  .unfold zzf at hv⊢
   split at hv
   .exact hv
   .split at hv
    .rename_i o ho;rw[k _ _ ho];exact hv
    .cases hv
   .cases hv
  .exact hv
  .cases hv
def Tr.sub(a b:LA):Prop:=∀t v,a.get t=some v->b.get t=some v
theorem Tr.sub.refl(a:LA):a.sub a:=fun _ _ k=>k
theorem Tr.sub.trans{a b c:LA}(k:a.sub b)(l:b.sub c):a.sub c:=fun t v h=>l t v (k t v h)
theorem zjB{d:LC}(hd:zhV nm d v=some nm'):nm.sub nm'/\(∀t,d=some t->nm.get t=none/\nm'.get t=some v)/\∀t,d≠some t->nm'.get t=nm.get t:=by
 unfold zhV at hd
 split at hd
 .injection hd with hd;subst hd;exact⟨.refl _,fun t h=>(by cases h),fun t _=>rfl⟩
 .rename_i d
  split at hd
  .rename_i hn;injection hd with hd;subst hd;refine⟨fun t u hu=>?_,fun t h=>?_,fun t h=>?_⟩
   .rw[Tr.get_set]
    grind
   .injection h with h;subst h;exact⟨hn,by rw[Tr.get_set,if_pos rfl]⟩
   .rw[Tr.get_set,if_neg (fun e=>h (by rw[e]))]
  .cases hd
theorem zjA{df:AT}{x:Option (LA)}{s:DS}(hd:dput df h x=some s):∃nm,x=some nm/\s=⟨nm,df,h⟩:=by
 cases x with
 | none=>cases hd
 | some nm=>simp only[dput]at hd;injection hd with hd;exact⟨nm,rfl,hd.symm⟩
theorem zqP(k:nm.sub nm'){x:TOp}(hv:zh7 tm nm x=some v):zh7 tm nm' x=some v:=by
 cases x<;>first|exact hv|exact k _ _ hv
theorem zff(k:nm.sub nm'):∀{xs:LY} {vs:LK},zeG tm nm xs=some vs->zeG tm nm' xs=some vs
 | [],vs,hv=>hv
 | x::xs,vs,hv=>by
  unfold zeG at hv⊢
  split at hv
  .cases hv
  .rename_i v h1
   split at hv
   .cases hv
   .rename_i us h2;rw[zqP k h1,zff k h2];exact hv
theorem zgT(k:nm.sub nm'){g:Option (TOp×Bool)}{b:Bool}(hv:zfR tm nm g=some b):zfR tm nm' g=some b:=by
 unfold zfR at hv⊢
 split at hv
 .exact hv
 .rename_i x c
  cases hx:zh7 tm nm x with
  | none=>rw[hx]at hv;cases hv
  | some v=>rw[hx]at hv;rw[zqP k hx];exact hv
theorem zqO(f:Nat->LE):∀(l:LN),∃tx:LA,(∀t∈l,tx.get t=f t)/\∀t v,tx.get t=some v->t∈l/\f t=some v
 | []=>⟨.nil,fun t h=>by simp at h,fun t v h=>by simp[Tr.get_nil]at h⟩
 | t::l=>by
  obtain⟨tx,h1,h2⟩:=zqO f l;refine⟨tx.set t (f t),fun u hu=>?_,fun u v hu=>?_⟩
  .rw[Tr.get_set]
   grind
  .rw[Tr.get_set]at hu
   grind
noncomputable def zqi (all:LO)(x:Item)(tm nm:LA)(t:Nat):LE:=zh7 tm nm (zo8 all x (.tmp t))
variable {tx:LA}{x:Item}
theorem zoA{all:LO}{y:TOp}(hy:zjX y=true)(ht:∀t,ztY y=some t->tx.get t=zqi all x tm nm t):zgG tx y=zh7 tm nm (zo8 all x y):=by
 cases y with
 | tmp t=>exact ht t rfl
 | new t=>cases hy
 | const v=>rfl
 | fn f=>rfl
theorem zoZ{all:LO}:∀{ys:LY},ys.all zjX=true->(∀y∈ys,∀t,ztY y=some t->tx.get t=zqi all x tm nm t)->zHX tx ys=zeG tm nm (ys.map (zo8 all x))
 | [],_,_=>rfl
 | y::ys,hy,ht=>by
  simp only[zHL9,zAO9]at hy;simp only[zHX,zeG,zBY9];rw[zoA hy.1 (ht y zAR9),zoZ hy.2 fun z hz=>ht z (zAQ9 _ hz)]
theorem zy2{all:LO}{g:Option (TOp×Bool)}(hy:∀p b,g=some (p,b)->zjX p=true)(ht:∀p b t,g=some (p,b)->ztY p=some t->tx.get t=zqi all x tm nm t):zgg tx g=zfR tm nm (g.map fun p=>(zo8 all x p.1,p.2)):=by
 cases g with
 | none=>rfl
 | some p =>
  obtain⟨p,b⟩:=p;simp only[zgg,zfR,Option.map_some];rw[zoA (hy p b rfl) fun t h=>ht p b t rfl h]
theorem WR.set_none(k:WR P Z ρ h w)(hn:∀g,ρ b g=none)(x:TO):WR P Z ρ (h.set b x) w :=
 ⟨fun c g loc hl=>by
  obtain⟨a1,a2,a3⟩:=k.dom c g loc hl;have hcb:c≠b:=fun e=>by rw[e,hn g]at hl;cases hl
  refine⟨a1,a2.imp id fun⟨cs,h1⟩=>⟨cs,?_⟩,a3⟩;unfold TH.get TH.set at *
  dsimp only at *
  rw[Tr.get_set,if_neg hcb];exact h1,fun c g loc hl=>by
  obtain⟨o,ho,hr⟩:=k.obj c g loc hl;have hcb:c≠b:=fun e=>by rw[e,hn g]at hl;cases hl
  refine⟨o,?_,hr⟩;unfold TH.get TH.set at *
  dsimp only at *
  rw[Tr.get_set,if_neg hcb];exact ho,k.sep⟩
theorem WR.unset{x y:TO}(k:WR P Z ρ (h.set b x) w)(hy:h.get b=some y)(he:OEq x y):WR P Z ρ h w :=
 ⟨fun c g loc hl=>by
  obtain⟨a1,a2,a3⟩:=k.dom c g loc hl;refine⟨a1,a2.imp id fun⟨cs,h1⟩=>?_,a3⟩;rw[TH.get_set _ _ _ _ (TH.get_lt hy)]at h1
  split at h1
  .rename_i e;subst e;injection h1 with h1;exact absurd h1 (he.1 cs)
  .exact⟨cs,h1⟩,fun c g loc hl=>by
  obtain⟨o,ho,hr⟩:=k.obj c g loc hl;rw[TH.get_set _ _ _ _ (TH.get_lt hy)]at ho
  split at ho
  .rename_i e;subst e;injection ho with ho;subst ho;exact⟨y,hy,he.2 _ _ _ _ hr⟩
  .exact⟨o,ho,hr⟩,k.sep⟩
theorem ztn(f:Nat->Nat):∀(l:List Edge) (s j:Nat),(l.foldl (fun s e=>if Region.binds .any e then Nat.lor (Nat.lor s (2 ^ e.on)) (f e.on)else s) s).testBit j=true↔s.testBit j=true\/∃e∈l,Region.binds .any e=true/\(j=e.on\/(f e.on).testBit j=true)
 | [],s,j=>by simp
 | e::l,s,j=>by
  rw[zFZ9,ztn f l]
  by_cases hb:Region.binds .any e=true
  .rw[if_pos hb];have:(Nat.lor (Nat.lor s (2 ^ e.on)) (f e.on)).testBit j=(s.testBit j||decide (e.on=j)||(f e.on).testBit j):=by
    change ((s ||| 2 ^ e.on) ||| f e.on).testBit j=_
    grind
   grind
  grind
theorem zjV:∀{l:AM} {i:Nat},zoo l i=true->∀k o,l[k]?=some o->∀e∈o.after,Region.binds .any e=true->e.on<i+k
 | [],i,_,k,o,h,_,_,_=>by simp at h
 | o::l,i,hb,k,o',h,e,he,hbd=>by
  simp only[zoo,zAO9]at hb
  cases k with
  | zero =>
   simp at h;subst h;have:=Array.all_eq_true_iff_forall_mem.1 hb.1 e he;simp[hbd]at this;simpa using this
  | succ k =>
   have:=zjV hb.2 k o' (by simpa using h) e he hbd;omega
theorem zsY:∀(l:AM) (acc:LN),zoo l acc.length=true->(zdH l acc).length=acc.length+l.length/\(∀i,i<acc.length->(zdH l acc).getD i 0=acc.reverse.getD i 0) /\
  ∀k o,l[k]?=some o->∀j,((zdH l acc).getD (acc.length+k) 0).testBit j=true↔∃e∈o.after.toList,Region.binds .any e=true/\(j=e.on\/((zdH l acc).getD e.on 0).testBit j=true)
 | [],acc,_=>⟨by simp[zdH],fun i _=>rfl,fun k o h=>by simp at h⟩
 | o::l,acc,hb=>by
  have hb':=hb;simp only[zoo,zAO9]at hb;have hrec:zdH (o::l) acc=zdH l (o.after.toList.foldl (fun s e=>if Region.binds .any e then Nat.lor (Nat.lor s (2 ^ e.on)) (acc.reverse.getD e.on 0)else s) 0::acc):=rfl;generalize hm:o.after.toList.foldl (fun s e=>if Region.binds .any e then Nat.lor (Nat.lor s (2 ^ e.on)) (acc.reverse.getD e.on 0)else s) 0=m at hrec;obtain⟨h1,h2,h3⟩:=zsY l (m::acc) (by simpa using hb.2);rw[hrec];simp only[zAG9]at h1 h2 h3;have hold:∀i,i<acc.length->(zdH l (m::acc)).getD i 0=acc.reverse.getD i 0:=fun i hi=>by grind
  refine⟨by simp only[zAG9];omega,hold,fun k o' ho j=>?_⟩
  cases k with
  | zero =>
   simp at ho;subst ho;have hself:(zdH l (m::acc)).getD (acc.length+0) 0=m:=by simp_all
   rw[hself];have key:=ztn (fun i=>acc.reverse.getD i 0) o.after.toList 0 j;rw[hm]at key;refine key.trans ?_;simp only[Nat.zero_testBit,zCQ9,false_or]
   constructor
   .rintro ⟨e,a1,a2,a3⟩;have:=zjV hb' 0 o rfl e (by simpa using a1) a2;exact⟨e,a1,a2,by rw[hold _ zo];exact a3⟩
   .rintro ⟨e,a1,a2,a3⟩;have:=zjV hb' 0 o rfl e (by simpa using a1) a2;exact⟨e,a1,a2,by rw[hold _ zo]at a3;exact a3⟩
  | succ k =>
   have:=h3 k o' (by simpa using ho) j;rw[show acc.length+(k+1)=acc.length+1+k by omega];exact this
theorem zqB:∀(os:LS) (ms:LN) (i:Nat),os.length=ms.length->∀k x,(zh4 os ms i)[k]?=some x↔(x.i=i+k/\os[k]?=some x.o/\ms[k]?=some x.m)
 | [],[],i,_,k,x=>by simp[zh4]
 | o::os,m::ms,i,hl,k,x=>by
  simp only[zh4]
  cases k with
  | zero =>
   simp only[List.getElem?_cons_zero,Option.some.injEq]
   constructor
   .rintro rfl;exact⟨rfl,rfl,rfl⟩
   .rintro ⟨a,b,c⟩;cases x;simp_all
  | succ k =>
   simp only[zBO9];rw[zqB os ms (i+1) (by simpa using hl) k x]
   constructor
   .rintro ⟨a,b⟩;exact⟨by omega,b⟩
   .rintro ⟨a,b⟩;exact⟨by omega,b⟩
 | [],_::_,i,hl,_,_=>by simp at hl
 | _::_,[],i,hl,_,_=>by simp at hl
structure Reg(P:Program)(N:Nat)(ops:AF)(all acts:LO):Prop where
 item:∀i o,ops[i]?=some o->∃x∈all,x.i=i
 op:∀x∈all,∃o,ops[x.i]?=some o/\OpR P N ops o x.o
 uniq:∀x∈all,∀y∈all,x.i=y.i->x=y
 back:∀x∈all,∀o,ops[x.i]?=some o->∀e∈o.after,Region.binds .any e=true->e.on<x.i
 bits:∀x∈all,∀o,ops[x.i]?=some o->∀j,x.m.testBit j=true↔∃e∈o.after,Region.binds .any e=true/\(j=e.on\/∃y∈all,y.i=e.on/\y.m.testBit j=true)
 ac:acts=all.filter fun x=>x.o.kind.cls==2
 row:znf acts=true
 tmps:znY all=true
theorem Reg.lt{N:Nat}{all acts:LO}(R:Reg P N ops all acts){x:Item}(hx:x∈all):x.i<ops.size:=by
 obtain⟨o,ho,_⟩:=R.op x hx
 grind
theorem zAV{N:Nat}{os:LS}(hos:zd2 (znS P N ops) ops.toList=some os){c:zbS}(hc:zqS ops.toList os=some c):
  ∃all acts,Reg P N ops all acts/\c=.drawn (zf8 all acts 0 acts) (all.filterMap fun x=>x.o.dst):=by
 unfold zqS at hc;dsimp only at hc
 split at hc
 .rename_i hcond;injection hc with hc;simp only[zAO9]at hcond;obtain⟨⟨h1,h2⟩,h3⟩:=hcond;obtain⟨m1,m2⟩:=zlm hos;obtain⟨r1,_,r3⟩:=zsY ops.toList [] h1;simp only[zAN9,zBS9]at r1 r3;have hlen:os.length=(zdH ops.toList []).length:=by rw[r1,m1]
  have get:=zqB os (zdH ops.toList []) 0 hlen;have mem:∀x,x∈zh4 os (zdH ops.toList []) 0↔os[x.i]?=some x.o/\(zdH ops.toList [])[x.i]?=some x.m:=fun x=>by
   rw[zEH9]
   simp_all
  have ex:∀i,i<ops.size->∃x∈zh4 os (zdH ops.toList []) 0,x.i=i/\x.m=(zdH ops.toList []).getD i 0:=fun i hi=>by
   have h1:i<os.length:=by rw[m1];simpa using hi
   have h2:i<(zdH ops.toList []).length:=by rw[<- hlen];exact h1
   exact⟨⟨i,os[i],(zdH ops.toList [])[i]⟩,(mem _).2 ⟨zAA9 h1,zAA9 h2⟩,rfl,by simp[zAK9,zAA9 h2]⟩
  have md:∀x∈zh4 os (zdH ops.toList []) 0,x.m=(zdH ops.toList []).getD x.i 0:=fun x hx=>by grind
  refine⟨zh4 os (zdH ops.toList []) 0,_,⟨fun i o ho=>?_,fun x hx=>?_,fun x hx y hy e=>?_,fun x hx o ho e he hb=>?_,fun x hx o ho j=>?_,rfl,h2,h3⟩,hc.symm⟩
  .grind
  .obtain⟨a,b⟩:=(mem x).1 hx;have hi:x.i<ops.size:=by have:=(zAC9.1 a).1;rw[m1]at this;simpa using this
   exact⟨ops[x.i],zCM9 hi,zvJ (m2 x.i ops[x.i] x.o (by simp[hi]) a)⟩
  .obtain⟨a,b⟩:=(mem x).1 hx;obtain⟨c,d⟩:=(mem y).1 hy;rw[e,c]at a;rw[e,d]at b;injection a with a;injection b with b;obtain⟨xi,xo,xm⟩:=x;obtain⟨yi,yo,ym⟩:=y
   simp_all
  .have:=zjV h1 x.i o (by simpa using ho) e he hb;omega
  .rw[md x hx,r3 x.i o (by simpa using ho) j]
   constructor
   .rintro ⟨e,a1,a2,a3⟩;have a1':e∈o.after:=by simpa using a1
    refine⟨e,a1',a2,?_⟩;rcases a3 with a3|a3
    .omega
    .have hlt:=zjV h1 x.i o (by simpa using ho) e a1' a2;have hx':=(zCH9.1 ho).1;obtain⟨y,hy,e1,e2⟩:=ex e.on zo
     grind
   grind
 .cases hc
def ziZ(all:LO)(D:AV):Prop:=∀x∈all,D.getD x.i true=true->∀j,x.m.testBit j=true->D.getD j true=true
variable {D:AV}{i:Nat}{y:Item}
theorem zFG(h:D.getD i false=true):D.getD i true=true:=by grind
theorem zzj{N:Nat}{all acts:LO}(R:Reg P N ops all acts)(hc:ziZ all D)(hx:x∈all)(hr:x.i∈Region.ready .any ops D):D.getD x.i true=false/\∀j,x.m.testBit j=true->D.getD j true=true:=by
 obtain⟨h0,o,ho,hall⟩:=mem_ready.1 hr;refine⟨h0,fun j hj=>?_⟩;obtain⟨e,he,hb,hor⟩:=(R.bits x hx o ho j).1 hj;rcases hor with rfl|⟨y,hy,e1,hyj⟩
 .grind
 .exact hc y hy (by rw[e1];exact zFG (hall e he hb)) j hyj
theorem zth{N:Nat}{all acts:LO}(R:Reg P N ops all acts)(hs:D.size=ops.size)(hr:Region.ready .any ops D=[]):∀i,i<ops.size->D.getD i true=true:=by
 intro i
 induction i using Nat.strongRecOn with
 | _ i ih =>
  intro hi
  cases hd:D.getD i true with
  | true=>rfl
  | false =>
   exfalso
   obtain⟨x,hx,e⟩:=R.item i ops[i] (zCM9 hi);have:i∈Region.ready .any ops D:=mem_ready.2 ⟨hd,ops[i],zCM9 hi,fun ed hed hb=>by
    have hlt:=R.back x hx ops[i] (by rw[e];exact zCM9 hi) ed hed hb;rw[e]at hlt;have h1:=ih ed.on hlt zo;simp only[zDP9]at *
    rw[zCM9 zo]at *
    exact h1⟩
   rw[hr]at this
   cases this
theorem zIb(D:AV)(i j:Nat)(hi:i<D.size):(D.setIfInBounds i true).getD j true=if j=i then true else D.getD j true:=by
 simp only[zDP9]
 grind
theorem ziZ.set{all:LO}(hc:ziZ all D){N:Nat}{acts:LO}(R:Reg P N ops all acts)(hx:x∈all)(hi:x.i<D.size)(hm:∀j,x.m.testBit j=true->D.getD j true=true):ziZ all (D.setIfInBounds x.i true):=by
 intro y hy hd j hj;rw[zIb _ _ _ hi]at hd⊢
 split
 .rfl
 .split at hd
  .rename_i e;rw[R.uniq y hy x hx e]at hj;exact hm j hj
  .exact hc y hy hd j hj
theorem zku(h:D.getD i true=false):0<D.toList.count false/\i<D.size:=by
 simp only[zDP9]at h
 cases hD:D[i]? with
 | none=>rw[hD]at h;cases h
 | some b =>
  rw[hD]at h;simp only[Option.getD_some]at h;subst h;have:=zCH9.1 hD;obtain⟨h1,h2⟩:=this;exact⟨List.count_pos_iff.2 (by rw[<- h2];exact Array.getElem_mem_toList h1),h1⟩
theorem zBk(h:D.getD i true=false):(D.setIfInBounds i true).toList.count false+1=D.toList.count false:=by
 obtain⟨hp,hi⟩:=zku h;have hx:D[i]=false:=by simpa[zDP9,zCM9 hi]using h
 grind
theorem zmD:∀{l:LO} {a x:Item},znf (a::l)=true->x∈l->∃p∈a::l,x.m.testBit p.i=true
 | [],a,x,_,hx=>by simp at hx
 | b::l,a,x,hr,hx=>by
  simp only[znf,zAO9]at hr;rcases zBA9.1 hx with rfl|hx
  .grind
  .obtain⟨p,hp,e⟩:=zmD hr.2 hx
   grind
theorem zmQ:∀(pre:LO) {l:LO},znf (pre++l)=true->znf l=true
 | [],l,h=>h
 | a::pre,l,h=>by
  refine zmQ pre ?_
  cases hp:pre++l with
  | nil=>rfl
  | cons b m =>
   rw[zAS9,hp]at h;simp only[znf,zAO9]at h;exact h.2
theorem zxM{pre l:LO}(h:∀a∈l,x.m.testBit a.i=false):zhi (pre++l) x<=pre.length:=by
 unfold zhi;rw[List.filter_append,zAB9];have:l.filter (fun a=>x.m.testBit a.i)=[]:=List.filter_eq_nil_iff.2 fun a ha=>by rw[h a ha];simp
 grind
theorem zAI{all:LO}(h:znY all=true)(hx:x∈all)(h2:x.o.kind.cls≠2):∃d,x.o.dst=some d:=by
 have:=zBV9.1 h x hx
 grind
theorem zv4{all:LO}(h:znY all=true)(hx:x∈all)(hy:y∈all)(hne:y.i≠x.i){d:Nat}(hd:x.o.dst=some d):y.o.dst≠some d:=by
 have:=zBV9.1 h x hx
 grind
theorem zvC{all:LO}(h:znY all=true)(hx:x∈all):x.o.args.all zjX=true/\∀p b,x.o.guard=some (p,b)->zjX p=true:=by
 have:=zBV9.1 h x hx
 grind
theorem zwC{all:LO}(h:znY all=true)(hx:x∈all)(hy:y∈all){t:Nat}(ht:t∈zmH x.o)(hd:y.o.dst=some t):x.m.testBit y.i=true\/y.m.testBit x.i=true:=by
 have:=zBV9.1 h x hx
 grind
structure zlU(all:LO)(D:AV)(ρ:Rho)(tm nm:LA)(tmps:LW):Prop where
 old:∀t v,tm.get t=some v->(∀y∈all,D.getD y.i true=true->y.o.dst≠some t)->∃v',tmps[t]?=some v'/\VR ρ v v'
 new:∀y∈all,D.getD y.i true=true->∀d,y.o.dst=some d->∃v v',nm.get d=some v/\tmps[d]?=some v'/\VR ρ v v'
theorem zlU.look{N:Nat}{ops:AF}{all acts:LO}(R:Reg P N ops all acts)(hc:ziZ all D){tmps:LW}(k:zlU all D ρ tm nm tmps)(hx:x∈all)(hu:D.getD x.i true=false)(hm:∀j,x.m.testBit j=true->D.getD j true=true):
  ∃tx,TmR ρ tx tmps/\zHX tx x.o.args=zeG tm nm (zec all x).args/\zgg tx x.o.guard=zfR tm nm (zec all x).guard:=by
 obtain⟨tx,h1,h2⟩:=zqO (zqi all x tm nm) (zmH x.o);obtain⟨n1,n2⟩:=zvC R.tmps hx;refine⟨tx,fun t v hv=>?_,zoZ n1 fun y hy t ht=>h1 t ?_,zy2 n2 fun p b t hg ht=>h1 t ?_⟩
 .obtain⟨ht,hs⟩:=h2 t v hv;simp only[zqi,zo8]at hs
  split at hs
  .rename_i hany;obtain⟨y,hy,hyt⟩:=List.any_eq_true.1 hany;simp only[zAO9,beq_iff_eq]at hyt;obtain⟨v1,v',a1,a2,a3⟩:=k.new y hy (hm _ hyt.2) t hyt.1;simp only[zh7]at hs
   grind
  .rename_i hany;refine k.old t v hs fun y hy hd hdst=>?_;rcases zwC R.tmps hx hy ht hdst with e|e
   .grind
   .have:=hc y hy hd _ e
    grind
 .unfold zmH
  grind
 .unfold zmH
  grind
theorem zlU.step{N:Nat}{ops:AF}{all acts:LO}(R:Reg P N ops all acts){nm':LA}{a:Act}(k:zlU all D ρ tm nm a.tmps)(hρ:∀b g loc,ρ b g=some loc->ρ' b g=some loc)(hnm:nm.sub nm')(hx:x∈all)(hi:x.i<D.size){v':Value}(hv:∀d,x.o.dst=some d->d<a.tmps.size/\∃v,nm'.get d=some v/\VR ρ' v v'):zlU all (D.setIfInBounds x.i true) ρ' tm nm' (a.put x.o.dst v').tmps:=by
 have put:∀t,x.o.dst≠some t->(a.put x.o.dst v').tmps[t]?=a.tmps[t]?:=fun t ht=>by
  cases hd:x.o.dst with
  | none=>rfl
  | some d =>
   simp only[Act.put];rw[zGP9 (fun e=>ht (by rw[hd,e]))]
 refine⟨fun t v hv' hno=>?_,fun y hy hd d hdst=>?_⟩
 .obtain⟨u,h1,h2⟩:=k.old t v hv' fun y hy hd=>hno y hy (by rw[zIb _ _ _ hi];split;rfl;exact hd);exact⟨u,by rw[put t (hno x hx (by rw[zIb _ _ _ hi,if_pos rfl]))];exact h1,h2.mono hρ⟩
 .rw[zIb _ _ _ hi]at hd
  by_cases e:y.i=x.i
  .have:=R.uniq y hy x hx e;subst this;obtain⟨h1,v,h2,h3⟩:=hv d hdst;exact⟨v,v',h2,by rw[hdst];simp[Act.put,h1],h3⟩
  .rw[if_neg e]at hd;obtain⟨v,u,h1,h2,h3⟩:=k.new y hy hd d hdst;exact⟨v,u,hnm _ _ h1,by rw[put d (zv4 R.tmps hy hx (fun h=>e h.symm) hdst)];exact h2,h3.mono hρ⟩
def zgR(all:LO)(tm:LA)(ρ:Rho)(m n:Nat)(nm:LA)(x:Item):Prop :=
 ∃b d u,zfR tm nm (zec all x).guard=some b/\x.o.dst=some d/\nm.get d=some u/\(b=false->u=.tuple []) /\
  (b=true->∃vs,zeG tm nm (zec all x).args=some vs/\(x.o.kind.cls=1->∃c,zfE u=some c/\m<=c/\c<n/\∀g,ρ c g=none))
def zk1(all:LO)(tm nm:LA)(h:TH)(x:Item):Prop:=zfR tm nm (zec all x).guard=some true->∀vs d u,zeG tm nm (zec all x).args=some vs->x.o.dst=some d->nm.get d=some u ->
 (x.o.kind.cls=0->pas x.o.kind vs h=some u)/\(x.o.kind.cls=1->∀c,zfE u=some c->∃z y,lay x.o.kind vs c=some z/\z.v=u/\h.get c=some y/\OEq z.o y)
def Dis(G:Item->Prop)(nm:LA):Prop:=∀x x' d d' u u' c,G x->G x'->x.o.kind.cls=1->x'.o.kind.cls=1->x.o.dst=some d->x'.o.dst=some d'->d≠d'->nm.get d=some u->nm.get d'=some u'->zfE u=some c->zfE u'=some c->False
variable {G:Item->Prop}{acts l:LO}{s:DS}
theorem zgR.mono{all:LO}{n':Nat}(k:zgR all tm ρ m n nm x)(hnm:nm.sub nm')(hn:n<=n')(hρ:∀c,c<n->(∀g,ρ c g=none)->∀g,ρ' c g=none):zgR all tm ρ' m n' nm' x:=by
 obtain⟨b,d,u,h1,h2,h3,h4,h5⟩:=k;refine⟨b,d,u,zgT hnm h1,h2,hnm _ _ h3,h4,fun hb=>?_⟩;obtain⟨vs,a1,a2⟩:=h5 hb;refine⟨vs,zff hnm a1,fun hc=>?_⟩
 grind
theorem zk1.mono{all:LO}(k:zgR all tm ρ m n nm x)(s:zk1 all tm nm h x)(hnm:nm.sub nm')(hh:h.sub h'):zk1 all tm nm' h' x:=by
 obtain⟨b,d,u,h1,h2,h3,h4,h5⟩:=k;intro hw vs d' u' hv hd hu;have h1':=zgT hnm h1;rw[hw]at h1';injection h1' with e;subst e;obtain⟨vs',a1,_⟩:=h5 rfl;have a1':=zff hnm a1;rw[hv]at a1';injection a1' with e;subst e;rw[hd]at h2;injection h2 with e;subst e;have h3':=hnm _ _ h3;rw[hu]at h3';injection h3' with e;subst e;obtain⟨s1,s2⟩:=s h1 vs _ _ a1 hd h3;refine⟨fun h0=>zDa hh (s1 h0),fun hc c hb=>?_⟩;obtain⟨z,y,z1,z2,z3,z4⟩:=s2 hc c hb;exact⟨z,y,z1,z2,hh _ _ z3,z4⟩
theorem Dis.mono{all:LO}(k:Dis G nm)(hk:∀x,G x->zgR all tm ρ m n nm x)(hnm:nm.sub nm'):Dis G nm':=by
 intro x x' d d' u u' c g g' k1 k1' hd hd' hne hu hu' hb hb';obtain⟨_,d0,u0,_,h2,h3,_⟩:=hk x g;obtain⟨_,d0',u0',_,h2',h3',_⟩:=hk x' g';rw[hd]at h2;injection h2 with e;subst e;rw[hd']at h2';injection h2' with e;subst e;have e:=hnm _ _ h3;rw[hu]at e;injection e with e;subst e;have e:=hnm _ _ h3';rw[hu']at e;injection e with e;subst e;exact k x x' _ _ _ _ c g g' k1 k1' hd hd' hne h3 h3' hb hb'
theorem Dis.sub{G':Item->Prop}(k:Dis G nm)(hg:∀x,G' x->G x):Dis G' nm:=fun x x' d d' u u' c g g'=>k x x' d d' u u' c (hg _ g) (hg _ g')
theorem zpY:∀{l:LS},ziG tm s l=true->∀o∈l,ziT tm s o=true
 | [],_,o,ho=>by simp at ho
 | a::l,h,o,ho=>by
  unfold ziG at h;obtain⟨h1,h2⟩:=bnd h;rcases zBA9.1 ho with rfl|ho
  .exact h1
  .exact zpY h2 o ho
theorem zEa{all:LO}(h:ziT tm s (zec all x)=true):zk1 all tm s.nm s.h x:=by
 intro hw vs d u hv hd hu;unfold ziT at h;rw[hw]at h;dsimp only at h;unfold zuc at h;rw[show (zec all x).dst=some d from hd]at h;dsimp only at h;rw[hv]at h;dsimp only at h;rw[hu]at h;unfold zt6 at h;dsimp only at h;change (match x.o.kind.cls with|0=>zt8 s.h x.o.kind vs u|1=>zt3 s.h x.o.kind vs u|_=>false)=true at h;refine⟨fun h0=>?_,fun h1 c hc=>?_⟩
 .simp only[h0]at h;unfold zt8 at h
  split at h
  .rename_i v hp;rw[hp,TV.beq_sound _ _ _ h]
  .cases h
 .simp only[h1]at h;unfold zt3 at h;rw[hc]at h;dsimp only at h
  split at h
  .rename_i z hz
   split at h
   .rename_i y hy;obtain⟨e1,e2⟩:=bnd h;exact⟨z,y,hz,TV.beq_sound _ _ _ e1,hy,zyV e2⟩
   .cases h
  .cases h
theorem zrC{all:LO}{s2:DS}(hm:m<=s.h.next)(h2:x.o.kind.cls≠2){d:Nat}(hd:x.o.dst=some d)(he:znI tm (zec all x) s=some s2)(hwr:WR P Z ρ s.h w):
  s2.df=s.df/\s.nm.sub s2.nm/\s.nm.get d=none/\s.h.sub s2.h/\s.h.next<=s2.h.next/\WR P Z ρ s2.h w/\zgR all tm ρ m s2.h.next s2.nm x/\zk1 all tm s2.nm s2.h x/\∀u c,s2.nm.get d=some u->x.o.kind.cls=1->zfE u=some c->c=s.h.next:=by
 unfold znI at he
 split at he
 .cases he
 .rename_i hw;obtain⟨nm,e1,rfl⟩:=zjA he;rw[show (zec all x).dst=some d from hd]at e1;obtain⟨a1,a2,a3⟩:=zjB e1;obtain⟨b1,b2⟩:=a2 d rfl;refine⟨rfl,a1,b1,.refl _,zAE9 _,hwr,⟨false,d,_,zgT a1 hw,hd,b2,fun _=>rfl,fun h=>by cases h⟩,fun hw'=>?_,fun u c hu _ hb=>?_⟩
  .have:=zgT a1 hw;dsimp only at hw';rw[hw']at this;cases this
  .dsimp only at hu;rw[b2]at hu;injection hu with hu;subst hu;cases hb
 .rename_i hw;unfold zvd at he
  split at he
  .cases he
  .rename_i vs hv;change (match x.o.kind.cls with|0=>zDV s x.o.dst (pas x.o.kind vs s.h)|1=>zCK s x.o.dst (lay x.o.kind vs s.h.next)|_=>none)=some s2 at he
   by_cases h0:x.o.kind.cls=0
   .rw[h0]at he
    cases hp:pas x.o.kind vs s.h with
    | none=>rw[hp]at he;cases he
    | some v =>
     rw[hp]at he;obtain⟨nm,e1,rfl⟩:=zjA he;rw[hd]at e1;obtain⟨a1,a2,a3⟩:=zjB e1;obtain⟨b1,b2⟩:=a2 d rfl;refine⟨rfl,a1,b1,.refl _,zAE9 _,hwr,⟨true,d,v,zgT a1 hw,hd,b2,(fun h=>by cases h),fun _=>⟨vs,zff a1 hv,fun h=>by rw[h0]at h;cases h⟩⟩,fun _ vs' d' u' hv' hd' hu'=>?_,fun u c _ hc=>by rw[h0]at hc;cases hc⟩;have e:=zff a1 hv;dsimp only at hv' hu';rw[hv']at e;injection e with e;subst e;rw[hd]at hd';injection hd' with e;subst e;rw[b2]at hu';injection hu' with e;subst e;exact⟨fun _=>hp,fun h=>by rw[h0]at h;cases h⟩
   .by_cases h1:x.o.kind.cls=1
    .rw[h1]at he
     cases hp:lay x.o.kind vs s.h.next with
     | none=>rw[hp]at he;cases he
     | some z =>
      rw[hp]at he;obtain⟨nm,e1,rfl⟩:=zjA he;rw[hd]at e1;obtain⟨a1,a2,a3⟩:=zjB e1;obtain⟨b1,b2⟩:=a2 d rfl;have hbl:=zBy hp;refine⟨rfl,a1,b1,TH.sub_push _ _,by dsimp only;rw[TH.nP];omega,hwr.push _,⟨true,d,z.v,zgT a1 hw,hd,b2,(fun h=>by cases h),fun _=>⟨vs,zff a1 hv,fun _=>⟨s.h.next,hbl,hm,by dsimp only;rw[TH.nP];omega,fun g=>?_⟩⟩⟩,fun _ vs' d' u' hv' hd' hu'=>?_,fun u c hu _ hb=>?_⟩
      .cases hg:ρ s.h.next g with
       | none=>rfl
       | some loc=>have:=(hwr.dom _ _ _ hg).1;omega
      .have e:=zff a1 hv;dsimp only at hv' hu';rw[hv']at e;injection e with e;subst e;rw[hd]at hd';injection hd' with e;subst e;rw[b2]at hu';injection hu' with e;subst e;refine⟨fun h=>(by rw[h1]at h;cases h),fun _ c hc=>?_⟩;rw[hbl]at hc;injection hc with hc;subst hc;exact⟨z,z.o,hp,rfl,by dsimp only;rw[TH.gP,if_pos rfl],.refl _ (zDT hp)⟩
      .dsimp only at hu;rw[b2]at hu;injection hu with hu;subst hu;rw[hbl]at hb;injection hb with hb;exact hb.symm
    grind
theorem zgQ{all:LO}:∀(L:LO) (G:Item->Prop) (s s2:DS),m<=s.h.next->(∀x∈L,x.o.kind.cls≠2/\∃d,x.o.dst=some d)->zkH tm (L.map (zec all)) s=some s2->WR P Z ρ s.h w->(∀x,G x->zgR all tm ρ m s.h.next s.nm x/\zk1 all tm s.nm s.h x)->Dis G s.nm ->
  s2.df=s.df/\s.nm.sub s2.nm/\s.h.next<=s2.h.next/\WR P Z ρ s2.h w/\(∀x,G x\/x∈L->zgR all tm ρ m s2.h.next s2.nm x/\zk1 all tm s2.nm s2.h x)/\Dis (fun x=>G x\/x∈L) s2.nm
 | [],G,s,s2,_,_,he,hwr,hK,hD=>by
  simp only[zBD9,zkH]at he;injection he with he;subst he;exact⟨rfl,.refl _,zAE9 _,hwr,fun x hx=>hK x (by simpa using hx),hD.sub fun x hx=>by simpa using hx⟩
 | x::L,G,s,s2,hm,hL,he,hwr,hK,hD=>by
  simp only[zBY9,zkH]at he
  cases h1:znI tm (zec all x) s with
  | none=>rw[h1]at he;cases he
  | some s1 =>
   rw[h1]at he;dsimp only at he;obtain⟨hx2,d,hd⟩:=hL x zAR9;obtain⟨e1,e2,e3,e4,e5,e6,e7,e8,e9⟩:=zrC hm hx2 hd h1 hwr;have hK1:∀y,G y\/y=x->zgR all tm ρ m s1.h.next s1.nm y/\zk1 all tm s1.nm s1.h y:=fun y hy=>by
    rcases hy with hy|rfl
    .obtain⟨k1,k2⟩:=hK y hy;exact⟨k1.mono e2 e5 fun c _ hn=>hn,k2.mono k1 e2 e4⟩
    grind
   have new:∀y d' u u' c,G y->y.o.kind.cls=1->y.o.dst=some d'->x.o.kind.cls=1->s1.nm.get d=some u->s1.nm.get d'=some u'->zfE u=some c->zfE u'=some c->False:=fun y d' u u' c gy hy hdy hx hu hu' hb hb'=>by
    have hc:=e9 u c hu hx hb;obtain⟨b,d0,u0,k1,k2,k3,k4,k5⟩:=(hK y gy).1;rw[hdy]at k2;injection k2 with e;subst e;have e:=e2 _ _ k3;rw[hu']at e;injection e with e;subst e
    cases b with
    | false=>rw[k4 rfl]at hb';cases hb'
    | true =>
     obtain⟨vs,_,a2⟩:=k5 rfl;obtain⟨c',c1,_,c2,_⟩:=a2 hy;rw[hb']at c1;injection c1 with c1;omega
   have hD1:Dis (fun y=>G y\/y=x) s1.nm:=by
    intro y y' d0 d1 u u' c g g' k1 k1' hd0 hd1 hne hu hu' hb hb';rcases g with g|rfl
    .rcases g' with g'|rfl
     .exact hD.mono (fun z hz=>(hK z hz).1) e2 y y' d0 d1 u u' c g g' k1 k1' hd0 hd1 hne hu hu' hb hb'
     grind
    grind
   obtain⟨f1,f2,f3,f4,f5,f6⟩:=zgQ L _ s1 s2 (zBW9 hm e5) (fun y hy=>hL y (zAQ9 _ hy)) he e6 hK1 hD1;refine⟨f1.trans e1,e2.trans f2,zBW9 e5 f3,f4,fun y hy=>f5 y ?_,f6.sub fun y hy=>?_⟩
   .rcases hy with hy|hy
    .exact .inl (.inl hy)
    .rcases zBA9.1 hy with rfl|hy
     .exact .inl (.inr rfl)
     .exact .inr hy
   .rcases hy with hy|hy
    .exact .inl (.inl hy)
    .rcases zBA9.1 hy with rfl|hy
     .exact .inl (.inr rfl)
     .exact .inr hy
noncomputable def zqD (C:zce)(ca:LH)(tm:LA)(all acts:LO)(j:Nat):LO->DS->AH
 | [],s=>some (.go s)
 | a::l,s=>match znA C ca tm (zec all a) s with
  | some (.go s)=>zd5 C ca tm (zf8 all acts (j+1) l) s
  | r=>r
theorem zA0{all:LO}{j:Nat}{R:DR}(h:zd5 C ca tm (zf8 all acts j l) s=some R):ziG tm s (zCV all acts j)=true/\∃s2,zkH tm (zuI all acts j) s=some s2/\zqD C ca tm all acts j l s2=some R:=by
 cases l with
 | nil =>
  simp only[zf8,zd5]at h;obtain⟨h1,h2⟩:=zac h;refine⟨h1,?_⟩
  cases he:zkH tm (zuI all acts j) s with
  | none=>rw[he]at h2;cases h2
  | some s2=>rw[he]at h2;exact⟨s2,rfl,h2⟩
 | cons a l =>
  simp only[zf8,zd5]at h;obtain⟨h1,h2⟩:=zac h;refine⟨h1,?_⟩
  cases he:zkH tm (zuI all acts j) s with
  | none=>rw[he]at h2;cases h2
  | some s2=>rw[he]at h2;exact⟨s2,rfl,h2⟩
def zjM(all acts:LO)(D:AV)(j:Nat)(x:Item):Prop:=x∈all/\x.o.kind.cls≠2/\zhi acts x<=j/\D.getD x.i true=false
theorem enter{N:Nat}{ops:AF}{all:LO}(R:Reg P N ops all acts){D:AV}(hc:ziZ all D){pre:LO}(hal:acts=pre++l)(hpre:∀a∈pre,D.getD a.i true=true)(hund:∀x∈all,x.o.kind.cls≠2->zhi acts x=pre.length->D.getD x.i true=false)(hms:m<=s.h.next)(hwr:WR P Z ρ s.h w)(hK:∀x∈all,x.o.kind.cls≠2->zhi acts x<pre.length->D.getD x.i true=false->zgR all tm ρ m s.h.next s.nm x)(hD:Dis (fun x=>x∈all/\x.o.kind.cls≠2/\zhi acts x<pre.length/\D.getD x.i true=false) s.nm){r:DR}(hs:zd5 C ca tm (zf8 all acts pre.length l) s=some r):
  ∃s2,zqD C ca tm all acts pre.length l s2=some r/\s2.df=s.df/\s.nm.sub s2.nm/\s.h.next<=s2.h.next/\WR P Z ρ s2.h w/\(∀x,zjM all acts D pre.length x->zgR all tm ρ m s2.h.next s2.nm x/\zk1 all tm s2.nm s2.h x)/\Dis (zjM all acts D pre.length) s2.nm:=by
 obtain⟨h1,s2,h2,h3⟩:=zA0 hs;have hsame:=zpY h1;obtain⟨f1,f2,f3,f4,f5,f6⟩:=zgQ _ (fun x=>x∈all/\x.o.kind.cls≠2/\zhi acts x<pre.length/\D.getD x.i true=false) s s2 hms (fun x hx=>by
   obtain⟨m1,m2⟩:=zDG9.1 hx;simp only[zAO9,bne_iff_ne]at m2;exact⟨m2.1,zAI R.tmps m1 m2.1⟩) h2 hwr (fun x ⟨g1,g2,g3,g4⟩=>⟨hK x g1 g2 g3 g4,zEa (hsame _ (zAH9.2 ⟨x,zDG9.2 ⟨g1,by
    simp only[zAO9,bne_iff_ne,decide_eq_true_eq];refine⟨⟨g2,g3⟩,zBV9.2 fun a ha=>?_⟩;have ha':a∈pre:=by rw[hal]at ha;simpa using ha
    have haa:a∈all:=by
     have:a∈acts:=by rw[hal];exact zFC9 _ ha'
     rw[R.ac]at this;exact(zDG9.1 this).1
    cases hb:a.m.testBit x.i with
    | false=>rfl
    | true=>have:=hc a haa (hpre a ha') x.i hb;rw[g4]at this;cases this⟩,rfl⟩))⟩) hD
 have hsub:∀x,zjM all acts D pre.length x->(x∈all/\x.o.kind.cls≠2/\zhi acts x<pre.length/\D.getD x.i true=false)\/x∈all.filter fun x=>x.o.kind.cls != 2&&zhi acts x==pre.length:=fun x ⟨g1,g2,g3,g4⟩=>by grind
 exact⟨s2,h3,f1,f2,f3,f4,fun x hx=>f5 x (hsub x hx),f6.sub hsub⟩
theorem ztL:∀(ds:LN) (tm:LA) (t:Nat) v,(zl2 nm ds tm).get t=some v->(t∈ds/\nm.get t=some v)\/(t ∉ ds/\tm.get t=some v)
 | [],tm,t,v,h=>.inr ⟨by simp,h⟩
 | d::ds,tm,t,v,h=>by
  simp only[zl2]at h;rcases ztL ds _ t v h with⟨h1,h2⟩|⟨h1,h2⟩
  .grind
  .rw[Tr.get_set]at h2
   grind
theorem zoV:∀(ds:LN) (tm:LA) (t:Nat) v,(zio ds tm).get t=some v->t ∉ ds/\tm.get t=some v
 | [],tm,t,v,h=>⟨by simp,h⟩
 | d::ds,tm,t,v,h=>by
  simp only[zio]at h;obtain⟨h1,h2⟩:=zoV ds _ t v h;rw[Tr.get_set]at h2
  grind
section
variable {C:zce}{rnd:LC}{ca:LH}{N:Nat}{ops:AF}{all acts:LO}{tm:LA}{h0:TH}{w0:World}{ρ0:Rho}
structure Inv(P:Program)(Z:Nat)(C:zce)(ca:LH)(N:Nat)(ops:AF)(all acts:LO)(tm:LA)(ρ0:Rho)(h0:TH)(w0:World)(r:DR)(D:AV)(a:Act)(w:World)(ρ:Rho)(pre l:LO)(s:DS):Prop where
 size:D.size=ops.size
 ac:acts=pre++l
 done:∀y∈pre,D.getD y.i true=true
 und:∀y∈l,D.getD y.i true=false
 closed:ziZ all D
 wr:WR P Z ρ s.h w
 df:DfR ρ ca s.df a.defers
 hZ:Z<=w.heap.size
 sz:N<=a.tmps.size
 le:Rho.le h0.next ρ0 ρ
 bel:Below Z w0 w
 nx:h0.next<=s.h.next
 slots:zlU all D ρ tm s.nm a.tmps
 told:∀x,zjM all acts D pre.length x->zgR all tm ρ h0.next s.h.next s.nm x/\zk1 all tm s.nm s.h x
 dis:Dis (zjM all acts D pre.length) s.nm
 tail:zqD C ca tm all acts pre.length l s=some r
variable {pre:LO}{r:DR}{s':St}
theorem Inv.fin(R:Reg P N ops all acts)(k:Inv P Z C ca N ops all acts tm ρ0 h0 w0 r D a w ρ pre l s)(hall:∀i,i<ops.size->D.getD i true=true){x:TX}(hx:zne (all.filterMap fun x=>x.o.dst) tm (some r)=some (x,s')):CR P Z ρ0 N ca h0 w0 x s' .normal a w:=by
 have hl:l=[]:=by
  cases l with
  | nil=>rfl
  | cons y l =>
   have h1:=k.und y zAR9;have hy:y∈all:=by
    have:y∈acts:=by rw[k.ac];simp
    rw[R.ac]at this;exact(zDG9.1 this).1
   rw[hall _ (R.lt hy)]at h1;cases h1
 have ht:=k.tail;subst hl;simp only[zqD]at ht;injection ht with ht;subst ht;simp only[zne]at hx;injection hx with hx;injection hx with h1 h2;subst h1;subst h2;refine⟨ρ,k.le,k.bel,k.nx,rfl,k.wr,fun t v hv=>?_,k.sz,k.df,k.hZ⟩;rcases ztL _ _ t v hv with⟨h1,h2⟩|⟨h1,h2⟩
 .obtain⟨y,hy,hd⟩:=zHG9.1 h1;obtain⟨u,v',a1,a2,a3⟩:=k.slots.new y hy (hall _ (R.lt hy)) t hd
  grind
 .exact k.slots.old t v h2 fun y hy _ hd=>h1 (zHG9.2 ⟨y,hy,hd⟩)
theorem zjM.unset{y:Item}{j:Nat}(hi:x.i<D.size)(h:zjM all acts (D.setIfInBounds x.i true) j y):zjM all acts D j y/\y.i≠x.i:=by
 obtain⟨h1,h2,h3,h4⟩:=h;rw[zIb _ _ _ hi]at h4
 split at h4
 .cases h4
 .rename_i e;exact⟨⟨h1,h2,h3,h4⟩,e⟩
theorem Inv.next(R:Reg P N ops all acts)(k:Inv P Z C ca N ops all acts tm ρ0 h0 w0 r D a w ρ pre l s)(hx:x∈all)(hx2:x.o.kind.cls≠2)(hu:D.getD x.i true=false)(hm:∀j,x.m.testBit j=true->D.getD j true=true){d:Nat}(hd:x.o.dst=some d)(hdN:d<N){u:TV}(hud:s.nm.get d=some u)(hle:Rho.le h0.next ρ ρ')(hv:VR ρ' u v')(hwr:WR P Z ρ' s.h w')(hb:Below Z w w')(hnone:∀y,zjM all acts D pre.length y->y.i≠x.i->zgR all tm ρ' h0.next s.h.next s.nm y):Inv P Z C ca N ops all acts tm ρ0 h0 w0 r (D.setIfInBounds x.i true) (a.put x.o.dst v') w' ρ' pre l s:=by
 have hi:=(zku hu).2;refine⟨by rw[Array.size_setIfInBounds];exact k.size,k.ac,fun y hy=>?_,fun y hy=>?_,k.closed.set R hx hi hm,hwr,by rw[zkI];exact k.df.mono hle.more,zBW9 k.hZ hb.size,by rw[zpa];exact k.sz,k.le.trans hle (zAE9 _),k.bel.trans hb,k.nx,
  k.slots.step R hle.more (.refl _) hx hi fun d' hd'=>?_,fun y hy=>?_,k.dis.sub fun y hy=>(hy.unset hi).1,k.tail⟩
 .rw[zIb _ _ _ hi];split
  .rfl
  .exact k.done y hy
 .have hne:y.i≠x.i:=fun e=>by
   have hya:y∈all.filter fun x=>x.o.kind.cls==2:=by rw[<- R.ac,k.ac];exact zEI9 _ hy
   obtain⟨h1,h2⟩:=zDG9.1 hya;rw[R.uniq y h1 x hx e]at h2
   grind
  rw[zIb _ _ _ hi,if_neg hne];exact k.und y hy
 .rw[hd]at hd';injection hd' with e;subst e;exact⟨zBM9 hdN k.sz,u,hud,hv⟩
 .obtain⟨h1,h2⟩:=hy.unset hi;exact⟨hnone y h1 h2,(k.told y h1).2⟩
theorem Inv.acted(R:Reg P N ops all acts)(k:Inv P Z C ca N ops all acts tm ρ0 h0 w0 r D a w ρ pre (x::l) s)(hm:∀j,x.m.testBit j=true->D.getD j true=true){s1:DS}{a':Act}(hat:a'.tmps=a.tmps)(hs:zd5 C ca tm (zf8 all acts (pre.length+1) l) s1=some r)(hle:Rho.le s.h.next ρ ρ')(hwr:WR P Z ρ' s1.h w')(hb:Below Z w w')(hnx:s.h.next<=s1.h.next)(hnm:s.nm.sub s1.nm)(hdf:DfR ρ' ca s1.df a'.defers)(hdst:∀d,x.o.dst=some d->d<N/\∃v,s1.nm.get d=some v/\VR ρ' v v'):∃s2,Inv P Z C ca N ops all acts tm ρ0 h0 w0 r (D.setIfInBounds x.i true) (a'.put x.o.dst v') w' ρ' (pre++[x]) l s2:=by
 have hu:=k.und x zAR9;have hi:=(zku hu).2;have hxa:x∈all.filter fun x=>x.o.kind.cls==2:=by rw[<- R.ac,k.ac];simp
 obtain⟨hx,hx2⟩:=zDG9.1 hxa;have hx2:x.o.kind.cls=2:=by simpa using hx2
 have hc:=k.closed.set R hx hi hm;have hal:acts=(pre++[x])++l:=by rw[k.ac];simp
 have hdone:∀y∈pre++[x],(D.setIfInBounds x.i true).getD y.i true=true:=fun y hy=>by
  rw[zIb _ _ _ hi];split
  .rfl
  .rename_i e;rcases zBG9.1 hy with hy|hy
   .exact k.done y hy
   grind
 have hund:∀y∈all,y.o.kind.cls≠2->zhi acts y=(pre++[x]).length->(D.setIfInBounds x.i true).getD y.i true=false:=fun y hy hy2 hlow=>by
  rw[zIb _ _ _ hi]
  split
  .rename_i e;rw[R.uniq y hy x hx e]at hy2;exact absurd hx2 hy2
  .cases hd:D.getD y.i true with
   | false=>rfl
   | true =>
    exfalso
    have h1:zhi acts y<=pre.length:=by
     rw[k.ac];refine zxM fun z hz=>?_
     cases hb:y.m.testBit z.i with
     | false=>rfl
     | true=>have h2:=k.closed y hy hd _ hb;rw[k.und z hz]at h2;cases h2
    rw[hlow]at h1;simp at h1;omega
 have conv:∀y,y∈all->y.o.kind.cls≠2->zhi acts y<(pre++[x]).length->(D.setIfInBounds x.i true).getD y.i true=false->zjM all acts D pre.length y:=fun y h1 h2 h3 h4=>by
  rw[zIb _ _ _ hi]at h4
  split at h4
  .cases h4
  .exact⟨h1,h2,by simp at h3;omega,h4⟩
 have hlen:(pre++[x]).length=pre.length+1:=by simp
 rw[<- hlen]at hs;obtain⟨s2,t1,t2,t3,t4,t5,t6,t7⟩:=enter (w:=w') R hc hal hdone hund (zBW9 k.nx hnx) hwr (fun y h1 h2 h3 h4=>((k.told y (conv y h1 h2 h3 h4)).1).mono hnm hnx hle.none) ((k.dis.mono (fun y hy=>(k.told y hy).1) hnm).sub fun y ⟨h1,h2,h3,h4⟩=>conv y h1 h2 h3 h4) hs;refine⟨s2,by rw[Array.size_setIfInBounds];exact k.size,hal,hdone,fun y hy=>?_,hc,t5,by rw[t2,zkI];exact hdf,zBW9 k.hZ hb.size,by rw[zpa,hat];exact k.sz,k.le.trans hle k.nx,k.bel.trans hb,zBW9 k.nx (zBW9 hnx t4),?_,t6,t7,t1⟩
 .have hne:y.i≠x.i:=fun e=>by
   have hya:y∈all.filter fun x=>x.o.kind.cls==2:=by rw[<- R.ac,k.ac];simp[hy]
   have hyx:=R.uniq y (zDG9.1 hya).1 x hx e;have hrow:=R.row;rw[k.ac]at hrow;obtain⟨p,hp,hpe⟩:=zmD (zmQ pre hrow) hy;rw[hyx]at hpe;have:=hm _ hpe;rw[k.und p hp]at this;cases this
  rw[zIb _ _ _ hi,if_neg hne];exact k.und y (zAQ9 _ hy)
 .refine zlU.step R (a:=a') (by rw[hat];exact k.slots) hle.more (hnm.trans t3) hx hi fun d hd=>?_;obtain⟨h1,v,h2,h3⟩:=hdst d hd;exact⟨by rw[hat];exact zBM9 h1 k.sz,v,t3 _ _ h2,h3⟩
theorem zAj(hC:zhS P C)(hR:zj9 P C)(hrnd:rnd=none\/∀f,ca.get f=none)(R:Reg P N ops all acts){x:TX}(hx:zne (all.filterMap fun x=>x.o.dst) tm (some r)=some (x,s')):
  ∀(n:Nat) (D:AV) (a:Act) (w:World) (ρ:Rho) (pre l:LO) (s:DS),D.toList.count false<=n->Inv P Z C ca N ops all acts tm ρ0 h0 w0 r D a w ρ pre l s->wpAnyIn (Fr rnd) 0 P .any ops (CR P Z ρ0 N ca h0 w0 x s') n D a w:=by
 intro n
 induction n with
 | zero =>
  intro D a w ρ pre l s hn k;have hr:Region.ready .any ops D=[]:=by
   cases hr:Region.ready .any ops D with
   | nil=>rfl
   | cons i m =>
    have h1:i∈Region.ready .any ops D:=by rw[hr];exact zAR9
    have:=(zku (mem_ready.1 h1).1).1;omega
  exact⟨hr,k.fin R (zth R k.size hr) hx⟩
 | succ n ih =>
  intro D a w ρ pre l s hn k;refine⟨fun hr=>k.fin R (zth R k.size hr) hx,fun i hi=>?_⟩;obtain⟨hu0,o,ho,_⟩:=mem_ready.1 hi;obtain⟨y,hy,e⟩:=R.item i o ho;subst e;obtain⟨hu,hm⟩:=zzj R k.closed hy hi;have hcnt:(D.setIfInBounds y.i true).toList.count false<=n:=by have:=zBk hu;omega
  obtain⟨o',ho',ko⟩:=R.op y hy;rw[ho]at ho';injection ho' with e;subst e;obtain⟨tx,x1,x2,x3⟩:=k.slots.look R k.closed hy hu hm;unfold wpOpIn;rw[ho];dsimp only;have hwant:∀b,zfR tm s.nm (zec all y).guard=some b->Region.wanted o (yielded ops a.tmps)=b:=fun b hb=>zgb ko x1 (by rw[x3];exact hb)
  by_cases hy2:y.o.kind.cls=2
  ·-- zpj that acts
   have hya:y∈acts:=by rw[R.ac];exact zDG9.2 ⟨hy,by simp[hy2]⟩
   have hyl:y∈l:=by
    rw[k.ac]at hya;rcases zBG9.1 hya with h1|h1
    .rw[k.done y h1]at hu;cases hu
    .exact h1
   cases l with
   | nil=>cases hyl
   | cons z l =>
    have hyz:y=z:=by
     rcases zBA9.1 hyl with h1|h1
     .exact h1
     .have hrow:=R.row;rw[k.ac]at hrow;obtain⟨p,hp,hpe⟩:=zmD (zmQ pre hrow) h1;have:=hm _ hpe;rw[k.und p hp]at this;cases this
    subst hyz;have htail:=k.tail;simp only[zqD]at htail
    cases h1:znA C ca tm (zec all y) s with
    | none=>rw[h1]at htail;cases htail
    | some r1 =>
     rw[h1]at htail;unfold znA at h1
     split at h1
     .cases h1
     .rename_i hw;rw[hwant _ hw];simp only[zCQ9,if_false];refine⟨fun _ _=>trivial,?_⟩
      cases hp:dput s.df s.h (zhV s.nm (zec all y).dst (.tuple []))with
      | none=>rw[hp]at h1;cases h1
      | some s1 =>
       rw[hp]at h1;simp only[dgo]at h1;injection h1 with h1;subst h1;obtain⟨nm,e1,rfl⟩:=zjA hp;obtain⟨a1,a2,a3⟩:=zjB e1;rw[<- ko.dst];obtain⟨s2,k2⟩:=k.acted R hm rfl htail (.refl _ _) k.wr (.refl _ _) (zAE9 _) a1 k.df (v':=undef) fun d hd=>⟨ko.lt d hd,_,(a2 d hd).2,VR.undef ρ⟩
       exact ih _ _ _ _ _ _ _ hcnt k2
     .rename_i hw;rw[hwant _ hw];simp only[if_true]
      split at h1
      .cases h1
      .rename_i vs hv
       cases hact:act C ca y.o.kind vs s.h with
       | none=>rw[show (zec all y).kind=y.o.kind from rfl,hact]at h1;cases h1
       | some tr =>
        rw[show (zec all y).kind=y.o.kind from rfl,hact]at h1;refine zya hC hR hrnd k.wr k.hZ x1 k.df ko (x2.trans hv) hy2 hact (fun v h' e v' w' ρ' hle hwr hb hvr hnx=>?_) (fun v h' e v' w' ρ' hle hwr hb hvr hnx=>?_) (fun d e d' hdf=>?_)
        .subst e;simp only[zmJ]at h1
         cases hp:dput s.df h' (zhV s.nm (zec all y).dst v)with
         | none=>rw[hp]at h1;cases h1
         | some s1 =>
          rw[hp]at h1;simp only[dgo]at h1;injection h1 with h1;subst h1;obtain⟨nm,e1,rfl⟩:=zjA hp;obtain⟨a1,a2,a3⟩:=zjB e1;rw[<- ko.dst];obtain⟨s2,k2⟩:=k.acted R hm rfl htail hle hwr hb hnx a1 (k.df.mono hle.more) (v':=v') fun d hd=>⟨ko.lt d hd,_,(a2 d hd).2,hvr⟩
          exact ih _ _ _ _ _ _ _ hcnt k2
        .subst e;simp only[zmJ]at h1;injection h1 with h1;subst h1;dsimp only at htail;injection htail with htail;subst htail;simp only[zne]at hx;injection hx with hx;injection hx with h1 h2;subst h1;subst h2;refine⟨ρ',k.le.trans hle k.nx,k.bel.trans hb,zBW9 k.nx hnx,⟨v',rfl,hvr⟩,hwr,fun t u hu=>?_,k.sz,k.df.mono hle.more,zBW9 k.hZ hb.size⟩;obtain⟨g1,g2⟩:=zoV _ _ t u hu;obtain⟨u',b1,b2⟩:=k.slots.old t u g2 fun z hz _ hd=>g1 (zHG9.2 ⟨z,hz,hd⟩);exact⟨u',b1,b2.mono hle.more⟩
        .subst e;simp only[zmJ]at h1
         cases hp:dput (d::s.df) s.h (zhV s.nm (zec all y).dst (.tuple []))with
         | none=>rw[hp]at h1;cases h1
         | some s1 =>
          rw[hp]at h1;simp only[dgo]at h1;injection h1 with h1;subst h1;obtain⟨nm,e1,rfl⟩:=zjA hp;obtain⟨a1,a2,a3⟩:=zjB e1;rw[<- ko.dst];obtain⟨s2,k2⟩:=k.acted R (a':={ a with defers:=d'::a.defers }) hm rfl htail (.refl _ _) k.wr (.refl _ _) (zAE9 _) a1 hdf (v':=undef) fun d hd=>⟨ko.lt d hd,_,(a2 d hd).2,VR.undef ρ⟩
          exact ih _ _ _ _ _ _ _ hcnt k2
  ·-- zpj that does not
   have hlow:zhi acts y<=pre.length:=by
    rw[k.ac];refine zxM fun z hz=>?_
    cases hb:y.m.testBit z.i with
    | false=>rfl
    | true=>have h2:=hm _ hb;rw[k.und z hz]at h2;cases h2
   have hto:zjM all acts D pre.length y:=⟨hy,hy2,hlow,hu⟩
   obtain⟨⟨b,d,u,g1,g2,g3,g4,g5⟩,hsame⟩:=k.told y hto;rw[hwant _ g1];have hput:∀v',VR ρ u v'->wpAnyIn (Fr rnd) 0 P .any ops (CR P Z ρ0 N ca h0 w0 x s') n (D.setIfInBounds y.i true) (a.put o.dst v') w:=fun v' hv'=>by
    rw[<- ko.dst];exact ih _ _ _ _ _ _ _ hcnt (k.next R hy hy2 hu hm g2 (ko.lt d g2) g3 (.refl _ _) hv' k.wr (.refl _ _) fun z hz _=>(k.told z hz).1)
   cases b with
   | false =>
    simp only[zCQ9,if_false];refine⟨fun _ _=>trivial,hput _ ?_⟩;rw[g4 rfl];exact VR.undef ρ
   | true =>
    simp only[if_true];obtain⟨vs,hv,hbl⟩:=g5 rfl;obtain⟨s1,s2⟩:=hsame g1 vs d u hv g2 g3
    by_cases h0':y.o.kind.cls=0
    .exact zxh k.wr x1 ko (x2.trans hv) h0' (s1 h0') hput
    .have h1':y.o.kind.cls=1:=Decidable.byContradiction fun h1=>hy2 (zGd h0' h1);obtain⟨c,c1,c0,c2,c3⟩:=hbl h1';obtain⟨z,yy,z1,z2,z3,z4⟩:=s2 h1' c c1;have hset:=k.wr.set_none c3 z.o;refine zxl hset k.hZ x1 ko (x2.trans hv) h1' c3 (by rw[TH.next_set];exact c2) z1 (by rw[TH.get_set _ _ _ _ c2,if_pos rfl]) fun v' w1 L S q1 q2 hbl1=>?_;rw[z2]at q2;have hmore:=Rho.add_more (loc:=⟨w.heap.size,L,S⟩) (c3 0);rw[<- ko.dst];refine ih _ _ _ _ _ _ _ hcnt (k.next R hy hy2 hu hm g2 (ko.lt d g2) g3 ⟨hmore,fun b hb hn g=>?_⟩ q2 (q1.unset z3 z4) hbl1 fun x' hx' hne=>?_)
     .rw[Rho.add_ne zo];exact hn g
     .obtain⟨b',d',u',e1,e2,e3,e4,e5⟩:=(k.told x' hx').1;refine⟨b',d',u',e1,e2,e3,e4,fun hb'=>?_⟩;obtain⟨vs',e6,e7⟩:=e5 hb';refine⟨vs',e6,fun hk=>?_⟩;obtain⟨c',i1,i0,i2,i3⟩:=e7 hk;refine⟨c',i1,i0,i2,fun g=>?_⟩;have hcc:c'≠c:=fun e=>by
       rw[e]at i1;refine k.dis y x' d d' u u' c hto hx' h1' hk g2 e2 (fun ed=>?_) g3 e3 c1 i1;rw[<- ed]at e2;exact zv4 R.tmps hy hx'.1 hne g2 e2
      rw[Rho.add_ne hcc];exact i3 g
end
theorem zEo{C:zce}(hC:zhS P C)(hR:zj9 P C){rnd:LC}{ca:LH}(hrnd:rnd=none\/∀f,ca.get f=none)(hmix:P.follows .mixedOrders=true){N:Nat}{id:Nat}{ops:AF}{os:LS}(hts:zd2 (znS P N ops) ops.toList=some os){c:zbS}(hc:zqS ops.toList os=some c)
  {s:St} {a:Act} (k:StR P Z ρ N ca s a w) {M:Nat} {trnd:LC} {x:TX} {s':St} (hs:zbX C ca M trnd c s=some (x,s')):(Code.region id ops true).wpIn (Fr rnd) 0 P (CR P Z ρ N ca s.h w x s') a w:=by
 obtain⟨all,acts,R,rfl⟩:=zAV hts hc;simp only[zbX]at hs;refine wpIn_region_any hmix ?_
 cases hst:zd5 C ca s.tm (zf8 all acts 0 acts) ⟨.nil,s.df,s.h⟩with
 | none=>rw[hst]at hs;cases hs
 | some r =>
  rw[hst]at hs;have hund:∀x∈all,(Array.replicate ops.size false).getD x.i true=false:=fun x hx=>by
   have:=R.lt hx
   simp_all
  have hclosed:ziZ all (Array.replicate ops.size false):=fun x hx hd=>by rw[hund x hx]at hd;cases hd
  have hwr:WR P Z ρ s.h w.drew:=k.wr.drew;obtain⟨s2,t1,t2,t3,t4,t5,t6,t7⟩:=enter (C:=C) (ca:=ca) (tm:=s.tm) (pre:=[]) (l:=acts) (w:=w.drew) (s:=⟨.nil,s.df,s.h⟩) (m:=s.h.next) R hclosed rfl (fun a ha=>by cases ha) (fun x hx _ _=>hund x hx) (zAE9 _) hwr (fun x _ _ h=>by simp at h) (fun x x' _ _ _ _ _ g=>by simp at g) hst;have hin:∀y∈acts,y∈all:=fun y hy=>by rw[R.ac]at hy;exact(zDG9.1 hy).1
  refine zAj hC hR hrnd R hs ops.size _ a w.drew ρ [] acts s2 ?_ ⟨(by simp),rfl,fun y hy=>(by cases hy),fun y hy=>hund y (hin y hy),hclosed,t5,(by rw[t2];exact k.df),k.hZ,k.sz,.refl _ _,⟨rfl,rfl,rfl,zAE9 _,fun _ _=>rfl⟩,t4,⟨fun t v hv _=>k.tm t v hv,fun y hy hd=>(by rw[hund y hy]at hd;cases hd)⟩,t6,t7,t1⟩;exact zBW9 (List.count_le_length) (by simp)
section
variable {F:Fence}{n:Nat}{Q:Exit->Act->World->Prop}{a:Act}
variable {b:Frame}{c:Code}{cs:List Frame}{k:List Go.Item}
theorem zoF:step P (lone (b.atR a (.code (.scope c)::k)) cs w)=.next (lone (b.atR a (.code c::.inScope c::k)) cs w) :=
 step_lone_go (by simp[stepG,stepG.exec,Frame.atR])
theorem ztS:step P (lone (b.atR a (.inScope c::k)) cs w)=.next (lone (b.atR a k) cs w) :=
 step_lone_go (by simp[stepG,stepG.exec,Frame.atR])
theorem znm(id:Nat)(c:Code)(k:List Go.Item):exitTo id (.inScope c::k)=exitTo id k:=by simp[exitTo]
theorem zl4(J:Act->World->Prop)(l:Nat)(hf:(∀a w,¬J a w)\/∃rest,findLabel c l=some rest/\∀a w,J a w->rest.wpIn F n P (Exit.noGoto Q) a w)(first:c.wpIn F n P (Exit.jump l J Q) a w):(Code.scope c).wpIn F n P Q a w:=by
 intro b k cs hro hb hr;have h0:(lone (b.atR a (.code (.scope c)::k)) cs w).fenced P F:=fenced_calm hb hr rfl;have tl:∀{e:Exit} {a₁:Act} {w₁:World} {m:Machine},(∀l,e ≠ .goto l)->ArrivesIn (Machine.fenced P F) P m b (.inScope c::k) cs e a₁ w₁->ArrivesIn (Machine.fenced P F) P m b k cs e a₁ w₁:=fun{e a₁ w₁ m} hne harr=>by
  cases e with
  | normal=>exact StepsIn.trans harr (.one (fenced_calm hb hr rfl) ztS)
  | exit id=>exact⟨fun k' hk=>harr.1 k' (by rw[znm];exact hk),fun hr' hk=>harr.2 hr' (by rw[znm];exact hk)⟩
  | goto l'=>exact absurd rfl (hne l')
  | ret=>exact harr
  | panic ch=>exact harr
  | outgrown=>exact harr
 obtain⟨e,a₁,w₁,hq,harr⟩:=first b (.inScope c::k) cs hro hb hr
 by_cases hg:∃l',e=.goto l'
 .obtain⟨l',rfl⟩:=hg;obtain⟨rfl,hJ⟩:=hq;rcases hf with hf|⟨rest,hf,hpass⟩
  .grind
  .have hgo:gotoIn l' (.inScope c::k)=some (.code rest::.inScope c::k):=by simp[gotoIn,hf]
   obtain⟨e₂,a₂,w₂,hq₂,harr₂⟩:=hpass a₁ w₁ hJ b (.inScope c::k) cs hro hb hr;have hne:∀l,e₂ ≠ .goto l:=fun l e=>by subst e;exact hq₂
   refine⟨e₂,a₂,w₂,?_,.of_steps (.head h0 zoF (harr.1 _ hgo)) (tl hne harr₂)⟩
   cases e₂<;>first|exact hq₂|exact absurd rfl (hne _)
 .have hne:∀l,e ≠ .goto l:=fun l e=>hg ⟨l,e⟩;refine⟨e,a₁,w₁,?_,.of_steps (.one h0 zoF) (tl hne harr)⟩
  cases e<;>first|exact hq|exact absurd rfl (hne _)
end
def Rnd(ρ:Rho):LC->LC->Prop
 | none,none=>True
 | some l,some r=>∃loc,ρ l 0=some loc/\loc.r=r
 | _,_=>False
variable {assign:Code}{bo:zbS}{body:Code}{ps:Array Tmp}{s:St}{trnd:LC}
theorem Rnd.mono(hρ:∀b g loc,ρ b g=some loc->ρ' b g=some loc){t r:LC}(k:Rnd ρ t r):Rnd ρ' t r:=by
 cases t<;>cases r<;>first|exact k|skip
 obtain⟨loc,h1,h2⟩:=k;exact⟨loc,hρ _ _ _ h1,h2⟩
theorem zm5{r:Nat}(hr:Z<=r)(o:Obj):Below Z w (w.putObj r o):=⟨rfl,rfl,rfl,by simp,fun k hk=>World.putObj_heap_other zo⟩
theorem zmC{l:Nat}{r:Loop}(hl:w.heap[l]?=some (.loop r))(fn:FuncId)(tmps:LW)(ps:Array Tmp)(assign body:Code) :
  (Instr.enterLoop fn tmps ps assign body (some l)).run P w=.ok (w.heap.size,[]) (w.alloc (.loop { state:=.ready,pending:=none,fn,tmps,params:=ps,assign,body,defers:=r.defers })):=by
 unfold Instr.enterLoop;simp only[Sem.run_bind,run_getLoop hl,run_newObj_alloc,Result.andThen,Sem.run_pure]
theorem WR.none_at(k:WR P Z ρ h w)(g:Nat):ρ h.next g=none:=by
 cases hg:ρ h.next g with
 | none=>rfl
 | some loc=>have:=(k.dom _ _ _ hg).1;omega
theorem Rho.le_add{b:Nat}(hb:n<=b)(hn:ρ b 0=none){loc:Loc}:Rho.le n ρ (ρ.add b 0 loc) :=
 ⟨Rho.add_more hn,fun c hc h g=>by rw[Rho.add_ne zo];exact h g⟩
theorem zC5{rnd:LC}(k:StR P Z ρ N ca s a w)(kr:Rnd ρ trnd rnd){x:zEv}(hx:zno trnd s=some x){aS:zbS}(hps:∀p∈ps.toList,p<N)(has:zc7 P N n assign=some aS)(hbo:zc7 P N m body=some bo)(fn:FuncId):
  ∃lr mark w1 ρ1 loc,(Instr.enterLoop fn a.tmps ps assign body rnd).run P w=.ok (lr,mark) w1/\Rho.le s.h.next ρ ρ1/\ρ1 x.l 0=some loc/\loc.r=lr/\WR P Z ρ1 (x.h.push (.loop .ready .norm s.tm ps.toList aS bo x.d)) w1/\Below Z w w1/\DfR ρ1 ca x.df (mark++a.defers)/\s.h.next<=x.h.next:=by
 cases trnd with
 | none =>
  cases rnd with
  | some r=>exact kr.elim
  | none =>
   simp only[zno]at hx;injection hx with hx;subst hx;have k1:WR P Z ρ (s.h.push (.dfr false)) w:=k.wr.push _;have hn:=k.wr.none_at
   have k2:=k1.real (x:=.dfr false) (o:=.deferred (some [])) (L:=0) (S:=0) hn (by rw[TH.nP];omega) k.hZ (by rw[TH.gP,if_pos rfl]) ⟨_,Rho.aS _ _ _ _,World.alloc_heap_new _ _⟩;have le1:=Rho.le_add (ρ:=ρ) (loc:=⟨w.heap.size,0,0⟩) (zAE9 s.h.next) (hn 0);have k3:=k2.push (.loop .ready .norm s.tm ps.toList aS bo s.h.next);have hn2:=k2.none_at
   rw[TH.nP]at hn2;have le2:=Rho.le_add (ρ:=ρ.add s.h.next 0 ⟨w.heap.size,0,0⟩) (loc:=⟨(w.alloc (.deferred (some []))).heap.size,0,0⟩) (Nat.le_succ s.h.next) (hn2 0);have hZ2:Z<=(w.alloc (.deferred (some []))).heap.size:=by have:=k.hZ;simp;omega
   have k4:=k3.real (x:=.loop .ready .norm s.tm ps.toList aS bo s.h.next) (b:=s.h.next+1) (L:=0) (S:=0) (o:=.loop { state:=.ready,pending:=none,fn,tmps:=a.tmps,params:=ps,assign,body,defers:=w.heap.size }) hn2 (by rw[TH.nP,TH.nP];omega) hZ2 (by rw[TH.gP,TH.nP,if_pos rfl])
    ⟨_,_,⟨w.heap.size,0,0⟩,N,n,m,Rho.aS _ _ _ _,le2.more _ _ _ (Rho.aS _ _ _ _),World.alloc_heap_new _ _,rfl,rfl,(k.tm.mono le1.more).mono le2.more,k.sz,rfl,hps,has,hbo,rfl⟩
   refine⟨_,_,_,_,_,run_enterLoop_outer fn a.tmps ps assign body,le1.trans le2 (zAE9 _),Rho.aS _ _ _ _,by simp,k4,((Below.refl Z w).alloc k.hZ _).trans ((Below.refl Z _).alloc hZ2 _),?_,by dsimp only;rw[TH.nP];omega⟩;exact .mark (le2.more _ _ _ (Rho.aS _ _ _ _)) ((k.df.mono le1.more).mono le2.more)
 | some l0 =>
  cases rnd with
  | none=>exact kr.elim
  | some r =>
   obtain⟨loc0,hl0,rfl⟩:=kr;simp only[zno]at hx;obtain⟨o,ho,hor⟩:=k.wr.obj _ _ _ hl0;rw[ho]at hx;dsimp only at hx
   cases o with
   | loop st pe tm' ps' as' bo' d =>
    simp only[zEE]at hx;injection hx with hx;subst hx;obtain⟨loc1,rec,locd,N',n',m',q1,q2,q3,_,_,_,_,_,_,_,_,q4⟩:=hor;rw[hl0]at q1;injection q1 with q1;subst q1;have hn:=k.wr.none_at
    have k3:=k.wr.push (.loop .ready .norm s.tm ps.toList aS bo d);have le2:=Rho.le_add (ρ:=ρ) (loc:=⟨w.heap.size,0,0⟩) (zAE9 s.h.next) (hn 0);have k4:=k3.real (x:=.loop .ready .norm s.tm ps.toList aS bo d) (b:=s.h.next) (L:=0) (S:=0) (o:=.loop { state:=.ready,pending:=none,fn,tmps:=a.tmps,params:=ps,assign,body,defers:=rec.defers }) hn (by rw[TH.nP];omega) k.hZ (by rw[TH.gP,if_pos rfl])
     ⟨_,_,locd,N,n,m,Rho.aS _ _ _ _,le2.more _ _ _ q2,World.alloc_heap_new _ _,rfl,rfl,k.tm.mono le2.more,k.sz,rfl,hps,has,hbo,q4⟩
    exact⟨_,_,_,_,_,zmC q3 fn a.tmps ps assign body,le2,Rho.aS _ _ _ _,rfl,k4,(Below.refl Z w).alloc k.hZ _,k.df.mono le2.more,zAE9 _⟩
   | row=>cases hx
   | map=>cases hx
   | dfr=>cases hx
   | ro=>cases hx
theorem zCu{C:zce}(hC:zhS P C){rnd:LC}(k:StR P Z ρ N ca s a w)(kr:Rnd ρ trnd rnd){g:Operand}{gid:Nat}{cap:LK}(hg:VR ρ (.fn gid cap) (a.eval g)){aS:zbS}(hps:∀p∈ps.toList,p<N)(has:zc7 P N n assign=some aS)(hbo:zc7 P N m body=some bo){x:TX}{s':St}(hs:zpH C trnd gid cap ps.toList aS bo s=some (x,s')):(Code.rangeFunc g ps assign body).wpIn (Fr rnd) 0 P (CR P Z ρ N ca s.h w x s') a w:=by
 unfold zpH at hs
 split at hs
 .cases hs
 .rename_i st hst
  cases hc:C.fn gid (.yield st.l::cap) (st.h.push (.loop .ready .norm s.tm ps.toList aS bo st.d))with
  | none=>rw[hc]at hs;cases hs
  | some res =>
   obtain⟨te,h1⟩:=res;rw[hc]at hs
   cases te with
   | panic v=>cases hs
   | ret v =>
    simp only[zul]at hs
    cases ho:h1.get st.l with
    | none=>rw[ho]at hs;cases hs
    | some o =>
     rw[ho]at hs;dsimp only at hs;refine wpIn_rangeFunc fun fn hfn=>?_;obtain⟨lr,mark,w1,ρ1,loc,e1,e2,e3,e4,e5,e6,e7,e8⟩:=zC5 k kr hst hps has hbo fn;subst e4;have hg1:=hg.mono e2.more;generalize hgv:a.eval g=gv at hg1
     cases hg1 with
     | fn hcl hcr =>
      rename_i caps;obtain⟨hent,hcalls⟩:=hC gid _ _ _ h1 hc Z ρ1 w1 (.func (.yield loc.r) #[] #[]::caps) e5 (zBW9 k.hZ e6.size) (.cons (.yield e3) ⟨hcl,hcr⟩);refine⟨loc.r,mark,w1,{ target:=.fn (.func gid) caps.toArray,args:=#[.func (.yield loc.r) #[] #[]] },w1,gid,(.func (.yield loc.r) #[] #[]::caps).toArray,w1,e1,?_,fun _ _=>trivial,?_,fun hd=>by simp[Fr,Fence.wide]at hd,?_⟩
      .have hy:a.eval (.const (.func (.yield loc.r) #[] #[]))=.func (.yield loc.r) #[] #[]:=rfl;simp[resolve,rangeCall,hgv,Deferred.ofValue,hy]
      .have:(#[.func (.yield loc.r) #[] #[]]:LW)++caps.toArray=(.func (.yield loc.r) #[] #[]::caps).toArray:=by simp
       simp only[invoke,this];exact hent w1
      .refine CallsIn.mono (zyP.2 hcalls) ?_;rintro e w2 ⟨ρ2,g1,g2,g3,g4,v',rfl,g5⟩;have g1':Rho.le s.h.next ρ ρ2:=e2.trans g1 (by rw[TH.nP];omega);have hl2:=g1.more _ _ _ e3;obtain⟨o',ho',hor⟩:=g2.obj _ _ _ hl2;rw[ho]at ho';injection ho' with ho';subst ho'
       cases o with
       | row=>cases hs
       | map=>cases hs
       | dfr=>cases hs
       | ro=>cases hs
       | loop st' pe tm' ps' as' bo' d =>
        obtain⟨loc1,rec,locd,N',n',m',q1,q2,q3,q4,q5,q6,q7,q8,q9,q10,q11,q12⟩:=hor;rw[hl2]at q1;injection q1 with q1;subst q1;have hnb:rec.state ≠ .busy:=fun hb=>by rw[q4]at hb;subst hb;cases hs
        have hs':some (pe,(⟨s.tm,st.df,h1.set st.l (.loop .exhausted pe tm' ps' as' bo' d)⟩:St))=some (x,s'):=by
         rw[<- hs]
         cases st'<;>first|rfl|(exact absurd q4 hnb)
        injection hs' with hs';injection hs' with hs1 hs2;subst hs1;subst hs2;have hZo:∀g' loc',ρ2 st.l g'=some loc'->Z<=loc'.r:=fun g' loc' hl'=>g2.own hl' ho (fun cs h=>by cases h);have hdm:=g2.dom _ _ _ hl2;have hZr:=hZo _ _ hl2;have hput:(w2.putObj loc.r (.loop { rec with state:=.exhausted })).heap[loc.r]?=some (.loop { rec with state:=.exhausted }):=World.putObj_heap_same hdm.2.2;have hne:∀c g' l',c≠st.l->ρ2 c g'=some l'->l'.r≠loc.r:=fun c g' l' hc hl' e=>hc (g2.sep _ _ _ _ _ _ hl' hl2 e zo);have k2:=g2.change (ρ':=ρ2) (x':=.loop .exhausted pe tm' ps' as' bo' d) (fun _ _ _ h=>h) (fun _ _ _=>rfl) hl2 (w':=w2.putObj loc.r (.loop { rec with state:=.exhausted })) (by simp) (fun c g' l' hc hl'=>World.putObj_heap_other (hne c g' l' hc hl'))
         ⟨loc,_,locd,N',n',m',hl2,q2,hput,rfl,q5,q6,q7,q8,q9,q10,q11,q12⟩ (fun g' l' hl'=>by
          have hd':=g2.dom _ _ _ hl';exact⟨hZo _ _ hl',by simp;exact hd'.2.2⟩) (fun g' l' hl' c g'' l'' hc hl'' e=>hc (g2.sep _ _ _ _ _ _ hl' hl'' e (hZo _ _ hl')).symm)
        have hb2:=zm5 (w:=w2) hZr (.loop { rec with state:=.exhausted });have hCR:∀e,XR ρ2 pe e->CR P Z ρ N ca s.h w pe ⟨s.tm,st.df,h1.set st.l (.loop .exhausted pe tm' ps' as' bo' d)⟩ e { a with defers:=mark++a.defers } (w2.putObj loc.r (.loop { rec with state:=.exhausted })):=fun e he =>
         ⟨ρ2,g1',(e6.trans g3).trans hb2,by
          rw[TH.next_set];rw[TH.nP]at g4;omega,he,k2,k.tm.mono g1'.more,k.sz,e7.mono g1.more,zBW9 k.hZ ((e6.trans g3).trans hb2).size⟩
        refine⟨rec.pending,_,run_endLoop q3 hnb,?_⟩
        suffices hpd:∀pd,pd=rec.pending->(match pd with
         | none=>CR P Z ρ N ca s.h w pe ⟨s.tm,st.df,h1.set st.l (.loop .exhausted pe tm' ps' as' bo' d)⟩ .normal { a with defers:=mark++a.defers } (w2.putObj loc.r (.loop { rec with state:=.exhausted }))
         | some c=>c.wpIn (Fr rnd) 0 P (CR P Z ρ N ca s.h w pe ⟨s.tm,st.df,h1.set st.l (.loop .exhausted pe tm' ps' as' bo' d)⟩) { a with defers:=mark++a.defers } (w2.putObj loc.r (.loop { rec with state:=.exhausted }))) by grind
        intro pd hpd;rw[<- hpd]at q5
        cases pe with
        | norm =>
         have q5:pd=none:=q5;subst q5;exact hCR _ rfl
        | exit id =>
         have q5:pd=some (.exit id):=q5;subst q5;exact wpIn_exit (hCR _ rfl)
        | goto l =>
         have q5:pd=some (.goto l):=q5;subst q5;exact wpIn_goto (hCR _ rfl)
        | ret =>
         have q5:pd=some .ret:=q5;subst q5;exact wpIn_ret (hCR _ rfl)
        | panic v=>exact q5.elim
end Tw
end Go.Proofs.YtkeknmgnoceogaaGreat
