/- part 4 of the proof of tree_takes. -/
import Derived.Test.YtfomlmhnmheenaaGreatTT3
import Derived.KernelRfl
import Derived.WalkKit
import Derived.Shelf.Abstract
import Derived.Test.YtfomlmhnmheenaaGreatProg
set_option linter.unusedSimpArgs false
set_option linter.unusedVariables false
set_option maxRecDepth 1000000
namespace Go.Proofs.YtfomlmhnmheenaaGreat
namespace Tw
def fnO (P : Program) (f : Func) : Option zD := bif f.name == "runtime.NumGoroutine" then none else zjv P f
def mkT (P:Program):List Func->Nat->Tr zD->Tr zD
 | [],_,t=>t
 | f::l,i,t=>mkT P l (i+1) (t.set i (fnO P f))
noncomputable def zeo:Tr zD:=mkT Tryz.prog Tryz.prog.funcs.toList 0 .nil
theorem zsk {P:Program}:∀{l:List Func} {i:Nat} {t:Tr zD} {f:Nat} {F:zD},(mkT P l i t).get f=some F->(∃k fn,f=i+k/\l[k]?=some fn/\fnO P fn=some F)\/t.get f=some F
 | [],i,t,f,F,h=>.inr h
 | g::l,i,t,f,F,h=>by
  rcases zsk (l:=l) h with⟨k,fn,h1,h2,h3⟩|h
  ·exact .inl ⟨k+1,fn,by omega,h2,h3⟩
  ·rw[Tr.get_set]at h
   split at h
   ·rename_i e;exact .inl ⟨0,g,e,rfl,h⟩
   ·exact .inr h
theorem zqN {P:Program}:∀(l:List Func) (i:Nat) (t:Tr zD) (n:Nat),n<i->(mkT P l i t).get n=t.get n
 | [],_,_,_,_=>rfl
 | g::l,i,t,n,h=>by
  show (mkT P l (i+1) (t.set i (fnO P g))).get n=_;rw[zqN l (i+1) _ n (by omega),Tr.get_set,if_neg (by omega)]
theorem ztm {P:Program}:∀(l:List Func) (i:Nat) (t:Tr zD) (k:Nat) (f:Func),l[k]?=some f->(mkT P l i t).get (i+k)=fnO P f
 | [],_,_,k,f,h=>by simp at h
 | g::l,i,t,0,f,h=>by
  injection h with h;subst h;show (mkT P l (i+1) (t.set i (fnO P g))).get (i+0)=_;rw[zqN l (i+1) _ _ (by omega),Tr.get_set,if_pos (zDF9 i)]
 | g::l,i,t,k+1,f,h=>by
  show (mkT P l (i+1) (t.set i (fnO P g))).get (i+(k+1))=_;rw[show i+(k+1)=i+1+k by omega];exact ztm l (i+1) _ k f h
theorem zAe {n:Nat}{f:Func}{F:zD}(h:Tryz.prog.funcs[n]?=some f)(hF:fnO Tryz.prog f=some F:=by kernel_rfl):zeo.get n=some F:=by
 have:=ztm (P:=Tryz.prog) Tryz.prog.funcs.toList 0 .nil n f (by rw[zBZ9];exact h);rw[zAR9]at this;exact this.trans hF
def zzI (p:Nat×zD):Prop:=∃fn,Tryz.prog.funcs[p.1]?=some fn/\zjv Tryz.prog fn=some p.2/\∀(args:Array Value) w,(callFunc p.1 args).run Tryz.prog w=.ok (.enter p.1 args) w
theorem zlS:∀f F,zeo.get f=some F->zzI (f,F):=fun f F h=>by
 rcases zsk h with⟨k,fn,h1,h2,h3⟩|h
 ·obtain rfl:f=k:=by omega
  rw[zBZ9]at h2;unfold fnO at h3
  cases hn : fn.name == "runtime.NumGoroutine" with
  | true=>rw[hn]at h3;cases h3
  | false =>
   rw[hn]at h3;have h3:zjv Tryz.prog fn=some F:=h3
   cases hb:fn.body with
   | none=>unfold zjv at h3;rw[hb]at h3;cases h3
   | some c=>exact⟨fn,h2,h3,enters_of h2 hn hb⟩
 ·rw[Tr.get_nil]at h;cases h
def xT (f:Func){x:zD}(h:fnO Tryz.prog f=some x:=by with_unfolding_all (conv=>lhs;reduce)):zD:=x
def zdV (i:Nat):zbk->Option zbk
 | .block j b=>bif Nat.beq i j then some (.block j b)else zdV i b
 | .seq a b=>match zdV i a with
  | some x=>some x
  | none=>zdV i b
 | .cond _ a b=>match zdV i a with
  | some x=>some x
  | none=>zdV i b
 | .loop b=>zdV i b
 | .rangef _ _ _ b=>zdV i b
 | .scope b _ r=>match zdV i b with
  | some x=>some x
  | none=>zdV i r
 | .scope0 b=>zdV i b
 | _=>none
def xC (o:Option zbk){x:zbk}(h:o=some x:=by with_unfolding_all (conv=>lhs;reduce)):zbk:=x
def zg1:Tr Unit:=(Tr.set .nil 35 (some ())).set 128 (some ())
def zBe:Nat:=31
noncomputable section
def T3:zD:=xT Tryz.f3
def T4:zD:=xT Tryz.f4
def T5:zD:=xT Tryz.f5
def T8:zD:=xT Tryz.f8
def T11:zD:=xT Tryz.f11
def T12:zD:=xT Tryz.f12
def T13:zD:=xT Tryz.f13
def T14:zD:=xT Tryz.f14
def T15:zD:=xT Tryz.f15
def T16:zD:=xT Tryz.f16
def T17:zD:=xT Tryz.f17
def T18:zD:=xT Tryz.f18
def T19:zD:=xT Tryz.f19
def T20:zD:=xT Tryz.f20
def T22:zD:=xT Tryz.f22
def T23:zD:=xT Tryz.f23
def T26:zD:=xT Tryz.f26
def T27:zD:=xT Tryz.f27
def T28:zD:=xT Tryz.f28
def T33:zD:=xT Tryz.f33
def T40:zD:=xT Tryz.f40
def T42:zD:=xT Tryz.f42
def T43:zD:=xT Tryz.f43
def T45:zD:=xT Tryz.f45
def T46:zD:=xT Tryz.f46
def T47:zD:=xT Tryz.f47
def T48:zD:=xT Tryz.f48
def T49:zD:=xT Tryz.f49
def T50:zD:=xT Tryz.f50
def T51:zD:=xT Tryz.f51
def T52:zD:=xT Tryz.f52
def T53:zD:=xT Tryz.f53
def T55:zD:=xT Tryz.f55
def T57:zD:=xT Tryz.f57
def T58:zD:=xT Tryz.f58
def T60:zD:=xT Tryz.f60
def T61:zD:=xT Tryz.f61
def T62:zD:=xT Tryz.f62
def T63:zD:=xT Tryz.f63
def T64:zD:=xT Tryz.f64
def T65:zD:=xT Tryz.f65
def T67:zD:=xT Tryz.f67
def T68:zD:=xT Tryz.f68
def T69:zD:=xT Tryz.f69
def T70:zD:=xT Tryz.f70
def T71:zD:=xT Tryz.f71
def T72:zD:=xT Tryz.f72
def T73:zD:=xT Tryz.f73
def T80:zD:=xT Tryz.f80
def T81:zD:=xT Tryz.f81
def T85:zD:=xT Tryz.f85
def T90:zD:=xT Tryz.f90
def T91:zD:=xT Tryz.f91
def T92:zD:=xT Tryz.f92
def T93:zD:=xT Tryz.f93
def T94:zD:=xT Tryz.f94
def T95:zD:=xT Tryz.f95
def T96:zD:=xT Tryz.f96
def T97:zD:=xT Tryz.f97
def T98:zD:=xT Tryz.f98
def T99:zD:=xT Tryz.f99
def T102:zD:=xT Tryz.f102
def T103:zD:=xT Tryz.f103
def T104:zD:=xT Tryz.f104
def T105:zD:=xT Tryz.f105
def T106:zD:=xT Tryz.f106
def T107:zD:=xT Tryz.f107
def T108:zD:=xT Tryz.f108
def T109:zD:=xT Tryz.f109
def T119:zD:=xT Tryz.f119
def T120:zD:=xT Tryz.f120
def T121:zD:=xT Tryz.f121
def T122:zD:=xT Tryz.f122
def T123:zD:=xT Tryz.f123
def T124:zD:=xT Tryz.f124
def T125:zD:=xT Tryz.f125
def T130:zD:=xT Tryz.f130
def T132:zD:=xT Tryz.f132
def T135:zD:=xT Tryz.f135
def T137:zD:=xT Tryz.f137
def T138:zD:=xT Tryz.f138
def T139:zD:=xT Tryz.f139
def T140:zD:=xT Tryz.f140
def T141:zD:=xT Tryz.f141
def T142:zD:=xT Tryz.f142
def T143:zD:=xT Tryz.f143
def T144:zD:=xT Tryz.f144
def T156:zD:=xT Tryz.f156
def T157:zD:=xT Tryz.f157
def T158:zD:=xT Tryz.f158
def T159:zD:=xT Tryz.f159
def T160:zD:=xT Tryz.f160
def T161:zD:=xT Tryz.f161
def T162:zD:=xT Tryz.f162
def T163:zD:=xT Tryz.f163
def T164:zD:=xT Tryz.f164
def T165:zD:=xT Tryz.f165
def T166:zD:=xT Tryz.f166
def T167:zD:=xT Tryz.f167
def T170:zD:=xT Tryz.f170
def T173:zD:=xT Tryz.f173
def T174:zD:=xT Tryz.f174
def T175:zD:=xT Tryz.f175
def T176:zD:=xT Tryz.f176
def T181:zD:=xT Tryz.f181
def T182:zD:=xT Tryz.f182
def T183:zD:=xT Tryz.f183
def T184:zD:=xT Tryz.f184
def T185:zD:=xT Tryz.f185
def T188:zD:=xT Tryz.f188
def T195:zD:=xT Tryz.f195
def T196:zD:=xT Tryz.f196
def T197:zD:=xT Tryz.f197
def T198:zD:=xT Tryz.f198
def T199:zD:=xT Tryz.f199
def T200:zD:=xT Tryz.f200
def T201:zD:=xT Tryz.f201
def T202:zD:=xT Tryz.f202
def T203:zD:=xT Tryz.f203
def T204:zD:=xT Tryz.f204
def T205:zD:=xT Tryz.f205
def T206:zD:=xT Tryz.f206
def T207:zD:=xT Tryz.f207
def T208:zD:=xT Tryz.f208
def T209:zD:=xT Tryz.f209
def T210:zD:=xT Tryz.f210
def T211:zD:=xT Tryz.f211
def T212:zD:=xT Tryz.f212
def T213:zD:=xT Tryz.f213
def T214:zD:=xT Tryz.f214
def T215:zD:=xT Tryz.f215
def T216:zD:=xT Tryz.f216
def T217:zD:=xT Tryz.f217
def T219:zD:=xT Tryz.f219
def T220:zD:=xT Tryz.f220
def T223:zD:=xT Tryz.f223
def T9:zD:=xT Tryz.f9
def T10:zD:=xT Tryz.f10
def T30:zD:=xT Tryz.f30
def T34:zD:=xT Tryz.f34
def T36:zD:=xT Tryz.f36
def T37:zD:=xT Tryz.f37
def T38:zD:=xT Tryz.f38
def T39:zD:=xT Tryz.f39
def T41:zD:=xT Tryz.f41
def T44:zD:=xT Tryz.f44
def T56:zD:=xT Tryz.f56
def T75:zD:=xT Tryz.f75
def T76:zD:=xT Tryz.f76
def T77:zD:=xT Tryz.f77
def T82:zD:=xT Tryz.f82
def T83:zD:=xT Tryz.f83
def T84:zD:=xT Tryz.f84
def T86:zD:=xT Tryz.f86
def T87:zD:=xT Tryz.f87
def T88:zD:=xT Tryz.f88
def T89:zD:=xT Tryz.f89
def T100:zD:=xT Tryz.f100
def T101:zD:=xT Tryz.f101
def T110:zD:=xT Tryz.f110
def T111:zD:=xT Tryz.f111
def T112:zD:=xT Tryz.f112
def T113:zD:=xT Tryz.f113
def T114:zD:=xT Tryz.f114
def T115:zD:=xT Tryz.f115
def T116:zD:=xT Tryz.f116
def T126:zD:=xT Tryz.f126
def T129:zD:=xT Tryz.f129
def T131:zD:=xT Tryz.f131
def T133:zD:=xT Tryz.f133
def T134:zD:=xT Tryz.f134
def T136:zD:=xT Tryz.f136
def T145:zD:=xT Tryz.f145
def T146:zD:=xT Tryz.f146
def T147:zD:=xT Tryz.f147
def T148:zD:=xT Tryz.f148
def T149:zD:=xT Tryz.f149
def T150:zD:=xT Tryz.f150
def T151:zD:=xT Tryz.f151
def T152:zD:=xT Tryz.f152
def T153:zD:=xT Tryz.f153
def T154:zD:=xT Tryz.f154
def T155:zD:=xT Tryz.f155
def T168:zD:=xT Tryz.f168
def T169:zD:=xT Tryz.f169
def T171:zD:=xT Tryz.f171
def T177:zD:=xT Tryz.f177
def T178:zD:=xT Tryz.f178
def T186:zD:=xT Tryz.f186
def T187:zD:=xT Tryz.f187
def T189:zD:=xT Tryz.f189
def T190:zD:=xT Tryz.f190
def T191:zD:=xT Tryz.f191
def T192:zD:=xT Tryz.f192
def T193:zD:=xT Tryz.f193
def T194:zD:=xT Tryz.f194
def T218:zD:=xT Tryz.f218
def T222:zD:=xT Tryz.f222
def c60_4:zbk:=xC (zdV 4 T60.body)
def c60_6:zbk:=xC (zdV 6 T60.body)
def c60_2:zbk:=xC (zdV 2 T60.body)
def c26_0:zbk:=xC (zdV 0 T26.body)
def c26_2:zbk:=xC (zdV 2 T26.body)
def c26_6:zbk:=xC (zdV 6 T26.body)
def c26_8:zbk:=xC (zdV 8 T26.body)
def c27_0:zbk:=xC (zdV 0 T27.body)
def c27_4:zbk:=xC (zdV 4 T27.body)
def c27_6:zbk:=xC (zdV 6 T27.body)
def c27_8:zbk:=xC (zdV 8 T27.body)
end
def zeU:List TV->Option (List (Int×Nat))
 | []=>some []
 | .int .i64 a::.int .u64 (.ofNat b)::l=>(match zeU l with
  | some r=>some ((a,b)::r)
  | none=>none)
 | _=>none
def zyw (e0:Nat):TO->Bool
 | .row e _ _ _ _=>Nat.beq e e0
 | _=>false
def zup (h:TH)(b n g e:Nat)(news old:List TV):Option (TE×TH):=match zeU news,zeU old with
 | some _,some _=>some (.ret (.sl b (g+1) 0 (n+1) (2*(n+1)) 2),h.set b (.row e (g+1) (g+1) ((n+1)*2) (Tr.putL .nil 0 (news++old))))
 | _,_=>none
def ztT (e0:Nat)(h:TH)(b n g:Nat)(news:List TV):TO->Option (TE×TH)
 | .row e G _ len cells=>bif Nat.beq e e0 then bif Nat.beq g G then bif Nat.beq (n*2) len then(match cells.getL 0 len with
    | some old=>zup h b n g e news old
    | none=>none)else none else none else none
 | _=>none
def zqc (e0:Nat)(h:TH)(b g n q z bx gx zx:Nat):Option (TE×TH):=match h.get bx,h.get b,zbw h bx gx 0 2 with
 | some rx,some r,some news=>bif zyw e0 rx then bif Nat.beq z 2 then bif Nat.beq zx 2 then bif Nat.beq (q%2) 0 then bif Nat.ble 1 n then bif Nat.ble n 100000 then bif Nat.beq b bx then none else ztT e0 h b n g news r else none else none else none else none else none else none
 | _,_,_=>none
def ziD (e0:Nat)(vs:List TV)(h:TH):Option (TE×TH) :=
 match vs with
 | [.sl b g 0 n q z,.int .i64 (.ofNat 0),.sl bx gx 0 1 _ zx]=>zqc e0 h b g n q z bx gx zx
 | _=>none
def zzB (f:Nat):Option (List TV->TH->Option (TE×TH)):=bif Nat.beq f 127 then some (ziD 83)else none
def ofL:List (Nat×zD)->Tr zD->Tr zD
 | [],t=>t
 | p::l,t=>ofL l (t.set p.1 (some p.2))
theorem ztR:∀{l:List (Nat×zD)} {t:Tr zD} {f:Nat} {F:zD},(ofL l t).get f=some F->(f,F)∈l\/t.get f=some F
 | [],t,f,F,h=>.inr h
 | p::l,t,f,F,h=>by
  rcases ztR (l:=l) h with h|h
  ·exact .inl (zAT9 _ h)
  ·rw[Tr.get_set]at h
   split at h
   ·rename_i e;injection h with h2;subst e;subst h2;exact .inl zAU9
   ·exact .inr h
noncomputable def zoQ:List (Nat×zD):=[(9,T9),(10,T10),(14,T14),(15,T15),(17,T17),(23,T23),(26,T26),(28,T28),(30,T30),(34,T34),(36,T36),(37,T37),(38,T38),(39,T39),(40,T40),(41,T41),(42,T42),(43,T43),(44,T44),(55,T55),(56,T56),(60,T60),(63,T63),(64,T64),(65,T65),(67,T67),(68,T68),(69,T69),(70,T70),(72,T72),(75,T75),(76,T76),(77,T77),(82,T82),(83,T83),(84,T84),(85,T85),(86,T86),(87,T87),(88,T88),(89,T89),(90,T90),(91,T91),(100,T100),(101,T101),(102,T102),(105,T105),(106,T106),(107,T107),(108,T108),(109,T109),(110,T110),(111,T111),(112,T112),(113,T113),(114,T114),(115,T115),(116,T116),(125,T125),(126,T126),(129,T129),(130,T130),(131,T131),(132,T132),(133,T133),(134,T134),(135,T135),(136,T136),(137,T137),(138,T138),(145,T145),(146,T146),(147,T147),(148,T148),(149,T149),(150,T150),(151,T151),(152,T152),(153,T153),(154,T154),(155,T155),(159,T159),(160,T160),(161,T161),(162,T162),(163,T163),(164,T164),(165,T165),(166,T166),(167,T167),(168,T168),(169,T169),(170,T170),(171,T171),(174,T174),(175,T175),(176,T176),(177,T177),(178,T178),(181,T181),(182,T182),(183,T183),(184,T184),(185,T185),(186,T186),(187,T187),(188,T188),(189,T189),(190,T190),(191,T191),(192,T192),(193,T193),(194,T194),(196,T196),(197,T197),(198,T198),(199,T199),(200,T200),(201,T201),(202,T202),(203,T203),(204,T204),(205,T205),(206,T206),(207,T207),(208,T208),(209,T209),(210,T210),(211,T211),(212,T212),(213,T213),(214,T214),(215,T215),(216,T216),(217,T217),(218,T218),(219,T219),(220,T220),(222,T222),(223,T223)]
theorem zzt:zoQ.map (fun p=>zeo.get p.1)=zoQ.map fun p=>some p.2:=by kernel_rfl
theorem zz1 {f:Nat}{F:zD}(h:(ofL zoQ .nil).get f=some F):zeo.get f=some F:=by
 rcases ztR h with h|h
 ·obtain⟨i,hi,e⟩:=zBO9.1 h;have h2:(zoQ.map fun p=>zeo.get p.1)[i]?=(zoQ.map fun p=>some p.2)[i]?:=by rw[zzt]
  rw[zAH9,zAH9,zAB9 hi,e]at h2;injection h2
 ·rw[Tr.get_nil]at h;cases h
noncomputable def E12:Env:=⟨ofL zoQ .nil,zzB,zg1,zBe,100000⟩
def zru:Option (TE×TH)->Bool
 | some (.ret (.bool true),_)=>true
 | _=>false
end Tw
end Go.Proofs.YtfomlmhnmheenaaGreat
