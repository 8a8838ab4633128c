/- part 4 of the proof of dir_holds. -/
import Derived.Test.YtkeknmgnoceogaaGreatDH3
import Derived.KernelRfl
import Derived.WalkKit
import Derived.Shelf.Abstract
import Derived.Test.YtkeknmgnoceogaaGreatProg
set_option linter.unusedSimpArgs false
set_option linter.unusedVariables false
set_option maxRecDepth 100000
namespace Go.Proofs.YtkeknmgnoceogaaGreat
open Tryz
namespace Tw
variable {P:Program}
def m7(P : Program) (f : Func) : Option ze := bif f.name == "runtime.NumGoroutine" then none else di P f
noncomputable def cf (P:Program):List Func->Nat->AF->AF
 | [],_,t=>t
 | f::l,i,t=>cf P l (i+1) (t.set i (m7 P f))
noncomputable def dZ:AF:=cf prog prog.funcs.toList 0 .nil
theorem I9:∀{l:List Func} {i:Nat} {t:AF} {f:Nat} {F:ze},(cf P l i t).get f=some F->(∃k fn,f=i+k/\l[k]?=some fn/\m7 P fn=some F)\/t.get f=some F
 | [],i,t,f,F,h=>.inr h
 | g::l,i,t,f,F,h=>by
  rcases I9 (l:=l) h with⟨k,fn,h1,h2,h3⟩|h
  .exact .inl ⟨k+1,fn,by omega,h2,h3⟩
  .rw[Tr.get_set]at h
   split at h
   .rename_i e;exact .inl ⟨0,g,e,rfl,h⟩
   .exact .inr h
theorem I8:∀(l:List Func) (i:Nat) (t:AF) (n:Nat),n<i->(cf P l i t).get n=t.get n
 | [],_,_,_,_=>rfl
 | g::l,i,t,n,h=>by
  show (cf P l (i+1) (t.set i (m7 P g))).get n=_;rw[I8 l (i+1) _ n (by omega),Tr.get_set,if_neg (by omega)]
theorem I7:∀(l:List Func) (i:Nat) (t:AF) (k:Nat) (f:Func),l[k]?=some f->(cf P l i t).get (i+k)=m7 P f
 | [],_,_,k,f,h=>by simp at h
 | g::l,i,t,0,f,h=>by
  injection h with h;subst h;show (cf P l (i+1) (t.set i (m7 P g))).get (i+0)=_;rw[I8 l (i+1) _ _ (by omega),Tr.get_set,if_pos (ZP i)]
 | g::l,i,t,k+1,f,h=>by
  show (cf P l (i+1) (t.set i (m7 P g))).get (i+(k+1))=_;rw[show i+(k+1)=i+1+k by omega];exact I7 l (i+1) _ k f h
theorem QL{n:Nat}{f:Func}{F:ze}(h:prog.funcs[n]?=some f)(hF:m7 prog f=some F:=by kernel_rfl):dZ.get n=some F:=by
 have:=I7 (P:=prog) prog.funcs.toList 0 .nil n f (by rw[Y7];exact h);rw[Y6]at this;exact this.trans hF
def M9(p:Nat×ze):Prop:=∃fn,prog.funcs[p.1]?=some fn/\di prog fn=some p.2/\∀(args:LO) w,(callFunc p.1 args).run prog w=.ok (.enter p.1 args) w
theorem L8:∀f F,dZ.get f=some F->M9 (f,F):=fun f F h=>by
 rcases I9 h with⟨k,fn,h1,h2,h3⟩|h
 .obtain rfl:f=k:=by omega
  rw[Y7]at h2;unfold m7 at h3
  cases hn : fn.name == "runtime.NumGoroutine" with
  | true=>rw[hn]at h3;cases h3
  | false =>
   rw[hn]at h3;have h3:di prog fn=some F:=h3
   cases hb:fn.body with
   | none=>unfold di at h3;rw[hb]at h3;cases h3
   | some c=>exact⟨fn,h2,h3,enters_of h2 hn hb⟩
 .rw[Tr.get_nil]at h;cases h
def xT(f:Func){x:ze}(h:m7 prog f=some x:=by with_unfolding_all (conv=>lhs;reduce)):ze:=x
def ke(i:Nat):vw->Option vw
 | .block j b=>bif Nat.beq i j then some (.block j b)else ke i b
 | .seq a b=>match ke i a with
  | some x=>some x
  | none=>ke i b
 | .cond _ a b=>match ke i a with
  | some x=>some x
  | none=>ke i b
 | .loop b=>ke i b
 | .rangef _ _ _ b=>ke i b
 | .scope b _ r=>match ke i b with
  | some x=>some x
  | none=>ke i r
 | .scope0 b=>ke i b
 | _=>none
def xC(o:Option vw){x:vw}(h:o=some x:=by with_unfolding_all (conv=>lhs;reduce)):vw:=x
noncomputable def Ez:LE:=((Tr.set .nil 38 (some ())).set 91 (some ())).set 201 (some ())
def L7:Nat:=38
noncomputable section
def T10:=xT f10
def T11:=xT f11
def T12:=xT f12
def T15:=xT f15
def T16:=xT f16
def T18:=xT f18
def T20:=xT f20
def T23:=xT f23
def T26:=xT f26
def T27:=xT f27
def T32:=xT f32
def T33:=xT f33
def T34:=xT f34
def T35:=xT f35
def T36:=xT f36
def T37:=xT f37
def T39:=xT f39
def T40:=xT f40
def T41:=xT f41
def T46:=xT f46
def T47:=xT f47
def T50:=xT f50
def T51:=xT f51
def T52:=xT f52
def T53:=xT f53
def T54:=xT f54
def T55:=xT f55
def T58:=xT f58
def T59:=xT f59
def T60:=xT f60
def T61:=xT f61
def T63:=xT f63
def T68:=xT f68
def T69:=xT f69
def T70:=xT f70
def T71:=xT f71
def T72:=xT f72
def T73:=xT f73
def T74:=xT f74
def T75:=xT f75
def T76:=xT f76
def T77:=xT f77
def T78:=xT f78
def T79:=xT f79
def T80:=xT f80
def T86:=xT f86
def T87:=xT f87
def T88:=xT f88
def T89:=xT f89
def T90:=xT f90
def T92:=xT f92
def T93:=xT f93
def T94:=xT f94
def T95:=xT f95
def T96:=xT f96
def T97:=xT f97
def T98:=xT f98
def T99:=xT f99
def T106:=xT f106
def T107:=xT f107
def T108:=xT f108
def T109:=xT f109
def T110:=xT f110
def T111:=xT f111
def T112:=xT f112
def T115:=xT f115
def T116:=xT f116
def T120:=xT f120
def T121:=xT f121
def T122:=xT f122
def T123:=xT f123
def T124:=xT f124
def T125:=xT f125
def T126:=xT f126
def T127:=xT f127
def T128:=xT f128
def T129:=xT f129
def T130:=xT f130
def T131:=xT f131
def T133:=xT f133
def T134:=xT f134
def T135:=xT f135
def T136:=xT f136
def T137:=xT f137
def T138:=xT f138
def T139:=xT f139
def T140:=xT f140
def T141:=xT f141
def T142:=xT f142
def T143:=xT f143
def T144:=xT f144
def T145:=xT f145
def T146:=xT f146
def T147:=xT f147
def T148:=xT f148
def T149:=xT f149
def T162:=xT f162
def T163:=xT f163
def T164:=xT f164
def T165:=xT f165
def T166:=xT f166
def T167:=xT f167
def T168:=xT f168
def T169:=xT f169
def T170:=xT f170
def T171:=xT f171
def T172:=xT f172
def T175:=xT f175
def T179:=xT f179
def T180:=xT f180
def T181:=xT f181
def T182:=xT f182
def T183:=xT f183
def T184:=xT f184
def T186:=xT f186
def T187:=xT f187
def T188:=xT f188
def T189:=xT f189
def T192:=xT f192
def T193:=xT f193
def T195:=xT f195
def T196:=xT f196
def T197:=xT f197
def T198:=xT f198
def T199:=xT f199
def T202:=xT f202
def T203:=xT f203
def T204:=xT f204
def T205:=xT f205
def T206:=xT f206
def T207:=xT f207
def T208:=xT f208
def T209:=xT f209
def T210:=xT f210
def T211:=xT f211
def T212:=xT f212
def T213:=xT f213
def T214:=xT f214
def T220:=xT f220
def T221:=xT f221
def T222:=xT f222
def T223:=xT f223
def T224:=xT f224
def T225:=xT f225
def T226:=xT f226
def T227:=xT f227
def T228:=xT f228
def T229:=xT f229
def T230:=xT f230
def T234:=xT f234
def T235:=xT f235
def T236:=xT f236
def T237:=xT f237
def T238:=xT f238
def T239:=xT f239
def T240:=xT f240
def T241:=xT f241
def T242:=xT f242
def T243:=xT f243
def T245:=xT f245
def T246:=xT f246
def T247:=xT f247
def T248:=xT f248
def T249:=xT f249
def T250:=xT f250
def T251:=xT f251
def T252:=xT f252
def T253:=xT f253
def T254:=xT f254
def T256:=xT f256
def T257:=xT f257
def T258:=xT f258
def T259:=xT f259
def T260:=xT f260
def T261:=xT f261
def T262:=xT f262
def T263:=xT f263
def T264:=xT f264
def T265:=xT f265
def T266:=xT f266
def T267:=xT f267
def T268:=xT f268
def T269:=xT f269
def T270:=xT f270
def T271:=xT f271
def T272:=xT f272
def T273:=xT f273
def T274:=xT f274
def T275:=xT f275
def T276:=xT f276
def T280:=xT f280
def T281:=xT f281
def T282:=xT f282
def T283:=xT f283
def T284:=xT f284
def T285:=xT f285
def T286:=xT f286
def T287:=xT f287
def T288:=xT f288
def T289:=xT f289
def T290:=xT f290
def T291:=xT f291
def T292:=xT f292
def T293:=xT f293
def T294:=xT f294
def T295:=xT f295
def T296:=xT f296
def T297:=xT f297
def T298:=xT f298
def T299:=xT f299
def T300:=xT f300
def T302:=xT f302
def T303:=xT f303
def T304:=xT f304
def T305:=xT f305
def T306:=xT f306
def T307:=xT f307
def T308:=xT f308
def T309:=xT f309
def T310:=xT f310
def T311:=xT f311
def T312:=xT f312
def T313:=xT f313
def T314:=xT f314
def T315:=xT f315
def T316:=xT f316
def T317:=xT f317
def T318:=xT f318
def T319:=xT f319
def T321:=xT f321
def T322:=xT f322
def T323:=xT f323
def T324:=xT f324
def T325:=xT f325
def T326:=xT f326
def T327:=xT f327
def T328:=xT f328
def T329:=xT f329
def T330:=xT f330
def T331:=xT f331
def T332:=xT f332
def T333:=xT f333
def T334:=xT f334
def T335:=xT f335
def T337:=xT f337
def T338:=xT f338
def T339:=xT f339
def T340:=xT f340
def T341:=xT f341
def T342:=xT f342
def T343:=xT f343
def T344:=xT f344
def T346:=xT f346
def T347:=xT f347
def T348:=xT f348
def T349:=xT f349
def T350:=xT f350
def T351:=xT f351
def T353:=xT f353
def T354:=xT f354
def T355:=xT f355
def T356:=xT f356
def T357:=xT f357
def T359:=xT f359
def T360:=xT f360
def T361:=xT f361
end
noncomputable section
def T3:=xT f3
def T4:=xT f4
def T7:=xT f7
def T13:=xT f13
def T14:=xT f14
def T17:=xT f17
def T19:=xT f19
def T28:=xT f28
def T30:=xT f30
def T217:=xT f217
def T219:=xT f219
def c137_4:vw:=xC (ke 4 T137.body)
def c137_6:vw:=xC (ke 6 T137.body)
def c137_2:vw:=xC (ke 2 T137.body)
def c36_0:vw:=xC (ke 0 T36.body)
def c36_4:vw:=xC (ke 4 T36.body)
def c36_6:vw:=xC (ke 6 T36.body)
def c36_8:vw:=xC (ke 8 T36.body)
end
def nu:LK->Option (List (Int×Nat))
 | []=>some []
 | .int .i64 a::.int .u64 (.ofNat b)::l=>(match nu l with
  | some r=>some ((a,b)::r)
  | none=>none)
 | _=>none
def KF(e0:Nat):TO->Bool
 | .row e _ _ _ _=>Nat.beq e e0
 | _=>false
noncomputable def CK (h:TH)(b n g e:Nat)(news old:LK):Option (TE×TH):=match nu news,nu old with
 | some _,some _=>some (.ret (.sl b (g+1) 0 (n+1) (2*(n+1)) 2),h.set b (.row e (g+1) (g+1) ((n+1)*2) (Tr.putL .nil 0 (news++old))))
 | _,_=>none
noncomputable def CJ (e0:Nat)(h:TH)(b n g:Nat)(news:LK):TO->Option (TE×TH)
 | .row e G _ len cells=>bif Nat.beq e e0 then bif Nat.beq g G then bif Nat.beq (n*2) len then(match cells.getL 0 len with
    | some old=>CK h b n g e news old
    | none=>none)else none else none else none
 | _=>none
noncomputable def sW (e0:Nat)(h:TH)(b g n q z bx gx zx:Nat):Option (TE×TH):=match h.get bx,h.get b,wK h bx gx 0 2 with
 | some rx,some r,some news=>bif KF e0 rx then bif Nat.beq z 2 then bif Nat.beq zx 2 then bif Nat.beq (q%2) 0 then bif Nat.ble 1 n then bif Nat.ble n 100000 then bif Nat.beq b bx then none else CJ e0 h b n g news r else none else none else none else none else none else none
 | _,_,_=>none
noncomputable def dn (e0:Nat)(vs:LK)(h:TH):Option (TE×TH) :=
 match vs with
 | [.sl b g 0 n q z,.int .i64 (.ofNat 0),.sl bx gx 0 1 _ zx]=>sW e0 h b g n q z bx gx zx
 | _=>none
noncomputable def lW (vs:LK)(h:TH):Option (TE×TH):=match vs with
 | [.int .u64 (.ofNat w),.int .i64 (.ofNat a),.int .i64 (.ofNat n)]=>bif Nat.blt w 18446744073709551616 then bif Nat.ble 1 n then bif Nat.ble (a+n) 64 then some (.ret (.tuple [.int .u64 (.ofNat (w/2 ^ a%2 ^ n)),.int .i64 (.ofNat 0)]),h)else none else none else none
 | _=>none
noncomputable def ry (vs:LK)(h:TH):Option (TE×TH):=match vs with
 | [.int .u64 (.ofNat w),.int .i64 (.ofNat a),.int .i64 (.ofNat n),.int .u64 (.ofNat v)]=>bif Nat.blt w 18446744073709551616 then bif Nat.ble 1 n then bif Nat.ble (a+n) 64 then bif Nat.blt v (2 ^ n)then some (.ret (.tuple [.int .u64 (.ofNat (Nat.lor (Nat.xor w (Nat.land w ((2 ^ n-1)*2 ^ a))) (v*2 ^ a))),.int .i64 (.ofNat 0)]),h)else none else none else none else none
 | _=>none
noncomputable def l8 (e:Nat)(vs:LK)(h:TH):Option (TE×TH):=match vs with
 | [.nilsl,.int .i64 (.ofNat n)]=>bif Nat.beq n 0 then some (.ret .nilsl,h)else bif Nat.ble n 1000000 then some (.ret (.sl h.next 0 0 0 0 1),h.push (ui e []))else none
 | _=>none
def dl(c:Nat):LN->Bool
 | []=>false
 | x::l=>bif Nat.beq x c then true else dl c l
noncomputable def B7 (vs:LK)(h:TH):Option (TE×TH):=match vs with
 | [.str s,.str [c]]=>some (.ret (.bool (dl c s)),h)
 | _=>none
def xX(r:Nat):Nat:=bif Nat.beq (r%2) 1 then Nat.xor (r/2) 14514072000185962306 else r/2
def lO(r:Nat):Nat:=xX (xX (xX (xX (xX (xX (xX (xX r)))))))
noncomputable def oc (vs:LK)(h:TH):Option (TE×TH):=match vs with
 | [.int .u64 (.ofNat r),.int .u8 (.ofNat n)]=>bif Nat.blt r 18446744073709551616 then bif Nat.blt n 256 then some (.ret (.int .u64 (.ofNat (lO (Nat.xor r n)))),h)else none else none
 | _=>none
noncomputable def rj (f:Nat):Option (LK->TH->Option (TE×TH)):=bif Nat.beq f 200 then some (dn 120)else bif Nat.beq f 185 then some lW else bif Nat.beq f 244 then some ry else bif Nat.beq f 352 then some (l8 5)else bif Nat.beq f 194 then some B7 else bif Nat.beq f 336 then some oc else none
noncomputable def tU:List (Nat×ze)->AF->AF
 | [],t=>t
 | p::l,t=>tU l (t.set p.1 (some p.2))
theorem Jx:∀{l:List (Nat×ze)} {t:AF} {f:Nat} {F:ze},(tU l t).get f=some F->(f,F)∈l\/t.get f=some F
 | [],t,f,F,h=>.inr h
 | p::l,t,f,F,h=>by
  rcases Jx (l:=l) h with h|h
  .exact .inl (Ys _ h)
  .rw[Tr.get_set]at h
   split at h
   .rename_i e;injection h with h2;subst e;subst h2;exact .inl Yp
   .exact .inr h
noncomputable def ld:List (Nat×ze):=[(10,T10),(11,T11),(12,T12),(15,T15),(16,T16),(18,T18),(20,T20),(23,T23),(26,T26),(27,T27),(32,T32),(33,T33),(34,T34),(35,T35),(36,T36),(37,T37),(39,T39),(40,T40),(41,T41),(46,T46),(47,T47),(50,T50),(51,T51),(52,T52),(53,T53),(54,T54),(55,T55),(58,T58),(59,T59),(60,T60),(61,T61),(63,T63),(68,T68),(69,T69),(70,T70),(71,T71),(72,T72),(73,T73),(74,T74),(75,T75),(76,T76),(77,T77),(78,T78),(79,T79),(80,T80),(86,T86),(87,T87),(88,T88),(89,T89),(90,T90),(92,T92),(93,T93),(94,T94),(95,T95),(96,T96),(97,T97),(98,T98),(99,T99),(106,T106),(107,T107),(108,T108),(109,T109),(110,T110),(111,T111),(112,T112),(115,T115),(116,T116),(120,T120),(121,T121),(122,T122),(123,T123),(124,T124),(125,T125),(126,T126),(127,T127),(128,T128),(129,T129),(130,T130),(131,T131),(133,T133),(134,T134),(135,T135),(136,T136),(137,T137),(138,T138),(139,T139),(140,T140),(141,T141),(142,T142),(143,T143),(144,T144),(145,T145),(146,T146),(147,T147),(148,T148),(149,T149),(162,T162),(163,T163),(164,T164),(165,T165),(166,T166),(167,T167),(168,T168),(169,T169),(170,T170),(171,T171),(172,T172),(175,T175),(179,T179),(180,T180),(181,T181),(182,T182),(183,T183),(184,T184),(186,T186),(187,T187),(188,T188),(189,T189),(192,T192),(193,T193),(195,T195),(196,T196),(197,T197),(198,T198),(199,T199),(202,T202),(203,T203),(204,T204),(205,T205),(206,T206),(207,T207),(208,T208),(209,T209),(210,T210),(211,T211),(212,T212),(213,T213),(214,T214),(220,T220),(221,T221),(222,T222),(223,T223),(224,T224),(225,T225),(226,T226),(227,T227),(228,T228),(229,T229),(230,T230),(234,T234),(235,T235),(236,T236),(237,T237),(238,T238),(239,T239),(240,T240),(241,T241),(242,T242),(243,T243),(245,T245),(246,T246),(247,T247),(248,T248),(249,T249),(250,T250),(251,T251),(252,T252),(253,T253),(254,T254),(256,T256),(257,T257),(258,T258),(259,T259),(260,T260),(261,T261),(262,T262),(263,T263),(264,T264),(265,T265),(266,T266),(267,T267),(268,T268),(269,T269),(270,T270),(271,T271),(272,T272),(273,T273),(274,T274),(275,T275),(276,T276),(280,T280),(281,T281),(282,T282),(283,T283),(284,T284),(285,T285),(286,T286),(287,T287),(288,T288),(289,T289),(290,T290),(291,T291),(292,T292),(293,T293),(294,T294),(295,T295),(296,T296),(297,T297),(298,T298),(299,T299),(300,T300),(302,T302),(303,T303),(304,T304),(305,T305),(306,T306),(307,T307),(308,T308),(309,T309),(310,T310),(311,T311),(312,T312),(313,T313),(314,T314),(315,T315),(316,T316),(317,T317),(318,T318),(319,T319),(321,T321),(322,T322),(323,T323),(324,T324),(325,T325),(326,T326),(327,T327),(328,T328),(329,T329),(330,T330),(331,T331),(332,T332),(333,T333),(334,T334),(335,T335),(337,T337),(338,T338),(339,T339),(340,T340),(341,T341),(342,T342),(343,T343),(344,T344),(346,T346),(347,T347),(348,T348),(349,T349),(350,T350),(351,T351),(353,T353),(354,T354),(355,T355),(356,T356),(357,T357),(359,T359),(360,T360),(361,T361)]
theorem XD:ld.map (fun p=>dZ.get p.1)=ld.map fun p=>some p.2:=by kernel_rfl
theorem UE{f:Nat}{F:ze}(h:(tU ld .nil).get f=some F):dZ.get f=some F:=by
 rcases Jx h with h|h
 .obtain⟨i,hi,e⟩:=YU.1 h;have h2:(ld.map fun p=>dZ.get p.1)[i]?=(ld.map fun p=>some p.2)[i]?:=by rw[XD]
  rw[YH,YH,Yk hi,e]at h2;injection h2
 .rw[Tr.get_nil]at h;cases h
noncomputable def EL:vC:=⟨tU ld .nil,rj,Ez,L7,100000⟩
def CP:Option (TE×TH)->Bool
 | some (.ret (.bool true),_)=>true
 | _=>false
end Tw
end Go.Proofs.YtkeknmgnoceogaaGreat
