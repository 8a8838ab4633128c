/- part 4 of the proof of dir_from. -/
import Derived.Test.YtkeknmgnoceogaaGreatDG3
import Derived.KernelRfl
import Derived.WalkKit
import Derived.Shelf.Abstract
import Derived.Test.YtkeknmgnoceogaaGreatProg
set_option linter.unusedSimpArgs false
set_option linter.unusedVariables false
set_option maxRecDepth 1000000
namespace Go.Proofs.YtkeknmgnoceogaaGreat
namespace Tw
def fnO (P : Program) (f : Func) : Option zc := bif f.name == "runtime.NumGoroutine" then none else zjr P f
noncomputable def mkT (P:Program):List Func->Nat->Tr zc->Tr zc
 | [],_,t=>t
 | f::l,i,t=>mkT P l (i+1) (t.set i (fnO P f))
noncomputable def zfP:Tr zc:=mkT Tryz.prog Tryz.prog.funcs.toList 0 .nil
theorem zrp {P:Program}:∀{l:List Func} {i:Nat} {t:Tr zc} {f:Nat} {F:zc},(mkT P l i t).get f=some F->(∃k fn,f=i+k/\l[k]?=some fn/\fnO P fn=some F)\/t.get f=some F
 | [],i,t,f,F,h=>.inr h
 | g::l,i,t,f,F,h=>by
  rcases zrp (l:=l) h with⟨k,fn,h1,h2,h3⟩|h
  ·exact .inl ⟨k+1,fn,by omega,h2,h3⟩
  ·rw[Tr.get_set]at h
   split at h
   ·rename_i e;exact .inl ⟨0,g,e,rfl,h⟩
   ·exact .inr h
theorem zqK {P:Program}:∀(l:List Func) (i:Nat) (t:Tr zc) (n:Nat),n<i->(mkT P l i t).get n=t.get n
 | [],_,_,_,_=>rfl
 | g::l,i,t,n,h=>by
  show (mkT P l (i+1) (t.set i (fnO P g))).get n=_;rw[zqK l (i+1) _ n (by omega),Tr.get_set,if_neg (by omega)]
theorem zsZ {P:Program}:∀(l:List Func) (i:Nat) (t:Tr zc) (k:Nat) (f:Func),l[k]?=some f->(mkT P l i t).get (i+k)=fnO P f
 | [],_,_,k,f,h=>by simp at h
 | g::l,i,t,0,f,h=>by
  injection h with h;subst h;show (mkT P l (i+1) (t.set i (fnO P g))).get (i+0)=_;rw[zqK l (i+1) _ _ (by omega),Tr.get_set,if_pos (zDD9 i)]
 | g::l,i,t,k+1,f,h=>by
  show (mkT P l (i+1) (t.set i (fnO P g))).get (i+(k+1))=_;rw[show i+(k+1)=i+1+k by omega];exact zsZ l (i+1) _ k f h
theorem zzW {n:Nat}{f:Func}{F:zc}(h:Tryz.prog.funcs[n]?=some f)(hF:fnO Tryz.prog f=some F:=by kernel_rfl):zfP.get n=some F:=by
 have:=zsZ (P:=Tryz.prog) Tryz.prog.funcs.toList 0 .nil n f (by rw[zBX9];exact h);rw[zBN9]at this;exact this.trans hF
def zzy (p:Nat×zc):Prop:=∃fn,Tryz.prog.funcs[p.1]?=some fn/\zjr Tryz.prog fn=some p.2/\∀(args:Array Value) w,(callFunc p.1 args).run Tryz.prog w=.ok (.enter p.1 args) w
theorem zlL:∀f F,zfP.get f=some F->zzy (f,F):=fun f F h=>by
 rcases zrp h with⟨k,fn,h1,h2,h3⟩|h
 ·obtain rfl:f=k:=by omega
  rw[zBX9]at h2;unfold fnO at h3
  cases hn : fn.name == "runtime.NumGoroutine" with
  | true=>rw[hn]at h3;cases h3
  | false =>
   rw[hn]at h3;have h3:zjr Tryz.prog fn=some F:=h3
   cases hb:fn.body with
   | none=>unfold zjr at h3;rw[hb]at h3;cases h3
   | some c=>exact⟨fn,h2,h3,enters_of h2 hn hb⟩
 ·rw[Tr.get_nil]at h;cases h
def xT (f:Func){x:zc}(h:fnO Tryz.prog f=some x:=by with_unfolding_all (conv=>lhs;reduce)):zc:=x
def zf9 (i:Nat):zbI->Option zbI
 | .block j b=>bif Nat.beq i j then some (.block j b)else zf9 i b
 | .seq a b=>match zf9 i a with
  | some x=>some x
  | none=>zf9 i b
 | .cond _ a b=>match zf9 i a with
  | some x=>some x
  | none=>zf9 i b
 | .loop b=>zf9 i b
 | .rangef _ _ _ b=>zf9 i b
 | .scope b _ r=>match zf9 i b with
  | some x=>some x
  | none=>zf9 i r
 | .scope0 b=>zf9 i b
 | _=>none
def xC (o:Option zbI){x:zbI}(h:o=some x:=by with_unfolding_all (conv=>lhs;reduce)):zbI:=x
noncomputable def zkC:Tr Unit:=((Tr.set .nil 38 (some ())).set 91 (some ())).set 201 (some ())
def zsa:Nat:=38
noncomputable section
def T10:zc:=xT Tryz.f10
def T11:zc:=xT Tryz.f11
def T12:zc:=xT Tryz.f12
def T15:zc:=xT Tryz.f15
def T16:zc:=xT Tryz.f16
def T18:zc:=xT Tryz.f18
def T20:zc:=xT Tryz.f20
def T23:zc:=xT Tryz.f23
def T26:zc:=xT Tryz.f26
def T27:zc:=xT Tryz.f27
def T32:zc:=xT Tryz.f32
def T33:zc:=xT Tryz.f33
def T34:zc:=xT Tryz.f34
def T35:zc:=xT Tryz.f35
def T36:zc:=xT Tryz.f36
def T37:zc:=xT Tryz.f37
def T39:zc:=xT Tryz.f39
def T40:zc:=xT Tryz.f40
def T41:zc:=xT Tryz.f41
def T46:zc:=xT Tryz.f46
def T47:zc:=xT Tryz.f47
def T50:zc:=xT Tryz.f50
def T51:zc:=xT Tryz.f51
def T52:zc:=xT Tryz.f52
def T53:zc:=xT Tryz.f53
def T54:zc:=xT Tryz.f54
def T55:zc:=xT Tryz.f55
def T58:zc:=xT Tryz.f58
def T59:zc:=xT Tryz.f59
def T60:zc:=xT Tryz.f60
def T61:zc:=xT Tryz.f61
def T63:zc:=xT Tryz.f63
def T68:zc:=xT Tryz.f68
def T69:zc:=xT Tryz.f69
def T70:zc:=xT Tryz.f70
def T71:zc:=xT Tryz.f71
def T72:zc:=xT Tryz.f72
def T73:zc:=xT Tryz.f73
def T74:zc:=xT Tryz.f74
def T75:zc:=xT Tryz.f75
def T76:zc:=xT Tryz.f76
def T77:zc:=xT Tryz.f77
def T78:zc:=xT Tryz.f78
def T79:zc:=xT Tryz.f79
def T80:zc:=xT Tryz.f80
def T86:zc:=xT Tryz.f86
def T87:zc:=xT Tryz.f87
def T88:zc:=xT Tryz.f88
def T89:zc:=xT Tryz.f89
def T90:zc:=xT Tryz.f90
def T92:zc:=xT Tryz.f92
def T93:zc:=xT Tryz.f93
def T94:zc:=xT Tryz.f94
def T95:zc:=xT Tryz.f95
def T96:zc:=xT Tryz.f96
def T97:zc:=xT Tryz.f97
def T98:zc:=xT Tryz.f98
def T99:zc:=xT Tryz.f99
def T106:zc:=xT Tryz.f106
def T107:zc:=xT Tryz.f107
def T108:zc:=xT Tryz.f108
def T109:zc:=xT Tryz.f109
def T110:zc:=xT Tryz.f110
def T111:zc:=xT Tryz.f111
def T112:zc:=xT Tryz.f112
def T115:zc:=xT Tryz.f115
def T116:zc:=xT Tryz.f116
def T120:zc:=xT Tryz.f120
def T121:zc:=xT Tryz.f121
def T122:zc:=xT Tryz.f122
def T123:zc:=xT Tryz.f123
def T124:zc:=xT Tryz.f124
def T125:zc:=xT Tryz.f125
def T126:zc:=xT Tryz.f126
def T127:zc:=xT Tryz.f127
def T128:zc:=xT Tryz.f128
def T129:zc:=xT Tryz.f129
def T130:zc:=xT Tryz.f130
def T131:zc:=xT Tryz.f131
def T133:zc:=xT Tryz.f133
def T134:zc:=xT Tryz.f134
def T135:zc:=xT Tryz.f135
def T136:zc:=xT Tryz.f136
def T137:zc:=xT Tryz.f137
def T138:zc:=xT Tryz.f138
def T139:zc:=xT Tryz.f139
def T140:zc:=xT Tryz.f140
def T141:zc:=xT Tryz.f141
def T142:zc:=xT Tryz.f142
def T143:zc:=xT Tryz.f143
def T144:zc:=xT Tryz.f144
def T145:zc:=xT Tryz.f145
def T146:zc:=xT Tryz.f146
def T147:zc:=xT Tryz.f147
def T148:zc:=xT Tryz.f148
def T149:zc:=xT Tryz.f149
def T162:zc:=xT Tryz.f162
def T163:zc:=xT Tryz.f163
def T164:zc:=xT Tryz.f164
def T165:zc:=xT Tryz.f165
def T166:zc:=xT Tryz.f166
def T167:zc:=xT Tryz.f167
def T168:zc:=xT Tryz.f168
def T169:zc:=xT Tryz.f169
def T170:zc:=xT Tryz.f170
def T171:zc:=xT Tryz.f171
def T172:zc:=xT Tryz.f172
def T175:zc:=xT Tryz.f175
def T179:zc:=xT Tryz.f179
def T180:zc:=xT Tryz.f180
def T181:zc:=xT Tryz.f181
def T182:zc:=xT Tryz.f182
def T183:zc:=xT Tryz.f183
def T184:zc:=xT Tryz.f184
def T186:zc:=xT Tryz.f186
def T187:zc:=xT Tryz.f187
def T188:zc:=xT Tryz.f188
def T189:zc:=xT Tryz.f189
def T192:zc:=xT Tryz.f192
def T193:zc:=xT Tryz.f193
def T195:zc:=xT Tryz.f195
def T196:zc:=xT Tryz.f196
def T197:zc:=xT Tryz.f197
def T198:zc:=xT Tryz.f198
def T199:zc:=xT Tryz.f199
def T202:zc:=xT Tryz.f202
def T203:zc:=xT Tryz.f203
def T204:zc:=xT Tryz.f204
def T205:zc:=xT Tryz.f205
def T206:zc:=xT Tryz.f206
def T207:zc:=xT Tryz.f207
def T208:zc:=xT Tryz.f208
def T209:zc:=xT Tryz.f209
def T210:zc:=xT Tryz.f210
def T211:zc:=xT Tryz.f211
def T212:zc:=xT Tryz.f212
def T213:zc:=xT Tryz.f213
def T214:zc:=xT Tryz.f214
def T220:zc:=xT Tryz.f220
def T221:zc:=xT Tryz.f221
def T222:zc:=xT Tryz.f222
def T223:zc:=xT Tryz.f223
def T224:zc:=xT Tryz.f224
def T225:zc:=xT Tryz.f225
def T226:zc:=xT Tryz.f226
def T227:zc:=xT Tryz.f227
def T228:zc:=xT Tryz.f228
def T229:zc:=xT Tryz.f229
def T230:zc:=xT Tryz.f230
def T234:zc:=xT Tryz.f234
def T235:zc:=xT Tryz.f235
def T236:zc:=xT Tryz.f236
def T237:zc:=xT Tryz.f237
def T238:zc:=xT Tryz.f238
def T239:zc:=xT Tryz.f239
def T240:zc:=xT Tryz.f240
def T241:zc:=xT Tryz.f241
def T242:zc:=xT Tryz.f242
def T243:zc:=xT Tryz.f243
def T245:zc:=xT Tryz.f245
def T246:zc:=xT Tryz.f246
def T247:zc:=xT Tryz.f247
def T248:zc:=xT Tryz.f248
def T249:zc:=xT Tryz.f249
def T250:zc:=xT Tryz.f250
def T251:zc:=xT Tryz.f251
def T252:zc:=xT Tryz.f252
def T253:zc:=xT Tryz.f253
def T254:zc:=xT Tryz.f254
def T256:zc:=xT Tryz.f256
def T257:zc:=xT Tryz.f257
def T258:zc:=xT Tryz.f258
def T259:zc:=xT Tryz.f259
def T260:zc:=xT Tryz.f260
def T261:zc:=xT Tryz.f261
def T262:zc:=xT Tryz.f262
def T263:zc:=xT Tryz.f263
def T264:zc:=xT Tryz.f264
def T265:zc:=xT Tryz.f265
def T266:zc:=xT Tryz.f266
def T267:zc:=xT Tryz.f267
def T268:zc:=xT Tryz.f268
def T269:zc:=xT Tryz.f269
def T270:zc:=xT Tryz.f270
def T271:zc:=xT Tryz.f271
def T272:zc:=xT Tryz.f272
def T273:zc:=xT Tryz.f273
def T274:zc:=xT Tryz.f274
def T275:zc:=xT Tryz.f275
def T276:zc:=xT Tryz.f276
def T280:zc:=xT Tryz.f280
def T281:zc:=xT Tryz.f281
def T282:zc:=xT Tryz.f282
def T283:zc:=xT Tryz.f283
def T284:zc:=xT Tryz.f284
def T285:zc:=xT Tryz.f285
def T286:zc:=xT Tryz.f286
def T287:zc:=xT Tryz.f287
def T288:zc:=xT Tryz.f288
def T289:zc:=xT Tryz.f289
def T290:zc:=xT Tryz.f290
def T291:zc:=xT Tryz.f291
def T292:zc:=xT Tryz.f292
def T293:zc:=xT Tryz.f293
def T294:zc:=xT Tryz.f294
def T295:zc:=xT Tryz.f295
def T296:zc:=xT Tryz.f296
def T297:zc:=xT Tryz.f297
def T298:zc:=xT Tryz.f298
def T299:zc:=xT Tryz.f299
def T300:zc:=xT Tryz.f300
def T302:zc:=xT Tryz.f302
def T303:zc:=xT Tryz.f303
def T304:zc:=xT Tryz.f304
def T305:zc:=xT Tryz.f305
def T306:zc:=xT Tryz.f306
def T307:zc:=xT Tryz.f307
def T308:zc:=xT Tryz.f308
def T309:zc:=xT Tryz.f309
def T310:zc:=xT Tryz.f310
def T311:zc:=xT Tryz.f311
def T312:zc:=xT Tryz.f312
def T313:zc:=xT Tryz.f313
def T314:zc:=xT Tryz.f314
def T315:zc:=xT Tryz.f315
def T316:zc:=xT Tryz.f316
def T317:zc:=xT Tryz.f317
def T318:zc:=xT Tryz.f318
def T319:zc:=xT Tryz.f319
def T321:zc:=xT Tryz.f321
def T322:zc:=xT Tryz.f322
def T323:zc:=xT Tryz.f323
def T324:zc:=xT Tryz.f324
def T325:zc:=xT Tryz.f325
def T326:zc:=xT Tryz.f326
def T327:zc:=xT Tryz.f327
def T328:zc:=xT Tryz.f328
def T329:zc:=xT Tryz.f329
def T330:zc:=xT Tryz.f330
def T331:zc:=xT Tryz.f331
def T332:zc:=xT Tryz.f332
def T333:zc:=xT Tryz.f333
def T334:zc:=xT Tryz.f334
def T335:zc:=xT Tryz.f335
def T337:zc:=xT Tryz.f337
def T338:zc:=xT Tryz.f338
def T339:zc:=xT Tryz.f339
def T340:zc:=xT Tryz.f340
def T341:zc:=xT Tryz.f341
def T342:zc:=xT Tryz.f342
def T343:zc:=xT Tryz.f343
def T344:zc:=xT Tryz.f344
def T346:zc:=xT Tryz.f346
def T347:zc:=xT Tryz.f347
def T348:zc:=xT Tryz.f348
def T349:zc:=xT Tryz.f349
def T350:zc:=xT Tryz.f350
def T351:zc:=xT Tryz.f351
def T353:zc:=xT Tryz.f353
def T354:zc:=xT Tryz.f354
def T355:zc:=xT Tryz.f355
def T356:zc:=xT Tryz.f356
def T357:zc:=xT Tryz.f357
def T359:zc:=xT Tryz.f359
def T360:zc:=xT Tryz.f360
def T361:zc:=xT Tryz.f361
end
end Tw
end Go.Proofs.YtkeknmgnoceogaaGreat
set_option maxRecDepth 1000000
namespace Go.Proofs.YtkeknmgnoceogaaGreat
namespace Tw
noncomputable section
def T3:zc:=xT Tryz.f3
def T4:zc:=xT Tryz.f4
def T8:zc:=xT Tryz.f8
def T13:zc:=xT Tryz.f13
def T14:zc:=xT Tryz.f14
def T17:zc:=xT Tryz.f17
def T19:zc:=xT Tryz.f19
def T29:zc:=xT Tryz.f29
def T42:zc:=xT Tryz.f42
def T43:zc:=xT Tryz.f43
def T44:zc:=xT Tryz.f44
def T45:zc:=xT Tryz.f45
def T64:zc:=xT Tryz.f64
def T81:zc:=xT Tryz.f81
def T82:zc:=xT Tryz.f82
def T83:zc:=xT Tryz.f83
def T84:zc:=xT Tryz.f84
def T85:zc:=xT Tryz.f85
def T132:zc:=xT Tryz.f132
def T190:zc:=xT Tryz.f190
def T191:zc:=xT Tryz.f191
def T217:zc:=xT Tryz.f217
def T219:zc:=xT Tryz.f219
def T279:zc:=xT Tryz.f279
def c36_0:zbI:=xC (zf9 0 T36.body)
def c36_4:zbI:=xC (zf9 4 T36.body)
def c36_6:zbI:=xC (zf9 6 T36.body)
def c36_8:zbI:=xC (zf9 8 T36.body)
end
end Tw
end Go.Proofs.YtkeknmgnoceogaaGreat
set_option maxRecDepth 1000000
namespace Go.Proofs.YtkeknmgnoceogaaGreat
namespace Tw
def zhe:List TV->Option (List (Int×Nat))
 | []=>some []
 | .int .i64 a::.int .u64 (.ofNat b)::l=>(match zhe l with
  | some r=>some ((a,b)::r)
  | none=>none)
 | _=>none
def zAs (e0:Nat):TO->Bool
 | .row e _ _ _ _=>Nat.beq e e0
 | _=>false
noncomputable def zye (h:TH)(b n g e:Nat)(news old:List TV):Option (TE×TH):=match zhe news,zhe old with
 | some _,some _=>some (.ret (.sl b (g+1) 0 (n+1) (2*(n+1)) 2),h.set b (.row e (g+1) (g+1) ((n+1)*2) (Tr.putL .nil 0 (news++old))))
 | _,_=>none
noncomputable def zx8 (e0:Nat)(h:TH)(b n g:Nat)(news:List TV):TO->Option (TE×TH)
 | .row e G _ len cells=>bif Nat.beq e e0 then bif Nat.beq g G then bif Nat.beq (n*2) len then(match cells.getL 0 len with
    | some old=>zye h b n g e news old
    | none=>none)else none else none else none
 | _=>none
noncomputable def zyc (e0:Nat)(h:TH)(b g n q z bx gx zx:Nat):Option (TE×TH):=match h.get bx,h.get b,zbL h bx gx 0 2 with
 | some rx,some r,some news=>bif zAs e0 rx then bif Nat.beq z 2 then bif Nat.beq zx 2 then bif Nat.beq (q%2) 0 then bif Nat.ble 1 n then bif Nat.ble n 100000 then bif Nat.beq b bx then none else zx8 e0 h b n g news r else none else none else none else none else none else none
 | _,_,_=>none
noncomputable def zwT (e0:Nat)(vs:List TV)(h:TH):Option (TE×TH) :=
 match vs with
 | [.sl b g 0 n q z,.int .i64 (.ofNat 0),.sl bx gx 0 1 _ zx]=>zyc e0 h b g n q z bx gx zx
 | _=>none
noncomputable def zkX (vs:List TV)(h:TH):Option (TE×TH):=match vs with
 | [.int .u64 (.ofNat w),.int .i64 (.ofNat a),.int .i64 (.ofNat n)]=>bif Nat.blt w 18446744073709551616 then bif Nat.ble 1 n then bif Nat.ble (a+n) 64 then some (.ret (.tuple [.int .u64 (.ofNat (w/2 ^ a%2 ^ n)),.int .i64 (.ofNat 0)]),h)else none else none else none
 | _=>none
noncomputable def zmB (vs:List TV)(h:TH):Option (TE×TH):=match vs with
 | [.int .u64 (.ofNat w),.int .i64 (.ofNat a),.int .i64 (.ofNat n),.int .u64 (.ofNat v)]=>bif Nat.blt w 18446744073709551616 then bif Nat.ble 1 n then bif Nat.ble (a+n) 64 then bif Nat.blt v (2 ^ n)then some (.ret (.tuple [.int .u64 (.ofNat (Nat.lor (Nat.xor w (Nat.land w ((2 ^ n-1)*2 ^ a))) (v*2 ^ a))),.int .i64 (.ofNat 0)]),h)else none else none else none else none
 | _=>none
noncomputable def znB (e:Nat)(vs:List TV)(h:TH):Option (TE×TH):=match vs with
 | [.nilsl,.int .i64 (.ofNat n)]=>bif Nat.beq n 0 then some (.ret .nilsl,h)else bif Nat.ble n 1000000 then some (.ret (.sl h.next 0 0 0 0 1),h.push (zcd e []))else none
 | _=>none
def zlZ (c:Nat):List Nat->Bool
 | []=>false
 | x::l=>bif Nat.beq x c then true else zlZ c l
noncomputable def zkB (vs:List TV)(h:TH):Option (TE×TH):=match vs with
 | [.str s,.str [c]]=>some (.ret (.bool (zlZ c s)),h)
 | _=>none
def zeT (r:Nat):Nat:=bif Nat.beq (r%2) 1 then Nat.xor (r/2) 14514072000185962306 else r/2
def zrP (r:Nat):Nat:=zeT (zeT (zeT (zeT (zeT (zeT (zeT (zeT r)))))))
noncomputable def zns (vs:List TV)(h:TH):Option (TE×TH):=match vs with
 | [.int .u64 (.ofNat r),.int .u8 (.ofNat n)]=>bif Nat.blt r 18446744073709551616 then bif Nat.blt n 256 then some (.ret (.int .u64 (.ofNat (zrP (Nat.xor r n)))),h)else none else none
 | _=>none
noncomputable def zi7 (f:Nat):Option (List TV->TH->Option (TE×TH)):=bif Nat.beq f 200 then some (zwT 120)else bif Nat.beq f 185 then some zkX else bif Nat.beq f 244 then some zmB else bif Nat.beq f 352 then some (znB 5)else bif Nat.beq f 194 then some zkB else bif Nat.beq f 336 then some zns else none
noncomputable def ofL:List (Nat×zc)->Tr zc->Tr zc
 | [],t=>t
 | p::l,t=>ofL l (t.set p.1 (some p.2))
theorem zs1:∀{l:List (Nat×zc)} {t:Tr zc} {f:Nat} {F:zc},(ofL l t).get f=some F->(f,F)∈l\/t.get f=some F
 | [],t,f,F,h=>.inr h
 | p::l,t,f,F,h=>by
  rcases zs1 (l:=l) h with h|h
  ·exact .inl (zAO9 _ h)
  ·rw[Tr.get_set]at h
   split at h
   ·rename_i e;injection h with h2;subst e;subst h2;exact .inl zAV9
   ·exact .inr h
noncomputable def zow:List (Nat×zc):=[(10,T10),(11,T11),(12,T12),(15,T15),(16,T16),(18,T18),(20,T20),(23,T23),(26,T26),(27,T27),(32,T32),(33,T33),(34,T34),(35,T35),(36,T36),(37,T37),(39,T39),(40,T40),(41,T41),(46,T46),(47,T47),(50,T50),(51,T51),(52,T52),(53,T53),(54,T54),(55,T55),(58,T58),(59,T59),(60,T60),(61,T61),(63,T63),(68,T68),(69,T69),(70,T70),(71,T71),(72,T72),(73,T73),(74,T74),(75,T75),(76,T76),(77,T77),(78,T78),(79,T79),(80,T80),(86,T86),(87,T87),(88,T88),(89,T89),(90,T90),(92,T92),(93,T93),(94,T94),(95,T95),(96,T96),(97,T97),(98,T98),(99,T99),(106,T106),(107,T107),(108,T108),(109,T109),(110,T110),(111,T111),(112,T112),(115,T115),(116,T116),(120,T120),(121,T121),(122,T122),(123,T123),(124,T124),(125,T125),(126,T126),(127,T127),(128,T128),(129,T129),(130,T130),(131,T131),(133,T133),(134,T134),(135,T135),(136,T136),(137,T137),(138,T138),(139,T139),(140,T140),(141,T141),(142,T142),(143,T143),(144,T144),(145,T145),(146,T146),(147,T147),(148,T148),(149,T149),(162,T162),(163,T163),(164,T164),(165,T165),(166,T166),(167,T167),(168,T168),(169,T169),(170,T170),(171,T171),(172,T172),(175,T175),(179,T179),(180,T180),(181,T181),(182,T182),(183,T183),(184,T184),(186,T186),(187,T187),(188,T188),(189,T189),(192,T192),(193,T193),(195,T195),(196,T196),(197,T197),(198,T198),(199,T199),(202,T202),(203,T203),(204,T204),(205,T205),(206,T206),(207,T207),(208,T208),(209,T209),(210,T210),(211,T211),(212,T212),(213,T213),(214,T214),(220,T220),(221,T221),(222,T222),(223,T223),(224,T224),(225,T225),(226,T226),(227,T227),(228,T228),(229,T229),(230,T230),(234,T234),(235,T235),(236,T236),(237,T237),(238,T238),(239,T239),(240,T240),(241,T241),(242,T242),(243,T243),(245,T245),(246,T246),(247,T247),(248,T248),(249,T249),(250,T250),(251,T251),(252,T252),(253,T253),(254,T254),(256,T256),(257,T257),(258,T258),(259,T259),(260,T260),(261,T261),(262,T262),(263,T263),(264,T264),(265,T265),(266,T266),(267,T267),(268,T268),(269,T269),(270,T270),(271,T271),(272,T272),(273,T273),(274,T274),(275,T275),(276,T276),(280,T280),(281,T281),(282,T282),(283,T283),(284,T284),(285,T285),(286,T286),(287,T287),(288,T288),(289,T289),(290,T290),(291,T291),(292,T292),(293,T293),(294,T294),(295,T295),(296,T296),(297,T297),(298,T298),(299,T299),(300,T300),(302,T302),(303,T303),(304,T304),(305,T305),(306,T306),(307,T307),(308,T308),(309,T309),(310,T310),(311,T311),(312,T312),(313,T313),(314,T314),(315,T315),(316,T316),(317,T317),(318,T318),(319,T319),(321,T321),(322,T322),(323,T323),(324,T324),(325,T325),(326,T326),(327,T327),(328,T328),(329,T329),(330,T330),(331,T331),(332,T332),(333,T333),(334,T334),(335,T335),(337,T337),(338,T338),(339,T339),(340,T340),(341,T341),(342,T342),(343,T343),(344,T344),(346,T346),(347,T347),(348,T348),(349,T349),(350,T350),(351,T351),(353,T353),(354,T354),(355,T355),(356,T356),(357,T357),(359,T359),(360,T360),(361,T361)]
theorem zzi:zow.map (fun p=>zfP.get p.1)=zow.map fun p=>some p.2:=by kernel_rfl
theorem zz3 {f:Nat}{F:zc}(h:(ofL zow .nil).get f=some F):zfP.get f=some F:=by
 rcases zs1 h with h|h
 ·obtain⟨i,hi,e⟩:=zBH9.1 h;have h2:(zow.map fun p=>zfP.get p.1)[i]?=(zow.map fun p=>some p.2)[i]?:=by rw[zzi]
  rw[zAI9,zAI9,zAA9 hi,e]at h2;injection h2
 ·rw[Tr.get_nil]at h;cases h
noncomputable def E16:Env:=⟨ofL zow .nil,zi7,zkC,zsa,100000⟩
def zrn:Option (TE×TH)->Bool
 | some (.ret (.bool true),_)=>true
 | _=>false
end Tw
end Go.Proofs.YtkeknmgnoceogaaGreat
