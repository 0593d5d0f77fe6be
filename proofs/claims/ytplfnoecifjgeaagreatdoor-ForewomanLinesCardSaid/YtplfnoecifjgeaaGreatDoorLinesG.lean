/- Part 7 of the proof of Lines: shallow programs of Go functions, and what they compute. No condition. -/
import Derived.Test.YtplfnoecifjgeaaGreatDoorLinesF
import Derived.Shelf.SlGeneric
import Derived.Shelf.Spec.SlicesGrow
import Derived.Shelf.Strings.OnBuilder
import Derived.Shelf.LaysM
import Derived.Shelf.Strconv.Itoa3
import Derived.Shelf.LaysC
import Derived.Shelf.Strconv.AtoiAll
import Derived.Shelf.Strings.Split
import Derived.Shelf.Slices.In.SortNone
import Derived.Test.YtplfnoecifjgeaaGreatDoorProg
import Derived.WalkKit
import Derived.WalkSpells
import Derived.Handy
import Derived.Shelf.Sort.AssemblyIn
import Derived.Sort.EveryDepth
import Derived.Handed
import Derived.Shelf.Vars
import Derived.Lib.LaidTab
import Derived.Lib.ItoaNum
noncomputable section
set_option linter.unusedVariables false
set_option linter.unusedSimpArgs false
namespace Go.Proofs
open Go.Shelf
theorem c6{P:Program}{k:Nat}{f g:Func}(h:P.funcs[k]?=some f)(e:f=g:=by kernel_rfl):P.funcs[k]?=some g:=h.trans (congrArg some e)
open Tryz
def Tryz.agD:Go.Shelf.Ren:=⟨fun | 156=>258 | 165=>318 | 166=>319 | 169=>320 | 240=>358 | 241=>359 | 276=>386 | 277=>387 | n=>n,fun | 31=>48 | 9=>9 | 3=>3 | 4=>4 | 0=>0 | 20=>20 | 72=>345 | 76=>267 | 70=>343 | 37=>171 | 75=>266 | 127=>380 | 164=>405 | 5=>5 | 80=>347 | n=>n,fun | n=>n⟩
theorem Tryz.agE : Go.Proofs.Lays.n156 Tryz.prog Tryz.agD := {
  mixed:=by kernel_rfl
  f156:=c6 func258
  f165:=c6 func318
  f166:=c6 func319
  f169:=c6 func320
  f240:=c6 func358
  f241:=c6 func359
  f276:=c6 func386
  f277:=c6 func387
  t0:=underlying0
  a0:=isAgg0
  z0:=sizeOf0
  v0:=zeroValue0
  t3:=underlying3
  a3:=isAgg3
  z3:=sizeOf3
  v3:=zeroValue3
  t4:=underlying4
  a4:=isAgg4
  z4:=sizeOf4
  v4:=zeroValue4
  t9:=underlying9
  a9:=isAgg9
  z9:=sizeOf9
  v9:=zeroValue9
  t20:=underlying20
  a20:=isAgg20
  z20:=sizeOf20
  v20:=zeroValue20
  t31:=underlying48
  a31:=isAgg48
  z31:=sizeOf48
  v31:=zeroValue48
  t37:=underlying171
  a37:=isAgg171
  z37:=sizeOf171
  v37:=zeroValue171
  t70:=underlying343
  a70:=isAgg343
  z70:=sizeOf343
  v70:=zeroValue343
  t72:=underlying345
  a72:=isAgg345
  z72:=sizeOf345
  v72:=zeroValue345
  t75:=underlying266
  a75:=isAgg266
  z75:=sizeOf266
  v75:=zeroValue266
  t76:=underlying267
  a76:=isAgg267
  z76:=sizeOf267
  v76:=zeroValue267
  t127:=underlying380
  a127:=isAgg380
  z127:=sizeOf380
  v127:=zeroValue380
  t164:=underlying405
  a164:=isAgg405
  z164:=sizeOf405
  v164:=zeroValue405 }
theorem Tryz.agF : Builder.Extra Tryz.prog Tryz.agD := {
  sizeBuilder:=by kernel_rfl
  liesBuilder:=by kernel_rfl
  t5:=underlying5
  a5:=isAgg5
  z5:=sizeOf5
  v5:=zeroValue5
  infoByte:=by kernel_rfl
  cellsByte:=by kernel_rfl
  sizeByte:=by kernel_rfl
  neB5:=by decide }
def Tryz.az1:Go.Shelf.Ren:=⟨fun | 171=>204 | 243=>264 | 246=>330 | 283=>368 | 284=>369 | 285=>370 | 286=>371 | 129=>291 | 317=>392 | 318=>393 | 319=>394 | 320=>395 | 337=>399 | 338=>400 | n=>n,fun | 3=>3 | 9=>9 | 2=>2 | 4=>4 | 171=>386 | 0=>0 | 53=>285 | 37=>171 | 5=>5 | 173=>388 | 212=>418 | 51=>282 | 20=>20 | 213=>419 | 46=>228 | 232=>423 | 233=>424 | n=>n,fun | 17=>5 | 18=>6 | 19=>7 | n=>n⟩
theorem Tryz.agG : Go.Proofs.LaysM.n171 Tryz.prog Tryz.az1 := {
  mixed:=by kernel_rfl
  f129:=c6 func291
  f171:=c6 func204
  f243:=c6 func264
  f246:=c6 func330
  f283:=c6 func368
  f284:=c6 func369
  f285:=c6 func370
  f286:=c6 func371
  f317:=c6 func392
  f318:=c6 func393
  f319:=c6 func394
  f320:=c6 func395
  f337:=c6 func399
  f338:=c6 func400
  t0:=underlying0
  a0:=isAgg0
  z0:=sizeOf0
  v0:=zeroValue0
  t2:=underlying2
  a2:=isAgg2
  z2:=sizeOf2
  v2:=zeroValue2
  t3:=underlying3
  a3:=isAgg3
  z3:=sizeOf3
  v3:=zeroValue3
  t4:=underlying4
  a4:=isAgg4
  z4:=sizeOf4
  v4:=zeroValue4
  t5:=underlying5
  a5:=isAgg5
  z5:=sizeOf5
  v5:=zeroValue5
  t9:=underlying9
  a9:=isAgg9
  z9:=sizeOf9
  v9:=zeroValue9
  t20:=underlying20
  a20:=isAgg20
  z20:=sizeOf20
  v20:=zeroValue20
  t37:=underlying171
  a37:=isAgg171
  z37:=sizeOf171
  v37:=zeroValue171
  t46:=underlying228
  a46:=isAgg228
  z46:=sizeOf228
  v46:=zeroValue228
  t51:=underlying282
  a51:=isAgg282
  z51:=sizeOf282
  v51:=zeroValue282
  t53:=underlying285
  a53:=isAgg285
  z53:=sizeOf285
  v53:=zeroValue285
  t171:=underlying386
  a171:=isAgg386
  z171:=sizeOf386
  v171:=zeroValue386
  t173:=underlying388
  a173:=isAgg388
  z173:=sizeOf388
  v173:=zeroValue388
  t212:=underlying418
  a212:=isAgg418
  z212:=sizeOf418
  v212:=zeroValue418
  t213:=underlying419
  a213:=isAgg419
  z213:=sizeOf419
  t232:=underlying423
  a232:=isAgg423
  z232:=sizeOf423
  v232:=zeroValue423
  t233:=underlying424
  a233:=isAgg424
  z233:=sizeOf424
  v233:=zeroValue424
  g17:=by kernel_rfl
  g18:=by kernel_rfl
  g19:=by kernel_rfl
  i0:=by kernel_rfl
  i2:=by kernel_rfl
  i3:=by kernel_rfl
  i4:=by kernel_rfl
  i5:=by kernel_rfl
  i9:=by kernel_rfl
  i20:=by kernel_rfl
  i37:=by kernel_rfl
  i46:=by kernel_rfl
  i51:=by kernel_rfl
  i53:=by kernel_rfl
  i171:=by kernel_rfl
  i173:=by kernel_rfl
  i212:=by kernel_rfl
  i232:=by kernel_rfl
  i233:=by kernel_rfl
  m17:=by kernel_rfl
  m18:=by kernel_rfl
  m19:=by kernel_rfl }
def Tryz.az2:Go.Shelf.Ren:=⟨fun | 172=>203 | 244=>262 | 245=>263 | 247=>325 | 279=>326 | 280=>327 | 281=>328 | 282=>329 | 287=>365 | 316=>366 | 171=>204 | 205=>367 | 321=>390 | 322=>391 | 243=>264 | 246=>330 | 283=>368 | 284=>369 | 285=>370 | 286=>371 | 129=>291 | 317=>392 | 318=>393 | 319=>394 | 320=>395 | 337=>399 | 338=>400 | n=>n,fun | 9=>9 | 3=>3 | 75=>266 | 76=>267 | 4=>4 | 5=>5 | 167=>351 | 37=>171 | 0=>0 | 85=>352 | 2=>2 | 168=>354 | 53=>285 | 175=>381 | 46=>228 | 210=>384 | 127=>380 | 145=>416 | 143=>414 | 21=>21 | 171=>386 | 173=>388 | 212=>418 | 51=>282 | 20=>20 | 213=>419 | 232=>423 | 233=>424 | 80=>347 | n=>n,fun | 15=>1 | 16=>2 | 17=>5 | 18=>6 | 19=>7 | n=>n⟩
theorem Tryz.Ud : Go.Proofs.LaysC.n172 Tryz.prog Tryz.az2 := {
  mixed:=by kernel_rfl
  f129:=c6 func291
  f171:=c6 func204
  f172:=c6 func203
  f205:=c6 func367
  f243:=c6 func264
  f244:=c6 func262
  f245:=c6 func263
  f246:=c6 func330
  f247:=c6 func325
  f279:=c6 func326
  f280:=c6 func327
  f281:=c6 func328
  f282:=c6 func329
  f283:=c6 func368
  f284:=c6 func369
  f285:=c6 func370
  f286:=c6 func371
  f287:=c6 func365
  f316:=c6 func366
  f317:=c6 func392
  f318:=c6 func393
  f319:=c6 func394
  f320:=c6 func395
  f321:=c6 func390
  f322:=c6 func391
  f337:=c6 func399
  f338:=c6 func400
  t0:=underlying0
  a0:=isAgg0
  z0:=sizeOf0
  v0:=zeroValue0
  t2:=underlying2
  a2:=isAgg2
  z2:=sizeOf2
  v2:=zeroValue2
  t3:=underlying3
  a3:=isAgg3
  z3:=sizeOf3
  v3:=zeroValue3
  t4:=underlying4
  a4:=isAgg4
  z4:=sizeOf4
  v4:=zeroValue4
  t5:=underlying5
  a5:=isAgg5
  z5:=sizeOf5
  v5:=zeroValue5
  t9:=underlying9
  a9:=isAgg9
  z9:=sizeOf9
  v9:=zeroValue9
  t20:=underlying20
  a20:=isAgg20
  z20:=sizeOf20
  v20:=zeroValue20
  t21:=underlying21
  a21:=isAgg21
  z21:=sizeOf21
  v21:=zeroValue21
  t37:=underlying171
  a37:=isAgg171
  z37:=sizeOf171
  v37:=zeroValue171
  t46:=underlying228
  a46:=isAgg228
  z46:=sizeOf228
  v46:=zeroValue228
  t51:=underlying282
  a51:=isAgg282
  z51:=sizeOf282
  v51:=zeroValue282
  t53:=underlying285
  a53:=isAgg285
  z53:=sizeOf285
  v53:=zeroValue285
  t75:=underlying266
  a75:=isAgg266
  z75:=sizeOf266
  v75:=zeroValue266
  t76:=underlying267
  a76:=isAgg267
  z76:=sizeOf267
  v76:=zeroValue267
  t85:=underlying352
  a85:=isAgg352
  z85:=sizeOf352
  v85:=zeroValue352
  t127:=underlying380
  a127:=isAgg380
  z127:=sizeOf380
  v127:=zeroValue380
  t143:=underlying414
  a143:=isAgg414
  z143:=sizeOf414
  v143:=zeroValue414
  t145:=underlying416
  a145:=isAgg416
  z145:=sizeOf416
  v145:=zeroValue416
  t167:=underlying351
  a167:=isAgg351
  z167:=sizeOf351
  v167:=zeroValue351
  t168:=underlying354
  a168:=isAgg354
  z168:=sizeOf354
  v168:=zeroValue354
  t171:=underlying386
  a171:=isAgg386
  z171:=sizeOf386
  v171:=zeroValue386
  t173:=underlying388
  a173:=isAgg388
  z173:=sizeOf388
  v173:=zeroValue388
  t175:=underlying381
  a175:=isAgg381
  z175:=sizeOf381
  v175:=zeroValue381
  t210:=underlying384
  a210:=isAgg384
  z210:=sizeOf384
  v210:=zeroValue384
  t212:=underlying418
  a212:=isAgg418
  z212:=sizeOf418
  v212:=zeroValue418
  t213:=underlying419
  a213:=isAgg419
  z213:=sizeOf419
  t232:=underlying423
  a232:=isAgg423
  z232:=sizeOf423
  v232:=zeroValue423
  t233:=underlying424
  a233:=isAgg424
  z233:=sizeOf424
  v233:=zeroValue424
  g15:=by kernel_rfl
  g16:=by kernel_rfl
  g17:=by kernel_rfl
  g18:=by kernel_rfl
  g19:=by kernel_rfl
  t80:=underlying347
  a80:=isAgg347
  z80:=sizeOf347
  v80:=zeroValue347
  i0:=by kernel_rfl
  i2:=by kernel_rfl
  i3:=by kernel_rfl
  i4:=by kernel_rfl
  i5:=by kernel_rfl
  i9:=by kernel_rfl
  i20:=by kernel_rfl
  i21:=by kernel_rfl
  i37:=by kernel_rfl
  i46:=by kernel_rfl
  i51:=by kernel_rfl
  i53:=by kernel_rfl
  i75:=by kernel_rfl
  i76:=by kernel_rfl
  i80:=by kernel_rfl
  i85:=by kernel_rfl
  i127:=by kernel_rfl
  i143:=by kernel_rfl
  i145:=by kernel_rfl
  i167:=by kernel_rfl
  i168:=by kernel_rfl
  i171:=by kernel_rfl
  i173:=by kernel_rfl
  i175:=by kernel_rfl
  i210:=by kernel_rfl
  i212:=by kernel_rfl
  i232:=by kernel_rfl
  i233:=by kernel_rfl
  m15:=by kernel_rfl
  m16:=by kernel_rfl
  m17:=by kernel_rfl
  m18:=by kernel_rfl
  m19:=by kernel_rfl
  c0:=by kernel_rfl
  c2:=by kernel_rfl
  c3:=by kernel_rfl
  c4:=by kernel_rfl
  c5:=by kernel_rfl
  c9:=by kernel_rfl
  c20:=by kernel_rfl
  c21:=by kernel_rfl
  c37:=by kernel_rfl
  c46:=by kernel_rfl
  c51:=by kernel_rfl
  c53:=by kernel_rfl
  c75:=by kernel_rfl
  c76:=by kernel_rfl
  c80:=by kernel_rfl
  c85:=by kernel_rfl
  c127:=by kernel_rfl
  c143:=by kernel_rfl
  c145:=by kernel_rfl
  c167:=by kernel_rfl
  c168:=by kernel_rfl
  c171:=by kernel_rfl
  c173:=by kernel_rfl
  c175:=by kernel_rfl
  c210:=by kernel_rfl
  c212:=by kernel_rfl
  c213:=by kernel_rfl
  c232:=by kernel_rfl
  c233:=by kernel_rfl }
open Go.RowKit in
theorem Tryz.strconv_Atoi_ok(s:ByteArray)(BF:s.size<=9223372036854775806)(v:Int)(h:Lib.atoiAll s.data.toList=.ok v)(w:World) :
  Calls Tryz.prog 203 #[.string s] w λe w'=>e=.returned (.tuple #[.int .i64 v,.nilIface])/\(w'=w\/∃ t,w'=Lib.bytesWorld w 5 t):=Any.strconv_Atoi_ok Tryz.Ud s BF v h w
open Go.RowKit in
theorem Tryz.strconv_Atoi_syntax(s:ByteArray)(ub:s.size<=281474976710656)(h:Lib.atoiAll s.data.toList=Lib.atoiAll [])(jG:Value)(w:World)(ab:w.cell? ⟨1,0,none⟩=some jG)(rh:jG=.nilIface\/∃ nj nM,jG=.iface nj nM) :
  Calls Tryz.prog 203 #[.string s] w λe w'=>∃ N,e=.returned (.tuple #[.int .i64 (0),.iface 354 (.pointer (some ⟨N,0,none⟩))])/\w.heap.size<=N/\w'.heap[N]?=some (.cells #[.string ⟨#[65,116,111,105]⟩,.string s,jG] 384 (0,0))/\Below w.heap.size w w':=Any.strconv_Atoi_syntax Tryz.Ud s ub h jG w ab rh
open Go.RowKit in
theorem Tryz.strconv_Atoi_range(s:ByteArray)(ub:s.size<=281474976710656)(h:Lib.atoiAll s.data.toList=.range)(jG:Value)(w:World)(ab:w.cell? ⟨2,0,none⟩=some jG)(rh:jG=.nilIface\/∃ nj nM,jG=.iface nj nM) :
  Calls Tryz.prog 203 #[.string s] w λe w'=>∃ N,e=.returned (.tuple #[.int .i64 (Lib.atoiSat s.data.toList),.iface 354 (.pointer (some ⟨N,0,none⟩))])/\w.heap.size<=N/\w'.heap[N]?=some (.cells #[.string ⟨#[65,116,111,105]⟩,.string s,jG] 384 (0,0))/\Below w.heap.size w w':=Any.strconv_Atoi_range Tryz.Ud s ub h jG w ab rh
def Tryz.az3:Go.Shelf.Ren:=⟨fun | 146=>139 | 221=>202 | 268=>259 | 138=>260 | 143=>261 | 195=>321 | 197=>322 | 218=>323 | 219=>324 | 260=>360 | 217=>361 | 225=>362 | 224=>363 | 267=>364 | 266=>388 | 314=>389 | n=>n,fun | 9=>9 | 31=>48 | 3=>3 | 4=>4 | 0=>0 | 105=>348 | 21=>21 | 5=>5 | 46=>228 | 119=>408 | 139=>411 | 138=>410 | 146=>283 | 51=>282 | n=>n,fun | 1=>0 | 3=>3 | 4=>4 | n=>n⟩
theorem Tryz.az4 : Go.Proofs.Lays.n146 Tryz.prog Tryz.az3 := {
  mixed:=by kernel_rfl
  f138:=c6 func260
  f143:=c6 func261
  f146:=c6 func139
  f195:=c6 func321
  f197:=c6 func322
  f217:=c6 func361
  f218:=c6 func323
  f219:=c6 func324
  f221:=c6 func202
  f224:=c6 func363
  f225:=c6 func362
  f260:=c6 func360
  f266:=c6 func388
  f267:=c6 func364
  f268:=c6 func259
  f314:=c6 func389
  t0:=underlying0
  a0:=isAgg0
  z0:=sizeOf0
  v0:=zeroValue0
  t3:=underlying3
  a3:=isAgg3
  z3:=sizeOf3
  v3:=zeroValue3
  t4:=underlying4
  a4:=isAgg4
  z4:=sizeOf4
  v4:=zeroValue4
  t5:=underlying5
  a5:=isAgg5
  z5:=sizeOf5
  v5:=zeroValue5
  t9:=underlying9
  a9:=isAgg9
  z9:=sizeOf9
  v9:=zeroValue9
  t21:=underlying21
  a21:=isAgg21
  z21:=sizeOf21
  v21:=zeroValue21
  t31:=underlying48
  a31:=isAgg48
  z31:=sizeOf48
  v31:=zeroValue48
  t46:=underlying228
  a46:=isAgg228
  z46:=sizeOf228
  v46:=zeroValue228
  t51:=underlying282
  a51:=isAgg282
  z51:=sizeOf282
  v51:=zeroValue282
  t105:=underlying348
  a105:=isAgg348
  z105:=sizeOf348
  v105:=zeroValue348
  t119:=underlying408
  a119:=isAgg408
  z119:=sizeOf408
  t138:=underlying410
  a138:=isAgg410
  z138:=sizeOf410
  v138:=zeroValue410
  t139:=underlying411
  a139:=isAgg411
  z139:=sizeOf411
  v139:=zeroValue411
  t146:=underlying283
  a146:=isAgg283
  z146:=sizeOf283
  v146:=zeroValue283
  g1:=by kernel_rfl
  g3:=by kernel_rfl
  g4:=by kernel_rfl }
def Tryz.az5:Go.Shelf.Ren:=⟨fun | 189=>161 | 125=>215 | 257=>214 | 128=>290 | 129=>291 | 294=>281 | 295=>282 | 296=>283 | 297=>284 | 298=>285 | 299=>286 | 216=>287 | 300=>288 | 301=>289 | 328=>340 | 329=>341 | 330=>342 | 331=>343 | 332=>344 | 215=>339 | 343=>383 | n=>n,fun | 28=>27 | 3=>3 | 46=>228 | 0=>0 | 51=>282 | 53=>285 | 4=>4 | 183=>314 | 182=>313 | 131=>193 | 5=>5 | 9=>9 | 218=>359 | 222=>363 | 228=>398 | 229=>331 | n=>n,fun | n=>n⟩
theorem Tryz.agH : Go.Proofs.Lays.n189 Tryz.prog Tryz.az5 := {
  mixed:=by kernel_rfl
  f125:=c6 func215
  f128:=c6 func290
  f129:=c6 func291
  f189:=c6 func161
  f215:=c6 func339
  f216:=c6 func287
  f257:=c6 func214
  f294:=c6 func281
  f295:=c6 func282
  f296:=c6 func283
  f297:=c6 func284
  f298:=c6 func285
  f299:=c6 func286
  f300:=c6 func288
  f301:=c6 func289
  f328:=c6 func340
  f329:=c6 func341
  f330:=c6 func342
  f331:=c6 func343
  f332:=c6 func344
  f343:=c6 func383
  t0:=underlying0
  a0:=isAgg0
  z0:=sizeOf0
  v0:=zeroValue0
  t3:=underlying3
  a3:=isAgg3
  z3:=sizeOf3
  v3:=zeroValue3
  t4:=underlying4
  a4:=isAgg4
  z4:=sizeOf4
  v4:=zeroValue4
  t5:=underlying5
  a5:=isAgg5
  z5:=sizeOf5
  v5:=zeroValue5
  t9:=underlying9
  a9:=isAgg9
  z9:=sizeOf9
  v9:=zeroValue9
  t28:=underlying27
  a28:=isAgg27
  z28:=sizeOf27
  v28:=zeroValue27
  t46:=underlying228
  a46:=isAgg228
  z46:=sizeOf228
  v46:=zeroValue228
  t51:=underlying282
  a51:=isAgg282
  z51:=sizeOf282
  v51:=zeroValue282
  t53:=underlying285
  a53:=isAgg285
  z53:=sizeOf285
  v53:=zeroValue285
  t131:=underlying193
  a131:=isAgg193
  z131:=sizeOf193
  v131:=zeroValue193
  t182:=underlying313
  a182:=isAgg313
  z182:=sizeOf313
  v182:=zeroValue313
  t183:=underlying314
  a183:=isAgg314
  z183:=sizeOf314
  v183:=zeroValue314
  t218:=underlying359
  a218:=isAgg359
  z218:=sizeOf359
  v218:=zeroValue359
  t222:=underlying363
  a222:=isAgg363
  z222:=sizeOf363
  v222:=zeroValue363
  t228:=underlying398
  a228:=isAgg398
  z228:=sizeOf398
  v228:=zeroValue398
  t229:=underlying331
  a229:=isAgg331
  z229:=sizeOf331
  v229:=zeroValue331 }
def Tryz.az6:Go.Shelf.Ren:=⟨fun | 4=>257 | n=>n,fun | 22=>27 | 25=>3 | 3=>3 | 4=>4 | 9=>9 | 20=>20 | 0=>0 | n=>n,fun | n=>n⟩
theorem Tryz.agI : Go.Proofs.Lays8.n4 Tryz.prog Tryz.az6 := {
  mixed:=by kernel_rfl
  f4:=⟨Tryz.f257.name,by decide,c6 func257⟩
  t0:=underlying0
  a0:=isAgg0
  z0:=sizeOf0
  v0:=zeroValue0
  t3:=underlying3
  a3:=isAgg3
  z3:=sizeOf3
  v3:=zeroValue3
  t4:=underlying4
  a4:=isAgg4
  z4:=sizeOf4
  v4:=zeroValue4
  t9:=underlying9
  a9:=isAgg9
  z9:=sizeOf9
  v9:=zeroValue9
  t20:=underlying20
  a20:=isAgg20
  z20:=sizeOf20
  v20:=zeroValue20
  t22:=underlying27
  a22:=isAgg27
  z22:=sizeOf27
  v22:=zeroValue27 }
def Tryz.az7:Go.Shelf.Ren:=⟨fun | 4=>256 | n=>n,fun | 22=>34 | 25=>125 | 3=>3 | 4=>4 | 9=>9 | 20=>20 | 0=>0 | n=>n,fun | n=>n⟩
theorem Tryz.agJ : Go.Proofs.Lays8.n4 Tryz.prog Tryz.az7 := {
  mixed:=by kernel_rfl
  f4:=⟨Tryz.f256.name,by decide,c6 func256⟩
  t0:=underlying0
  a0:=isAgg0
  z0:=sizeOf0
  v0:=zeroValue0
  t3:=underlying3
  a3:=isAgg3
  z3:=sizeOf3
  v3:=zeroValue3
  t4:=underlying4
  a4:=isAgg4
  z4:=sizeOf4
  v4:=zeroValue4
  t9:=underlying9
  a9:=isAgg9
  z9:=sizeOf9
  v9:=zeroValue9
  t20:=underlying20
  a20:=isAgg20
  z20:=sizeOf20
  v20:=zeroValue20
  t22:=underlying34
  a22:=isAgg34
  z22:=sizeOf34
  v22:=zeroValue34 }
end Go.Proofs
namespace Go.Fer.aj
theorem agK:∀ s:a1,(Go.Lib.index s [32]=-1/\dB s=[s])\/∃ t r,s=t++32::r/\Go.Lib.index s [32]=(t.length:Int)/\dB s=t::dB r
 | []=>.inl ⟨rfl,rfl⟩
 | b::l=>by
  unfold Go.Lib.index;by_cases V:b=32
  ·subst V;exact .inr ⟨[],l,rfl,by rfl,by rfl⟩
  ·rcases agK l with⟨E,M⟩ | ⟨t,r,E,M,ai⟩
   ·grind [dB]
   ·grind [dB]
theorem az8:∀ (n:Nat) (s:a1),s.length<=n->Go.Lib.splitK [32] 0 (Go.Lib.count s [32]) s=dB s:=by
 intro n;induction n with
 | zero=>
  intro s h;have:s=[]:=aKC (by omega);subst this;rfl
 | succ n aP=>
  intro s h;rcases agK s with⟨E,M⟩ | ⟨t,r,E,M,ai⟩
  ·rw[Go.Lib.count_miss E,M];rfl
  ·rw[Go.Lib.count_hit (by simp) M,Nat.add_comm,Go.Lib.splitK];have e:((t.length:Int)).toNat=t.length:=rfl;have Ue:s.drop (t.length+1)=r:=by simp_all
   grind
end Go.Fer.aj
namespace Go.Fer.pT
open Go Go.Proofs Go.RowKit
section
variable {P:Program} {F:Nat->Prop} {w:World}
theorem agL(x:List UInt8):(ByteArray.mk x.toArray).data.toList=x:=by simp
theorem Mw(x:List UInt8):(ByteArray.mk x.toArray).size=x.length:=by rfl
theorem Uf{args:List Value}{x:List UInt8}(h:gn P .str F w args x):args=[.string ⟨x.toArray⟩]/\x.length<2 ^ 63:=by
 obtain⟨v,rfl,ab⟩:=(tS rfl).1 h;grind [oc]
theorem az9{args:List Value}{x y:List UInt8}(h:gn P (.ar .str .str) F w args (x,y)):args=[.string ⟨x.toArray⟩,.string ⟨y.toArray⟩]/\x.length<2 ^ 63/\y.length<2 ^ 63:=by
 grind [HT,oc,Uf]
theorem az_(w:World)(k:Nat)(os:Array Obj):Below w.heap.size w (Go.Sort.grow (w.drewN k) os):=by
 refine⟨rfl,rfl,rfl,?_,λj aI=>?_⟩
 ·simp
 ·show (w.heap++os)[j]?=_;grind
theorem Mx(h:o7 Tryz.prog F w){b:Nat}(V:b<6):F b/\Vj b λi=>w.cell? ⟨b,i,none⟩:=h b (aJ' V (aKv (by rfl)))
end
theorem agM(sep:ByteArray):∀ (k:Nat) (s:ByteArray),∀ x∈Lib.splitB sep 0 k s,x.size<=s.size
 | 0,s,x,al=>by
  grind [Lib.splitB]
 | k+1,s,x,al=>by
  unfold Lib.splitB at al;split at al
  ·grind
  ·simp  at al;rcases al with rfl | al
   ·grind [ByteArray.size_extract]
   ·have:=agM sep k _ x al;grind [ByteArray.size_extract]
def s9(s sep:List UInt8):List (List UInt8):=(Lib.splitB ⟨sep.toArray⟩ 0 (Lib.countB ⟨s.toArray⟩ ⟨sep.toArray⟩) ⟨s.toArray⟩).map (·.data.toList)
theorem az'(s:List UInt8):s9 s [32]=aj.dB s:=by
 unfold s9;rw[Lib.splitB_data];exact aj.az8 s.length s (ajn _)
abbrev aAa:Code:=Tryz.f139.body.getD .skip
theorem aAb:je Tryz.prog 139 (.ar .str .str) (.slice .str) aj.Ml.sh where
 enter:=wh Tryz.func139 (show Tryz.f139.body=some aAa by rfl) (by rfl)
 ki:=λF w args x bF hs br az=>by
  obtain⟨s,sep⟩:=x;obtain⟨az,E⟩:s.length<=10000/\sep=[32]:=az;subst E;obtain⟨rfl,af,gW⟩:=az9 br;obtain⟨_,m,hm⟩:=Mx hs (b:=0) (by decide);have cY:1<=(ByteArray.mk [32].toArray).size:=by decide
  refine (Any.strings_Split Tryz.az4 (by kernel_rfl) ⟨s.toArray⟩ ⟨[32].toArray⟩ m w (by grind [Mw]) hm cY).mono ?_;rintro e w' ⟨rfl,rfl⟩;have hlen:=Lib.splitB_all ⟨[32].toArray⟩ cY 0 _ ⟨s.toArray⟩ rfl;have xy:=Lib.countB_le ⟨[32].toArray⟩ cY _ ⟨s.toArray⟩ (ajn _);rw[Mw]at xy;have nu:=agM ⟨[32].toArray⟩ (Lib.countB ⟨s.toArray⟩ ⟨[32].toArray⟩) ⟨s.toArray⟩;rw[Mw]at nu;have BC:(s9 s [32]).length=Lib.countB ⟨s.toArray⟩ ⟨[32].toArray⟩+1:=by grind [s9]
  refine⟨_,s9 s [32],rfl,az' s,⟨[_],rfl,(tS rfl).2 ⟨_,rfl,(eH rfl).2 ⟨rfl,some ⟨w.heap.size,0,none⟩,Lib.countB ⟨s.toArray⟩ ⟨[32].toArray⟩+1,by grind,by omega,by omega,nofun,λp aq hc=>?_⟩⟩⟩,?_⟩
  ·cases aq;refine⟨.inr ⟨ajn _,by simp⟩,rfl,λi D=>?_⟩;have ea:i<(Lib.splitB ⟨[32].toArray⟩ 0 (Lib.countB ⟨s.toArray⟩ ⟨[32].toArray⟩) ⟨s.toArray⟩).length:=by omega
   generalize bd:Lib.splitB ⟨[32].toArray⟩ 0 (Lib.countB ⟨s.toArray⟩ ⟨[32].toArray⟩) ⟨s.toArray⟩=B at ea nu hlen;have jF:(s9 s [32])[i]=B[i].data.toList:=by
    grind [s9]
   refine⟨[.string B[i]],⟨.inr ⟨ajn _,by simp⟩,rfl,λj aI=>?_⟩,?_,?_⟩
   ·have aI:j=0:=by grind
    simp_all[aa.size]
   ·simp_all
   ·have e:(B[i]).data.toList.length=(B[i]).size:=aKi;grind
  ·exact (Below.refl _ _).alloc (ajn _) _
theorem agN{F : Nat -> Prop}{w : World}(h : o7 Tryz.prog F w) : Lib.TabIs Tryz.prog w "internal/strconv.uint64pow10" .u64 Lib.pow10Tab := by
 have b2:=(Mx h (b:=5) (by decide)).2;show (match w.heap[5]? with | some (.cells cs _ _)=>some cs | _=>none)=_;have aZ:=b2 0;cases au:w.heap[5]? with
 | none=>grind [World.cell?]
 | some o=>
  cases o with
  | cells cs T uN=>
   simp;apply Array.ext_getElem?;intro i;have D:=b2 i;grind [World.cell?,Lib.pow10Tab]
  | _=>simp[World.cell?,au]at aZ
abbrev aAc:Code:=Tryz.f204.body.getD .skip
theorem aAd{P:Program}{F:Nat->Prop}{w:World}{args:List Value}{x:Int}(h:gn P (.int .i64) F w args x):args=[.int .i64 x]/\gS .i64 x:=by
 obtain⟨v,rfl,ab⟩:=(tS rfl).1 h;grind [h']
theorem aAe{n:Int}(h:gS .i64 n):-9223372036854775808<=n/\n<=9223372036854775807:=h
theorem aAf:je Tryz.prog 204 (.int .i64) .str aj.Mc.sh where
 enter:=wh Tryz.func204 (show Tryz.f204.body=some aAc by rfl) (by rfl)
 ki:=λF w args x bF hs br az=>by
  obtain⟨rfl,U⟩:=aAd br;obtain⟨aZ,E⟩:=aAe U;refine (Any.strconv_Itoa Tryz.agG x aZ E w (agN hs)).mono ?_;rintro e w' ⟨rfl,k,os,rfl⟩;have al:aj.ru x=Lib.itoa x:=by grind [aj.ru,bc]
  refine⟨_,aj.ru x,rfl,rfl,⟨[_],rfl,(tS rfl).2 ⟨_,rfl,oc.2 ⟨by grind,Nat.lt_of_le_of_lt (aj.TM x) (by decide)⟩⟩⟩,az_ w k os⟩
abbrev aAg:Code:=Tryz.f258.body.getD .skip
theorem aAh:je Tryz.prog 258 (.ar (.slice .str) .str) .str aj.Hf.sh where
 enter:=wh Tryz.func258 (show Tryz.f258.body=some aAg by rfl) (by rfl)
 ki:=λF w args x bF hs br az=>by
  obtain⟨l,sep⟩:=x;obtain⟨aC,hw,E⟩:l.length<=60000/\(∀ w∈l,w.length<=21)/\sep.length=1:=az;have FE:=aj.agc l sep 21 hw;rw[E]at FE;have aI:(Lib.join l sep).length<2 ^ 63:=by omega
  obtain⟨v,us,rfl,ab,hu⟩:=HT br;obtain⟨rfl,_⟩:=Uf hu;obtain⟨_,p,cap,jX,c2,c3,c4,c5⟩:=(eH rfl).1 ab;obtain rfl:v=.slice p l.length cap:=by grind
  change l.length<=cap at c2;have fin:∀ w',Below w.heap.size w w'->∃ v y,Ending.returned (.string ⟨(Lib.join l sep).toArray⟩)=.returned v/\(aj.Hf.sh (l,sep)).bo y/\vm Tryz.prog .str (w0 F w w') w' v y/\Below w.heap.size w w':=λw' V=>
   ⟨_,Lib.join l sep,rfl,rfl,⟨[_],rfl,(tS rfl).2 ⟨_,rfl,oc.2 ⟨rfl,aI⟩⟩⟩,V⟩
  by_cases af:l=[]
  ·subst af;refine (Any.strings_Join_none Tryz.agE Tryz.agF p cap ⟨sep.toArray⟩ w).mono ?_;simp_all[Below.refl]
  ·have mh:=List.length_pos_iff.2 af;obtain⟨q,rfl⟩:∃ q,p=some q:=by
    cases p<;>grind
   obtain⟨d1,d2,d3⟩:=c5 q rfl (by omega);obtain⟨aAi,o,sp⟩:=q;obtain rfl:=d2;have hlen:(l.map λx:List UInt8=>ByteArray.mk x.toArray).length=l.length:=aKD ..;have akv:(l.map λx=>ByteArray.mk x.toArray).map (·.data.toList)=l:=by simp_all[aKA]
   have:=Any.strings_Join Tryz.agE Tryz.agF aAi o cap (l.map λx:List UInt8=>ByteArray.mk x.toArray) ⟨sep.toArray⟩ w (λj x al=>by
    rw[List.getElem?_map]at al;obtain⟨y,bh,rfl⟩:=Option.map_eq_some_iff.1 al;obtain⟨FE,rfl⟩:=List.getElem?_eq_some_iff.1 bh;obtain⟨bI,⟨_,_,cD⟩,eZ⟩:=d3 j FE;obtain⟨rfl,_⟩:=eZ;simp_all[aa.size]) (bF _ d1) (by omega) (by omega) (by grind)
   rw[hlen,agL]at this;refine this.mono ?_;simp_all
end Go.Fer.pT
namespace Go.Proofs
open Go.RowKit
theorem Tryz.aAj{P:Program}{w w':World}{n:String}{k:IntKind}{zs:z1'}(h:Lib.TabIs P w n k zs)(V:Below w.heap.size w w'):Lib.TabIs P w' n k zs:=by
 unfold Lib.TabIs World.var? at *
 cases aA:P.globalNamed n with
 | none=>rw[aA]at h;cases h
 | some g=>
  rw[aA]at h;simp only[Option.bind_some]at h ⊢;by_cases cF:g<w.heap.size
  ·rw[V.block g cF];exact h
  ·rw[aK2 (by omega)]at h;cases h
set_option maxHeartbeats 4000000 in
set_option maxRecDepth 1000000 in
theorem Tryz.aAk(s:ByteArray)(w:World)(v:Int)(BF:s.size<=9223372036854775806)(h:Lib.atoiAll s.data.toList=.ok v)(aZ:-9223372036854775808<=v)(E:v<=9223372036854775807)
  (aAl : Lib.TabIs Tryz.prog w "internal/strconv.uint64pow10" .u64 Lib.pow10Tab) :
  Calls Tryz.prog 140 #[.string s] w λe w'=>e=.returned (.tuple #[.int .i64 v,.bool (decide (s.size<=6)&&decide (0<=v)&&decide (Lib.itoa v=s.data.toList))])/\Below w.heap.size w w':=by
 go_enter Tryz.func140,Tryz.ntmps140;go_wp2_with fail;refine (Tryz.strconv_Atoi_ok s BF v h w).mono ?_;rintro e cj ⟨rfl,nt⟩;have pv:Below w.heap.size w cj:=by
  rcases nt with rfl | ⟨t,rfl⟩
  ·exact Below.refl _ _
  ·exact Lib.bytesWorld_below w 5 t
 have aAm:=Tryz.aAj aAl pv;clear nt;by_cases aY:(s.size:Int)<=6
 ·by_cases a_:v>=0
  ·go_wp2_with fail;refine (Any.strconv_Itoa Tryz.agG v aZ E cj aAm).mono ?_;rintro e dM ⟨rfl,k,os,rfl⟩;have vD:Below w.heap.size w (Go.Sort.grow (cj.drewN k) os):=pv.trans ⟨rfl,rfl,rfl,by show _<=(cj.heap++os).size;simp,λj aI=>by
    have:=pv.size;show (cj.heap++os)[j]?=_;rw[Array.getElem?_append_left (by omega)]⟩
   generalize Go.Sort.grow (cj.drewN k) os=dM at vD;go_wp2;go_returns;refine⟨congrArg Ending.returned (congrArg Value.tuple ?_),vD⟩;show #[Value.int IntKind.i64 v,Value.bool (Lib.itoa v == s.toList)]=_;rw[Go.ByteArray.toList_eq,show decide (s.size<=6)=true from decide_eq_true (by omega),show decide (0<=v)=true from decide_eq_true a_,aKO,aKO,show (Lib.itoa v == s.data.toList)=decide (Lib.itoa v=s.data.toList) by rw[aKW];simp]
  ·go_wp2;go_returns;refine⟨congrArg Ending.returned (congrArg Value.tuple ?_),pv⟩;show #[Value.int IntKind.i64 v,Value.bool false]=_;rw[show decide (0<=v)=false from decide_eq_false (by omega),Bool.and_false,aLB]
 ·go_wp2;go_returns;refine⟨congrArg Ending.returned (congrArg Value.tuple ?_),pv⟩;show #[Value.int IntKind.i64 v,Value.bool false]=_;rw[show decide (s.size<=6)=false from decide_eq_false (by omega),aLB,aLB]
set_option maxHeartbeats 4000000 in
set_option maxRecDepth 1000000 in
theorem Tryz.aAn(s:ByteArray)(w:World)(ub:s.size<=281474976710656)(h:Lib.atoiAll s.data.toList=Lib.atoiAll [])(jG:Value)(ab:w.cell? ⟨1,0,none⟩=some jG)(rh:jG=.nilIface\/∃ nj nM,jG=.iface nj nM) :
  Calls Tryz.prog 140 #[.string s] w λe w'=>e=.returned (.tuple #[.int .i64 0,.bool false])/\Below w.heap.size w w':=by
 go_enter Tryz.func140,Tryz.ntmps140;go_wp2_with fail;refine (Tryz.strconv_Atoi_syntax s ub h jG w ab rh).mono ?_;rintro e cj ⟨N,rfl,_,_,pv⟩;go_wp2;go_returns;exact⟨rfl,pv⟩
set_option maxHeartbeats 4000000 in
set_option maxRecDepth 1000000 in
theorem Tryz.aAo(s:ByteArray)(w:World)(ub:s.size<=281474976710656)(h:Lib.atoiAll s.data.toList=.range)(jG:Value)(ab:w.cell? ⟨2,0,none⟩=some jG)(rh:jG=.nilIface\/∃ nj nM,jG=.iface nj nM) :
  Calls Tryz.prog 140 #[.string s] w λe w'=>e=.returned (.tuple #[.int .i64 (Lib.atoiSat s.data.toList),.bool false])/\Below w.heap.size w w':=by
 go_enter Tryz.func140,Tryz.ntmps140;go_wp2_with fail;refine (Tryz.strconv_Atoi_range s ub h jG w ab rh).mono ?_;rintro e cj ⟨N,rfl,_,_,pv⟩;go_wp2;go_returns;exact⟨rfl,pv⟩
end Go.Proofs
namespace Go.Fer.aj
theorem agO:∀ (s:a1) (n:Int),0<=n->hQ s n≠-1->n<=hQ s n
 | [],n,_,_=>aKs _
 | c::s,n,h,E=>by
  unfold hQ at E ⊢;split at E
  ·omega
  ·rename_i hc;rw[if_neg hc];simp  at hc;have:=agO s _ (by omega) E;omega
theorem Ug(d:UInt8):∀ (s:a1) (n:Int),0<=n->hQ (s++[d]) n=if hQ s n=-1 then -1 else if (decide ((d.toNat:Int)<48)||decide ((d.toNat:Int) > 57))=true then -1 else 10*hQ s n+((d.toNat:Int) - 48)
 | [],n,h=>by
  grind [hQ]
 | c::s,n,h=>by
  rw[List.cons_append];conv=>lhs;unfold hQ
  by_cases hc:(decide ((c.toNat:Int)<48)||decide ((c.toNat:Int) > 57))=true
  ·grind [hQ]
  ·rw[if_neg hc,show hQ (c::s) n=hQ s (10*n+(c.toNat - 48)) from (if_neg hc)];simp  at hc;exact Ug d s _ (by omega)
theorem agP(k:Nat)(h:k<10):((UInt8.ofNat (48+k)).toNat:Int)=48+k:=by
 grind [UInt8.toNat_ofNat']
theorem aAp(u:Nat):hQ (Go.Lib.decDigits u) 0=u:=by
 induction u using Nat.strongRecOn with
 | _ u aP=>
  unfold Go.Lib.decDigits;grind [agP,hQ,Ug]
theorem agQ(u:Nat):Go.Lib.decDigits u≠[]/\(1<(Go.Lib.decDigits u).length->((Go.Lib.decDigits u).getD 0 0).toNat≠48):=by
 induction u using Nat.strongRecOn with
 | _ u aP=>
  grind [Go.Lib.decDigits,agP]
theorem aAq:∀ (n:Nat) (s:a1),s.length=n->s≠[]->(1<s.length->(s.getD 0 0).toNat≠48)->hQ s 0≠-1->Go.Lib.decDigits (hQ s 0).toNat=s:=by
 intro n;induction n with
 | zero=>simp
 | succ n aP=>
  intro s E M ai bf;obtain⟨a,d,rfl⟩:∃ a d,s=a++[d]:=⟨s.dropLast,s.getLast M,(List.dropLast_concat_getLast M).symm⟩
  rw[Ug _ _ _ (aKs _)]at bf ⊢;split at bf
  ·omega
  ·rename_i br;split at bf
   ·omega
   ·rename_i an;simp  at an;have XF:UInt8.ofNat (48+(d.toNat - 48))=d:=by
     grind [UInt8.toNat_inj,UInt8.toNat_ofNat']
    by_cases aC:a=[]
    ·grind [hQ,Go.Lib.decDigits_one]
    ·have dt:(a.getD 0 0).toNat≠48:=by
      grind
     have aq:1<=hQ a 0:=by
      cases a with
      | nil=>grind
      | cons c r=>
       unfold hQ at br ⊢;split at br
       ·omega
       ·rename_i hc;rw[if_neg hc];simp  at hc;have aJU:c.toNat≠48:=dt;have:=agO r _ (by omega) br;omega
     have ax:(10*hQ a 0+(d.toNat - 48)).toNat / 10=(hQ a 0).toNat:=by omega
     grind [Go.Lib.decDigits]
theorem aAr{s:a1}{v:Int}(h:Go.Lib.atoiAll s=.ok v):(decide (s.length<=6)&&decide (0<=v)&&decide (Go.Lib.itoa v=s))=decide (0<=f_ s):=by
 rw[aKW];simp;constructor
 ·grind [Go.Lib.itoa,agQ,f_,aAp]
 ·intro aC;have e:=T6 aC;obtain rfl:v=f_ s:=by grind
  refine⟨⟨?_,aC⟩,?_⟩
  ·grind [f_]
  ·have e:Go.Lib.itoa (f_ s)=Go.Lib.decDigits (f_ s).toNat:=by grind [Go.Lib.itoa]
   rw[e];unfold f_ at aC ⊢;split at aC
   ·omega
   ·rename_i V;rw[if_neg V];simp  at V;exact aAq _ s rfl (λe=>V.1.1 (by grind)) V.2 (by omega)
theorem agR{s:a1}(h:∀ v,Go.Lib.atoiAll s≠.ok v):decide (0<=f_ s)=false:=decide_eq_false λaC=>h _ (T6 aC)
end Go.Fer.aj
namespace Go.Fer.pT
open Go Go.Proofs Go.RowKit
abbrev aAs:Code:=Tryz.f140.body.getD .skip
theorem aAt:je Tryz.prog 140 .str (.ar (.int .i64) .bool) aj.Hh.sh where
 enter:=wh Tryz.func140 (show Tryz.f140.body=some aAs by kernel_rfl) (by kernel_rfl)
 ki:=λF w args x bF hs br az=>by
  change List UInt8 at x;have az:x.length<=10000:=az;obtain⟨rfl,af⟩:=Uf br;have V:=agL x;have bD:=Mw x;have fin:∀ (n:Int) (b:Bool) (w':World),gS .i64 n->aj.s_ x=(n,b)->Below w.heap.size w w'->∃ v y,Ending.returned (.tuple #[.int .i64 n,.bool b])=.returned v/\(aj.Hh.sh x).bo y/\vm Tryz.prog (.ar (.int .i64) .bool) (w0 F w w') w' v y/\Below w.heap.size w w':=λn b w' U he AY=>
   ⟨_,(n,b),rfl,he.symm,⟨[.int .i64 n,.bool b],rfl,D3.2 ⟨h'.2 ⟨rfl,U⟩,(tS rfl).2 ⟨_,rfl,f'.2 rfl⟩⟩⟩,AY⟩
  cases he:Lib.atoiAll x with
  | ok v=>
   have ab:=Lib.atoiAll_bounds he;refine (Tryz.aAk ⟨x.toArray⟩ w v (by rw[bD];omega) (by rw[V];exact he) ab.1 ab.2 (agN hs)).mono ?_;rintro e w' ⟨rfl,AY⟩;refine fin v _ w' ab ?_ AY;rw[V,bD,aj.aAr he];unfold aj.s_ aj.u';rw[he]
  | range=>
   obtain⟨_,jG,ab,rh⟩:=Mx hs (b:=2) (by decide);refine (Tryz.aAo ⟨x.toArray⟩ w (by rw[bD];omega) (by rw[V];exact he) jG ab rh).mono ?_;rintro e w' ⟨rfl,AY⟩;rw[V]at *
   refine fin _ _ w' (Lib.atoiSat_bounds x) ?_ AY;unfold aj.s_ aj.u';rw[he,aj.agR λv h=>by rw[he]at h;cases h]
  | _=>
   obtain⟨_,jG,ab,rh⟩:=Mx hs (b:=1) (by decide);refine (Tryz.aAn ⟨x.toArray⟩ w (by rw[bD];omega) (by rw[V];exact he) jG ab rh).mono ?_;rintro e w' ⟨rfl,AY⟩;refine fin 0 _ w' (by decide) ?_ AY;unfold aj.s_ aj.u';rw[he,aj.agR λv h=>by rw[he]at h;cases h]
end Go.Fer.pT
namespace Go.Fer
open Go.RowKit
abbrev oa:aa:=.int .i64
def Uh(x:z1'×Unit):G (z1'×Unit):=eL (x.1.length<4611686018427387904) (x.1.mergeSort (λa b=>decide (a<=b)),())
def rA:cW:=⟨⟨[(0,.own 200001)],[(200001,.bu oa)]⟩,⟨[],[(200001,.bu oa)]⟩,[],1,Uh⟩
section
variable {P:Program} {F:Nat->Prop} {w:World}
theorem agS{cs:Array Value}{off:Nat}{xs:z1'}(h:nk P oa F w cs off xs){i:Nat}(D:i<xs.length):cs[off+i]?=some (.int .i64 xs[i])/\gS .i64 xs[i]:=by
 obtain⟨bI,E,M,ai⟩:=h i D;subst M;have:=E 0 (by simp);refine⟨?_,ai⟩;have e:off+i*aa.size oa+0=off+i:=by show off+i*1+0=off+i;omega
 rw[e]at this;exact this
theorem aAu{cs:Array Value}{off:Nat}{xs:z1'}(h:∀ i (h:i<xs.length),cs[off+i]?=some (.int .i64 xs[i])/\gS .i64 xs[i]):nk P oa F w cs off xs:=λi D=>by
 obtain⟨E,M⟩:=h i D;refine⟨[.int .i64 xs[i]],λj aI=>?_,rfl,M⟩;have aI:j=0:=by simpa using aI
 subst aI;have e:off+i*aa.size oa+0=off+i:=by show off+i*1+0=off+i;omega
 rw[e];exact E
theorem aAv{cs:Array Value}{T:TypeId}{b off:Nat}{xs:z1'}(V:w.heap[b]?=some (.cells cs T (0,0)))(h:nk P oa F w cs off xs):Go.Sort.Holds (Value.int .i64) w b off xs.toArray:=λj aI=>by
 have h2:j<xs.length:=by simpa using aI
 obtain⟨E,_⟩:=agS h h2;refine⟨?_,by simp[World.frozen?,V]⟩;simp only[World.cell?,V];simp only[aLN,ajh,ajq];rw[E];simp[h2]
theorem aAw{cs:Array Value}{off:Nat}{xs bA:z1'}(af:bA.length=xs.length)(aQ:∀ y∈bA,gS .i64 y)(cY:off+xs.length<=cs.size):nk P oa F w (Go.Sort.putCells (Value.int .i64) off bA.toArray cs) off bA:=by
 refine aAu λi D=>⟨?_,aQ _ (ajj D)⟩
 have E:off+i<cs.size:=by omega
 simp[Go.Sort.putCells,E,D]
end
section
variable {P:Program} {ba:ew}
theorem aAx{k:FuncId}(he:∀ args w,(callFunc k args).run P w=.ok (.enter k args) w)
  (E:∀ (W off cap:Nat) (zs:z1') (w:World),Go.Sort.Holds (Value.int .i64) w W off zs.toArray->W<w.heap.size->zs.length<4611686018427387904->Calls P k #[.slice (some ⟨W,off,none⟩) zs.length cap] w λe w'=>
   e=.returned (.tuple #[])/\∃ n os,w'=Go.Sort.grow (Go.Sort.putRow (Value.int .i64) (Go.Sort.ahead w n) W off (zs.mergeSort λx y=>decide (x<=y)).toArray) os)
  (aZ:∀ (p:Option Addr) (cap:Nat) (w:World),Calls P k #[.slice p 0 cap] w λe w'=>e=.returned (.tuple #[])/\w'=w):di P ba k rA where
 enter:=he
 ki C a w kap F A iT Cg U an th vy h az:=by
  obtain⟨xs,u⟩:=A;have hlen:xs.length<4611686018427387904:=az;have cY:a.tmps.size=1:=h.ek.trans th;have rY:=h.cc 0;have V:=h.bR 200001;change ma C.P _ kap F w (kap 200001) (.bu oa xs) at V;have ab:a.tmps.getD 0 undef=(kap 200001).slice xs.length:=rY.2 rfl rfl;have br:a.tmps=#[(kap 200001).slice xs.length]:=by
   apply Array.ext (by simp[cY]);intro i D eE;have:i=0:=by omega
   subst this;rw[<-ab];simp[Array.getD,cY]
  have qf:∀ bG,bG=((xs.mergeSort (λx y=>decide (x<=y)),()):z1'×Unit)->(rA.sh (xs,u)).bo bG:=λbG e=>e;have rZ:∀ {w':World} {F':Nat->Prop} {bA:z1'},bH C (aE.mk (rA.cH.ae (xs,u)).aD λi=>if i=200001 then ⟨0,.bu oa bA⟩ else (rA.cH.ae (xs,u)).W i) a w' kap F'->bH { C with b5:=0 } (rA.bo.ae (bA,())) { tmps:=#[],defers:=[] } w' kap F':=λ{w' F' bA} kH=>by
   have e:(rA.bo.ae (bA,())).W=λi=>if i=200001 then (⟨0,.bu oa bA⟩:b') else (rA.cH.ae (xs,u)).W i:=by
    funext i;show fH [(200001,cf.bu oa bA)] i=if i=200001 then _ else fH [(200001,cf.bu oa xs)] i
    simp only[fH];by_cases D:i=200001
    ·rw[if_pos D,if_pos D]
    ·rw[if_neg D,if_neg D,if_neg D]
   refine { ek:=rfl,dq:=an.symm,cc:=λi=>trivial,bR:=λb=>?_,own:=λb=>?_,inj:=λb bl=>?_,dH:=kH.dH,ie:=kH.ie,jg:=kH.jg,iM:=kH.iM,fi:=kH.fi,size:=kH.size,e5:=kH.e5,hq:=aKr _,lC:=kH.lC,kQ:=λb r=>?_,lD:=kH.lD,lE:=λb k=>?_,fo:=λl aN L n ae e=>(by cases e),kR:=kH.kR,jW:=kH.jW }
   ·rw[e];exact kH.bR b
   ·rw[e];exact kH.own b
   ·rw[e];exact kH.inj b bl
   ·rw[e];exact kH.kQ b r
   ·rw[e];exact kH.lE b k
  subst iT;rw[br];by_cases aC:(kap 200001).fK=true
  ·have al:xs=[]:=V.1 aC;subst al;have jX:(kap 200001).slice 0=.slice none 0 0:=by simp[bP.slice,aC]
   rw[show ([]:z1').length=0 from rfl,jX];refine (aZ none 0 w).mono ?_;rintro e w' ⟨rfl,rfl⟩;refine⟨_,([],()),[],kap,F,rfl,qf _ (congrArg (λl=>(l,())) List.mergeSort_nil.symm),⟨[],rfl,rfl,rfl⟩,rZ ?_⟩;have e:(λi=>if i=200001 then (⟨0,.bu oa []⟩:b') else (rA.cH.ae ([],u)).W i)=(rA.cH.ae ([],u)).W:=by
    funext i;by_cases D:i=200001
    ·subst D;rfl
    ·rw[if_neg D]
   rw[e];exact h
  ·have aC:(kap 200001).fK=false:=by simpa using aC
   obtain⟨cs,T,cm,eX,kx,tO,Be⟩:=V.2 aC;have hr:((rA.cH.ae (xs,u)).W 200001).body.cq (kap 200001)=true:=by show (!(kap 200001).fK)=true;rw[aC];rfl
   have au:=h.own 200001 hr;have jX:(kap 200001).slice xs.length=.slice (some ⟨(kap 200001).W,(kap 200001).off,none⟩) xs.length (kap 200001).cap:=by simp[bP.slice,aC]
   rw[jX];refine (E (kap 200001).W (kap 200001).off (kap 200001).cap xs w (aAv cm Be) au.1 hlen).mono ?_;rintro e w' ⟨rfl,n,os,rfl⟩;have aq:(xs.mergeSort λx y=>decide (x<=y)).Perm xs:=List.mergeSort_perm _ _;generalize mI:(xs.mergeSort λx y=>decide (x<=y))=bA at aq qf;have agT:bA.length=xs.length:=aq.length_eq;have Nk:(kap 200001).off+xs.length<=cs.size:=by
    have:(kap 200001).cap*aa.size oa=(kap 200001).cap:=Nat.mul_one _;omega
   have aQ:∀ y∈bA,gS .i64 y:=λy bh=>by
    have:=aq.mem_iff.1 bh;obtain⟨i,D,rfl⟩:=List.getElem_of_mem this;exact (agS Be D).2
   have aAy:(Go.Sort.putRow (Value.int .i64) (Go.Sort.ahead w n) (kap 200001).W (kap 200001).off bA.toArray).heap[(kap 200001).W]?=some (.cells (Go.Sort.putCells (Value.int .i64) (kap 200001).off bA.toArray cs) T (0,0)):=by
    simp[Go.Sort.putRow,Go.Sort.mapBlock,Go.Sort.ahead,Array.getElem?_modify,cm,Go.Sort.onCells]
   have yH:bH C ((rA.cH.ae (xs,u)).c' 200001 ⟨0,.bu oa bA⟩) a (Go.Sort.putRow (Value.int .i64) (Go.Sort.ahead w n) (kap 200001).W (kap 200001).off bA.toArray) kap F:=by
    refine h.qP (b:=200001) (x:=⟨0,.bu oa bA⟩) hr ?_ ?_ nofun nofun (λr U=>?_) (by simp[Go.Sort.putRow,Go.Sort.mapBlock,Go.Sort.ahead]) ⟨rfl,rfl,rfl⟩ (λH oo kF mP=>⟨λhc=>absurd (aC.symm.trans hc) nofun,λ_=>?_⟩)
    ·show (!(kap 200001).fK)=true;rw[aC];rfl
    ·intro b;by_cases V:b=200001
     ·subst V;exact⟨ajn _,λ_=>⟨nofun,λ_=>⟨rfl,rfl,agT,rfl⟩,nofun,nofun⟩⟩
     ·show rG _ (if b=200001 then _ else _) _ _;rw[if_neg V];exact rG.refl _ _
    ·simp[Go.Sort.putRow,Go.Sort.mapBlock,Go.Sort.ahead,Array.getElem?_modify,Ne.symm U]
    ·refine⟨_,T,aAy,?_,?_,tO,aAw agT aQ Nk⟩
     ·simpa [Go.Sort.putCells]using eX
     ·show bA.length<=_;omega
   refine⟨_,(bA,()),[],kap,_,rfl,qf _ rfl,⟨[],rfl,rfl,rfl⟩,rZ (yH.grow ?_)⟩;refine⟨rfl,rfl,rfl,by simp[Go.Sort.grow],λk ah=>?_⟩;simp only[Go.Sort.grow];rw[Array.getElem?_append_left ah]
end
end Go.Fer
namespace Go.Fer
open Go.RowKit
def aAz(e:aa)(x:Int×Unit):G (List e.ak×Unit):=eL (0<=x.1/\x.1<60000) ([],())
def wW(e:aa):cW:=⟨⟨[(0,.bZ),(1,.val (.int .i64))],[]⟩,⟨[(0,.own 50000)],[(50000,.bu e)]⟩,[none],2,aAz e⟩
section
variable {P:Program} {ba:ew} {e:aa}
theorem agU{C:cB}{a:Act}{w w':World}{kap:Nat->bP}{F:Nat->Prop}{A:(wW e).cH.ak}(h:bH C ((wW e).cH.ae A) a w kap F)(an:C.dq=[]){kb:bP}{v:Value}
  (ab:v=kb.slice 0) (cY:w.heap.size<=w'.heap.size) (hw:∀ r,r<w.heap.size->w'.heap[r]?=w.heap[r]?) (hc:dP w w') (mN:kb.fK=false->kb.W=w.heap.size/\w.heap.size<w'.heap.size)
  (bd:kb.fK=false->∃ cs T,w'.heap[kb.W]?=some (.cells cs T (0,0))/\kb.off+kb.cap*e.size<=cs.size/\kb.cap<2 ^ 63) :
  bH { C with b5:=1 } ((wW e).bo.ae ([],())) { tmps:=#[v],defers:=[] } w' (λi=>if i=50000 then kb else kap i) F:=by
 have V:∀ b,((wW e).bo.ae ([],())).W b=if b=50000 then ⟨0,.bu e []⟩ else ⟨0,.gp⟩:=λb=>rfl
 have br:∀ b,b≠50000->((wW e).bo.ae ([],())).W b=⟨0,.gp⟩:=λb aC=>by rw[V,if_neg aC]
 have b2:((wW e).bo.ae ([],())).W 50000=⟨0,.bu e []⟩:=rfl;have hr:∀ b,(((wW e).bo.ae ([],())).W b).body.cq (if b=50000 then kb else kap b)=true->b=50000/\kb.fK=false:=λb au=>by
  by_cases e:b=50000
  ·subst e;rw[b2,if_pos rfl]at au;exact⟨rfl,by simpa [cf.cq]using au⟩
  ·rw[br b e]at au;cases au
 refine { ek:=rfl,dq:=an.symm,cc:=λi=>?_,bR:=λb=>?_,own:=λb au=>?_,inj:=λb bl E M _=>?_,dH:=λr U=>aJ' (h.dH r U) cY,ie:=h.ie,jg:=h.jg,iM:=h.iM,fi:=λr U=>?_,size:=aKa h.size cY,e5:=h.e5.trans hc,hq:=(by unfold fF;exact (by decide:1<=100000)),lC:=h.lC,kQ:=λb r U ko=>?_,lD:=h.lD,lE:=λb k ah _ D=>?_,fo:=λl aN L n ae e=>(by cases e),kR:=h.kR,jW:=h.jW.mono (λ_ h=>h) ⟨cY,λr U=>hw r (h.dH r U)⟩ }
 ·by_cases D:i=0
  ·subst D;refine⟨⟨ajn _,?_⟩,λ_ _=>?_⟩
   ·show v.oneCell'=true;rw[ab];unfold bP.slice;split<;>rfl
   ·show v=_;rw[ab];show kb.slice 0=(if (50000:Nat)=50000 then kb else kap 50000).slice 0;rw[if_pos rfl]
  ·have:((wW e).bo.ae ([],())).aD i=.undef:=by
    show gh [(0,aO.own 50000 0)] i=.undef;simp[gh,D]
   rw[this];trivial
 ·unfold cX;by_cases ax:b=50000
  ·subst ax;rw[b2];show ma _ _ _ _ _ (if (50000:Nat)=50000 then kb else kap 50000) (.bu e []);rw[if_pos rfl];refine⟨λ_=>rfl,λaC=>?_⟩;obtain⟨cs,T,E,M,ai⟩:=bd aC;exact⟨cs,T,E,M,aKr _,ai,λi D=>absurd D (Nat.not_lt_zero _)⟩
  ·rw[br b ax];trivial
 ·obtain⟨rfl,aC⟩:=hr b au;obtain⟨E,M⟩:=mN aC;rw[if_pos rfl,E];refine⟨M,λaw=>?_,λah=>?_⟩
  ·have:=h.dH _ aw;omega
  ·have:=h.iM _ ah;have:=h.size;omega
 ·rw[(hr b E).1,(hr bl M).1]
 ·have E:=h.iM r U;rw[hw r (aJ' E h.size)];exact h.fi r U
 ·by_cases ax:b=50000
  ·subst ax;rw[b2]at ko;rcases ko with h | h<;>cases h
  ·rw[br b ax]at ko;rcases ko with h | h<;>cases h
 ·by_cases ax:b=50000
  ·subst ax;have:=h.lD _ _ ah;unfold yR at this;omega
  ·rw[br b ax]at D;cases D
theorem agV{k:FuncId}(he:∀ args w,(callFunc k args).run P w=.ok (.enter k args) w)
  (aZ:∀ w:World,Calls P k #[.slice none 0 0,.int .i64 0] w λe w'=>e=.returned (.slice none 0 0)/\w'=w)
  (E:∀ (n:Nat) (w:World),0<n->n<60000->Calls P k #[.slice none 0 0,.int .i64 (n:Int)] w λy w'=>∃ (cC:Nat) (T:TypeId) (cs:Array Value),y=.returned (.slice (some ⟨w.heap.size,0,none⟩) 0 cC)/\
   w'=w.drew.alloc (.cells cs T)/\cC<2 ^ 63/\cC*e.size<=cs.size):di P ba k (wW e) where
 enter:=he
 ki C a w kap F A iT Cg U an th vy h az:=by
  obtain⟨n,u⟩:=A;change Int at n;obtain⟨xi,vW⟩:0<=n/\n<60000:=az;have cY:a.tmps.size=2:=h.ek.trans th;have aAA:a.tmps.getD 0 undef=.slice none 0 0:=h.cc 0;have sO:a.tmps.getD 1 undef=.int .i64 n:=(h'.1 (h.cc 1)).1;have br:a.tmps=#[.slice none 0 0,.int .i64 n]:=by
   apply Array.ext (by simp[cY]);intro i D eE;have:i=0\/i=1:=by omega
   rcases this with rfl | rfl
   ·rw[<-aAA];simp[Array.getD,cY]
   ·rw[<-sO];simp[Array.getD,cY]
  subst iT;rw[br];by_cases bD:n=0
  ·subst bD;refine (aZ w).mono ?_;rintro y w' ⟨rfl,rfl⟩;refine⟨_,([],()),[.slice none 0 0],_,F,rfl,rfl,⟨[.slice none 0 0],rfl,rfl,[],rfl,rfl⟩,agU h an (kb:=⟨0,0,0,true⟩) rfl (ajn _) (λ_ _=>rfl) (dP.refl _) nofun nofun⟩
  ·obtain⟨m,rfl⟩:∃ m:Nat,n=m:=⟨n.toNat,by omega⟩
   refine (E m w (by omega) (by omega)).mono ?_;rintro y w' ⟨cC,T,cs,rfl,rfl,hs,rL⟩;refine⟨_,([],()),[.slice (some ⟨w.heap.size,0,none⟩) 0 cC],_,F,rfl,rfl,⟨[_],rfl,rfl,[],rfl,rfl⟩,agU h an (kb:=⟨w.heap.size,0,cC,false⟩) rfl (by simp) (λr U=>?_) ⟨rfl,rfl,rfl⟩ (λ_=>⟨rfl,by simp⟩) (λ_=>⟨cs,T,?_,by simpa using rL,hs⟩)⟩
   ·exact qO w.drew _ U
   ·show (w.drew.heap.push _)[w.heap.size]?=_;exact Array.getElem?_push_size
theorem agW{rho:Go.Shelf.Ren}(L:Go.Proofs.Lays8.n4 P rho)(w:World):Calls P (rho.f 4) #[.slice none 0 0,.int .i64 0] w λe w'=>e=.returned (.slice none 0 0)/\w'=w:=
 Go.Proofs.Any8.slices_Grow_room L none 0 0 0 w (ajn _) (by decide) (by decide) (ajn _)
theorem agX{rho:Go.Shelf.Ren}(L:Go.Proofs.Lays8.n4 P rho)(aT:cx P e (rho.t 25))(az:e.size≠0)(n:Nat)(w:World)(aZ:0<n)(E:n<60000) :
  Calls P (rho.f 4) #[.slice none 0 0,.int .i64 (n:Int)] w λy w'=>∃ (cC:Nat) (T:TypeId) (cs:Array Value),y=.returned (.slice (some ⟨w.heap.size,0,none⟩) 0 cC)/\w'=w.drew.alloc (.cells cs T)/\cC<2 ^ 63/\cC*e.size<=cs.size:=by
 obtain⟨i0,z,rS,cY,V,afC,aAB,_⟩:=np aT.nn;have mW:0<i0.size:=by omega
 have vL:=(Er (P:=P) e aAB).2;refine (Go.Proofs.Any8.slices_Grow_grow L i0 z rS afC mW none 0 0 n [] w (ajn _) (by omega) ?_ (by omega) (by simp) (λ_=>rfl) nofun).mono ?_
 ·have:(0+n)*i0.bytes<=(0+n)*1024:=Nat.mul_le_mul_left _ V;omega
 ·rintro y w' ⟨rfl,rfl⟩;refine⟨_,_,_,rfl,rfl,?_,?_⟩
  ·have:=grownCap_le_maxLen w (0+n) 0 (rho.t 25) (by unfold maxLen;omega);unfold maxLen at this;omega
  ·have:=grownCap_ge w (0+n) 0 (rho.t 25);generalize grownCap w (0+n) 0 (rho.t 25)=cC at this;simp only[Array.size_append,size_zeroCells,vL];have ax:(0+n - 0)*e.size+(cC - (0+n))*e.size=cC*e.size:=by rw[<-aKz];congr 1;omega
   have aU:(#[]:Array Value).size=0:=rfl;omega
end
end Go.Fer
namespace Go.Fer.pT
open Go.Proofs
def Hn(ba:ew)(c:cW)(sh:Nat->c.cH.ak->G c.bo.ak):List Nat->Prop
 | []=>True
 | k::l=>di Tryz.prog ba k { c with sh:=sh k }/\Hn ba c sh l
theorem Hn.mem{ba:ew}{c:cW}{sh:Nat->c.cH.ak->G c.bo.ak}:∀ {l:List Nat},Hn ba c sh l->∀ k∈l,di Tryz.prog ba k { c with sh:=sh k }
 | [],_,k,h=>by cases h
 | j::l,h,k,ah=>by
  rcases List.mem_cons.1 ah with rfl | ah
  ·exact h.1
  ·exact Hn.mem h.2 k ah
theorem AZ{k:Nat}{e:aa}{f:List e.ak×Unit->G (List e.ak×Unit)}{sh:(aa.slice e).ak->G (aa.slice e).ak}(h:di Tryz.prog dY k ⟨⟨[(0,.val (.slice e))],[]⟩,⟨[(0,.own 60)],[(60,.bu e)]⟩,[none],1,f⟩)
  (aq:∀ x:List e.ak,(sh x).et->(f (x,())).et/\∀ bG,(f (x,())).bo bG->bG.1=(sh x).val (aa.slice e).dK):pa (iU.lU ⟨.slice e,.slice e,sh,true⟩).tr=true/\EF Tryz.prog k (iU.lU ⟨.slice e,.slice e,sh,true⟩):=
 aqa (by simp) h lX (b0:=60) (λx=>(x,())) (λx=>rfl) rfl (by show 1<=fF;decide) rfl (λbG=>bG.1) (λbG=>⟨rfl,rfl⟩) aq
abbrev aAC:Code:=Tryz.f161.body.getD .skip
theorem aAD(ba:ew):di Tryz.prog ba 161 rA:=
 aAx (wh Tryz.func161 (show Tryz.f161.body=some aAC by kernel_rfl) (by kernel_rfl)) (λW off cap zs w E M ai=>calls_of_every_depth λaV=>AnyS.slices_Sort_int_in Tryz.agH aV W off cap zs w E M ai)
  λp cap w=>Any.slices_Sort_int_none Tryz.agH p cap w
theorem aAE:Uh=H.Cx:=by
 funext x;unfold Uh H.Cx;rw[show x.1.mergeSort (λa b=>decide (a<=b))=H.fv H.iE x.1 from (H.Cw ((List.pairwise_mergeSort (le:=λa b:Int=>decide (a<=b)) (λa b c E M=>by simp at E M ⊢;omega) (λa b=>by simp;omega) x.1).imp λh=>by simpa using h) (List.mergeSort_perm _ _).symm).symm]
def Ui:cW:=⟨⟨[(0,.own 200001)],[(200001,.bu t3)]⟩,⟨[],[(200001,.bu t3)]⟩,[],1,H.Cx⟩
theorem agY:di Tryz.prog dY 161 Ui:=by
 have:=aAD dY;unfold rA at this;rw[aAE]at this;exact this
abbrev aAF:Code:=Tryz.f257.body.getD .skip
abbrev aAG:Code:=Tryz.f256.body.getD .skip
def agZ:cW:=⟨⟨[(0,.bZ),(1,.val t3)],[]⟩,⟨[(0,.own 50000)],[(50000,.bu t3)]⟩,[none],2,H.L2⟩
def ag0:cW:=⟨⟨[(0,.bZ),(1,.val t3)],[]⟩,⟨[(0,.own 50000)],[(50000,.bu H.hA)]⟩,[none],2,H.L3⟩
theorem aAH:di Tryz.prog dY 257 agZ:=
 agV (e:=t3) (wh Tryz.func257 (show Tryz.f257.body=some aAF by kernel_rfl) (by kernel_rfl)) (agW Tryz.agI) (agX Tryz.agI (pA.cv (id:=3) rfl (by decide)) (by decide))
theorem aAI:di Tryz.prog dY 256 ag0:=
 agV (e:=H.hA) (wh Tryz.func256 (show Tryz.f256.body=some aAG by kernel_rfl) (by kernel_rfl)) (agW Tryz.agJ) (agX Tryz.agJ (pA.cv (id:=125) rfl (by decide)) (by decide))
def g1:=ap_.cons (n:=139) (c:=aj.Ml.dU) ⟨aAb,λ_ _=>uC⟩
def eB:=g1.cons (n:=204) (c:=aj.Mc.dU) ⟨aAf,λ_ _=>uC⟩
def g3:=eB.cons (n:=258) (c:=aj.Hf.dU) ⟨aAh,λ_ _=>uC⟩
def aAJ:=g3.cons (n:=140) (c:=aj.Hh.dU) ⟨aAt,λ_ _=>uC⟩
end Go.Fer.pT
namespace Go.Fer.aj
open H (ez)
def pQ(n:Int):a1:=if n<0 then L9 else Go.Lib.decDigits n.toNat
theorem ag1(u:Nat):Go.Lib.decDigits u=(if u<10 then [] else Go.Lib.decDigits (u / 10))++[UInt8.ofNat (48+u % 10)]:=by
 split
 ·rw[Go.Lib.decDigits_one (by omega),Nat.mod_eq_of_lt (by omega)];rfl
 ·conv=>lhs;unfold Go.Lib.decDigits
  rw[dif_neg (by omega)]
theorem ag2(k:Nat):UInt8.ofNat (Int.toNat (IntKind.wrap .u8 (IntKind.wrap .i64 (Add.add 48 (Int.tmod (k:Int) 10)))))=UInt8.ofNat (48+k % 10):=by
 have e:Int.tmod (k:Int) 10=((k % 10:Nat):Int):=rfl;rw[e,cy,bc (by omega) (by omega),agx (by omega) (by omega)];congr 1
abbrev My:aF:=⟨.int .i64,.str,λn=>n<2 ^ 63,pQ⟩
theorem aAK(x):aR (aeu x) (My.sh x):=bg λh=>by
 change x<2 ^ 63 at h;unfold aeu e_ aG bj a7 ay;show _=mpure (pQ x);unfold pQ;by_cases al:x<0
 ·rw[if_pos (decide_eq_true al),if_pos al]
 ·rw[if_neg (by simpa using al),if_neg al,bb (by decide)];obtain⟨u,rfl⟩:∃ u:Nat,x=u:=⟨x.toNat,by omega⟩
  have A0:=Go.Lib.nDigits_le20 u (by omega);rw[<-Go.Lib.decDigits_length]at A0;have e:=ag1 u;rw[ajz (res:=bq.next (Go.Lib.decDigits u,())) (λs=>∃ k:Nat,s.1=(k:Int)/\k<=u/\Go.Lib.decDigits u=(if k<10 then [] else Go.Lib.decDigits (k / 10))++s.2.1) (λs=>s.1.toNat) ?_ _ ⟨u,rfl,ajn _,by rw[ag2];exact e⟩,aH]
  ·rfl
  ·rintro⟨n,t,⟨⟩⟩ ⟨k,E,M,ai⟩;change n=(k:Int) at E;subst E;change _=_++t at ai;have aAL:=congrArg List.length ai;rw[aKx]at aAL;have Ue:Int.tdiv (k:Int) 10=((k / 10:Nat):Int):=rfl;by_cases ah:k<10
   ·right;rw[if_pos ah,aKw]at ai;simp only[Ue];rw[if_neg (by simp;omega),aH,ai]
   ·left;rw[if_neg ah,ag1 (k / 10),aK1]at ai;refine⟨(((k / 10:Nat):Int),[UInt8.ofNat (48+k / 10 % 10)]++t,()),?_,⟨k / 10,rfl,by omega,ai⟩,by show (((k / 10:Nat):Int)).toNat<((k:Int)).toNat;omega⟩;simp only[Ue];rw[if_pos (by simp;omega),bb (by decide),bb (by decide),bb (ez (by simp only[mY];omega)),bc (by omega) (by omega),ag2]
theorem Uj(n:Int):pQ n≠[]:=by
 grind [pQ,agQ]
theorem aAM{n:Int}(h:n<2 ^ 63):(pQ n).length<=21:=by
 grind [pQ,Go.Lib.decDigits_length,Go.Lib.nDigits_le20]
theorem aAN{n:Int}(aZ:0<=n)(h:n<2 ^ 63):pQ n=ru n:=by
 grind [pQ,ru,Go.Lib.itoa,bc]
def tL(l:z1'):a1:=if l=[] then L8 else Go.Lib.join (l.map pQ) [32]
def yB(s:a1)(n:Int):a1:=(if s=[] then s else s++[32])++pQ n
theorem ag3:∀ (l:z1') (s:a1),s≠[]->l.foldl yB s=s++Go.Lib.joinTail [32] (l.map pQ)
 | [],s,_=>by simp[Go.Lib.joinTail]
 | n::l,s,h=>by
  rw[aKd,ag3 l _ (by simp_all[yB])];grind [yB,Go.Lib.joinTail]
theorem aAO:∀ (l:z1'),l.foldl yB []=Go.Lib.join (l.map pQ) [32]
 | []=>rfl
 | n::l=>by
  grind [yB,ag3,Uj,Go.Lib.join_cons]
abbrev Ho(l:z1'):Prop:=l.length<=2000/\∀ n∈l,-1<=n/\n<2 ^ 63
abbrev A1:aF:=⟨dV,.str,Ho,tL⟩
theorem aAP(x):aR (aew My.sh x) (A1.sh x):=bg λh=>by
 obtain⟨E,M⟩:=h;unfold aew cR aL b1 aG aQ bj a7 ay cM a6;show _=mpure (tL x);rw[d' x (λi s=>(x,s,(i:Int),())) (λn s=>.next (yB s n)) (λs=>.next (s,())) (λi s=>s.length<=22*i/\(s=[]<->i=0)) [] ?_ ⟨by simp,by simp⟩ ?_ ?_]
 ·rw[cU,aAO,aH,cp];unfold tL;cases x with
  | nil=>rfl
  | cons n l=>
   have:Go.Lib.join ((n::l).map pQ) [32]≠[]:=by
    simp_all[Go.Lib.join_cons,Uj]
   grind
 ·rfl
 ·rintro i D s ⟨aY,a_⟩;have hw:=bc (n:=i+1) (by omega) (by omega);have aC:=M _ (ajj D);have aT:=aAM aC.2;refine⟨?_,λbl da=>?_⟩
  ·simp only[ch,cT D,if_true,cy];have al:My.sh x[i]=mpure (pQ x[i]):=bJ aC.2 _;unfold yB;by_cases aZ:i=0
   ·have az:=a_.2 aZ;rw[if_neg (by grind),if_pos az,aH,cp];simp only[cE D,bS,hw,c_ D,al,aH];rw[bb (ez (by grind))];rfl
   ·have az:=λe=>aZ (a_.1 e);rw[if_pos (by grind),if_neg az,bb (ez (by grind)),aH,cp];simp only[cE D,bS,hw,c_ D,al,aH];rw[bb (ez (by grind))];rfl
  grind [yB,Uj]
 simp
def sI(l:z1')(e:Int):a1:=if e=0 then tL l else if e=3 then L8 else AN
abbrev A2:aF:=⟨.ar dV bp,.str,λx=>Ho x.1,λx=>sI x.1 x.2⟩
theorem Mz{l:z1'}(h:Ho l)(e:Int):A2.sh (l,e)=mpure (sI l e):=bJ h _
abbrev Hp:aF:=⟨.ar mn bp,.str,λx=>Ho [x.1.1,x.1.2],λx=>sI [x.1.1,x.1.2] x.2⟩
theorem Uk{l:z1'}(h:∀ n∈l,0<=n/\n<2 ^ 63):tL l=pL l:=by
 grind [tL,pL,List.map_congr_left,aAN]
theorem MA{l:z1'}(h:∀ n∈l,0<=n/\n<2 ^ 63)(e:Int):sI l e=nK e l:=by
 grind [sI,nK,Uk]
abbrev yC(s:Int×Int):Prop:=(0<=s.1/\s.1<2 ^ 63)/\0<=s.2/\s.2<2 ^ 63
theorem MB{l:z1'}(h:∀ n∈l,0<=n/\n<2 ^ 63):yC (H.sq l):=by
 have key:∀ (l:z1') (o:Option (Int×Int)),yC (o.getD (0,0))->(∀ n∈l,0<=n/\n<2 ^ 63)->yC ((l.foldl (λo n=>some (H.Ac o n)) o).getD (0,0)):=by
  intro l;induction l with
  | nil=>simp
  | cons n l aP=>
   intro o au af;refine aP _ ?_ λk ah=>af k (by grind);have aC:=af n (by simp);cases o with
   | none=>exact⟨aC,aC⟩
   | some s=>
    obtain⟨⟨cd,a2⟩,a3,a4⟩:=au;simp  at cd a2 a3 a4;grind [H.Ac]
 exact key l none ⟨by decide,by decide⟩ h
theorem ag4{d:bk}(an:dx d){b:Bool}{w:z1'}(h:w∈(H.dF d.2 b).1):H.iF d.2 w=true/\H.j' d.2 w:=by
 grind [H.Ag,H.wG,H.CP]
theorem ag5{d:bk}(an:dx d)(n:Int):∀ m∈(H.h7 d.2 n).1,0<=m/\m<=11000:=by
 intro m hm;unfold H.h7 at hm;split at hm
 ·grind
 split at hm
 ·grind
 obtain⟨w,hw,e⟩:=List.mem_filterMap.1 hm;exact H.wz (H.ja an.vb) (ag4 an hw).2 e
theorem aAQ{d:bk}(an:dx d)(n:Int):yC (H.Ad d.2 n).1:=MB λm hm=>by have:=ag5 an n m hm;omega
theorem ag6{d:bk}(an:dx d){m:Int}(h:0<=m/\m<=11000):0<=H.jH d.2.2.2.2.2 m/\H.jH d.2.2.2.2.2 m<=100000:=H.KH ⟨(H.ja an.vb).xR,by omega,by omega⟩
theorem aAR{d:bk}(an:dx d)(n:Int):yC (H.Ae d.2 n).1:=MB λp aq=>by
 obtain⟨m,hm,rfl⟩:=List.mem_map.1 aq;have:=ag6 an (ag5 an n m hm);omega
theorem aAS{d:bk}(an:dx d){w:z1'}(hw:H.j' d.2 w)(g:Int):0<=H.wA d.2 w g/\H.wA d.2 w g<2 ^ 63:=by
 have aA:=H.ja an.vb;have key:∀ (l:List H.bC) (n:Int),0<=n->0<=l.foldl (λn s=>if (H.ey s=1/\H.i_ s=g)/\(H.hD d.2 w (H.jm s)).isSome=true then n+H.jH d.2.2.2.2.2 ((H.hD d.2 w (H.jm s)).getD 0) else n) n/\
   l.foldl (λn s=>if (H.ey s=1/\H.i_ s=g)/\(H.hD d.2 w (H.jm s)).isSome=true then n+H.jH d.2.2.2.2.2 ((H.hD d.2 w (H.jm s)).getD 0) else n) n<=n+100000*l.length:=by
  intro l;induction l with
  | nil=>simp
  | cons s l aP=>
   intro n h;rw[aKd];split
   ·rename_i hc;obtain⟨m,hm⟩:=Option.isSome_iff_exists.1 hc.2;have aq:=ag6 an (H.wz aA hw hm);grind
   grind
 have af:=aA.CL;grind [H.wA]
theorem aAT{d:bk}(an:dx d)(g:Int):yC (H.xY d.2 g).1:=MB λp aq=>by
 obtain⟨w,hw,rfl⟩:=List.mem_map.1 aq;exact aAS an (ag4 an hw).2 g
theorem aAU{d:bk}(an:dx d)(t:Int):yC (H.x0 d.2 t).1:=MB λp aq=>by
 obtain⟨w,hw,rfl⟩:=List.mem_map.1 aq;have E:=H.acV d.2 w t;have M:=(H.ja an.vb).xR;unfold H.qm at M;simp  [H.ra]at M;obtain⟨_,ai,bf⟩:=M;have aY:=Int.mul_nonneg E.1 ai;have a_:=Int.mul_le_mul E.2 bf ai (by decide);omega
theorem aAV{d:bk}(an:dx d):0<=(rs d.1 true).1/\(rs d.1 true).1<2 ^ 63:=by
 have ab:=an.val;unfold rs;split
 ·omega
 ·have af:=(afR d.1).1;have d_:=ab.nc;have key:∀ (l:z1') (n:Int),0<=n->(∀ k∈l,0<=k/\k<=100000)->0<=l.foldl (·+·) n/\l.foldl (·+·) n<=n+100000*l.length:=by
   intro l;induction l with
   | nil=>simp
   | cons k l aP=>
    intro n h ah;have aY:=ah k (by simp);have:=aP (n+k) (by omega) λj aI=>ah j (by grind);grind
  unfold iI;have:=key ((List.range (tF d.1).length).map λi=>if (tF d.1).getD i 0=-1 then 0 else (h9 d.1 i).2.2.2.2) 0 (aKs _) λk ah=>by
   obtain⟨i,D,rfl⟩:=List.mem_map.1 ah;rw[aKR,af]at D;have:=(Dh ab (ym D)).2;omega
  grind
theorem aAW(gd:Nat->Int->Bool)(m J F:Nat):0<=(yq gd m J F).2/\(yq gd m J F).2<=(J:Int):=by
 have key:∀ (l:List Nat) (ae:z1'×Int),0<=ae.2->0<=(l.foldl (u5 gd m F) ae).2/\(l.foldl (u5 gd m F) ae).2<=ae.2+l.length:=by
  intro l;induction l with
  | nil=>simp
  | cons j l aP=>
   grind [u5]
 grind [yq]
theorem aAX{d:bk}(an:dx d):0<=(sz d.1).1/\(sz d.1).1<2 ^ 63:=by
 have ab:=an.val;have key:∀ (l:List (z1')) (n:Int),-1<=n/\n<=24->(∀ y∈l,jc d.1 y)->-1<=l.foldl (u9 d.1) n/\l.foldl (u9 d.1) n<=24:=by
  intro l;induction l with
  | nil=>simp
  | cons y l aP=>
   intro n h bh;have E:=aAW (hY (dw d.1) (iH d.1 y).1) (dw d.1).2.1.length (iH d.1 y).1.length 201;grind [Tn,u7,u9]
 have:=key (kf 0 d.1) (-1) (by decide) λy bh=>(LA bh).2;grind [sz,AI]
theorem aAY(s:aS)(w:Int):∀ n∈(qE s w).1,0<=n/\n<(s.2.2.1.length:Int):=by
 grind [qE,LG]
theorem aAZ(c:H.aW)(t:Int):(∀ n∈(H.nF c t).1,0<=n/\n<=9)/\∀ n∈(H.nF c t).2.1,0<=n/\n<=9:=by
 grind [H.nF,r']
theorem aA0(c:H.aW)(u t:Int):∀ n∈(H.n5 c u t).1,-1<=n/\n<=99:=λn aC=>r'.1 (List.mem_filter.1 aC).1
theorem aA1(c:H.aW)(u t:Int):(H.n5 c u t).1.Pairwise (·<·):=(H.TK (-1) 99).filter _
theorem aA2{r:z1'×Int}(E:∀ n∈r.1,-1<=n/\n<=99)(M:r.1.Pairwise (·<·))(ai:r.2=0->0<r.1.length):sI r.1 r.2=Hc r:=by
 obtain⟨l,e⟩:=r;unfold Hc;by_cases he:e=0
 ·subst he;cases l with
  | nil=>rfl
  | cons a l=>
   rw[List.pairwise_cons]at M;have br:=E a (by simp);have af:∀ n∈l,0<=n/\n<2 ^ 63:=λn aC=>by
    grind
   by_cases aZ:0<=a
   ·grind [MA]
   ·obtain rfl:a=-1:=by omega
    show tL (-1::l)=_;unfold tL;rw[aKq,Go.Lib.join_cons];cases l with
    | nil=>rfl
    | cons b l=>
     show _=L9++[32]++pL (b::l);rw[<-Uk af];unfold tL;rw[aKq,Go.Lib.join_cons];rfl
 grind [sI,nK]
abbrev A3:aF:=⟨mB,mB,λd=>u_ d.1/\H.Kw d.2,λd=>d⟩
theorem aA3(x):aR (aev LY.sh H.si.sh x) (A3.sh x):=bg λh=>by
 unfold aev bT;rw[show LY.sh x.1=mpure x.1 from bJ h.1 _,show H.si.sh x.2=mpure x.2 from bJ h.2 _];simp only[h1,bS,eV]
theorem dx.aA4{d:bk}(h:dx d):H.Kw d.2:=by
 have:=h.agb;exact⟨by have:=this.dI;omega,by have:=this.dW;omega,by have:=this.jM;omega,by have:=this.n4;omega⟩
theorem aA5{d:bk}(h:dx d):A3.sh d=mpure d:=bJ ⟨h.copy,h.aA4⟩ _
end Go.Fer.aj
namespace Go.Fer
inductive vd{ag bet:Type}(P:ag->bet->Prop):List ag->List bet->Prop
 | nil:vd P [] []
 | cons {a b l m}:P a b->vd P l m->vd P (a::l) (b::m)
section
variable {ag bet eK:Type}
theorem vd.len{P:ag->bet->Prop}{l:List ag}{m:List bet}(h:vd P l m):m.length=l.length:=by
 induction h with
 | nil=>rfl
 | cons _ _ aP=>grind
theorem vd.fj{P:ag->bet->Prop}{l:List ag}{m:List bet}(h:vd P l m):∀ (i:Nat) (E:i<l.length) (M:i<m.length),P l[i] m[i]:=by
 induction h with
 | nil=>simp
 | cons E _ aP=>
  grind
end
def ag7(fit:List (z1'))(b9:z1')(u:Int):Prop:=∃ aj:z1',vd (λl w=>w=-1\/w∈l) fit aj/\(∀ k:Nat,k<b9.length->((aj.countP λx=>decide (x=(k:Int)):Nat):Int)<=b9.getD k 0)/\((aj.countP λx=>decide (x=-1):Nat):Int)<=u
def Hq(fit:List (z1'))(b9:z1'):Prop:=(∀ l∈fit,∀ s∈l,0<=s/\s<(b9.length:Int))/\∀ i,i<b9.length->0<=b9.getD i 0
theorem ag8{f:Int->Int->Int}{Q:Int->Prop}:∀ (l:z1') (b:Int),Q b->(∀ b s,s∈l->Q b->Q (f b s))->Q (l.foldl f b)
 | [],b,h,_=>h
 | x::l,b,h,aw=>ag8 l _ (aw b x (by simp) h) λb s az=>aw b s (ajp _ az)
theorem Ul:∀ (fit:List (z1')) (b9:z1'),Hq fit b9->
  ∃ aj:z1',vd (λl w=>w=-1\/w∈l) fit aj/\(∀ k:Nat,k<b9.length->((aj.countP λx=>decide (x=(k:Int)):Nat):Int)<=b9.getD k 0)/\(fit.length:Int) - ((aj.countP λx=>decide (x=-1):Nat):Int)=hW fit b9
 | [],b9,h=>⟨[],.nil,λk ah=>by simpa using h.2 k ah,by rfl⟩
 | j::jR,b9,h=>by
  have aZ:Hq jR b9:=⟨λl af=>h.1 l (ajp _ af),h.2⟩
  have aI:=h.1 j (by simp);unfold hW;refine ag8 (Q:=λn=>∃ aj:z1',vd (λl w=>w=-1\/w∈l) (j::jR) aj/\(∀ k:Nat,k<b9.length->((aj.countP λx=>decide (x=(k:Int)):Nat):Int)<=b9.getD k 0)/\((j::jR).length:Int) - ((aj.countP λx=>decide (x=-1):Nat):Int)=n) j _ ?_ λb s az V=>?_
  ·obtain⟨aj,E,M,ai⟩:=Ul jR b9 aZ;refine⟨-1::aj,.cons (.inl rfl) E,λk ah=>?_,?_⟩
   ·rw[List.countP_cons_of_neg (by simp)];exact M k ah
   ·rw[List.countP_cons_of_pos (by simp)];simp only[aKN];omega
  ·by_cases hc:b9.getD s.toNat 0 > 0
   ·simp only[hc,aKP,if_true];split
    ·have afK:=aI s az;have E:Hq jR (b9.set s.toNat (b9.getD s.toNat 0 - 1)):=by
      refine⟨λl af q bM=>by rw[aLf];exact aZ.1 l af q bM,λi D=>?_⟩;rw[aLf]at D;rw[u4 (by omega)];grind
     obtain⟨aj,aY,a_,b7⟩:=Ul jR _ E;refine⟨s::aj,.cons (.inr az) aY,λk ah=>?_,?_⟩
     ·have:=a_ k (by grind);rw[u4 (by omega)]at this;by_cases e:s=(k:Int)
      ·rw[List.countP_cons_of_pos (by grind)];have aU:k=s.toNat:=by omega
       grind
      ·rw[List.countP_cons_of_neg (by grind)];omega
     ·rw[List.countP_cons_of_neg (by grind)];grind
    omega
   grind
theorem aA6{fit:List (z1')}{b9:z1'}(h:Hq fit b9)(u:Int):ag7 fit b9 u<->(fit.length:Int) - hW fit b9<=u:=by
 constructor
 ·rintro⟨aj,E,M,ai⟩;have af:=E.len;have key:=Lr fit aj b9 af (λi D=>?_) h.1 (λs aZ az=>?_)
  ·have hc:=List.length_eq_countP_add_countP (λx:Int=>decide (x=-1)) (l:=aj);grind
  ·have ea:i<aj.length:=by omega
   have:=E.fj i D ea;grind
  grind
 ·intro hu;obtain⟨aj,E,M,ai⟩:=Ul fit b9 h;exact⟨aj,E,M,by omega⟩
def yD(aV:List fM)(t:js)(k:Nat):Bool:=decide ((aV.getD k hl).1<=t.1)&&t.2.contains (aV.getD k hl).2.1
def kh(aV:List fM)(t:js):z1':=((List.range aV.length).filter (yD aV t)).map λ(k:Nat)=>(k:Int)
def h0(aV:List fM):z1':=aV.map λe=>e.2.2
theorem Hr{aV:List fM}{t:js}{k:Int}:k∈kh aV t<->0<=k/\k<(aV.length:Int)/\yD aV t k.toNat=true:=by
 unfold kh;grind
theorem MC{aV:List fM}{k:Nat}(ah:k<aV.length):(h0 aV).getD k 0=(aV.getD k hl).2.2:=by
 simp[h0,aJ7,ah]
theorem ag9{aV:List fM}(h:∀ e∈aV,0<=e.2.2)(T:List js):Hq (T.map (kh aV)) (h0 aV):=by
 refine⟨λl af s az=>?_,λi D=>?_⟩
 ·obtain⟨t,_,rfl⟩:=List.mem_map.1 af;have:=Hr.1 az;exact⟨this.1,by simpa [h0]using this.2.1⟩
 ·have D:i<aV.length:=by simpa [h0]using D
  rw[MC D];grind
theorem aA7(aV:List fM)(k:Nat):(my aV k).length=aV.length:=by simp[my]
theorem aA8{aV:List fM}{k i:Nat}(ah:k<aV.length):(my aV k).getD i hl=if i=k then ((aV.getD k hl).1,(aV.getD k hl).2.1,(aV.getD k hl).2.2 - 1) else aV.getD i hl:=by
 unfold my;rw[aJ7,List.getElem?_set,aJ7];grind
theorem aA9{aV:List fM}{k:Nat}(ah:k<aV.length)(t:js):kh (my aV k) t=kh aV t:=by
 unfold kh;rw[aA7];congr 1;refine aLe λi D=>?_;unfold yD;rw[aA8 ah];grind
theorem aA_{aV:List fM}{k:Nat}(ah:k<aV.length):h0 (my aV k)=(h0 aV).set k ((h0 aV).getD k 0 - 1):=by
 rw[MC ah];unfold h0 my;simp
end Go.Fer
namespace Go.Fer
def ob(aV:List fM)(T:List js):Int:=hW (T.map (kh aV)) (h0 aV)
theorem yE(aV:List fM)(T:List js):0<=ob aV T/\ob aV T<=(T.length:Int):=by
 have:=Lp (T.map (kh aV)) (h0 aV);rw[aKD]at this;exact this
theorem Um{aV:List fM}{k:Nat}(ah:k<aV.length)(T:List js):ob (my aV k) T=hW (T.map (kh aV)) ((h0 aV).set k ((h0 aV).getD k 0 - 1)):=by
 unfold ob;rw[aA_ ah];congr 1;exact aKA λt _=>aA9 ah t
theorem Un{aV:List fM}{t:js}{k:Nat}(ah:k<aV.length):tG t (aV.getD k hl)=true<->(k:Int)∈kh aV t/\(h0 aV).getD k 0 > 0:=by
 rw[Hr,MC ah];simp only[tG,yD,ajm,ajl,ajr];grind
theorem Uo:∀ (T:List js) (aV:List fM),sB T aV=true<->ob aV T=(T.length:Int)
 | [],aV=>by simp[sB,ob,hW]
 | t::T,aV=>by
  have V:=yE aV (t::T);have BJ:=yE aV T;unfold sB;rw[aLE];constructor
  ·rintro⟨o,au,h⟩;simp only[kg,aLt,aLM,aKR]at au;obtain⟨k,⟨ah,aA⟩,rfl⟩:=au;have aP:=(Uo T (my aV k)).1 h;rw[Um ah]at aP;obtain⟨E,M⟩:=(Un ah).1 aA;have ai:=afm (T.map (kh aV)) (b9:=h0 aV) E (by grind);rw[ajr,aP]at ai;have:ob aV (t::T)=hW (kh aV t::T.map (kh aV)) (h0 aV):=rfl;grind
  ·intro h;by_cases hex:∃ o∈kg t aV,sB T o=true
   ·omega
   ·exfalso;have hle:hW (kh aV t::T.map (kh aV)) (h0 aV)<=(T.length:Int):=by
     refine afn BJ.2 λs az aq=>?_;have hm:=Hr.1 az;have ah:s.toNat<aV.length:=by omega
     have fc:¬sB T (my aV s.toNat)=true:=λan=>by
      refine hex ⟨my aV s.toNat,?_,an⟩;simp only[kg,aLt,aLM,aKR];refine⟨s.toNat,⟨ah,(Un ah).2 ⟨?_,aq⟩⟩,rfl⟩;grind
     rw[Uo T (my aV s.toNat),Um ah]at fc;have:=Lp (T.map (kh aV)) ((h0 aV).set s.toNat ((h0 aV).getD s.toNat 0 - 1));grind
    have:ob aV (t::T)=hW (kh aV t::T.map (kh aV)) (h0 aV):=rfl;grind
def ve(T:List js):Bool:=T.all λt=>!decide ((t.2.length:Int)=0)
theorem ag_{T:List js}(h:∀ aV,fx T aV=-1):∀ (l:List (List fM)),l.foldl (λb o=>hZ b (fx T o)) (-1)=-1
 | []=>rfl
 | o::l=>by
  rw[aKd,h];exact ag_ h l
theorem ag'{F1 F2:Int->Nat->Int}{L:Int}:∀ (l:List Nat) (b n:Int),(∀ k∈l,∀ b n,n<=L->b=L - n->F2 n k<=L/\F1 b k=L - F2 n k)->n<=L->b=L - n->l.foldl F1 b=L - l.foldl F2 n
 | [],b,n,_,_,h=>h
 | k::l,b,n,az,aC,V=>by
  obtain⟨E,M⟩:=az k (by simp) b n aC V;rw[aKd,aKd];exact ag' l _ _ (λq bM=>az q (ajp _ bM)) E M
theorem Up:∀ (T:List js) (aV:List fM),fx T aV=if ve T=true then (T.length:Int) - ob aV T else -1
 | [],aV=>by rfl
 | t::T,aV=>by
  unfold fx;by_cases aT:(t.2.length:Int)=0
  ·rw[if_pos aT,if_neg];unfold ve;grind
  ·rw[if_neg aT];have gl:ve (t::T)=ve T:=by
    show (!decide ((t.2.length:Int)=0)&&ve T)=ve T;grind
   rw[gl];by_cases br:ve T=true
   ·rw[if_pos br];have aP:∀ aV,fx T aV=(T.length:Int) - ob aV T:=λaV=>by rw[Up T aV,if_pos br]
    have BJ:=yE aV T;have aZ:fx T aV>=0:=by grind
    rw[if_pos aZ,aP];have hm:ob aV (t::T)=(kh aV t).foldl (λn s=>if decide ((h0 aV).getD s.toNat 0 > 0)=true then (if 1+hW (T.map (kh aV)) ((h0 aV).set s.toNat ((h0 aV).getD s.toNat 0 - 1)) > n then 1+hW (T.map (kh aV)) ((h0 aV).set s.toNat ((h0 aV).getD s.toNat 0 - 1)) else n) else n) (ob aV T):=rfl;rw[hm];unfold kg kh;rw[aLA,aLA,List.foldl_filter,List.foldl_filter];have:=ag' (L:=(T.length:Int)+1) (F1:=λb k=>if tG t (aV.getD k hl)=true then hZ b (fx T (my aV k)) else b)
     (F2:=λn (k:Nat)=>if yD aV t k=true then (if decide ((h0 aV).getD ((k:Int).toNat) 0 > 0)=true then (if 1+hW (T.map (kh aV)) ((h0 aV).set ((k:Int).toNat) ((h0 aV).getD ((k:Int).toNat) 0 - 1)) > n then 1+hW (T.map (kh aV)) ((h0 aV).set ((k:Int).toNat) ((h0 aV).getD ((k:Int).toNat) 0 - 1)) else n) else n) else n)
     (List.range aV.length) ((T.length:Int) - ob aV T+1) (ob aV T) (λk ah b n aC Bl=>?_) (by omega) (by omega)
    ·have e:(λ(x:Int) (y:Nat)=>if tG t (aV.getD y hl)=true then hZ x (fx T (my aV y)) else x)=(λb k=>if tG t (aV.getD k hl)=true then hZ b (fx T (my aV k)) else b):=rfl;refine Eq.trans this ?_;rfl
    ·have ah:k<aV.length:=by grind
     have e9:=Um ah T;have aJV:=yE (my aV k) T;have aA:tG t (aV.getD k hl)=(yD aV t k&&decide ((h0 aV).getD k 0 > 0)):=by
      rw[aKW,Un ah,Hr];grind
     simp only[ajr,<-e9,aA,aP];by_cases E:yD aV t k=true
     ·by_cases M:(h0 aV).getD k 0 > 0
      ·simp only[E,M,aKP,Bool.and_self,if_true];refine⟨by omega,?_⟩;unfold hZ;grind
      grind
     grind
   ·rw[if_neg br];have aP:∀ aV,fx T aV=-1:=λaV=>by rw[Up T aV,if_neg br]
    rw[aP,if_neg (by decide)];exact ag_ aP _
def Uq(aV:List fM)(T:List js)(u:Int):Prop:=ag7 (T.map (kh aV)) (h0 aV) u
theorem aha{aV:List fM}(h:∀ e∈aV,0<=e.2.2)(T:List js)(u:Int):Uq aV T u<->(T.length:Int) - ob aV T<=u:=by
 unfold Uq;rw[aA6 (ag9 h T),aKD];rfl
theorem MD{s:aS}(ab:fg s):∀ e∈jJ s,0<=e.2.2:=λe he=>((afV ab).2 e he).1
theorem aA'{s:aS}(ab:fg s)(bm:z1'):ku s bm=true<->(ir s bm).2=true/\Uq (jJ s) (ir s bm).1 0:=by
 unfold ku;rw[ajm,Uo,aha (MD ab)];have:=yE (jJ s) (ir s bm).1;grind
theorem ahb{s:aS}(bm:z1'):mz s bm=if ((ir s bm).2&&ve (ir s bm).1)=true then ((ir s bm).1.length:Int) - ob (jJ s) (ir s bm).1 else -1:=by
 unfold mz;cases (ir s bm).2 with
 | false=>simp
 | true=>simp only[aKo,ajh,ajq,aKO];exact Up _ _
theorem Ur{ag bet eK:Type}(f:ag->List bet)(g:eK->bet->eK):∀ (l:List ag) (b:eK),(l.flatMap f).foldl g b=l.foldl (λb x=>(f x).foldl g b) b
 | [],b=>rfl
 | x::l,b=>by rw[aKG,List.foldl_append,aKd,Ur f g l]
def DK(w:bL)(n:Nat):z4':=(List.range n).flatMap λ(i:Nat)=>(List.range w.2.1.length).flatMap λ(m:Nat)=>(List.range (jq w (m:Int)).length).map λ(k:Nat)=>((i:Int),(m:Int),(k:Int))
theorem aBa(w:bL)(n:Nat):rq w n=(DK w n).foldl (tD w) []:=by
 unfold DK;rw[Ur];unfold rq;congr 1;funext t i;rw[Ur];unfold SQ;congr 1;funext t m;rw[aLA];rfl
theorem aBb{w:bL}{n:Nat}{q:Int×Int×Int}:q∈DK w n<->(0<=q.1/\q.1<(n:Int))/\h8 w q.2.1 q.2.2=true:=by
 obtain⟨a,m,k⟩:=q;rw[Am];simp  [DK];constructor
 ·grind
 ·rintro⟨E,M,ai⟩;refine⟨a.toNat,by omega,m.toNat,by omega,k.toNat,?_,by omega,by omega,by omega⟩;grind
theorem aBc{w:bL}(hw:lz w=true){n:Nat}(aC:n<=10):(DK w n).length<=240:=by
 have SU:=(yc hw).2.1;have E:∀ (l:List Nat),(∀ m∈l,m<w.2.1.length)->∀ i,(l.flatMap λ(m:Nat)=>(List.range (jq w m).length).map λ(k:Nat)=>((i:Int),(m:Int),(k:Int))).length<=4*l.length:=by
  intro l;induction l with
  | nil=>simp
  | cons m l aP=>
   intro af i;have E:=aP (λj aI=>af j (by grind)) i;have M:=af m (by simp);have ai:=by
    have lq:jq w m∈w.2.1:=by simp[jq,M]
    have:=(An hw).2.2.1 _ lq;simp  [rk,aKB]at this;omega
   grind
 have M:∀ (l:List Nat),(l.flatMap λ(i:Nat)=>(List.range w.2.1.length).flatMap λ(m:Nat)=>(List.range (jq w m).length).map λ(k:Nat)=>((i:Int),(m:Int),(k:Int))).length<=24*l.length:=by
  intro l;induction l with
  | nil=>simp
  | cons i l aP=>
   have ai:=E (List.range w.2.1.length) (λm hm=>by grind) i;grind
 grind [DK]
theorem ahc(w:bL):∀ (l:z4') (t:z5') (N:Nat),N+l.length<2 ^ 62->(∀ q,0<=(l4 t q).getD 0/\(l4 t q).getD 0<=(N:Int))->
  ∀ q,(l4 (l.foldl (tD w) t) q).getD 0 > 0<->((l4 t q).getD 0 > 0\/(q∈l/\rl w q.1 q.2.1 q.2.2=1))
 | [],t,N,_,_,q=>by simp
 | x::l,t,N,kI,aT,q=>by
  simp  at kI;have al:=aT x;have hw:=bc (n:=(l4 t x).getD 0+1) (by omega) (by omega);have FD:∀ q,0<=(l4 (tD w t x) q).getD 0/\(l4 (tD w t x) q).getD 0<=((N+1)):=λq=>by
   grind [tD,K6]
  rw[aKd,ahc w l (tD w t x) (N+1) (by omega) FD q];grind [tD,K6]
theorem ahd{w:bL}{m k i:Int}:i∈k9 w m k<->0<=i/\i<(w.1.length:Int)/\(kc w i m k).1=1:=by
 unfold k9;simp;constructor
 ·grind
 ·rintro⟨E,M,ai⟩;refine⟨i.toNat,⟨by omega,?_⟩,by omega⟩;grind
theorem Us{s:aS}(ab:fg s)(ah:fJ s true=0){sp:Int×Int}{j:rr}(az:fP s.1 sp.1=true)(aI:h8 s.1 j.1 j.2.1=true):sy (dw s) sp j=true<->sp.2<=j.2.2/\sp.1∈k9 s.1 j.1 j.2.1:=by
 have an_:=(oU ah).2.2.1;have kH:(kc s.1 sp.1 j.1 j.2.1).1=rl s.1 sp.1 j.1 j.2.1:=by
  grind [kc]
 have af:=aBc (n:=s.2.1.length) ab.uU.2 (by have:=ab.tC;have:=ab.Au;omega);unfold sy dw;rw[ajm,ajl,ajl,aBa,ahc s.1 _ [] 0 (by omega) (λq=>by simp[SF])];rw[ahd,aBb];have eG:=ab.tC;grind [SF]
def Hs(s:aS)(j:rr):js:=(j.2.2,k9 s.1 j.1 j.2.1)
theorem ahe(s:aS)(bm:z1')(i:Nat):l8 s bm i=(l7 s bm i).map λl=>l.map (Hs s):=by
 unfold l8 l7;split
 ·rfl
 ·cases nd s (h9 s i) (h_ s (bm.getD i 0)) with
  | none=>rfl
  | some d=>
   simp only[aLc,List.map_map];rfl
theorem ME(s:aS)(bm:z1'):(ir s bm).2=(iH s bm).2/\(ir s bm).1=(iH s bm).1.map (Hs s):=by
 unfold ir iH;have e:((List.range bm.length).all λi=>(l8 s bm i).isSome)=(List.range bm.length).all λi=>(l7 s bm i).isSome:=by
  grind [ahe]
 rw[e];split
 ·refine⟨rfl,?_⟩;show (List.range bm.length).flatMap (λi=>(l8 s bm i).getD [])=List.map (Hs s) ((List.range bm.length).flatMap λi=>(l7 s bm i).getD []);rw[aLW];congr 1;funext i;rw[ahe];cases l7 s bm i<;>rfl
 simp
theorem aBd{s:aS}{x:jQ}{p:lZ}{d:Int}(h:nd s x p=some d):0<=d:=by
 grind [nd]
theorem Ut{ag bet:Type}{f g:ag->List bet}:∀ {l:List ag},(∀ x∈l,f x=g x)->l.flatMap f=l.flatMap g
 | [],_=>rfl
 | x::l,h=>by
  rw[aKG,aKG,h x (by simp),Ut λy bh=>h y (ajp _ bh)]
theorem ahf{s:aS}(ab:fg s){bm:z1'}(aq:jc s bm):∀ j∈(iH s bm).1,h8 s.1 j.1 j.2.1=true/\0<=j.2.2:=by
 intro j aI;unfold iH at aI;split at aI
 ·obtain⟨i,D,aI⟩:=List.mem_flatMap.1 aI;cases h:l7 s bm i with
  | none=>grind
  | some y=>
   rw[h]at aI;unfold l7 at h;split at h
   ·grind
   ·obtain⟨d,an,rfl⟩:=Option.map_eq_some_iff.1 h;obtain⟨k,ah,rfl⟩:=List.mem_map.1 aI;have hm:bm.getD i 0∈bm:=by grind
    refine⟨(Aw ab (GZ (by omega) (aq.2 _ hm))).2.2 k ah,?_⟩;exact aBd an
 grind
def vf(s:aS):List Nat:=((List.range s.2.1.length).flatMap λi=>List.replicate (s.2.1.getD i 0).toNat (s.2.2.2.2.1.length+i))++(List.range s.2.2.2.2.1.length).flatMap λk=>List.replicate (s.2.2.2.2.1.getD k hl).2.2.toNat k
def A4(s:aS)(k:Nat):Int×Int:=(((jJ s).getD k hl).2.1,((jJ s).getD k hl).1)
theorem Uu(s:aS):(jJ s).length=s.2.2.2.2.1.length+s.2.1.length:=by simp[jJ]
theorem ahg{s:aS}{k:Nat}(ah:k<s.2.2.2.2.1.length):(jJ s).getD k hl=s.2.2.2.2.1.getD k hl:=by
 grind [jJ]
theorem ahh{s:aS}{i:Nat}(D:i<s.2.1.length):(jJ s).getD (s.2.2.2.2.1.length+i) hl=(0,(i:Int),s.2.1.getD i 0):=by
 grind [jJ]
theorem ahi(s:aS):yj s=(vf s).map (A4 s):=by
 unfold yj vf Df SR;rw[aLs,aLW];congr 1
 ·grind [Ut,List.map_replicate,l6,A4,ahh]
 ·have e:s.2.2.2.2.1=(List.range s.2.2.2.2.1.length).map λk=>s.2.2.2.2.1.getD k hl:=by
   apply aLC<;>grind
  grind [Ut,List.map_replicate,l6,A4,ahg]
theorem Uv(a:Nat)(c:Nat->Nat)(x:Nat):∀ n,((List.range n).flatMap λi=>List.replicate (c i) (a+i)).countP (λy=>decide (y=x))=if a<=x/\x<a+n then c (x - a) else 0
 | 0=>by grind
 | n+1=>by
  rw[aLd,aLH,aLO,Uv a c x n];grind [List.countP_replicate]
theorem aBe{s:aS}(ab:fg s){x:Nat}(al:x<(jJ s).length):(((vf s).countP λy=>decide (y=x):Nat):Int)=((jJ s).getD x hl).2.2:=by
 unfold vf;rw[aLO,Uv];have M:=Uv 0 (λk=>(s.2.2.2.2.1.getD k hl).2.2.toNat) x s.2.2.2.2.1.length;rw[Uu]at al;have tc:=MD ab;grind [jJ]
theorem aBf{l:List Nat}{x:Nat}:((List.range l.length).countP λi=>decide (l.getD i 0=x))=l.countP λy=>decide (y=x):=by
 have e:l=(List.range l.length).map λi=>l.getD i 0:=by
  apply aLC<;>grind
 conv=>rhs;rw[e]
 rw[List.countP_map];rfl
theorem aBg{s:aS}:∀ k∈vf s,k<(jJ s).length:=by
 intro k ah;rw[Uu];rcases List.mem_append.1 ah with ah | ah<;>grind
theorem aBh{s:aS}(ab:fg s){k:Nat}(ah:k<(jJ s).length):fP s.1 (A4 s k).1=true:=by
 rw[Uu]at ah;have eG:=ab.tC;unfold A4;by_cases h:k<s.2.2.2.2.1.length
 ·rw[ahg h];have hm:(s.2.2.2.2.1.getD k hl)∈s.2.2.2.2.1:=by grind
  have:=ab.Lk _ hm;grind [qx]
 ·obtain⟨i,rfl⟩:∃ i,k=s.2.2.2.2.1.length+i:=⟨k - s.2.2.2.2.1.length,by omega⟩
  grind [ahh,qv]
theorem ahj{s:aS}(ab:fg s)(ah:fJ s true=0){bm:z1'}(aq:jc s bm):u7 (dw s) (iH s bm).1=((ir s bm).1.length:Int) - ob (jJ s) (ir s bm).1:=by
 have hm:(dw s).2.1.length=(vf s).length:=by
  show (yj s).length=_;grind [ahi]
 have eG:=Tm ab;have aBi:=ahf ab aq;have aJW:=(ME s bm).2;have hlen:(ir s bm).1.length=(iH s bm).1.length:=by grind
 unfold u7;have:=axl (gd:=hY (dw s) (iH s bm).1) (kd:=λi=>(vf s).getD i 0) (m:=(dw s).2.1.length) (J:=(iH s bm).1.length) (fit:=(ir s bm).1.map (kh (jJ s)))
  (by show (yj s).length<201;omega) (by grind) (ag9 (MD ab) _).1 (λx al=>?_) (λi D j aI=>?_)
 ·rw[this,hlen];rfl
 ·have al:=by simpa [h0]using al
  rw[MC al,hm,aBf,aBe ab al]
 ·have AD:(vf s).getD i 0∈vf s:=by grind
  have cF:=aBg _ AD;have oD:(dw s).2.1.getD i (0,0)=A4 s ((vf s).getD i 0):=by
   show (yj s).getD i (0,0)=_;grind [ahi]
  grind [hY,Us,aBh,Hr,yD,A4,Hs]
theorem aBj{s:aS}(ab:fg s)(ah:fJ s true=0){bm:z1'}(aq:jc s bm):AE (dw s) (iH s bm).1=ve (ir s bm).1:=by
 have aBi:=ahf ab aq;unfold AE ve;rw[(ME s bm).2,List.all_map];refine K3 λj aI=>?_;have eG:=ab.tC;rw[aKW];simp  [Hs,aKB];constructor
 ·rintro⟨i,D,aA⟩;have D:=by simpa [dw]using D
  grind [Us,qv]
 ·intro aZ;cases aw:k9 s.1 j.1 j.2.1 with
  | nil=>grind
  | cons i l=>
   have hm:i∈k9 s.1 j.1 j.2.1:=by grind
   have U:=ahd.1 hm;refine⟨i.toNat,by simp[dw];omega,?_⟩;grind [Us,qv]
theorem Uw{s:aS}(ab:fg s)(ah:fJ s true=0){bm:z1'}(aq:jc s bm):pJ s bm=ku s bm:=by
 have E:=ahj ab ah aq;have M:=(ME s bm).1;rw[aKW,aA' ab,aha (MD ab)];unfold pJ;have:=yE (jJ s) (ir s bm).1;grind
def A5(s:aS)(y:z1')(i:Nat):Prop:=y.getD i 0=-1\/((0<=y.getD i 0/\y.getD i 0<(s.2.2.1.length:Int))/\n8 (h9 s (i:Int)) (h_ s (y.getD i 0))≠0/\¬y.getD i 0∈y.take i)
theorem ahk{s:aS}{first:z1'}{p:Nat}:pK s first p=true<->n8 (h9 s (first.length:Int)) (h_ s (p:Int))≠0/\¬(p:Int)∈first:=by
 grind [pK]
theorem aBk{y first:z1'}{p:Int}(af:first.length<y.length):y.take (first++[p]).length=first++[p]<->y.take first.length=first/\y.getD first.length 0=p:=by
 have aU:y.take (first++[p]).length=y.take first.length++[y[first.length]]:=by
  simp
 grind [List.append_inj]
theorem ahl{s:aS}{n:Nat}{first y:z1'}{p:Int}(Q:z1'->Nat->Prop)(aJX:y.length=first.length+(n+1)->y.take first.length=first->y.getD first.length 0=p->Q y first.length) :
  (y.length=(first++[p]).length+n/\y.take (first++[p]).length=first++[p]/\∀ i,(first++[p]).length<=i->i<y.length->Q y i)<->(y.length=first.length+(n+1)/\y.take first.length=first/\y.getD first.length 0=p/\∀ i,first.length<=i->i<y.length->Q y i):=by
 grind [aBk]
theorem Ux{s:aS}{e:Int}:∀ {n:Nat} {first y:z1'},y∈jr s e n first<->y.length=first.length+n/\y.take first.length=first/\∀ i,first.length<=i->i<y.length->A5 s y i/\(e=0->y.getD i 0≠-1)
 | 0,first,y=>by
  grind [jr]
 | n+1,first,y=>by
  have Ar:e≠0->(y∈jr s e n (first++[-1])<->y.length=first.length+(n+1)/\y.take first.length=first/\y.getD first.length 0=-1/\∀ i,first.length<=i->i<y.length->A5 s y i/\(e=0->y.getD i 0≠-1)):=λhe=>by
   rw[Ux];exact ahl (s:=s) (λy i=>A5 s y i/\(e=0->y.getD i 0≠-1)) λ_ _ h=>⟨.inl h,λh=>absurd h he⟩
  have mh:∀ p,p<s.2.2.1.length->pK s first p=true->(y∈jr s e n (first++[(p:Int)])<->y.length=first.length+(n+1)/\y.take first.length=first/\y.getD first.length 0=p/\∀ i,first.length<=i->i<y.length->A5 s y i/\(e=0->y.getD i 0≠-1)):=λp aq aC=>by
   rw[Ux];refine ahl (s:=s) (λy i=>A5 s y i/\(e=0->y.getD i 0≠-1)) λ_ aT h=>?_;have:=ahk.1 aC;exact⟨.inr ⟨by omega,by grind,by grind⟩,λ_=>by omega⟩
  simp  [jr];constructor
  ·grind
  ·rintro⟨E,M,bf⟩;obtain⟨b2,d_⟩:=bf first.length (ajn _) (by omega)
   rcases b2 with b2 | ⟨hn,jL,tP⟩
   ·grind
   ·obtain⟨p,aq⟩:∃ p:Nat,y.getD first.length 0=p:=⟨(y.getD first.length 0).toNat,by omega⟩
    grind [ahk]
theorem Ht{s:aS}:∀ {n:Nat} {first y:z1'},y∈mA s n first<->y∈jr s 1 n first
 | 0,first,y=>by rfl
 | n+1,first,y=>by
  simp only[mA,jr,List.mem_append,aLl,aKR];constructor
  ·rintro⟨k,ah,h⟩;split at h
   ·right;exact Ht.1 h
   ·split at h
    ·rename_i aC;left;refine⟨k - 1,by omega,?_⟩;rw[if_pos aC];exact Ht.1 h
    grind
  ·rintro (⟨p,aq,h⟩ | h)
   ·split at h
    ·rename_i aC;refine⟨p+1,by omega,?_⟩;rw[Nat.add_sub_cancel,if_pos aC];exact Ht.2 h
    grind
   ·refine⟨0,by omega,?_⟩;exact Ht.2 h
theorem Uy{s:aS}{e:Int}{y:z1'}:y∈kf e s<->y.length=s.2.2.2.1.length/\∀ i,i<y.length->A5 s y i/\(e=0->y.getD i 0≠-1):=by
 grind [kf,Ux]
theorem Uz{s:aS}{y:z1'}:y∈fm s<->y.length=s.2.2.2.1.length/\∀ i,i<y.length->A5 s y i:=by
 unfold fm;rw[Ht];have:=Uy (s:=s) (e:=1) (y:=y);grind [kf]
theorem ahm{s:aS}{y:z1'}:y∈kf 1 s<->y∈fm s:=by
 grind [Uy,Uz]
theorem aBl{s:aS}{y:z1'}:y∈kf 0 s<->y∈fm s/\y.contains (-1)=false:=by
 grind [Uy,Uz,List.mem_iff_getElem]
def tM(s:aS):z1':=List.replicate s.2.2.2.1.length (-1)
theorem ahn{s:aS}{i:Nat}(D:i<(tM s).length):(tM s).getD i 0=-1:=by
 grind [tM]
theorem aho(s:aS):tM s∈fm s:=Uz.2 ⟨by simp[tM],λi D=>.inl (ahn D)⟩
theorem ahp:∀ (l:z1'),(∀ x∈l,x=0)->l.foldl (·+·) 0=0
 | [],_=>rfl
 | x::l,h=>by
  have al:=h x (by simp);subst al;exact ahp l λy bh=>h y (ajp _ bh)
theorem aBm(s:aS):iI s (tM s)=0:=by
 refine ahp _ λx al=>?_;grind [ahn]
theorem aBn(s:aS):ir s (tM s)=([],true):=by
 simp_all[tM,l8,ir]
theorem ahq(s:aS):ku s (tM s)=true:=by
 unfold ku;rw[aBn];rfl
def Hu(s:aS)(m:Int):Prop:=(∀ y∈fm s,ku s y=true->iI s y<=m)/\∃ y∈fm s,ku s y=true/\iI s y=m
theorem Hu.UA{s:aS}{a b:Int}(h:Hu s a)(k:Hu s b):a=b:=by
 obtain⟨y,lg,rR,aBo⟩:=h.2;obtain⟨z,iQ,z2,z3⟩:=k.2;have:=h.1 z iQ z2;have:=k.1 y lg rR;omega
theorem aBp(s:aS):Hu s (afY s):=by
 have key:∀ (l:List (z1')) (b:Int),(∀ y∈l,y∈fm s)->(∃ y∈fm s,ku s y=true/\iI s y=b)->
   (∃ y∈fm s,ku s y=true/\iI s y=l.foldl (wT s) b)/\b<=l.foldl (wT s) b/\∀ y∈l,ku s y=true->iI s y<=l.foldl (wT s) b:=by
  intro l;induction l with
  | nil=>simp
  | cons y l aP=>
   intro b af V;have E:∃ z∈fm s,ku s z=true/\iI s z=wT s b y:=by
    grind [wT]
   grind [wT]
 obtain⟨E,_,ai⟩:=key (fm s) 0 (λ_ h=>h) ⟨tM s,aho s,ahq s,aBm s⟩;exact⟨ai,E⟩
theorem aBq{s:aS}(ab:fg s)(ah:fJ s true=0):Hu s (iI s (tF s))/\tF s∈fm s/\ku s (tF s)=true:=by
 have aJY:∀ y∈fm s,pJ s y=ku s y:=λy bh=>Uw ab ah (LU bh).2.1;have key:∀ (l:List (z1')) (b:z1'),(∀ y∈l,y∈fm s)->(b∈fm s/\ku s b=true)->
   (l.foldl (n_ s) b∈fm s/\ku s (l.foldl (n_ s) b)=true)/\iI s b<=iI s (l.foldl (n_ s) b)/\∀ y∈l,ku s y=true->iI s y<=iI s (l.foldl (n_ s) b):=by
  intro l;induction l with
  | nil=>simp
  | cons y l aP=>
   intro b af V;have E:n_ s b y∈fm s/\ku s (n_ s b y)=true:=by
    grind [n_]
   grind [n_]
 obtain⟨E,_,ai⟩:=key (kf 1 s) (tM s) (λ_ h=>ahm.1 h) ⟨aho s,ahq s⟩;exact⟨⟨λy bh aw=>ai y (ahm.2 bh) aw,tF s,E.1,E.2,rfl⟩,E.1,E.2⟩
theorem aBr{s:aS}(az:eN s):rs s true=Dt s:=by
 unfold rs Dt;by_cases ah:fJ s true=0
 ·have ab:=qB az (oU ah).1;rw[if_neg (by omega),if_neg (by omega),(aBq ab ah).1.UA (aBp s)]
 grind
def DL(s:aS)(r:Int):Prop:=(r=-1/\∀ y∈fm s,y.contains (-1)=false->mz s y<0)\/(0<=r/\(∃ y∈fm s,y.contains (-1)=false/\mz s y=r)/\∀ y∈fm s,y.contains (-1)=false->0<=mz s y->r<=mz s y)
theorem DL.UA{s:aS}{a b:Int}(h:DL s a)(k:DL s b):a=b:=by
 rcases h with⟨E,M⟩ | ⟨E,⟨y,lg,rR,aBo⟩,ai⟩
 ·rcases k with⟨aY,_⟩ | ⟨aY,⟨z,iQ,z2,z3⟩,_⟩<;>grind
 ·rcases k with⟨aY,a_⟩ | ⟨aY,⟨z,iQ,z2,z3⟩,b7⟩<;>grind
theorem aBs(s:aS)(y:z1'):-1<=mz s y:=by
 rw[ahb];split
 ·have:=yE (jJ s) (ir s y).1;omega
 simp
theorem ahr(v:z1'->Int)(ab:∀ y,-1<=v y):∀ (l:List (z1')) (b:Int),-1<=b->
  (l.foldl (λb y=>hZ b (v y)) b=-1/\b=-1/\∀ y∈l,v y<0)\/(0<=l.foldl (λb y=>hZ b (v y)) b/\(l.foldl (λb y=>hZ b (v y)) b=b\/∃ y∈l,v y=l.foldl (λb y=>hZ b (v y)) b)/\(b<0\/l.foldl (λb y=>hZ b (v y)) b<=b)/\∀ y∈l,0<=v y->l.foldl (λb y=>hZ b (v y)) b<=v y)
 | [],b,V=>by
  grind
 | y::l,b,V=>by
  have az:-1<=hZ b (v y)/\(hZ b (v y)=b\/hZ b (v y)=v y)/\(0<=v y->0<=hZ b (v y)/\hZ b (v y)<=v y)/\(v y<0->hZ b (v y)=b)/\(0<=b->hZ b (v y)<=b/\0<=hZ b (v y)):=by
   grind [hZ]
  obtain⟨s1,s2,eR,mU,o0⟩:=az;rcases ahr v ab l (hZ b (v y)) s1 with⟨E,M,ai⟩ | ⟨E,M,ai,bf⟩
  ·simp_all
  grind
theorem ahs{s:aS}{l:List (z1')}(af:∀ y,y∈l<->y∈fm s/\y.contains (-1)=false):DL s (l.foldl (λb y=>hZ b (mz s y)) (-1)):=by
 rcases ahr (mz s) (aBs s) l (-1) (by omega) with⟨E,_,ai⟩ | ⟨E,M,_,bf⟩
 ·exact .inl ⟨E,λy bh hc=>ai y ((af y).2 ⟨bh,hc⟩)⟩
 ·refine .inr ⟨E,?_,λy bh hc aZ=>bf y ((af y).2 ⟨bh,hc⟩) aZ⟩;grind
theorem aBt(s:aS):DL s (AL s):=by
 have e:∀ (l:List (z1')) (b:Int),l.foldl (G9 s) b=(l.filter λy=>!y.contains (-1)).foldl (λb y=>hZ b (mz s y)) b:=by
  intro l;induction l with
  | nil=>simp
  | cons y l aP=>
   grind [G9]
 grind [AL,ahs]
theorem aBu{s:aS}(ab:fg s)(ah:fJ s true=0):DL s (AI s):=by
 have e:∀ (l:List (z1')) (b:Int),-1<=b->(∀ y∈l,y∈fm s)->l.foldl (u9 s) b=l.foldl (λb y=>hZ b (mz s y)) b:=by
  intro l;induction l with
  | nil=>simp
  | cons y l aP=>
   intro b V af;have bh:=(LU (af y (by simp))).2.1;have aJZ:=ahb (s:=s) y;have aL:=yE (jJ s) (ir s y).1;grind [u9,hZ,aBj,ahj,ME]
 grind [AI,aBl,ahs]
theorem aBv{s:aS}(az:eN s):sz s=Du s:=by
 unfold sz Du;by_cases ah:fJ s true=0
 ·have ab:=qB az (oU ah).1;have h:=aBt s;simp  [(aBu ab ah).UA h];have:-1<=AL s:=by rcases h with h | h<;>omega
  grind
 grind
theorem aBw{s:aS}(az:eN s)(w:Int):qE s w=Dr s w:=by
 grind [qE,Dr,qB,oU,LG,afX,List.filter_congr,Uw,Tw]
theorem aBx{s:aS}(az:eN s)(bm:z1'):sA s bm=Ds s bm:=by
 grind [sA,Ds,oT,qB,oU,Uw,Tx]
end Go.Fer
namespace Go.Fer.H
theorem aBy{a b:List bC}(br:kL a=false)(V:kL b=false):kL (a++b)=b.any λs=>a.any λt=>nE s t:=by
 rw[xQ]at br V;cases U:(b.any λs=>a.any λt=>nE s t) with
 | true=>
  rw[acG];intro aC;obtain⟨s,az,h⟩:=List.any_eq_true.1 U;obtain⟨t,aT,h⟩:=List.any_eq_true.1 h;unfold nE at h;simp  at h;exact h.2 (aC s (by grind) t (by grind) h.1)
 | false=>
  rw[xQ];have al:∀ s∈b,∀ t∈a,s.1=t.1->s=t:=by
   grind [nE]
  intro x Et y r0 he;rcases List.mem_append.1 Et with E | E<;>rcases List.mem_append.1 r0 with M | M
  ·exact br x E y M he
  ·grind
  ·grind
  ·exact V x E y M he
theorem aBz(x):aR (af5 si.sh gR.sh CD.sh i'.sh Gh.sh x) (sD.sh x):=bg λh=>by
 obtain⟨c,more,eT⟩:=x;obtain⟨E,M,ai⟩:=h;have s4:jw (k_ c more eT):=⟨E.1,M,ai,E.2.2.2⟩
 unfold af5 cN cR b3 aL b1 bN aG aQ aB bj b_ e9 a7 ay dN cM a6 bT eS;show _=mpure (nf c more eT);unfold nf;rw[show gR.sh (c,more,eT).1=mpure (cA c) from bJ E _,aH];by_cases ax:cA c=0
 ·have g1:=Dx ax;rw[if_neg (by grind),if_neg (by omega)];rw[show si.sh (c,more,eT).1=mpure c from bJ (by have:=g1.dI;have:=g1.dW;have:=g1.jM;have:=g1.n4;grind) _,aH];rw[show gR.sh (c.1,(c,more,eT).2.1,(c,more,eT).2.2,c.2.2.2)=mpure (cA (k_ c more eT)) from bJ s4 _,aH];by_cases aU:cA (k_ c more eT)=0
  ·have eB:=Dx aU;have dW:more.length<=12:=eB.dW;have lh:=g1.dW;have p4:=g1.jM;rw[if_neg (by grind),if_neg (by omega)];have xh:kL (c.2.1++more)=more.any λs=>c.2.1.any λt=>nE s t:=aBy g1.cl eB.cl;rw[xh];rw[db more (λi (_)=>(more,eT,(i:Int),c,(0),(0),(0),(0),(0),(0),(0),k_ c more eT,())) (λs b=>if (c.2.1.any λt=>nE s t)=true then .done (.done (Dw,91)) else .next b) (λ_=>.next (more,eT,c,0,0,0,0,0,0,0,k_ c more eT,())) () ?_ ?_ ?_]
   ·rw[n2,aH];cases hc:(more.any λs=>c.2.1.any λt=>nE s t) with
    | true=>
     rfl
    | false=>
     simp only[ajh,ajq,cp,aKw];rw[bb (ez (by grind)),bb (ez (by grind))];rw[show CD.sh (c.2.1++more)=mpure (fN (c.2.1++more)) from bJ (by grind) _,aH];rw[d' (dA 0 99) (λi b=>(eT,(i:Int),c,(0),(0),(0),(0),(0),(0),(0),c.1,fN (c.2.1++more),c.2.2.2.1,c.2.2.2.2.1,c.2.2.2.2.2.1,c.2.2.2.2.2.2.1,c.2.2.2.2.2.2.2.1,c.2.2.2.2.2.2.2.2.1,c.2.2.2.2.2.2.2.2.2.1,c.2.2.2.2.2.2.2.2.2.2,b,())) (λid b=>.next (if (c.2.2.1.contains id||eT.contains id)=true then b++[id] else b)) (λb=>.next (0,0,0,0,0,0,0,c.1,fN (c.2.1++more),c.2.2.2.1,c.2.2.2.2.1,c.2.2.2.2.2.1,c.2.2.2.2.2.2.1,c.2.2.2.2.2.2.2.1,c.2.2.2.2.2.2.2.2.1,c.2.2.2.2.2.2.2.2.2.1,c.2.2.2.2.2.2.2.2.2.2,b,())) (λi b=>b.length<=i) [] ?_ ?_ ?_ ?_]
     ·rw[cU,Ck,aH,cp];grind [tI,k_]
     ·rfl
     ·simp
     ·intro i D b V;have D:i<100:=by grind [dA]
      have hw:=bc (n:=i+1) (by omega) (by omega);have an:decide ((i:Int)<=99)=true:=by grind
      refine⟨?_,λbl da=>?_⟩
      ·simp only[an,pB,aK7];rw[show i'.sh (c.2.2.1,i)=mpure (c.2.2.1.contains i) from bJ (by grind) _];rw[show i'.sh (eT,i)=mpure (eT.contains i) from bJ (by omega) _];cases c.2.2.1.contains i<;>cases eT.contains i<;>simp[hw]<;>rw[bb (ez (show b.length+1<65536 by omega))]
      grind
     ·simp_all[dA]
   ·rfl
   ·intro i D b;have hw:=bc (n:=i+1) (by omega) (by omega);simp only[ch,cT D];rw[db c.2.1 (λk (_)=>(more,eT,(i:Int),(k:Int),c,(0),(0),(0),(0),(0),(0),(0),k_ c more eT,())) (λt b=>if nE more[i] t=true then .done (.done (.done (.done (Dw,91)))) else .next b) (λ_=>.next (more,eT,i,c,0,0,0,0,0,0,0,k_ c more eT,())) () ?_ ?_ ?_]
    ·rw[n2];cases c.2.1.any λt=>nE more[i] t<;>simp[hw]
    ·rfl
    ·intro k ah b;have hw:=bc (n:=k+1) (by omega) (by omega);simp only[cT ah,if_true,cE D,cE ah,bS,c_ D,c_ ah,aF.sh,rE,h1,eV,aH,cy,hw];split<;>rfl
    simp
   simp
  grind
 grind
end Go.Fer.H
namespace Go.Fer
variable (adM:bk×List a1->G Bool) (GH:bk->G Int) (Sp:bk->G bk) (Sq:bk×List a1->G (List a1×bk×Int)) (Sr:bk×bk->G Bool) (Ss:Unit->G Bool) (KU:List a1×List a1->G Bool) (Sl:bk->G Int) (aBA:bk×List a1->G (List a1×bk×Int)) (TI:H.aW×z7'×z1'->G (H.aW×Int)) (aBB:bk×a1->G (bk×a1)) (St:a1->G (a1×z1'×Bool)) (UB:bk×z7'×z1'->G (bk×a1)) (aBC:bk×z1'->G (bk×a1)) (aBD:bk×a1×z1'->G (bk×a1)) (aBE:bk×a1×z1'->G a1) (Co:z2'×List (List (Int×z1'×Int×Int))×Int×z2'->G Int) (aBF:aS×Unit->G (C4)) (zR:z2'×List (List (Int×z1'×Int×Int))×Int×z2'->G Int) (aBG:bL×Unit->G (z2'×List (List (Int×z1'×Int×Int))×Int×z2'×Unit)) (aex:aS×Unit->G (Kg)) (aBH:bk×aS->G (bk×a1)) (zT:aS->G Int) (KX:z1'->G a1) (Sh:H.aW×Int->G ((Int×Int)×Int)) (MF:(Int×Int)×Int->G a1) (Si Sj Sg:H.aW×Int->G ((Int×Int)×Int)) (adI:H.aW×Int×Int->G (z1'×Int)) (DM:z1'×Int->G a1) (Sk:H.aW×Int->G (z1'×z1'×Int)) (Kf:bL×Int×Int×Int->G (Int×Int)) (aey:aS×Int->G (z1'×Int)) (aeA:aS×z1'->G (Int×Int)) (UC:Int×Int->G a1) (QJ aez:aS->G (Int×Int))
def UD(x:bk×List a1):G Bool:=
 ao (adM x) λy=>if y then ao (Ss ()) λy=>mpure y else ao (Sp x.1) λy=>letI d:=Sl y;dN x.2 (bT d (bT (GH x.1) (aG (fY d≠fY (GH x.1)) hy (ao (Sq (y,[]++x.2)) (λb8=>ao (aBA x) λdZ=>ao (KU (b8.1,dZ.1)) λhP=>letI c:=hP&&bU b8.2.2 dZ.2.2;b3 c (Sr (b8.2.1,dZ.2.1)) false λmZ=>letI e:=c&&mZ;b3 e (Sr (y,x.1)) false λy=>b3 (e&&y) (KU ([]++x.2,x.2)) false λxJ=>b3 (e&&y&&xJ) (Ss ()) false λF7=>mpure (e&&y&&xJ&&F7))))))
def aht(x:bk×List a1):G (List a1×bk×Int):=
 ao (GH x.1) λy=>aG (y≠0) (mpure ([],((([],[],0,[]),[],[],[],[],0),[],[],[],[],0,0,0,0,0,0,0),y)) (aG (aB x.2 > 40) (mpure ([],((([],[],0,[]),[],[],[],[],0),[],[],[],[],0,0,0,0,0,0,0),2)) (ao (Sp x.1) (λy=>ao (TI (x.1.2,[],[])) λb8=>bj (λ(A:List a1×Int×List a1×Int×Int×Int×Int×Int×Int×Int×Int×Int×bk×Unit)=>letI l:=A.2.2;letI i:=l.2.2;letI g:=i.2.2.2;letI k:=g.2.2.2;letI j:=aBB (k.2.2.1,aL A.1 A.2.1 []);letI h:=G.val j (((([],[],0,[]),[],[],[],[],0),[],[],[],[],0,0,0,0,0,0,0),[]);dn A.2.1 A.1 (bT j (cM l.1 (ay (A.1,aQ A.2.1,l.1++[h.2],l.2.1,i.1,i.2.1,i.2.2.1,g.1,g.2.1,g.2.2.1,k.1,k.2.1,h.1,())))) (a7 (l.1,l.2.1,i.1,i.2.1,i.2.2.1,g.1,g.2.1,g.2.2.1,k.1,k.2.1,k.2.2.1,()))) (x.2,0,[],0,0,0,0,0,0,0,0,0,(y.1,b8.1),()) λA=>mpure (A.1,A.2.2.2.2.2.2.2.2.2.2.1,0))))
def ahu(x:bk×a1):G (bk×a1):=
 ao (St x.2) λy=>letI o:=y.2.1;letI r:=o.getD;letI q:=aB o;letI n:=UB (x.1,[(eC o 0,r (Int.toNat 1) 0,r (Int.toNat 2) 0,2,r (Int.toNat 3) 0,0)],[]);letI m:=UB (x.1,[(eC o 0,r (Int.toNat 1) 0,r (Int.toNat 2) 0,1,r (Int.toNat 3) 0,r (Int.toNat 4) 0)],[]);bN (!y.2.2) (mpure (x.1,[63])) (aG (y.1=[108,101,110,100]) (dJ o (ad ((0:Int)<=1/\1<q) (ad ((0:Int)<=2/\2<q) (ad ((0:Int)<=3/\3<q) (ad ((0:Int)<=4/\4<q) (bT m (mpure (G.val m (((([],[],0,[]),[],[],[],[],0),[],[],[],[],0,0,0,0,0,0,0),[]))))))))) (aG (y.1=[98,97,99,107]) (dJ o (ad ((0:Int)<=1/\1<q) (ad ((0:Int)<=2/\2<q) (ad ((0:Int)<=3/\3<q) (bT n (mpure (G.val n (((([],[],0,[]),[],[],[],[],0),[],[],[],[],0,0,0,0,0,0,0),[])))))))) (aG (y.1=[118,111,105,100]) (ao (UB (x.1,[],o)) (λy=>mpure y)) (aG (y.1=[116,114,105,97,108]) (ao (aBC (x.1,o)) (λy=>mpure y)) (b1 (aG (y.1=[115,116,111,99,107]) (ay (y.1,o,bU y.1 [115,116,111,99,107],x.1,0,0,0,0,0,0,0,0,0,())) (aG (y.1=[99,111,109,101,115]) (ay (y.1,o,bU y.1 [99,111,109,101,115],x.1,0,0,0,0,0,0,0,0,0,())) (aG (y.1=[112,105,101,99,101]) (ay (y.1,o,bU y.1 [112,105,101,99,101],x.1,0,0,0,0,0,0,0,0,0,())) (aG (y.1=[119,105,115,104]) (ay (y.1,o,bU y.1 [119,105,115,104],x.1,0,0,0,0,0,0,0,0,0,())) (ay (y.1,o,bU y.1 [100,114,111,112],x.1,0,0,0,0,0,0,0,0,0,())))))) (λ(A:a1×z1'×Bool×bk×Int×Int×Int×Int×Int×Int×Int×Int×Int×Unit)=>letI p:=(A.2.2.2.1,A.1,A.2.1);letI s:=aBE p;bN A.2.2.1 (ao (aBD p) (λy=>mpure y)) (bT s (mpure (A.2.2.2.1,G.val s [])))))))))
def ahv(x:bk×z7'×z1'):G (bk×a1):=
 ao (TI (x.1.2,x.2)) λy=>aG (y.2≠0) (mpure (x.1,[110,111])) (mpure ((x.1.1,y.1),[111,107]))
def ahw(x:bk×z1'):G (bk×a1):=
 ao (aBF (x.1.1,())) λy=>letI e:=y.2.2.2.2;letI d:=(y.1,y.2.1,y.2.2.1,e.1++[(eC x.2 0,x.2.getD (Int.toNat 1) 0,x.2.getD (Int.toNat 2) 0,x.2.getD (Int.toNat 3) 0)]);dJ x.2 (ad ((0:Int)<=1/\1<aB x.2) (ad ((0:Int)<=2/\2<aB x.2) (ad ((0:Int)<=3/\3<aB x.2) (cM e.1 (ao (zR d) (λb8=>aG (b8≠0) (mpure (x.1,[110,111])) (ao (Co d) (λdZ=>aG (dZ≠0) (mpure (x.1,[108,105,97,114])) (mpure (((d,e.2.1,e.2.2.1,e.2.2.2.1,e.2.2.2.2.1,y.2.2.2.1),x.1.2),[111,107]))))))))))
def ahx(x:aS×Unit):G (C4):=
 letI bx:=x.1.2.2;ao (aBG (x.1.1,())) λy=>dN x.1.2.1 (dN bx.1 (dN bx.2.1 (dN bx.2.2.1 (bj (λ(A:Int×aS×Int×Int×z2'×List (List (Int×z1'×Int×Int))×Int×Int×z1'×List lZ×List jQ×z4'×z2'×Unit)=>letI z:=(aL A.2.1.2.2.1 A.1 (0,0,0,0,[])).2.2.2.2;letI t:=A.2.2.2.2;letI p:=t.2.2.2.2;letI s:=aL p.2.1 A.1 (0,0,0,0,[]);cR A.1 p.2.1 (a6 A.1 A.2.1.2.2.1 (dN z (a6 A.1 p.2.1 (ay (aQ A.1,A.2.1,A.2.2.1,A.2.2.2.1,t.1,t.2.1,t.2.2.1,t.2.2.2.1,p.1,List.set p.2.1 A.1.toNat (s.1,s.2.1,s.2.2.1,s.2.2.2.1,[]++z),p.2.2.1,p.2.2.2.1,p.2.2.2.2.1,()))))) (a7 (A.2.1,A.2.2.1,A.2.2.2.1,t.1,t.2.1,t.2.2.1,t.2.2.2.1,p.1,p.2.1,p.2.2.1,p.2.2.2.1,p.2.2.2.2.1,()))) (0,x.1,0,0,y.1,y.2.1,y.2.2.1,bx.2.2.2,[]++x.1.2.1,[]++bx.1,[]++bx.2.1,[]++bx.2.2.1,y.2.2.2.1,()) (λA=>letI u:=A.2.2.2.2.2;bj (λA=>letI cd:=(aL A.2.1.2.2.2.1 A.1 ([],(0,0),0,0,0)).1;letI w:=A.2.2.2.2;letI q:=w.2.2.2;letI cm:=q.2.2.2;cR A.1 cm.1 (a6 A.1 A.2.1.2.2.2.1 (dN cd (a6 A.1 cm.1 (ay (aQ A.1,A.2.1,A.2.2.1,A.2.2.2.1,w.1,w.2.1,w.2.2.1,q.1,q.2.1,q.2.2.1,List.set cm.1 A.1.toNat ([]++cd,(aL cm.1 A.1 ([],(0,0),0,0,0)).2),cm.2.1,cm.2.2.1,()))))) (a7 (A.2.2.1,A.2.2.2.1,w.1,w.2.1,w.2.2.1,q.1,q.2.1,q.2.2.1,cm.1,cm.2.1,cm.2.2.1,()))) (0,A.1,A.2.1,A.2.2.1,A.2.2.2.1,A.2.2.2.2.1,u.1,u.2.1,u.2.2.1,u.2.2.2.1,u.2.2.2.2.1,u.2.2.2.2.2.1,u.2.2.2.2.2.2.1,()) λA=>letI v:=A.2.2.2.2.2;mpure (A.2.2.1,A.2.2.2.1,A.2.2.2.2.1,v.1,v.2.2.2.2.2.1,v.2.1,v.2.2.1,v.2.2.2.1,v.2.2.2.2.1,()))))))
def ahy(x:bk×a1×z1'):G (bk×a1):=
 letI i1:=x.2.2;letI t1:=i1.getD (Int.toNat 3) 0;letI m1:=i1.getD (Int.toNat 2) 0;letI g1:=i1.getD (Int.toNat 1) 0;letI ax:=aB i1;letI kD:=(0:Int)<=3/\3<ax;letI ff:=(i1.take ax.toNat).drop;letI dI:=(0:Int)<=2/\2<ax;letI iD:=(0:Int)<=1/\1<ax;letI bx:=eC i1 0;ao (aex (x.1.1,())) λy=>letI b4:=y.2.2.1;letI E:=y.2.2.2;letI v1:=E.2.1;letI cm:=E.2.2;letI cj:=cm.1;letI s1:=cm.2.1;letI dO:=cm.2.2.2.1;letI f1:=cm.2.2.1;letI dh:=aB f1;letI hK:=f1.take bx.toNat;letI aY:=List.drop (aQ bx).toNat (f1.take dh.toNat);b1 (aG (x.2.1=[115,116,111,99,107]) (dJ i1 (aG (bx>=aB cj) (hU (x.1,[110,111])) (dJ i1 (a6 bx cj (ad iD (a6 bx cj (ay (x.1,0,0,0,0,0,0,0,0,0,y.1,y.2.1,b4,E.1,f1,v1,List.set cj bx.toNat (e_ (aL cj bx 0) g1),s1,dO,())))))))) (aG (x.2.1=[99,111,109,101,115]) (dJ i1 (ad iD (ad dI (cM dO (ay (x.1,0,0,0,0,0,0,0,0,0,y.1,y.2.1,b4,E.1,f1,v1,cj,s1,dO++[(bx,g1,m1)],())))))) (aG (x.2.1=[112,105,101,99,101]) (dJ i1 (ad iD (ad dI (ad kD (ad ((0:Int)<=4/\4<=ax/\ax<=ax) (cM s1 (ay (x.1,0,0,0,0,0,0,0,0,0,y.1,y.2.1,b4,E.1,f1,v1,cj,s1++[(bx,g1,m1,t1,ff (Int.toNat 4))],dO,())))))))) (aG (x.2.1=[119,105,115,104]) (dJ i1 (ad iD (ad dI (ad kD (ad ((0:Int)<=4/\4<ax) (ad ((0:Int)<=5/\5<=ax/\ax<=ax) (cM f1 (ay (x.1,0,0,0,0,0,0,0,0,0,y.1,y.2.1,b4,E.1,f1++[(ff (Int.toNat 5),(bx,g1),m1,t1,i1.getD (Int.toNat 4) 0)],v1,cj,s1,dO,()))))))))) (aG (x.2.1=[100,114,111,112]) (dJ i1 (aG (bx>=dh) (hU (x.1,[110,111])) (dJ i1 (ad ((0:Int)<=0/\0<=bx/\bx<=dh) (dN hK (dJ i1 (ad (0<=aQ bx/\aQ bx<=dh/\dh<=dh) (ad (bW (Add.add ([]++hK).length aY.length)) (ay (x.1,0,0,0,0,0,0,0,0,0,y.1,y.2.1,b4,E.1,[]++hK++aY,v1,cj,s1,dO,())))))))))) (ay (x.1,0,0,0,0,0,0,0,0,0,y.1,y.2.1,b4,E.1,f1,v1,cj,s1,dO,()))))))) λ(A:bk×Int×Int×Int×Int×Int×Int×Int×Int×Int×z2'×List (List (Int×z1'×Int×Int))×Int×z2'×List jQ×Int×z1'×List lZ×z4'×Unit)=>letI d1:=A.2.2.2.2.2.2.2.2.2.2;letI fW:=d1.2.2.2.2;ao (aBH (A.1,(d1.1,d1.2.1,d1.2.2.1,d1.2.2.2.1),fW.2.2.1,fW.2.2.2.1,fW.1,fW.2.2.2.2.1,fW.2.1)) λy=>mpure y
def ahz(x:bk×aS):G (bk×a1):=
 ao (zT x.2) λy=>aG (y≠0) (mpure (x.1,[110,111])) (mpure ((x.2,x.1.2),[111,107]))
def ahA(x:bk×a1×z1'):G a1:=
 letI o:=x.2.1;letI l:=x.2.2;letI q:=(0:Int)<=1/\1<aB l;letI p:=l.getD (Int.toNat 1) 0;letI n:=eC l 0;letI s:=aey (x.1.1,n);letI m:=adI (x.1.2,n,p);letI j:=(x.1.2,n);letI k:=G.val (Sk j) ([],[],0);letI i:=Kf (x.1.1.1,n,p,l.getD (Int.toNat 2) 0);b1 (aG (o=[108,97,115,116,115]) (dJ l (bT (Sh j) (ao (MF (G.val (Sh j) ((0,0),0))) (λy=>hU y)))) (aG (o=[102,101,101]) (dJ l (bT (Si j) (ao (MF (G.val (Si j) ((0,0),0))) (λy=>hU y)))) (aG (o=[111,119,101,115]) (dJ l (bT (Sj j) (ao (MF (G.val (Sj j) ((0,0),0))) (λy=>hU y)))) (aG (o=[104,101,108,100]) (dJ l (bT (Sg j) (ao (MF (G.val (Sg j) ((0,0),0))) (λy=>hU y)))) (aG (o=[119,104,101,114,101]) (dJ l (ad q (bT m (ao (DM (G.val m ([],0))) (λy=>hU y))))) (aG (o=[109,105,115,115,105,110,103]) (dJ l (bT (Sk j) (aG (k.2.2≠0) (ao (DM ([],k.2.2)) (λy=>hU y)) (ao (KX k.1) (λy=>ad (bW (Add.add y.length (Add.add (Add.add (Add.add 0 1) 1) 1))) (ao (KX k.2.1) (λb8=>ad (bW (Add.add (y++[32,47,32]).length b8.length)) (hU (y++[32,47,32]++b8))))))))) (aG (o=[102,105,116,115]) (dJ l (ad q (ad ((0:Int)<=2/\2<aB l) (bT i (aG ((G.val i (0,0)).2≠0) (ao (DM ([],(G.val i (0,0)).2)) (λy=>hU y)) (ad (0<=(G.val i (0,0)).1/\(G.val i (0,0)).1<Int.ofNat (Add.add (Add.add (Add.add (Add.add 0 1) 1) 1) 1)) (hU (List.getD [[],[115,117,114,101,108,121],[110,101,118,101,114],[112,101,114,104,97,112,115]] (Int.toNat (G.val i (0,0)).1) [])))))))) (aG (o=[99,97,110]) (dJ l (bT s (ao (DM (G.val s ([],0))) (λy=>hU y)))) (aG (o=[116,97,107,101,115]) (bj (λA=>dn A.2.1 A.1 (cM A.2.2.2.1 (ay (A.1,aQ A.2.1,A.2.2.1,A.2.2.2.1++[cu (aL A.1 A.2.1 0) 1],()))) (a7 (A.2.2.1,A.2.2.2.1,()))) (l,0,x.1,[],()) (λA=>ao (aeA (A.1.1,A.2.1)) λy=>ao (UC y) λy=>hU y)) (aG (o=[109,111,115,116]) (ao (QJ x.1.1) (λy=>ao (UC y) λy=>hU y)) (ay (x.1,())))))))))))) λA=>ao (aez A.1.1) λy=>ao (UC y) λy=>mpure y
def ahB(x:(Int×Int)×Int):G a1:=
 ao (DM ([x.1.1,x.1.2],x.2)) λy=>mpure y
def ahC(x:z1'×Int):G a1:=
 aG (x.2=0) (ao (KX x.1) (λy=>mpure y)) (aG (x.2=3) (mpure [110,111,110,101]) (mpure [110,111]))
def ahD(x:Int×Int):G a1:=
 ao (DM ([x.1],x.2)) λy=>mpure y
end Go.Fer
namespace Go.Fer.aj
open H (ez)
theorem aBI(x):aR (ahC A1.sh x) (A2.sh x):=bg λh=>by
 obtain⟨l,e⟩:=x;unfold ahC aG;show _=mpure (sI l e);unfold sI;rw[show A1.sh (l,e).1=mpure (tL l) from bJ h _,aH];grind
theorem aBJ(x):aR (ahB A2.sh x) (Hp.sh x):=bg λh=>by
 grind [ahB,Mz,aH]
abbrev Hv:aF:=⟨.ar bp bp,.str,λx=>Ho [x.1],λx=>sI [x.1] x.2⟩
theorem aBK(x):aR (ahD A2.sh x) (Hv.sh x):=bg λh=>by
 grind [ahD,Mz,aH]
theorem MG{s:Int×Int}(h:yC s)(e:Int):Hp.sh (s,e)=mpure (nK e [s.1,s.2]):=by
 have k:∀ n∈[s.1,s.2],0<=n/\n<2 ^ 63:=λn aC=>by
  grind
 have ax:Hp.sh (s,e)=mpure (sI [s.1,s.2] e):=bJ ⟨by simp,λn aC=>by grind⟩ _;grind [MA]
theorem UE{l:z1'}(af:l.length<=2000)(h:∀ n∈l,0<=n/\n<2 ^ 63)(e:Int):A2.sh (l,e)=mpure (nK e l):=by
 grind [Mz,MA]
theorem UF{n:Int}(h:0<=n/\n<2 ^ 63)(e:Int):Hv.sh (n,e)=mpure (nK e [n]):=by
 have ax:Hv.sh (n,e)=mpure (sI [n] e):=bJ ⟨by simp,λk ah=>by grind⟩ _;simp_all[MA]
theorem ahE{l:z1'}(af:l.length<=2000)(h:∀ n∈l,0<=n/\n<2 ^ 63):A1.sh l=mpure (pL l):=by
 have ax:A1.sh l=mpure (tL l):=bJ ⟨af,λn aC=>by grind⟩ _;grind [Uk]
abbrev nh(p:a1×bk):bk×a1:=(p.2,p.1)
abbrev DN:aF:=⟨.ar mB (.ar (.slice H.hA) dV),.ar mB .str,λx=>dx x.1/\x.2.1.length<2 ^ 63/\x.2.2.length<2 ^ 63,λx=>nh (sE x.1 x.2.1 x.2.2)⟩
theorem aBL(x):aR (ahv H.sD.sh x) (DN.sh x):=bg λh=>by
 obtain⟨d,m,v⟩:=x;obtain⟨an,E,M⟩:=h;unfold ahv aG;rw[show H.sD.sh (d.2,m,v)=mpure (H.nf d.2 m v) from bJ ⟨an.jw,E,M⟩ _,aH];grind [sE]
abbrev MH:aF:=⟨.ar mB hE,.ar mB .str,λx=>eN x.2,λx=>nh (nL x.1 x.2)⟩
theorem aBM(x):aR (ahz oS.sh x) (MH.sh x):=bg λh=>by
 obtain⟨d,s⟩:=x;unfold ahz aG;rw[show oS.sh (d,s).2=mpure (ke s) from bJ h _,aH];grind [nL]
theorem aBN(x):aR (ahx K' x) (tK x):=bg λh=>by
 obtain⟨x,u⟩:=x;obtain⟨E,M,ai,bf,b2,d_,hn⟩:=h;change x.2.2.1.length<=2000000 at ai;change x.2.2.2.1.length<=2000000 at bf;unfold ahx cR aL aQ bj a7 ay dN a6;have dO:bW (0+x.2.1.length):=by grind [bW]
 have jd:bW (0+x.2.2.1.length):=by grind [bW]
 have G_:bW (0+x.2.2.2.1.length):=by grind [bW]
 have TH:bW (0+x.2.2.2.2.1.length):=by grind [bW]
 rw[show K' (x.1,())=mpure (x.1.1,x.1.2.1,x.1.2.2.1,x.1.2.2.2,()) from bJ E _,aH];simp only[mY,bb dO,bb jd,bb G_,bb TH];rw[db x.2.2.1 (λi (_)=>((i:Int),x,0,0,x.1.1,x.1.2.1,x.1.2.2.1,x.2.2.2.2.2,x.2.1,x.2.2.1,x.2.2.2.1,x.2.2.2.2.1,x.1.2.2.2,())) (λp b=>.next b) (λ_=>.next (x,0,0,x.1.1,x.1.2.1,x.1.2.2.1,x.2.2.2.2.2,x.2.1,x.2.2.1,x.2.2.2.1,x.2.2.2.2.1,x.1.2.2.2,())) () ?_ ?_ ?_]
 ·rw[cU,aH,cp];rw[db x.2.2.2.1 (λi (_)=>((i:Int),x,0,0,x.1.1,x.1.2.1,x.1.2.2.1,x.2.2.2.2.2,x.2.1,x.2.2.1,x.2.2.2.1,x.2.2.2.2.1,x.1.2.2.2,())) (λp b=>.next b) (λ_=>.next (0,0,x.1.1,x.1.2.1,x.1.2.2.1,x.2.2.2.2.2,x.2.1,x.2.2.1,x.2.2.2.1,x.2.2.2.2.1,x.1.2.2.2,())) () ?_ ?_ ?_]
  ·rw[cU,aH]<;>rfl
  ·rfl
  ·intro i D b;have iG:=bc (n:=i+1) (by omega) (by omega);have kV:bW (0+x.2.2.2.1[i].1.length):=by grind [bW]
   have p5:x.2.2.2.1.set i (x.2.2.2.1[i].1,x.2.2.2.1[i].2)=x.2.2.2.1:=aKK D;simp_all
  simp
 ·rfl
 ·intro i D b;have iG:=bc (n:=i+1) (by omega) (by omega);have kV:bW (0+x.2.2.1[i].2.2.2.2.length):=by grind [bW]
  have p5:x.2.2.1.set i (x.2.2.1[i].1,x.2.2.1[i].2.1,x.2.2.1[i].2.2.1,x.2.2.1[i].2.2.2.1,x.2.2.1[i].2.2.2.2)=x.2.2.1:=aKK D;simp_all
 simp
theorem aBO{w:bL}{t:Int×Int×Int×Int}(e:cA (kv w t)=0):(ye (kv w t) t.1).2=dF (kv w t) true:=by
 have hw:=GK e;grind [lz,kv,tu,ye]
abbrev MI:aF:=⟨.ar mB dV,.ar mB .str,λx=>dx x.1/\fO 4 x.2,λx=>nh (tJ x.1 x.2)⟩
theorem aBP(x):aR (ahw qt.sh tK gR.sh x) (MI.sh x):=bg λh=>by
 obtain⟨d,l⟩:=x;obtain⟨an,af⟩:=h;have hc:=an.copy;have az:gi (kv d.1.1 (aX l 0,aX l 1,aX l 2,aX l 3)):=⟨an.fB.1.1,an.fB.1.2.1,by have:=hc.1.2.2.1;grind [kv],an.fB.1.2.2.2⟩
 unfold ahw eC aG aB cM dJ;rw[DB an,aH];simp (disch:=decide) only [iu af,rv];rw[bb (by have:=hc.1.2.2.1;grind [bW,ks])];show ao (gR.sh (kv d.1.1 (aX l 0,aX l 1,aX l 2,aX l 3))) _=mpure (nh (tJ d l));rw[show gR.sh (kv d.1.1 (aX l 0,aX l 1,aX l 2,aX l 3))=mpure (cA (kv d.1.1 (aX l 0,aX l 1,aX l 2,aX l 3))) from bJ az _];have ah:qt.sh (kv d.1.1 (aX l 0,aX l 1,aX l 2,aX l 3))=mpure (dF (kv d.1.1 (aX l 0,aX l 1,aX l 2,aX l 3)) true):=bJ az _;grind [ks,kv,tJ,aBO,aH]
def DO(w:a1):Nat:=((oY w iJ 0).map λr=>r.2.2).getD 0
def Hw(j:Nat)(w:a1)(l:z1'):Prop:=w=(iJ.getD j ([],0,false)).1/\fO (yA j) l
abbrev Hx:aF:=⟨.ar mB (.ar .str dV),.ar mB .str,λx=>dx x.1/\∃ j∈[11,12,13,14,15],Hw j x.2.1 x.2.2,λx=>nh (oX (DO x.2.1) x.1 x.2.2)⟩
theorem aBQ{d:bk}(an:dx d):LZ (d.1,())=mpure (sC d.1):=bJ an.copy _
theorem Hy{d:bk}{s:aS}(az:eN s):MH.sh (d,s)=mpure (nh (nL d s)):=bJ az _
theorem aBR(x):aR (ahy LZ MH.sh x) (Hx.sh x):=bg λh=>by
 obtain⟨d,w,l⟩:=x;obtain⟨an,j,aI,hw,af⟩:dx d/\∃ j∈[11,12,13,14,15],Hw j w l:=h;have hc:=an.copy;have hm:=af.AR;have aZ:=af.aX 0;have E:=af.aX 1;obtain⟨s1,s2,eR,mU,o0,pN,pO⟩:=an.fB;unfold ahy e_ aL b1 eC aG aQ aB hU ay dN cM a6 dJ;rw[aBQ an,aH];simp  at aI;rcases aI with rfl | rfl | rfl | rfl | rfl
 ·have e:w=[115,116,111,99,107]:=hw;subst e;rw[if_pos (by simp)];simp (disch:=decide) only [iu af,mC,AV,rv];show _=mpure (nh (AP d l));unfold AP;by_cases e:aX l 0>=(d.1.2.1.length)
  ·simp_all[sC]
  ·rw[if_neg (by grind [sC]),if_neg e];have aC:(aX l 0).toNat<d.1.2.1.length:=by omega
   rw[bb ⟨aZ.1,by show aX l 0<(d.1.2.1.length);omega⟩,bb ⟨aZ.1,by show aX l 0<(d.1.2.1.length);omega⟩];have V:=an.val.b9 _ (ajj aC);have aA:d.1.2.1.getD (aX l 0).toNat 0=d.1.2.1[(aX l 0).toNat]:=by grind
   have hw:=bc (n:=d.1.2.1.getD (aX l 0).toNat 0+aX l 1) (by omega) (by omega);have ft:IntKind.wrap .i64 (Add.add ((sC d.1).2.2.2.2.2.1.getD (aX l 0).toNat 0) (aX l 1))=d.1.2.1.getD (aX l 0).toNat 0+aX l 1:=hw;rw[ft,aH];have q:=Hy (d:=d) (s:=(d.1.1,d.1.2.1.set (aX l 0).toNat (d.1.2.1.getD (aX l 0).toNat 0+aX l 1),d.1.2.2)) ⟨s1,by grind,eR,mU,o0,pN,pO⟩;exact (congrArg (λm=>ao m λy=>mpure y) q).trans (aH ..)
 ·have e:w=[99,111,109,101,115]:=hw;subst e;have b2:=hc.2.2.2.2.1;rw[if_neg (by simp),if_pos (by simp)];simp (disch:=decide) only [iu af,rv];rw[bb (by grind [bW,sC]),aH];have q:=Hy (d:=d) (s:=(d.1.1,d.1.2.1,d.1.2.2.1,d.1.2.2.2.1,d.1.2.2.2.2.1++[(aX l 0,aX l 1,aX l 2)],d.1.2.2.2.2.2)) ⟨s1,s2,eR,mU,by grind,pN,pO⟩;exact (congrArg (λm=>ao m λy=>mpure y) q).trans (aH ..)
 ·have e:w=[112,105,101,99,101]:=hw;subst e;have af:fO 4 l:=af;have b2:=hc.2.2.1;have hle:=af.He;rw[if_neg (by simp),if_neg (by simp),if_pos (by simp)];simp (disch:=decide) only [iu af,rv];rw[bb ⟨by decide,by grind,aKs _⟩,bb (by grind [bW,sC]),aH];simp only[ch,ajr,aKE];have q:=Hy (d:=d) (s:=(d.1.1,d.1.2.1,d.1.2.2.1++[(aX l 0,aX l 1,aX l 2,aX l 3,l.drop 4)],d.1.2.2.2)) ⟨s1,s2,by grind,mU,o0,λp aq=>by grind,pO⟩;exact (congrArg (λm=>ao m λy=>mpure y) q).trans (aH ..)
 ·have e:w=[119,105,115,104]:=hw;subst e;have af:fO 5 l:=af;have b2:=hc.2.2.2.1;have hle:=af.He;rw[if_neg (by simp),if_neg (by simp),if_neg (by simp),if_pos (by simp)];simp (disch:=decide) only [iu af,rv];rw[bb ⟨by decide,by grind,aKs _⟩,bb (by grind [bW,sC]),aH];simp only[ch,ajr,aKE];have q:=Hy (d:=d) (s:=(d.1.1,d.1.2.1,d.1.2.2.1,d.1.2.2.2.1++[(l.drop 5,(aX l 0,aX l 1),aX l 2,aX l 3,aX l 4)],d.1.2.2.2.2)) ⟨s1,s2,eR,by grind,o0,pN,λp aq=>by grind⟩;exact (congrArg (λm=>ao m λy=>mpure y) q).trans (aH ..)
 ·have e:w=[100,114,111,112]:=hw;subst e;have b2:=hc.2.2.2.1;rw[if_neg (by simp),if_neg (by simp),if_neg (by simp),if_neg (by simp),if_pos (by simp)];simp (disch:=decide) only [iu af,mC,rv];show _=mpure (nh (wV d l));unfold wV;by_cases e:aX l 0>=(d.1.2.2.2.1.length)
  ·simp_all[sC]
  ·rw[if_neg (by grind [sC])];have hw:=bc (n:=aX l 0+1) (by omega) (by omega);have he:List.take (aX l 0).toNat d.1.2.2.2.1++List.drop (aX l 0+1).toNat d.1.2.2.2.1=d.1.2.2.2.1.eraseIdx (aX l 0).toNat:=by
    grind
   have cJ:=(agn an   hm 15).AQ;change ke (wV d l).2.1=0 at cJ;unfold wV at cJ;simp only[cy,hw,ch,ajr,aKE];rw[bb ⟨by decide,aZ.1,by show aX l 0<=(d.1.2.2.2.1.length);omega⟩,bb (by grind [bW]),bb ⟨by omega,by show aX l 0+1<=(d.1.2.2.2.1.length);omega,aKs _⟩,bb (by grind [bW,sC]),aH];have q:=Hy (d:=d) (s:=(d.1.1,d.1.2.1,d.1.2.2.1,d.1.2.2.2.1.eraseIdx (aX l 0).toNat,d.1.2.2.2.2)) ⟨s1,s2,eR,by grind,o0,pN,λp aq=>pO p (List.mem_of_mem_eraseIdx aq)⟩;have aT:nh (nL d (d.1.1,d.1.2.1,d.1.2.2.1,d.1.2.2.2.1.eraseIdx (aX l 0).toNat,d.1.2.2.2.2))=(((d.1.1,d.1.2.1,d.1.2.2.1,d.1.2.2.2.1.eraseIdx (aX l 0).toNat,d.1.2.2.2.2),d.2),Hb):=by
    grind [nL]
   rw[<-he]at q;exact (congrArg (λm=>ao m λy=>mpure y) q).trans ((aH ..).trans (by grind))
theorem aBS{d:bk}(an:dx d){bm:z1'}(af:bm.length=d.1.2.2.2.1.length):0<=iI d.1 bm/\iI d.1 bm<2 ^ 63:=by
 have ab:=an.val;have d_:=ab.nc;have key:∀ (l:z1') (n:Int),0<=n->(∀ k∈l,0<=k/\k<=100000)->0<=l.foldl (·+·) n/\l.foldl (·+·) n<=n+100000*l.length:=by
  intro l;induction l with
  | nil=>simp
  | cons k l aP=>
   intro n h ah;have aY:=ah k (by simp);have:=aP (n+k) (by omega) λj aI=>ah j (by grind);grind
 unfold iI;have:=key ((List.range bm.length).map λi=>if bm.getD i 0=-1 then 0 else (h9 d.1 i).2.2.2.2) 0 (aKs _) λk ah=>by
  obtain⟨i,D,rfl⟩:=List.mem_map.1 ah;rw[aKR,af]at D;have:=(Dh ab (ym D)).2;omega
 grind
theorem aBT{d:bk}(an:dx d)(bm:z1'):0<=(sA d.1 bm).1/\(sA d.1 bm).1<2 ^ 63:=by
 unfold sA;split
 ·omega
 split
 ·omega
 ·refine aBS an ?_;grind [fJ,oT]
abbrev Hz:List Nat:=[3,4,5,6,7,8,10,16,17,18,19]
abbrev A6:aF:=⟨.ar mB (.ar .str dV),.str,λx=>dx x.1/\∃ j∈Hz,Hw j x.2.1 x.2.2,λx=>(oX (DO x.2.1) x.1 x.2.2).1⟩
theorem aBU(x):aR (ahA A1.sh H.xW.sh Hp.sh H.xX.sh H.xZ.sh H.x1.sh H.x2.sh A2.sh H.x4.sh tx.sh LP.sh LS.sh Hv.sh LW.sh LX.sh x) (A6.sh x):=bg λh=>by
 obtain⟨d,w,l⟩:=x;obtain⟨an,j,aI,hw,af⟩:dx d/\∃ j∈Hz,Hw j w l:=h;unfold ahA dn aL b1 eC aG aQ aB bj a7 hU ay cM dJ bT cu;simp  at aI;have az:=an.fB;rcases aI with rfl | rfl | rfl | rfl | rfl | rfl | rfl | rfl | rfl | rfl | rfl
 ·obtain rfl:w=[108,97,115,116,115]:=hw;have z:H.xW.sh (d.2,aX l 0)=mpure (H.Ad d.2 (aX l 0)):=bJ an.gx _;rw[if_pos (by simp)];simp (disch:=decide) only [iu af,bS,mC,z,h1,eV,MG (aAQ an _) _,aH];rfl
 ·obtain rfl:w=[102,101,101]:=hw;have z:H.xX.sh (d.2,aX l 0)=mpure (H.Ae d.2 (aX l 0)):=bJ an.gx _;rw[if_neg (by simp),if_pos (by simp)];simp (disch:=decide) only [iu af,bS,mC,z,h1,eV,MG (aAR an _) _,aH];rfl
 ·obtain rfl:w=[111,119,101,115]:=hw;have z:H.xZ.sh (d.2,aX l 0)=mpure (H.xY d.2 (aX l 0)):=bJ an.gx _;rw[if_neg (by simp),if_neg (by simp),if_pos (by simp)];simp (disch:=decide) only [iu af,bS,mC,z,h1,eV,MG (aAT an _) _,aH];rfl
 ·obtain rfl:w=[104,101,108,100]:=hw;have z:H.x1.sh (d.2,aX l 0)=mpure (H.x0 d.2 (aX l 0)):=bJ an.gx _;rw[if_neg (by simp),if_neg (by simp),if_neg (by simp),if_pos (by simp)];simp (disch:=decide) only [iu af,bS,mC,z,h1,eV,MG (aAU an _) _,aH];rfl
 ·obtain rfl:w=[119,104,101,114,101]:=hw;have z:H.x2.sh (d.2,aX l 0,aX l 1)=mpure (H.n5 d.2 (aX l 0) (aX l 1)):=bJ an.gx _;have Be:=aA0 d.2 (aX l 0) (aX l 1);have u:=aA2 Be (aA1 _ _ _) agf;have k:=Mz (l:=(H.n5 d.2 (aX l 0) (aX l 1)).1) ⟨by grind [age],λn aC=>by grind⟩ (H.n5 d.2 (aX l 0) (aX l 1)).2;rw[u]at k;rw[if_neg (by simp),if_neg (by simp),if_neg (by simp),if_neg (by simp),if_pos (by simp)];simp (disch:=decide) only [iu af,bS,mC,AV,z,h1,eV];exact (congrArg (λm=>ao (ao m λy=>ao (mpure y) λr=>mpure (bq.done r)) _) k).trans (by simp;rfl)
 ·obtain rfl:w=[109,105,115,115,105,110,103]:=hw;have z:H.x4.sh (d.2,aX l 0)=mpure (H.nF d.2 (aX l 0)):=bJ an.gx _;obtain⟨aJ0,aJ1⟩:=aAZ d.2 (aX l 0);obtain⟨aJ2,aJ3⟩:=agh d.2 (aX l 0);rw[if_neg (by simp),if_neg (by simp),if_neg (by simp),if_neg (by simp),if_neg (by simp),if_pos (by simp)];simp (disch:=decide) only [iu af,bS,mC,z,h1,eV];show _=mpure (Hd (H.nF d.2 (aX l 0)));unfold Hd;generalize H.nF d.2 (aX l 0)=r at *
  by_cases e:r.2.2=0
  ·have aY:=ahE (l:=r.1) (by omega) λn aC=>by grind
   have a_:=ahE (l:=r.2.1) (by omega) λn aC=>by grind
   have dO:=Hg r.1;have jd:=Hg r.2.1;rw[if_neg (by grind),if_neg (by omega),aY,aH,bb (ez (by grind)),a_,aH,bb (ez (by grind)),aH,aH];rfl
  ·rw[if_pos (by grind),if_pos e,UE (by simp) (by simp),aH,aH,aH];rfl
 ·obtain rfl:w=[102,105,116,115]:=hw;have z:tx.sh (d.1.1,aX l 0,aX l 1,aX l 2)=mpure (kc d.1.1 (aX l 0) (aX l 1) (aX l 2)):=bJ az.1 _;have aJ4:0<=(kc d.1.1 (aX l 0) (aX l 1) (aX l 2)).1/\(kc d.1.1 (aX l 0) (aX l 1) (aX l 2)).1<4:=by
   have:=agi d.1.1 (aX l 0) (aX l 1) (aX l 2);grind [kc]
  rw[if_neg (by simp),if_neg (by simp),if_neg (by simp),if_neg (by simp),if_neg (by simp),if_neg (by simp),if_pos (by simp)];simp (disch:=decide) only [iu af,bS,mC,AV,Me,z,h1,eV];show _=mpure (rq (kc d.1.1 (aX l 0) (aX l 1) (aX l 2)));unfold rq;generalize kc d.1.1 (aX l 0) (aX l 1) (aX l 2)=r at *
  by_cases e:r.2=0
  ·simp_all
  ·rw[if_pos (by grind),if_pos e,UE (by simp) (by simp),aH,aH,aH];rfl
 ·obtain rfl:w=[99,97,110]:=hw;have z:LP.sh (d.1,aX l 0)=mpure (Dr d.1 (aX l 0)):=bJ az _;rw[<-aBw az]at z;have k:=UE (agj an.val (aX l 0)) (λn aC=>by have:=aAY d.1 (aX l 0) n aC;have:=an.val.wM;omega) (qE d.1 (aX l 0)).2;rw[if_neg (by simp),if_neg (by simp),if_neg (by simp),if_neg (by simp),if_neg (by simp),if_neg (by simp),if_neg (by simp)];simp (disch:=decide) only [iu af,bS,mC,z,h1,eV];exact (congrArg (λm=>ao (ao m λy=>ao (mpure y) λr=>mpure (bq.done r)) _) k).trans (by simp;rfl)
 ·obtain rfl:=hw;have hm:=af.AR;rw[d' l (λi o=>(l,(i:Int),d,o,())) (λn o=>.next (o++[n - 1])) (λo=>.next (d,o,())) (λi o=>o.length=i) [] ?_ rfl ?_ ?_]
  ·rw[cU,oG,aH,aKw];have z:LS.sh (d.1,l.map (· - 1))=mpure (Ds d.1 (l.map (· - 1))):=bJ ⟨az,by grind⟩ _;rw[<-aBx az]at z;have k:=UF (aBT an (l.map (· - 1))) (sA d.1 (l.map (· - 1))).2;simp  [z];exact (congrArg (λm=>ao (ao m λr=>mpure (bq.done r)) _) k).trans (by simp;rfl)
  ·rfl
  ·intro i D o au;have hw:=bc (n:=i+1) (by omega) (by omega);have aC:=af.num _ (ajj D);have ft:=bc (n:=l[i] - 1) (by omega) (by omega);refine⟨?_,λbl da=>by grind⟩;simp only[ch,cT D,c_ D,cE D,bS,cy,hw,ft];rw[bb (ez (by grind))];rfl
  simp
 ·obtain rfl:=hw;have z:LW.sh d.1=mpure (Dt d.1):=bJ az _;rw[<-aBr az]at z;have k:=UF (aAV an) (rs d.1 true).2;simp  [z];exact (congrArg (λm=>ao (ao m λr=>mpure (bq.done r)) _) k).trans (by simp;rfl)
 ·obtain rfl:w=[101,120,116,114,97]:=hw;have z:LX.sh d.1=mpure (Du d.1):=bJ az _;rw[<-aBv az]at z;have k:=UF (aAX an) (sz d.1).2;rw[if_neg (by simp),if_neg (by simp),if_neg (by simp),if_neg (by simp),if_neg (by simp),if_neg (by simp),if_neg (by simp),if_neg (by simp),if_neg (by simp),if_neg (by simp),aH,cp];simp only[z,aH];exact (congrArg (λm=>ao m λy=>mpure y) k).trans (aH ..)
theorem aBV{s:a1}{j:Nat}{l:z1'}(az:s.length<=10000)(h:va s=some (j,l)):fO (yA j) l/\j<20:=by
 have af:=yw s;unfold va at h;split at h
 ·grind
 ·rename_i k m i aw;obtain⟨_,aI,ah⟩:=Hi aw;split at h
  ·grind
  ·unfold Dy at h;split at h
   ·simp only[aLc,ajk,aJ8]at h;obtain⟨rfl,rfl⟩:=h;have cF:yA i=k.toNat:=by
     grind [yA]
    refine⟨⟨by grind,by grind,λn aC=>?_⟩,by simp_all[iJ]⟩;obtain⟨w,hw,rfl⟩:=List.mem_map.1 aC;simp_all[aga]
   grind
abbrev MJ:aF:=⟨.ar mB .str,.ar mB .str,λx=>dx x.1/\x.2.length<=10000,λx=>nh (ng x.1 x.2)⟩
theorem aBW:∀ j:Fin 20,DO (iJ.getD j.val ([],0,false)).1=j.val:=by decide
theorem aBX(x):aR (ahu DE.sh DN.sh MI.sh Hx.sh A6.sh x) (MJ.sh x):=bg λh=>by
 obtain⟨d,s⟩:=x;obtain⟨an,az⟩:=h;unfold ahu bU b1 eC bN aG aB ay dJ bT;show _=mpure (nh (ng d s));rw[show DE.sh (d,s).2=mpure (qH s) from bJ az _,aH];unfold ng;cases aq:va s with
 | none=>grind [azL]
 | some r=>
  obtain⟨j,l⟩:=r;obtain⟨p,aI,U⟩:=azK aq;obtain⟨af,A0⟩:=aBV az aq;have hw:p.1=(iJ.getD j ([],0,false)).1:=by grind
  have aBY:DO p.1=j:=by rw[hw];exact aBW ⟨j,A0⟩
  rw[U];simp only;rw[if_neg (by decide)];have D:Hw j p.1 l:=⟨hw,af⟩
  have cC:j∈[11,12,13,14,15]->Hx.sh (d,p.1,l)=mpure (nh (oX j d l)):=λh=>by
   have e:Hx.sh (d,p.1,l)=mpure (nh (oX (DO p.1) d l)):=bJ ⟨an,j,h,D⟩ _;grind
  have aN:j∈Hz->A6.sh (d,p.1,l)=mpure (oX j d l).1/\(oX j d l).2=d:=λh=>by
   have e:A6.sh (d,p.1,l)=mpure (oX (DO p.1) d l).1:=bJ ⟨an,j,h,D⟩ _;rw[e,aBY];refine⟨rfl,azM ?_ d l⟩;have:∀ j∈Hz,agA (iJ.getD j ([],0,false)).1=false:=by decide
   grind
  generalize p.1=w at *
  have iz:j∈Hz->ad (A6.sh (d,w,l)).et (mpure (d,G.val (A6.sh (d,w,l)) []))=mpure (nh (oX j d l)):=λh=>by
   grind [eV,bS,mpure]
  match j,A0 with
  | 0,_=>
   obtain rfl:=hw;rw[if_pos (by decide)];have k:DN.sh (d,[(aX l 0,aX l 1,aX l 2,1,aX l 3,aX l 4)],[])=mpure (nh (L_ d l)):=bJ ⟨an,by simp,by simp⟩ _;simp (disch:=decide) only [iu af,bS,mC,AV,Me,agd,ay1,k,h1,eV];rfl
  | 1,_=>
   obtain rfl:=hw;rw[if_neg (by decide),if_pos (by decide)];have k:DN.sh (d,[(aX l 0,aX l 1,aX l 2,2,aX l 3,0)],[])=mpure (nh (L' d l)):=bJ ⟨an,by simp,by simp⟩ _;simp (disch:=decide) only [iu af,bS,mC,AV,Me,agd,k,h1,eV];rfl
  | 2,_=>
   obtain rfl:=hw;rw[if_neg (by decide),if_neg (by decide),show DN.sh (d,[],l)=mpure (nh (Ma d l)) from bJ ⟨an,by simp,by have:=af.AR;grind⟩ _,aH];rfl
  | 9,_=>
   obtain rfl:=hw;rw[if_neg (by decide),if_neg (by decide),if_neg (by decide),show MI.sh (d,l)=mpure (nh (tJ d l)) from bJ ⟨an,af⟩ _,aH];rfl
  | 11,_ | 12,_ | 13,_ | 14,_ | 15,_=>
   have k:=cC (by decide);obtain rfl:=hw;simp only[iJ,List.getD_cons_succ,List.getD_cons_zero]at k ⊢;simp[k,cp]
  | 3,_ | 4,_ | 5,_ | 6,_ | 7,_ | 8,_ | 10,_ | 16,_ | 17,_ | 18,_ | 19,_=>
   have k:=iz (by decide);obtain rfl:=hw;simp only[iJ,List.getD_cons_succ,List.getD_cons_zero]at k ⊢;simp[k,cp]
  | n+20,h=>omega
theorem aBZ(x):aR (aht pP.sh A3.sh H.sD.sh MJ.sh x) (sH.sh x):=bg λh=>by
 obtain⟨d,l⟩:=x;obtain⟨E,M,ai,bf⟩:=h;unfold aht dn aL aG aQ aB bj a7 ay cM bT;show _=mpure (pM d l);unfold pM;rw[show pP.sh d=mpure (qG d) from bJ ⟨E,M.fB⟩ _,aH];by_cases e:qG d=0
 ·have an:=T_ E M e;by_cases aU:l.length > 40
  ·grind
  ·rw[if_neg (show ¬decide (Int.ofNat l.length > 40)=true by grind),if_neg aU,aA5 an,aH];rw[show H.sD.sh (d.2,[],[])=mpure (H.nf d.2 [] []) from bJ ⟨an.jw,by simp,by simp⟩ _,aH];rw[d' l (λi p=>(l,(i:Int),p.1,0,0,0,0,0,0,0,0,0,p.2,())) (λs p=>.next (p.1++[(ng p.2 s).1],(ng p.2 s).2)) (λp=>.next (p.1,0,0,0,0,0,0,0,0,0,p.2,())) (λi p=>dx p.2/\p.1.length=i) ([],l5 d) ?_ ⟨T8 an,rfl⟩ ?_ ?_]
   ·simp_all[cU,T']
   ·rfl
   ·rintro i D ⟨o,tX⟩ ⟨yS,au⟩;have hw:=bc (n:=i+1) (by omega) (by omega);have az:=bf _ (ajj D);have k:MJ.sh (tX,l[i])=mpure (nh (ng tX l[i])):=bJ ⟨yS,az⟩ _;refine⟨?_,λbl da=>?_⟩
    ·simp only[ch,cT D,c_ D,cE D,bS,cy,hw,k,h1,eV];rw[bb (ez (by grind))];rfl
    grind [T7]
   simp
 grind
theorem aB0{d:bk}{l:List a1}(h:T9 (d,l)):(pM d l).1.length<=l.length/\eN (pM d l).2.1.1/\H.jw (pM d l).2.1.2:=by
 obtain⟨E,M,ai,bf⟩:=h;have bD:eN Mb.1/\H.jw Mb.2:=⟨⟨⟨by decide,by decide,by decide,by simp⟩,by decide,by decide,by decide,by decide,by simp,by simp⟩,by decide,by decide,by decide,by decide⟩
 unfold pM;split
 ·grind
 split
 ·grind
 ·rename_i e _;have an:=T_ E M (Decidable.of_not_not e);have al:=azz (T8 an) bf;exact⟨aLR (ayX _ _),al.fB,al.jw⟩
theorem ajx(x:bk×List a1)(E:eN x.1.1)(M:H.jw x.1.2)(ai:x.2.length<2 ^ 63):UD Hl.sh pP.sh A3.sh sH.sh DI.sh Hm.sh DG.sh pP.sh sH.sh x=mpure true:=by
 obtain⟨d,l⟩:=x;unfold UD bU b3 aG hy dN bT fY;rw[show Hl.sh (d,l)=mpure (DJ d l) from bJ ⟨E,M,ai⟩ _,aH,az0];cases aw:DJ d l with
 | true=>simp
 | false=>
  unfold DJ at aw;split at aw
  ·grind
  ·rename_i br;split at aw
   ·grind
   ·simp  at br;obtain⟨⟨az,hc⟩,af⟩:=br;have bf:∀ s∈l,s.length<=10000:=λs az=>by
     grind
    have aC:H.gx d.2:=by
     unfold H.mq at hc;simp  at hc;exact⟨⟨by omega,by omega,by omega,by omega⟩,λh=>by omega⟩
    have aq:T9 (d,l):=⟨E,aC,ai,bf⟩
    obtain⟨aY,a_,b7⟩:=aB0 aq;have q:sH.sh (d,l)=mpure (pM d l):=bJ aq _;have iQ:pP.sh d=mpure (qG d):=bJ ⟨E,M⟩ _;have z2:DI.sh (d,d)=mpure true:=bJ ⟨rfl,E,M⟩ _;have z3:DI.sh ((pM d l).2.1,(pM d l).2.1)=mpure true:=bJ ⟨rfl,a_,b7⟩ _;rw[if_neg (by decide),show A3.sh d=mpure d from bJ ⟨ayu az,aC.1⟩ _,aH,bb (ez (by grind))];grind [h1,bS,aH,agB,oF]
end Go.Fer.aj
namespace Go.Fer.pT
open Go.Proofs Go.Proofs.Tryz
set_option maxRecDepth 100000
noncomputable section
abbrev L:cI:=.fp
abbrev S(a b:cI):cI:=.seq a b
abbrev aV:cI:=S L L
abbrev C(a b:cI):cI:=.cond a b
abbrev B(a:cI):cI:=.block a
abbrev J(s:List (Nat×b6))(b:List (Nat×cb))(x y:cI):cI:=.join ⟨s,b⟩ x y
abbrev aj(s:List (Nat×b6))(b:List (Nat×cb))(x:cI):cI:=.loop ⟨s,b⟩ x
abbrev cC(s:List (Nat×b6))(b:List (Nat×cb))(t:List (Nat×b6))(c:List (Nat×cb))(u:List (Nat×b6))(d:List (Nat×cb))(x y:cI):cI:=.range ⟨s,b⟩ ⟨t,c⟩ ⟨u,d⟩ x y
abbrev v2:b6:=.val t2
abbrev a2:cb:=.bu t2
abbrev v4:b6:=.val t4
abbrev v9:b6:=.val t9
abbrev a9:cb:=.bu t9
abbrev v22:b6:=.val t22
abbrev o1:b6:=.val xB
abbrev rB:b6:=.val FX
abbrev qI:cb:=.gI oE
abbrev dc:b6:=.val fl
abbrev sJ:cb:=.bu fl
abbrev v28:b6:=.val t28
abbrev A7:b6:=.val JZ
abbrev o2:b6:=.val wk
abbrev UG:cb:=.bu wk
abbrev jt:cb:=.gI t32
abbrev mE:b6:=.val r8
abbrev ju:b6:=.val pz
abbrev ahF:cb:=.gI P8
abbrev jS:cb:=.gI o6
abbrev tN:cb:=.gI tQ
abbrev yF:cb:=.bu xC
abbrev sK:b6:=.val HO
abbrev MK:cb:=.bu zN
abbrev vg:cb:=.gI zN
abbrev HA:cb:=.bu ti
abbrev ahG:cb:=.gI ti
abbrev rC:cb:=.bu q6
abbrev aB1:cb:=.gI q6
abbrev DP:cb:=.bu wj
abbrev A8:cb:=.gI wj
abbrev aB2:b6:=.val P_
abbrev HB:cb:=.gI r9
abbrev ahH:b6:=.val YU
abbrev qJ:b6:=.val xD
abbrev HC:cb:=.bu xD
abbrev ahI:b6:=.val kq
abbrev pR:cb:=.bu kq
abbrev UH:b6:=.val xE
abbrev ahJ:b6:=.val YV
abbrev ahK:b6:=.val q7
abbrev HD:cb:=.bu q7
abbrev aB3:b6:=.val YW
abbrev HE:b6:=.val Qa
abbrev ahL:b6:=.val Qb
abbrev gB:cb:=.bu r_
abbrev A9:cb:=.gI r_
abbrev UI:b6:=.val Qc
abbrev l9:b6:=.val qh
abbrev aB4:b6:=.val Y2
abbrev ahM:cb:=.gI P9
abbrev DQ:cb:=.bu Ci
abbrev ahN:cb:=.gI Ci
abbrev UJ:b6:=.val JY
abbrev HF:cb:=.bu xA
abbrev ahO:cb:=.bu Cj
abbrev ahP:cb:=.gI Cj
abbrev aB5:b6:=.val Y3
abbrev UK:b6:=.val Qe
abbrev v228:b6:=.val t228
abbrev aB6:b6:=.val Y6
abbrev aB7:b6:=.val Y7
abbrev aB8:b6:=.val Y8
abbrev DR:b6:=.val Y9
abbrev aB9:b6:=.val Y_
abbrev aB_:b6:=.val Y'
abbrev ML:b6:=.val FZ
abbrev A_:b6:=.val Za
abbrev MM:b6:=.val J3
abbrev HG:cb:=.bu J2
abbrev ahQ:cb:=.gI J2
abbrev UL:b6:=.val Zd
abbrev oV:List (Nat×b6):=[(6,.aK 17 0),(56,.iS [30000,30001,30002,30003,30004,30005,30006,30007,30008,30009]),(57,v2)]
abbrev MN:List (Nat×b6):=[(1,.aK 1 0),(2,.aK 2 0),(3,.aK 3 0),(4,v2)]
abbrev A':List (Nat×b6):=[(2,.aK 2 0),(3,.aK 3 0)]
abbrev o3:List (Nat×b6):=[(1,.aK 1 0)]
abbrev ahR:List (Nat×b6):=[(1,.aK 1 0),(2,.aK 2 0),(3,.aK 1 0),(38,v2),(39,v2)]
abbrev ahS:List (Nat×b6):=[(2,.aK 2 0),(7,.aK 22 0),(8,.aK 8 0),(9,.aK 9 0),(10,.own 10),(11,.aK 11 0),(24,v22),(25,v2),(26,v2)]
abbrev ahT:List (Nat×b6):=[(2,.aK 2 0),(3,.aK 3 0),(4,.own 4),(5,.own 5),(7,UH),(8,v2),(9,v2),(23,v2),(29,UI),(30,v2),(31,v2)]
abbrev vh:List (Nat×b6):=[(1,.aK 1 0),(3,v2)]
abbrev ahU:List (Nat×b6):=[(2,.aK 2 0),(7,.aK 30 0),(10,v2),(11,v2),(46,v2),(47,v2),(52,o1),(53,v2),(54,v2),(61,v2),(62,v2)]
abbrev MO:List (Nat×b6):=[(1,.aK 1 0),(5,v2),(6,A_),(7,qJ),(8,v2)]
abbrev aB':List (Nat×b6):=[(1,.aK 1 0),(2,.aK 2 0),(3,.aK 1 0),(5,.kj 22),(38,v2),(39,v2),(60,v2),(61,v2)]
abbrev ahV:List (Nat×b6):=[(0,l9),(1,dc),(2,v2),(3,.ia),(9,v2),(29,v28),(30,v2),(31,v2),(1000000,.tr fl)]
abbrev ahW:List (Nat×b6):=[(0,l9),(1,.own 200001),(2,o2),(3,v2),(4,.gE 100002),(16,mE),(17,v2),(18,v2)]
abbrev UM:List (Nat×b6):=[(1,.aK 1 0),(2,.aK 2 0)]
abbrev ahX:List (Nat×b6):=[(2,.aK 2 0),(3,.aK 3 0),(4,.own 4),(5,.own 5),(7,UH),(8,v2),(9,v2),(23,v2)]
abbrev ahY:List (Nat×b6):=[(2,.aK 2 0),(7,.aK 30 0),(10,v2),(46,v2),(47,v2),(52,o1),(53,v2),(54,v2)]
abbrev ahZ:List (Nat×b6):=[(1,v2),(2,.aK 2 0),(4,.own 4),(5,.own 5),(7,qJ),(8,v2),(9,v2),(10,v2)]
abbrev ah0:List (Nat×b6):=[(0,.ia),(2,.eI xE),(10,ahL),(11,v2),(1000000,.tr (.ar kq t2))]
abbrev ah1:List (Nat×b6):=[(1,.aK 1 0),(2,.aK 2 0),(3,.aK 3 0),(5,v2)]
abbrev aCa:List (Nat×b6):=[(1,v2),(2,.aK 2 0),(4,.aK 4 0),(6,qJ),(7,v2),(8,.aK 8 0),(9,v2)]
abbrev UN:List (Nat×b6):=[(1,v2),(2,v2),(3,.aK 3 0),(7,.own 7),(8,v2)]
abbrev UO:List (Nat×b6):=[(4,.aK 4 0),(7,v2),(8,.aK 8 0)]
abbrev aCb:List (Nat×b6):=[(1,.aK 1 0),(2,.aK 2 0),(3,.aK 3 0),(4,v2),(5,.aK 5 0),(6,v2)]
abbrev ah2:List (Nat×b6):=[(2,v2),(6,.aK 6 0),(8,.aK 8 0),(9,v4),(17,HE),(18,v2),(19,v2)]
abbrev ah3:List (Nat×b6):=[(4,.aK 4 0),(5,.aK 5 0),(10,.gE 24),(28,UI),(29,v2),(30,v2)]
abbrev ah4:List (Nat×b6):=[(2,.aK 2 0),(3,.aK 3 0),(4,.own 4),(5,.own 5),(7,UH),(23,v2)]
abbrev ah5:List (Nat×b6):=[(1,v2),(2,.aK 2 0),(4,.own 4),(5,.own 5),(7,qJ),(8,v2),(9,v2)]
abbrev ah6:List (Nat×b6):=[(1,ju),(2,dc),(3,.aK 3 0),(6,.aK 6 0),(9,.aK 9 0),(11,v2)]
abbrev DS:List (Nat×b6):=[(1,.aK 1 0),(5,v2)]
abbrev ah7:List (Nat×b6):=[(0,ahH),(1,v2),(2,v2),(3,v2),(9,v2),(18,dc),(19,v2),(20,v2)]
abbrev aCc:List (Nat×b6):=[(1,.aK 1 0),(2,.aK 2 0),(3,.aK 3 0),(4,v2),(5,.aK 5 0)]
abbrev ah8:List (Nat×b6):=[(1,.aK 1 0),(2,.aK 2 0),(3,.aK 3 0)]
abbrev ah9:List (Nat×b6):=[(1,v2),(6,l9),(8,.own 8),(9,.own 50260),(29,v2),(30,v2)]
abbrev ah_:List (Nat×b6):=[(1,v2),(2,.aK 2 0),(4,.own 4),(5,.own 5),(7,qJ),(8,v2)]
abbrev ah':List (Nat×b6):=[(1,v2),(2,v2),(3,v2),(4,.aK 4 0),(9,dc),(10,v2),(11,v2)]
abbrev aia:List (Nat×b6):=[(1,sK),(2,.aK 2 0),(5,v2),(6,v2),(7,v2),(8,v2),(10,v2)]
abbrev MP:List (Nat×b6):=[(1,.aK 1 0),(3,v2),(4,v2)]
abbrev aib:List (Nat×b6):=[(1,aB3),(4,.aK 4 0),(5,v4),(13,UI),(14,v2),(15,v2)]
abbrev aic:List (Nat×b6):=[(0,l9),(1,o2),(5,.own 50140),(6,v2),(16,v2),(17,v2)]
abbrev aid:List (Nat×b6):=[(2,dc),(3,.aK 3 0),(6,.aK 6 0),(9,.aK 9 0),(13,v2)]
abbrev UP:List (Nat×b6):=[(1,dc),(2,.aK 2 0),(5,v2),(6,v2)]
abbrev UQ:List (Nat×b6):=[(2,.aK 2 0),(3,.aK 3 0),(7,v2)]
abbrev kO:List (Nat×cb):=[(17,.cells FY [dc,.own 30000,.own 30001,.own 30002,.own 30003,.own 30004,.own 30005,.own 30006,.own 30007,.own 30008,.own 30009]),(30000,gB),(30001,gB),(30002,gB),(30003,gB),(30004,gB),(30005,gB),(30006,gB),(30007,gB),(30008,gB),(30009,gB),(100000,.cells tj [mE,ju,dc,mE,v2,v2,v2,v2,v2,v2,v2,ju,.own 100002]),(100002,HD)]
abbrev vi:List (Nat×cb):=[(12,A9),(17,.cells FY [dc,.own 30000,.own 30001,.own 30002,.own 30003,.own 30004,.own 30005,.own 30006,.own 30007,.own 30008,.own 30009]),(30000,gB),(30001,gB),(30002,gB),(30003,gB),(30004,gB),(30005,gB),(30006,gB),(30007,gB),(30008,gB),(30009,gB),(100000,.cells tj [mE,ju,dc,mE,v2,v2,v2,v2,v2,v2,v2,ju,.own 100002]),(100002,HD)]
abbrev MQ:List (Nat×cb):=[(1,.cells t32 [.own 17,.own 22,v2,.own 27,.own 84,.own 87,.own 90,.own 93,v2]),(2,.cells t32 [.bZ,.bZ,v2,.bZ,.bZ,.bZ,.bZ,.bZ,v2]),(17,DQ),(22,HF),(27,yF),(84,a2),(87,DP),(90,HA),(93,rC)]
abbrev UR:List (Nat×cb):=[(1,jt),(2,.cells t32 [.bZ,.bZ,v2,.bZ,.bZ,.bZ,.bZ,.bZ,v2]),(3,.cells t32 [v22,o1,v2,rB,.own 11,.own 16,.own 20,.own 24,v2]),(11,a2),(16,DP),(20,HA),(24,rC)]
abbrev aie:List (Nat×cb):=[(1,.cells t32 [.own 17,.own 22,v2,.own 27,dc,v28,A7,o2,v2]),(2,.cells t32 [.bZ,.bZ,v2,.bZ,.bZ,.bZ,.bZ,.bZ,v2]),(17,DQ),(22,.hJ xA (.own 50530)),(27,yF),(50530,ahO)]
abbrev yG:List (Nat×cb):=[(2,jt),(28,.mp q6 t2),(30,.cells t222 [v22,o1,v2,rB,dc,v28,A7,o2,v2,.bZ,.gE 28])]
abbrev aif:List (Nat×cb):=[(1,.cells t32 [.own 17,.own 22,v2,.own 27,dc,v28,A7,o2,v2]),(2,.cells t32 [.bZ,.bZ,v2,.bZ,.bZ,.bZ,.bZ,.bZ,v2]),(17,DQ),(22,HF),(27,yF)]
abbrev aih:List (Nat×cb):=[(1,qI),(2,.cells oE [.bZ,.bZ,v2,.bZ]),(3,.cells oE [.own 8,.own 59,v2,.own 12]),(5,.cells xA [.own 26]),(8,DQ),(12,yF),(26,ahO),(59,HF)]
abbrev US:List (Nat×cb):=[(1,jt),(2,.cells t32 [.bZ,.bZ,v2,.bZ,.bZ,.bZ,.bZ,.bZ,v2]),(3,.cells t32 [v22,o1,v2,.own 50090,.own 11,.own 16,.own 20,.own 24,v2]),(11,a2),(16,DP),(20,HA),(24,rC),(50090,yF)]
abbrev aii:List (Nat×cb):=[(1,qI),(2,.cells oE [.bZ,.bZ,v2,.bZ]),(3,.cells oE [.own 8,.own 59,v2,.own 12]),(8,DQ),(12,yF),(59,HF)]
abbrev aCd:List (Nat×cb):=[(2,.cells t32 [.bZ,.bZ,v2,.bZ,.bZ,.bZ,.bZ,.bZ,v2]),(3,.cells t32 [v22,o1,v2,rB,.own 11,.own 16,.own 20,.own 24,v2]),(11,a2),(16,DP),(20,HA),(24,rC)]
abbrev MR:List (Nat×cb):=[(3,jS),(6,.cells o6 [.bZ,.bZ,.bZ,.bZ,v2,v2,v2,v2,v2,v2,v2]),(9,jS)]
abbrev aij:List (Nat×cb):=[(3,jS),(6,.cells o6 [.bZ,.bZ,.bZ,.bZ,v2,v2,v2,v2,v2,v2,v2]),(9,.cells o6 [mE,ju,.own 82,mE,v2,v2,v2,v2,v2,v2,v2]),(82,a2)]
abbrev aik:List (Nat×cb):=[(4,a9),(5,.cells tQ [.bZ,.bZ,v2,.bZ,.bZ,.bZ,.bZ,.bZ,v2,.bZ,.bZ,.bZ,.bZ,v2,v2,v2,v2,v2,v2,v2]),(50230,HB)]
abbrev ail:List (Nat×cb):=[(4,a9),(5,.cells tQ [.bZ,.bZ,v2,.bZ,.bZ,.bZ,.bZ,.bZ,v2,.bZ,.bZ,.bZ,.bZ,v2,v2,v2,v2,v2,v2,v2]),(8,tN)]
abbrev aCe:List (Nat×cb):=[(2,.cells oE [.bZ,.bZ,v2,.bZ]),(3,.cells oE [.own 8,.own 59,v2,.own 12]),(8,DQ),(12,yF),(59,HF)]
abbrev DT:List (Nat×cb):=[(2,jS),(3,.hR t2),(4,a2),(5,a2)]
abbrev aim:List (Nat×cb):=[(2,jt),(28,.mp q6 t2),(30,.cells t222 [v22,o1,v2,rB,dc,v28,A7,o2,v2,.own 109,.gE 28]),(109,MK)]
abbrev ain:List (Nat×cb):=[(28,.mp q6 t2),(30,.cells t222 [v22,o1,v2,rB,dc,v28,A7,o2,v2,.own 109,.gE 28]),(109,MK)]
abbrev aio:List (Nat×cb):=[(100000,.cells tj [mE,ju,dc,mE,v2,v2,v2,v2,v2,v2,v2,ju,.own 100002]),(100002,HD)]
abbrev o4:List (Nat×cb):=[(1,jt)]
abbrev o5:List (Nat×cb):=[(1,qI)]
abbrev DU:List (Nat×cb):=[(2,jS),(4,a2),(5,a2)]
abbrev pS:List (Nat×cb):=[(1,jS)]
abbrev aip:List (Nat×cb):=[(2,.hR oE),(22,.cells zO [v22,o1,v2,rB,.own 61]),(61,sJ)]
abbrev Ba:List (Nat×cb):=[(2,qI),(3,qI)]
abbrev UT:List (Nat×cb):=[(100002,.mp t2 t2),(200001,a2)]
abbrev HH:List (Nat×cb):=[(2,jS),(3,jS)]
abbrev HI:List (Nat×cb):=[(5,jt),(6,jt)]
abbrev MS:List (Nat×cb):=[(4,vg),(8,vg)]
abbrev bO:cI:=S L (C aV L)
abbrev eW:cI:=C L L
abbrev ax:cI:=S L eW
abbrev aU:cI:=S L aV
abbrev cD:cI:=S ax (S (B bO) L)
abbrev jK:cI:=S L bO
abbrev eZ:cI:=S L (S eW (S (B jK) L))
abbrev fR:cI:=S L (S eW (S (B aV) L))
abbrev hf:cI:=S ax (S (B L) L)
abbrev Ek:cI:=S L (S L (S L (J UM aif (S L (B (aj ahR aif (S L (S eW (J ahR aie (B (S L (S L (S (.pf 5 L) (S L (B (aj aB' aie fR))))))) (.I7 22 L))))))) (S L (J UM MQ (S L (B (aj [(1,.aK 1 0),(2,.aK 2 0),(100,v2),(101,v2)] MQ fR))) (J UM MQ (S L (B (aj [(1,.aK 1 0),(2,.aK 2 0),(119,v2),(120,v2)] MQ fR))) aV))))))
abbrev UU:cI:=S L (J [(0,dc),(1,v2)] [] ax (S L (J [(0,dc),(6,v228)] [] ax (S L (S L (J [(7,.own 30)] [(30,a2)] (B (aj [(7,.own 30),(8,v2)] [(30,a2)] (S ax (B L)))) aV))))))
abbrev aiq:cI:=S L (S L (J [(4,.gE 12)] [(12,.mp t2 kq)] (S L (B (aj [(4,.gE 12),(13,ju),(14,v2),(15,v2)] [(12,.mp t2 kq)] (S L (S eW (S (B (S L (S jK L))) L)))))) (S L (J [(9,.own 9)] [(9,pR)] (S L (B (aj [(4,.gE 12),(9,.own 9),(39,dc),(40,v2),(41,v2)] [(9,pR),(12,.ky t2 kq)] fR))) aV))))
abbrev qK:cI:=S bO aV
abbrev jT:cI:=S L qK
abbrev wX:cI:=S ax (S (B jK) L)
abbrev air:cI:=S L (S L (S L (S L (J A' aCe (S L (B (aj MN aii (S ax (J MN aii (B (S L (J aCc aih (S L (B (aj aCb aih hf))) L))) L))))) aV))))
abbrev ais:cI:=S L (S L (S L (S L (S L (J ah8 UR (S L (B (aj MN UR hf))) (J A' aCd (S L (B (aj ah1 UR hf))) aV))))))
abbrev qL:cI:=B (S L ax)
abbrev Bb:cI:=S L (S L (S bO aU))
abbrev MT:cI:=S L (S (S L (B (S L (C aV bO)))) aV)
abbrev rD:cI:=S L aU
abbrev vj:cI:=S L rD
abbrev Bc:cI:=B (S L (S L ax))
abbrev ait:cI:=S L (S L (S L (J UO MS (S L (B (aj aCa [(2,jS),(4,vg),(8,vg)] hf))) aV)))
abbrev aiu:cI:=S L (J [] [] (S L (B (aj [(0,dc),(1,v2),(5,v2)] [] cD))) aV)
abbrev aiv:cI:=S L (J [] [] (S L (B (aj [(0,dc),(3,v2)] [] cD))) aV)
abbrev aiw:cI:=S L (B (aj [(1,.aK 1 0),(4,v2)] o4 cD))
abbrev aix:cI:=S (B (S L (C aV (S L (C aV bO))))) aV
abbrev mF:=cW.mk ⟨[(0,.aK 100000 0),(1,.val fl)],[(100000,.gI r9)]⟩ ⟨[(0,.val t9)],[(100000,.gI r9)]⟩ [none] 2
def aCf:=mk aAJ func208 cS aU au9
def aCg:=mk aCf func148 H.cS aU H.ar4
def aCh:=mk aCg func147 H.xN aU H.ar8
def aCi:=mk aCh func149 H.z1 jT H.ar_
def aCj:=mk aCi func67 H.xO (S L (S bO (J o3 pS (S L (B (aj vh pS cD))) (J o3 pS (S L (B (aj [(1,.aK 1 0),(4,v2)] pS cD))) (J o3 pS (S L (B (aj DS pS cD))) (J [] [] (S L (B (aj [(1,.aK 1 0),(6,v2)] pS wX))) aV)))))) H.asF
def aCk:=mk aCj func68 H.Gh aU H.asd
def aCl:=mk aCk func26 H.gR (S L (S bO (J [] [] (S L (B (aj vh pS (S ax (J vh pS (B (S L (B (aj MP pS cD)))) L))))) aV))) H.asH
def aCm:=mk aCl func251 qw aU avf
def aCn:=mk aCm func316 wH aiv avg
def aCo:=mk aCn func252 uY (S L (J o3 [(1,ahP)] (S L (B (aj vh [(1,ahP)] cD))) aV)) avi
def aCp:=mk aCo func253 pF aU avb
def aCq:=mk aCp func317 C6 aU avd
def aCr:=mk aCq func254 ri aU ave
def aCs:=mk aCr func179 ya (S L (S bO (J o3 o5 (S L (B (aj vh o5 wX))) (J o3 o5 (S L (B (aj DS o5 (S ax (J DS o5 (B (S bO (S L (B (aj [(1,.aK 1 0),(5,v2),(6,v2)] o5 cD))))) L))))) (J [] [] (S L (B (aj [(1,.aK 1 0),(7,v2)] o5 wX))) aV))))) avk
def aCt:=mk aCs func104 gR (S L (S bO (J [] [] (S L (B (aj vh o5 (S ax (J vh o5 (B (S L (B (aj MP o5 wX)))) L))))) aV))) avm
def aCu:=mk aCt func105 cS aU awi
def aCv:=mk aCu func180 Ld aiu awm
def aCw:=mk aCv func106 Lf jT awv
def aCx:=mk aCw func107 SO aU aww
def aCy:=mk aCx func48 oS (S L (S jK (S bO (J o3 o4 aiw (J o3 o4 (S L (B (aj DS o4 cD))) (J o3 o4 (S L (B (aj [(1,.aK 1 0),(6,v2)] o4 cD))) (J [] [] (S L (B (aj [(1,.aK 1 0),(7,v2)] o4 wX))) aV))))))) awx
def sd:=mk aCy func15 aj.pP jT aj.azD
def aCz:=mk sd func110 x8 (S L (S bO (J o3 o5 (S L (B (aj vh o5 (S ax (J vh o5 (B (S bO (S L (B (aj MP o5 cD))))) L))))) (S bO (J o3 o5 (S L (B (aj DS o5 cD))) aV))))) awe
def aCA:=mk aCz func50 L0 (S L (S bO (J o3 o4 (S L (B (aj vh o4 cD))) (J o3 o4 aiw (S bO (S L (J DS o4 (S L (B (aj [(1,.aK 1 0),(5,v2),(6,v2)] o4 hf))) aV))))))) ayv
def aCB:=mk aCA func51 H.x8 (S L (S bO (S bO (S L (J [(3,v2)] [] (S L (B (aj MP pS hf))) aV))))) H.auL
def aCC:=mk aCB func111 aj.Mr (S L (S L (J [(3,.own 5)] [(5,a9)] (S L (B (aj [(0,v9),(3,.own 5),(4,v2)] [(5,a9)] (S ax (J [(0,v9),(3,.own 5),(4,v2)] [(5,a9)] (B ax) L))))) aV))) aj.azG
def aCD:=mk aCC func112 aj.Mq (S L (S bO (S L (J [(3,v2)] [] (S L (B (aj [(0,v9),(3,v2),(4,v2)] [] (S ax (S (B (S bO L)) L))))) aV)))) aj.azF
def aCE:=mk aCD func113 aj.Ms (S L vj) aj.azH
def aCF:=mk aCE func52 aj.DE (S L (S L (J [(3,.own 3),(5,sK)] [(3,a2)] (S L (B (aj [(3,.own 3),(5,sK),(6,v2)] [(3,a2)] (S ax (S (B (S L (S bO L))) L))))) (S L (J [] [] (S L (B (aj [(3,.own 3),(5,sK),(8,sK),(9,dc),(10,dc),(11,v2)] [(3,a2)] cD))) aV))))) aj.azI
def pD:=mk aCF func14 aj.Hl (S L (S bO (S L (J [(1,sK),(2,.aK 2 0),(5,v2),(6,v2),(7,v2),(8,v2)] [(2,tN)] (S L (B (aj [(1,sK),(2,.aK 2 0),(5,v2),(6,v2),(7,v2),(8,v2),(9,v2)] [(2,tN)] hf))) (J [(2,.aK 2 0),(5,v2),(6,v2),(7,v2),(8,v2)] [(2,tN)] (S L (B (aj aia [(2,tN)] (S ax (J aia [(2,tN)] (B (S bO (S L (B (S L (C L (S L (C L (S L (C aV ax)))))))))) L))))) aV))))) aj.azV
def aCG:=mk pD func116 si air Rm
def aCH:=mk aCG func55 LY ais ays
def aCI:=mk aCH func56 H.si vj H.Rm
def wu:=mk aCI func19 aj.A3 aU aj.aA3
def aCJ:=mk wu func276 (m' k8) (S L (J [] [] (S L (B (aj [(0,rB),(1,aB5),(7,v2),(8,v2)] [] eZ))) aV)) (uG k8)
def aCK:=mk aCJ func206 (kr k8) aU (uH k8)
def aCL:=k1 aCK [] func207 (yh k8) 1 aU (GN k8)
def aCM:=nA aCL [(207,1)] func144 (kN k8) aU (GO k8)
def aCN:=mk aCM func145 cS aU avE
def aCO:=mk aCN func266 Ao aU avG
def aCP:=mk aCO func267 qw aU avF
def aCQ:=mk aCP func265 K5 aU avN
def aCR:=mk aCQ func292 (m' bp) (S L (J [] [] (S L (B (aj [(0,dc),(1,ahJ),(7,v2),(8,v2)] [] eZ))) aV)) (uG bp)
def aCS:=mk aCR func227 (kr bp) aU (uH bp)
def aCT:=k1 aCS [] func331 (yh bp) 1 aU (GN bp)
def aCU:=nA aCT [(331,1)] func269 (kN bp) aU (GO bp)
def aCV:=mk aCU func270 wH aiv avJ
def aCW:=nA aCV [] func268 uY aU avO
def aCX:=mk aCW func372 (m' ss) (S L (J [] [] (S L (B (aj [(0,UJ),(1,aB8),(7,v2),(8,v2)] [] eZ))) aV)) (uG ss)
def aCY:=mk aCX func332 (kr ss) aU (uH ss)
def aCZ:=k1 aCY [] func333 (yh ss) 1 aU (GN ss)
def aC0:=nA aCZ [(333,1)] func272 (kN ss) aU (GO ss)
def aC1:=k1 aC0 [] func271 C' 1 aU avP
def aC2:=mk aC1 func64 pF aU avH
def aC3:=mk aC2 func65 ri aU avI
def aC4:=k1 aC3 [] func273 Da 1 aU avQ
def aC5:=mk aC4 func373 (m' l3) (S L (J [] [] (S L (B (aj [(0,v22),(1,aB9),(7,v2),(8,v2)] [] eZ))) aV)) (uG l3)
def aC6:=mk aC5 func334 (kr l3) aU (uH l3)
def aC7:=k1 aC6 [] func335 (yh l3) 1 aU (GN l3)
def aC8:=nA aC7 [(335,1)] func274 (kN l3) aU (GO l3)
def aC9:=mk aC8 func374 (m' mu) (S L (J [] [] (S L (B (aj [(0,o1),(1,aB_),(7,v2),(8,v2)] [] eZ))) aV)) (uG mu)
def aC_:=mk aC9 func336 (kr mu) aU (uH mu)
def aC':=k1 aC_ [] func337 (yh mu) 1 aU (GN mu)
def aDa:=nA aC' [(337,1)] func275 (kN mu) aU (GO mu)
def aDb:=nA aDa [(271,1),(273,1)] func205 ya (S L (S L vj)) avR
def aDc:=mk aDb func141 gR (S L (S bO (S L (J [] [] (S L (B (aj [(3,.gE 12),(14,rB),(15,v2),(16,v2)] [(12,.mp q6 t2)] (S L (S eW (S (B (S L (S L (S jK L)))) L)))))) aV)))) avU
def aDd:=mk aDc func164 cS aU awh
def aDe:=mk aDd func220 tA aU awj
def aDf:=mk aDe func221 Lc (S L (J [] [] (S L (B (aj [(0,dc),(1,ahJ),(7,dc),(8,v2),(9,v2)] [] eZ))) aV)) awl
def aDg:=k1 aDf [] func222 SM 1 aU awo (hc:=λx h=>by obtain⟨w,p,aw,_⟩:=h;exact uz ⟨⟨trivial,tk (congrArg (λo=>o.1) aw)⟩,tk (congrArg (λo=>o.2) aw)⟩)
def aDh:=k1 aDg [(222,1)] func219 GU 1 aU awp (hc:=λx h=>by obtain⟨_,w,aw,_⟩:=h;exact uz ⟨trivial,tk aw⟩)
def aDi:=mk aDh func224 tA aU awk
def aDj:=nA aDi [] func223 GV aU awq
def aDk:=k1 aDj [] func225 GW 1 aU awr (hc:=λx h=>by obtain⟨w,aw,_⟩:=h;exact uz ⟨trivial,tk aw⟩)
def aDl:=mk aDk func226 GX aU aws
def aDm:=mk aDl func293 (m' oQ) (S L (J [] [] (S L (B (aj [(0,v28),(1,aB6),(7,v2),(8,v2)] [] eZ))) aV)) (uG oQ)
def aDn:=mk aDm func228 (kr oQ) aU (uH oQ)
def aDo:=mk aDn func294 (m' oR) (S L (J [] [] (S L (B (aj [(0,A7),(1,aB4),(7,v2),(8,v2)] [] eZ))) aV)) (uG oR)
def aDp:=mk aDo func229 (kr oR) aU (uH oR)
def aDq:=mk aDp func295 (m' nH) (S L (J [] [] (S L (B (aj [(0,o2),(1,aB7),(7,v2),(8,v2)] [] eZ))) aV)) (uG nH)
def aDr:=mk aDq func230 (kr nH) aU (uH nH)
def aDs:=nA aDr [(219,1),(225,1)] func171 SN (S L (S L (S L vj))) awt
def UW:=mk aDs func100 oS (S L (S jK qK)) awu
def aiy:cW:=⟨⟨[(0,.bZ),(1,.val Qd)],[]⟩,⟨[(0,.own 50000)],[(50000,.bu t2)]⟩,[none],2,H.Cz⟩
theorem aDt:di Tryz.prog dY 213 aiy:=eD UW [] trivial func213 (S L (S (S L (B (cC [(2,.aK 2 0)] [(2,.cells fl [.own 50000]),(50000,a2)] [(2,.aK 100002 0),(7,v2)] [(100002,.cells fl [.own 150000]),(150000,a2)] [] [(100002,.cells fl [.own 150000]),(150000,a2)] L (B L)))) aV)) H.asz
def aiz:cW:=⟨⟨[(0,.val Qd)],[]⟩,⟨[(0,.own 50040)],[(50040,.bu t2)]⟩,[none],1,H.Cz⟩
theorem aDu:di Tryz.prog dY 160 aiz:=eD UW [(213,.fr aiy)] ⟨aDt,trivial⟩ func160 aU H.asA
def UX:=pC UW lX [(160,.fr aiz),(161,.fr Ui)] ⟨aDu,agY,trivial⟩ func86 H.uK vj H.asB
def aiA:cW:=⟨⟨[(0,.ia),(1,.eI J1),(1000000,.tr t2)],[]⟩,⟨[(1000000,.tr t2)],[]⟩,[],2,H.Ri⟩
theorem aDv:di Tryz.prog dY 277 aiA:=eD (S:=H.Ri) UX [] trivial func277 (S L (B (aj [(0,.ia),(5,.la 5),(1000000,.tr t2)] [(5,.cO t2 kq)] (S L (S eW qL))))) (λx=>le_refl _)
theorem aDw:yN Tryz.prog 277 ⟨[J1],t2,H.k3⟩:=P3 (c:=aiA) aDv lX (λx l L=>(l,x.getD [],(l,L,[],false),())) rfl (by decide) (by simp[hI])
 (λx l L i al=>by
  obtain⟨T,be⟩:=al;obtain⟨m,hm,_⟩:=be;subst hm;by_cases aZ:i=0
  ·subst aZ;exact .inr (.inr (.inl ⟨rfl,rfl⟩))
  ·by_cases E:i=1
   ·subst E;exact .inr (.inl ⟨by decide,by decide,_,_,rfl,rfl⟩)
   by_cases M:i=cw
   ·subst M;exact .inr (.inr (.inr ⟨rfl,rfl⟩))
   ·refine .inl ?_;exact (if_neg aZ).trans ((if_neg E).trans (if_neg M)))
 rfl (λbG=>⟨_,_,_,_,rfl⟩) (λx l al=>by
  obtain⟨T,be⟩:=al;obtain⟨m,hm,_⟩:=be;subst hm;have h:=H.atP l m;refine⟨h.1,λbG hh eo fI p eG=>?_⟩;have e:aO.tr bG.1.1 t2 bG.1.2.1 bG.1.2.2.1 bG.1.2.2.2=.tr eo t2 fI p false:=eG;injection e with ax aU cD eZ fR
  rw[<-eZ];exact h.2 bG hh fR)
def aDx:=pC UX (UX.u [] [(277,⟨[J1],t2,H.k3⟩)] ⟨aDw,trivial⟩) [] trivial func210 H.CB aU H.asE
def aDy:=mk aDx func154 H.CJ aiq H.asQ
def aDz:=mk aDy func85 H.cS aU H.ar5
def aDA:=mk aDz func209 (H.m' H.hA) (S L (J [] [] (S L (B (aj [(0,ju),(1,UK),(7,v2),(8,v2)] [] eZ))) aV)) H.asg
def aDB:=mk aDA func151 (H.kr H.hA) aU H.ash
def aDC:=mk aDB func231 H.xN (S L (J o3 [(1,ahF)] (S L (B (aj [(1,.aK 1 0),(13,.own 13),(14,v2),(15,v2)] [(1,ahF),(13,a2)] eZ))) aV)) H.ar9
def aDD:=mk aDC func76 H.Cu aU H.ar7
def aDE:=mk aDD func233 H.z1 rD H.ar'
def aDF:=k1 aDE [] func232 H.Gg 1 aU H.asa
def aDG:=mk aDF func234 H.Cv aU H.asb
def aDH:=nA aDG [(232,1)] func172 H.xO (S L (S bO (J o3 pS (S L (B (aj [(1,.aK 1 0),(38,mE),(39,v2),(40,v2)] pS eZ))) (J o3 pS (S L (B (aj [(1,.aK 1 0),(57,mE),(58,v2),(59,v2)] pS eZ))) rD)))) H.asG
def aDI:=mk aDH func101 H.gR (S L (S bO (S jK aV))) H.asS
def aDJ:=mk aDI func46 aj.pP jT aj.azv
def UY:=pC aDJ lX [(256,.fr ag0)] ⟨aAI,trivial⟩ func184 H.L5 (S L (S L (J [(0,DR),(3,v2)] [] (S L (B (aj [(0,DR),(3,v2),(9,DR),(10,v2),(11,v2)] [] (S L (S eW (J [(0,DR),(3,v2),(9,DR),(10,v2),(11,v2)] [] Bc L)))))) (S L (J [(6,.own 50240)] [(50240,pR)] (S L (B (aj [(6,.own 50240),(25,DR),(26,v2),(27,v2)] [(50240,pR)] fR))) aV))))) H.ayE
def aiB:cW:=⟨⟨[(0,.val xD)],[]⟩,⟨[(0,.own 50240)],[(50240,.bu t3)]⟩,[none],1,H.L6⟩
theorem aDK:di Tryz.prog dY 185 aiB:=eD UY [(257,.fr agZ)] ⟨aAH,trivial⟩ func185 (S L (S L (J [(0,qJ),(3,v2)] [] (S L (B (aj [(0,qJ),(3,v2),(9,qJ),(10,v2),(11,v2)] [] (S L (S eW (J [(0,qJ),(3,v2),(9,qJ),(10,v2),(11,v2)] [] Bc L)))))) (S L (J [(6,.own 50240)] [(50240,a2)] (S L (B (aj [(6,.own 50240),(25,qJ),(26,v2),(27,v2)] [(50240,a2)] fR))) aV))))) H.ayF
def aiC:cW:=⟨⟨[(0,.own 200001)],[(200001,.bu t3)]⟩,⟨[(0,.sub 200001)],[(200001,.bu t3)]⟩,[none],1,H.L7⟩
theorem aDL:di Tryz.prog dY 186 aiC:=eD UY [] trivial func186 (S L (S bO (J [(0,.own 200001)] [(200001,a2)] (S L (B (aj [(0,.own 200001),(3,v2)] [(200001,a2)] (S ax (J [(0,.own 200001),(3,v2)] [(200001,a2)] (B (S L (C (S L (J [(0,.own 200001),(3,v2)] [(200001,a2)] (S L (B (aj [(0,.own 200001),(3,v2),(4,.sub 200001),(5,v2)] [(200001,a2)] (S ax (J [(0,.own 200001),(3,v2),(4,.sub 200001),(5,v2)] [(200001,a2)] (B bO) L))))) aU)) L))) L))))) aV))) H.ayL
def aDM:=mk UY func187 H.Ha jT H.ayS
def wY:=pC aDM lX [(161,.fr Ui),(185,.fr aiB),(186,.fr aiC)] ⟨agY,aDK,aDL,trivial⟩ func117 H.sD (S L (S jK (S L (S L (S jK (S L (S bO (S L Bb)))))))) H.ayU
def aDN:cW:=⟨⟨[(0,.val t22)],[]⟩,⟨[(0,.own 60)],[(60,.bu Ci)]⟩,[none],1,aj.sG⟩
theorem aDO:di Tryz.prog dY 188 aDN:=eD wY [] trivial func188 jT aj.yx
abbrev UZ:gJ:=.lU (iU.lU (aj.hd l3).dU)
theorem aiD:gJ.jv Tryz.prog dY 188 UZ:=AZ (sh:=(aj.hd l3).sh) aDO (λx h=>⟨h,λbG hh=>by have h:bG=_:=hh;subst h;exact (fZ).symm⟩)
def aDP:cW:=⟨⟨[(0,.val xB)],[]⟩,⟨[(0,.own 60)],[(60,.bu xA)]⟩,[none],1,aj.sG⟩
theorem aDQ:di Tryz.prog dY 189 aDP:=eD wY [] trivial func189 jT aj.yx
abbrev U0:gJ:=.lU (iU.lU (aj.hd mu).dU)
theorem aiE:gJ.jv Tryz.prog dY 189 U0:=AZ (sh:=(aj.hd mu).sh) aDQ (λx h=>⟨h,λbG hh=>by have h:bG=_:=hh;subst h;exact (fZ).symm⟩)
def aDR:cW:=⟨⟨[(0,.val FX)],[]⟩,⟨[(0,.own 60)],[(60,.bu xC)]⟩,[none],1,aj.sG⟩
theorem aDS:di Tryz.prog dY 190 aDR:=eD wY [] trivial func190 jT aj.yx
abbrev U1:gJ:=.lU (iU.lU (aj.hd k8).dU)
theorem aiF:gJ.jv Tryz.prog dY 190 U1:=AZ (sh:=(aj.hd k8).sh) aDS (λx h=>⟨h,λbG hh=>by have h:bG=_:=hh;subst h;exact (fZ).symm⟩)
def U2:cW:=⟨⟨[(0,.val JY)],[]⟩,⟨[(0,.own 60)],[(60,.bu Cj)]⟩,[none],1,aj.sG⟩
theorem aiG:di Tryz.prog dY 191 U2:=eD wY [] trivial func191 jT aj.yx
def aiH:cW:=⟨⟨[(0,.val fl)],[]⟩,⟨[(0,.own 60)],[(60,.bu t3)]⟩,[none],1,aj.Mf⟩
theorem aiI:di Tryz.prog dY 192 aiH:=eD wY [] trivial func192 jT aj.azd
abbrev U3:gJ:=.lU (iU.lU H.uI.dU)
theorem aiJ:gJ.jv Tryz.prog dY 192 U3:=AZ (sh:=H.uI.sh) aiI (λx h=>⟨h,λbG hh=>by have h:bG=_:=hh;subst h;exact (fZ).symm⟩)
def aDT:cW:=⟨⟨[(0,.val t28)],[]⟩,⟨[(0,.own 60)],[(60,.bu wj)]⟩,[none],1,aj.sG⟩
theorem aDU:di Tryz.prog dY 193 aDT:=eD wY [] trivial func193 jT aj.yx
abbrev U4:gJ:=.lU (iU.lU (aj.hd oQ).dU)
theorem aiK:gJ.jv Tryz.prog dY 193 U4:=AZ (sh:=(aj.hd oQ).sh) aDU (λx h=>⟨h,λbG hh=>by have h:bG=_:=hh;subst h;exact (fZ).symm⟩)
def aDV:cW:=⟨⟨[(0,.val JZ)],[]⟩,⟨[(0,.own 60)],[(60,.bu ti)]⟩,[none],1,aj.sG⟩
theorem aDW:di Tryz.prog dY 194 aDV:=eD wY [] trivial func194 jT aj.yx
abbrev MU:gJ:=.lU (iU.lU (aj.hd oR).dU)
theorem U5:gJ.jv Tryz.prog dY 194 MU:=AZ (sh:=(aj.hd oR).sh) aDW (λx h=>⟨h,λbG hh=>by have h:bG=_:=hh;subst h;exact (fZ).symm⟩)
def aDX:cW:=⟨⟨[(0,.val wk)],[]⟩,⟨[(0,.own 60)],[(60,.bu q6)]⟩,[none],1,aj.sG⟩
theorem aDY:di Tryz.prog dY 195 aDX:=eD wY [] trivial func195 jT aj.yx
abbrev U6:gJ:=.lU (iU.lU (aj.hd nH).dU)
theorem aiL:gJ.jv Tryz.prog dY 195 U6:=AZ (sh:=(aj.hd nH).sh) aDY (λx h=>⟨h,λbG hh=>by have h:bG=_:=hh;subst h;exact (fZ).symm⟩)
def aiM:=pC wY lX [(188,UZ),(189,U0),(190,U1),(191,.fr U2),(192,U3),(193,U4),(194,MU),(195,U6)] ⟨aiD,aiE,aiF,aiG,aiJ,aiK,U5,aiL,trivial⟩ func118 aj.Mi Ek aj.azg
def aiN:cW:=⟨⟨[(0,.val tQ)],[]⟩,⟨[(0,.aK 17 0)],[(17,.gI r9)]⟩,[none],1,aj.wC⟩
theorem aDZ:di Tryz.prog dY 57 aiN:=eD aiM [] trivial func57 rD aj.RS
def HJ:=mk aiM func58 aj.Mn aU aj.azr
def MV:cW:=⟨⟨[(0,.aK 100000 0),(1,.val pz),(2,.val fl)],[(100000,.gI r9)]⟩,⟨[(0,.val t9)],[(100000,.gI r9)]⟩,[none],3,aj.DA⟩
theorem U7:di Tryz.prog dY 196 MV:=eD HJ [] trivial func196 Bb aj.ay2
def U8:cW:=mF (aj.gj 5 aj.L_)
theorem aD0:di Tryz.prog dY 119 U8:=eD HJ [(196,.fr MV)] ⟨U7,trivial⟩ func119 aU aj.ay3
def aD1:cW:=mF (aj.gj 4 aj.L')
theorem aD2:di Tryz.prog dY 120 aD1:=eD HJ [(196,.fr MV)] ⟨U7,trivial⟩ func120 aU aj.ay4
def aD3:cW:=mF (aj.gj 1 aj.Ma)
theorem aD4:di Tryz.prog dY 121 aD3:=eD HJ [(196,.fr MV)] ⟨U7,trivial⟩ func121 aU aj.RT
def aD5:=mk HJ func339 H.Rn aU H.asj
def aD6:=mk aD5 func280 H.Ro (S L (S L (S L (S (S L (C qK L)) (S bO (S bO qK)))))) H.asl
def aD7:=mk aD6 func279 H.sj aU H.asm
def aD8:=mk aD7 func211 K4 (S L (J [] [] (S L (B (aj [(0,dc),(1,v2),(7,v2),(8,v2)] [] eZ))) aV)) avL
def aD9:=mk aD8 func157 i' aU avM
def HK:=k1 aD9 [] func156 H.CT 1 aU H.RT
abbrev Bd:=Cm (ap9 HK) [(156,1)] []
def aiO:cW:=⟨⟨[(0,.val pz)],[]⟩,⟨[(0,.own 9),(1,.val t4)],[(9,.bu kq)]⟩,[none,none],1,H.KD⟩
theorem aD_:di Tryz.prog Bd 154 aiO:=eD HK [] trivial func154 aiq H.asR
def aiP:cW:=⟨⟨[(0,.own 200001),(1,.val Qe)],[(200001,.bu kq)]⟩,⟨[(0,.sub 200001)],[(200001,.bu kq)]⟩,[none],2,H.KF⟩
theorem aD':di Tryz.prog Bd 155 aiP:=eD HK [] trivial func155 (S L (S L (S bO (J [(0,.own 200001),(5,v2)] [(200001,pR)] (S L (B (aj [(0,.own 200001),(1,UK),(5,v2),(6,v2)] [(200001,pR)] (S ax (J [(0,.own 200001),(1,UK),(5,v2),(6,v2)] [(200001,pR)] (B jK) L))))) aU)))) H.asT
def aEa:=mk HK func192 H.uI jT H.asi
def aEb:=mk aEa func291 H.Rp (S L (J [(0,v228),(2,v2)] [] bO (J [(0,v228),(2,v2)] [] bO (J [(0,v228),(2,v2)] [] bO aV)))) H.asn
def DV:=mk aEb func215 H.Rq (S L (S (C aV L) aV)) (H.aso (λ_=>eu))
def aiQ:cW:=⟨⟨[(0,.own 200001),(1,.val t2),(2,.val t2),(3,.val FZ)],[(200001,.bu r_)]⟩,⟨[],[(200001,.bu r_)]⟩,[],4,H.Kz⟩
theorem aEc:di Tryz.prog Bd 375 aiQ:=eD DV [] trivial func375 (S L (B (aj [(0,.own 200001),(1,v2),(2,v2),(3,ML),(8,v2)] [(200001,gB)] (S ax (J [(0,.own 200001),(1,v2),(2,v2),(3,ML),(8,v2)] [(200001,gB)] (B (S L (B (aj [(0,.own 200001),(1,v2),(2,v2),(3,ML),(8,v2),(9,v2)] [(200001,gB)] hf)))) L))))) H.asv
def aiR:cW:=⟨⟨[(0,.own 200001),(1,.val t2),(2,.val t2),(3,.val t2),(4,.val FZ)],[(200001,.bu r_)]⟩,⟨[],[(200001,.bu r_)]⟩,[],5,H.KA⟩
theorem aEd:di Tryz.prog Bd 338 aiR:=eD DV [(375,.fr aiQ)] ⟨aEc,trivial⟩ func338 (S L (S L (B (aj [(0,.own 200001),(1,v2),(2,v2),(3,v2),(4,ML),(10,v4),(11,v4)] [(200001,gB)] (B (S L (S bO L))))))) H.asw
def aiS:cW:=⟨⟨[(0,.own 200001),(1,.val FZ)],[(200001,.bu r_)]⟩,⟨[],[(200001,.bu r_)]⟩,[],2,H.Cy⟩
theorem aEe:di Tryz.prog Bd 278 aiS:=eD DV [(338,.fr aiR)] ⟨aEd,trivial⟩ func278 aV H.asy
def aiT:cW:=⟨⟨[(0,.aK 100000 0),(1,.val fl)],[(100000,.cells tj [.val r8,.val pz,.val fl,.val r8,.val t2,.val t2,.val t2,.val t2,.val t2,.val t2,.val t2,.val pz,.own 100002]),(100002,.bu q7)]⟩,⟨[(0,.val q7),(1,.val t4)],[(100000,.cells tj [.val r8,.val pz,.val fl,.val r8,.val t2,.val t2,.val t2,.val t2,.val t2,.val t2,.val t2,.val pz,.own 100002]),(100002,.bu q7)]⟩,[none,none],2,H.wC⟩
theorem aEf:di Tryz.prog Bd 212 aiT:=eD DV [(278,.fr aiS)] ⟨aEe,trivial⟩ func212 (S L (J [(0,.aK 100000 0),(1,dc),(6,.aK 17 0)] [(17,.cells FY [dc,.own 30000,.own 30001,.own 30002,.own 30003,.own 30004,.own 30005,.own 30006,.own 30007,.own 30008,.own 30009]),(100000,.cells tj [mE,ju,dc,mE,v2,v2,v2,v2,v2,v2,v2,ju,.own 100002]),(100002,HD),(30000,gB),(30001,gB),(30002,gB),(30003,gB),(30004,gB),(30005,gB),(30006,gB),(30007,gB),(30008,gB),(30009,gB)] L (J [(6,.aK 17 0)] kO (S L (B (aj [(1,dc),(6,.aK 17 0),(21,ju),(22,v2),(23,v2)] kO (S L (S eW (J [(1,dc),(6,.aK 17 0),(21,ju),(22,v2),(23,v2)] kO (B (S L (.split 8 4 10 L))) L)))))) (J [(6,.aK 17 0)] kO (S L (B (.pq (.num 57 0 (S L (S eW (J oV kO (B (S L (S L (S L (B (aj [(6,.aK 17 0),(10,.own 30000),(56,.iS [30000,30001,30002,30003,30004,30005,30006,30007,30008,30009]),(57,v2),(62,.own 30000),(63,v2),(64,v2)] kO (S L (S eW (S (B (S L (S L (J [(6,.aK 17 0),(10,.own 30000),(11,v2),(12,.aK 12 0),(13,v2),(56,.iS [30000,30001,30002,30003,30004,30005,30006,30007,30008,30009]),(57,v2),(62,.own 30000),(63,v2),(64,v2)] vi ax bO)))) L))))))))) L)))) (.pq (.num 57 1 (S L (S eW (J oV kO (B (S L (S L (S L (B (aj [(6,.aK 17 0),(10,.own 30001),(56,.iS [30000,30001,30002,30003,30004,30005,30006,30007,30008,30009]),(57,v2),(62,.own 30001),(63,v2),(64,v2)] kO (S L (S eW (S (B (S L (S L (J [(6,.aK 17 0),(10,.own 30001),(11,v2),(12,.aK 12 0),(13,v2),(56,.iS [30000,30001,30002,30003,30004,30005,30006,30007,30008,30009]),(57,v2),(62,.own 30001),(63,v2),(64,v2)] vi ax bO)))) L))))))))) L)))) (.pq (.num 57 2 (S L (S eW (J oV kO (B (S L (S L (S L (B (aj [(6,.aK 17 0),(10,.own 30002),(56,.iS [30000,30001,30002,30003,30004,30005,30006,30007,30008,30009]),(57,v2),(62,.own 30002),(63,v2),(64,v2)] kO (S L (S eW (S (B (S L (S L (J [(6,.aK 17 0),(10,.own 30002),(11,v2),(12,.aK 12 0),(13,v2),(56,.iS [30000,30001,30002,30003,30004,30005,30006,30007,30008,30009]),(57,v2),(62,.own 30002),(63,v2),(64,v2)] vi ax bO)))) L))))))))) L)))) (.pq (.num 57 3 (S L (S eW (J oV kO (B (S L (S L (S L (B (aj [(6,.aK 17 0),(10,.own 30003),(56,.iS [30000,30001,30002,30003,30004,30005,30006,30007,30008,30009]),(57,v2),(62,.own 30003),(63,v2),(64,v2)] kO (S L (S eW (S (B (S L (S L (J [(6,.aK 17 0),(10,.own 30003),(11,v2),(12,.aK 12 0),(13,v2),(56,.iS [30000,30001,30002,30003,30004,30005,30006,30007,30008,30009]),(57,v2),(62,.own 30003),(63,v2),(64,v2)] vi ax bO)))) L))))))))) L)))) (.pq (.num 57 4 (S L (S eW (J oV kO (B (S L (S L (S L (B (aj [(6,.aK 17 0),(10,.own 30004),(56,.iS [30000,30001,30002,30003,30004,30005,30006,30007,30008,30009]),(57,v2),(62,.own 30004),(63,v2),(64,v2)] kO (S L (S eW (S (B (S L (S L (J [(6,.aK 17 0),(10,.own 30004),(11,v2),(12,.aK 12 0),(13,v2),(56,.iS [30000,30001,30002,30003,30004,30005,30006,30007,30008,30009]),(57,v2),(62,.own 30004),(63,v2),(64,v2)] vi ax bO)))) L))))))))) L)))) (.pq (.num 57 5 (S L (S eW (J oV kO (B (S L (S L (S L (B (aj [(6,.aK 17 0),(10,.own 30005),(56,.iS [30000,30001,30002,30003,30004,30005,30006,30007,30008,30009]),(57,v2),(62,.own 30005),(63,v2),(64,v2)] kO (S L (S eW (S (B (S L (S L (J [(6,.aK 17 0),(10,.own 30005),(11,v2),(12,.aK 12 0),(13,v2),(56,.iS [30000,30001,30002,30003,30004,30005,30006,30007,30008,30009]),(57,v2),(62,.own 30005),(63,v2),(64,v2)] vi ax bO)))) L))))))))) L)))) (.pq (.num 57 6 (S L (S eW (J oV kO (B (S L (S L (S L (B (aj [(6,.aK 17 0),(10,.own 30006),(56,.iS [30000,30001,30002,30003,30004,30005,30006,30007,30008,30009]),(57,v2),(62,.own 30006),(63,v2),(64,v2)] kO (S L (S eW (S (B (S L (S L (J [(6,.aK 17 0),(10,.own 30006),(11,v2),(12,.aK 12 0),(13,v2),(56,.iS [30000,30001,30002,30003,30004,30005,30006,30007,30008,30009]),(57,v2),(62,.own 30006),(63,v2),(64,v2)] vi ax bO)))) L))))))))) L)))) (.pq (.num 57 7 (S L (S eW (J oV kO (B (S L (S L (S L (B (aj [(6,.aK 17 0),(10,.own 30007),(56,.iS [30000,30001,30002,30003,30004,30005,30006,30007,30008,30009]),(57,v2),(62,.own 30007),(63,v2),(64,v2)] kO (S L (S eW (S (B (S L (S L (J [(6,.aK 17 0),(10,.own 30007),(11,v2),(12,.aK 12 0),(13,v2),(56,.iS [30000,30001,30002,30003,30004,30005,30006,30007,30008,30009]),(57,v2),(62,.own 30007),(63,v2),(64,v2)] vi ax bO)))) L))))))))) L)))) (.pq (.num 57 8 (S L (S eW (J oV kO (B (S L (S L (S L (B (aj [(6,.aK 17 0),(10,.own 30008),(56,.iS [30000,30001,30002,30003,30004,30005,30006,30007,30008,30009]),(57,v2),(62,.own 30008),(63,v2),(64,v2)] kO (S L (S eW (S (B (S L (S L (J [(6,.aK 17 0),(10,.own 30008),(11,v2),(12,.aK 12 0),(13,v2),(56,.iS [30000,30001,30002,30003,30004,30005,30006,30007,30008,30009]),(57,v2),(62,.own 30008),(63,v2),(64,v2)] vi ax bO)))) L))))))))) L)))) (.pq (.num 57 9 (S L (S eW (J oV kO (B (S L (S L (S L (B (aj [(6,.aK 17 0),(10,.own 30009),(56,.iS [30000,30001,30002,30003,30004,30005,30006,30007,30008,30009]),(57,v2),(62,.own 30009),(63,v2),(64,v2)] kO (S L (S eW (S (B (S L (S L (J [(6,.aK 17 0),(10,.own 30009),(11,v2),(12,.aK 12 0),(13,v2),(56,.iS [30000,30001,30002,30003,30004,30005,30006,30007,30008,30009]),(57,v2),(62,.own 30009),(63,v2),(64,v2)] vi ax bO)))) L))))))))) L)))) (.pq (.num 57 10 (S L (S eW L))) L))))))))))))) aV)))) H.RS
def U9(f:Nat):cW:=⟨⟨[(0,.aK 100000 0),(1,.val fl)],[(100000,.cells tj [.val r8,.val pz,.val fl,.val r8,.val t2,.val t2,.val t2,.val t2,.val t2,.val t2,.val t2,.val pz,.own 100002]),(100002,.bu q7)]⟩,⟨[],[(100000,.cells tj [.val r8,.val pz,.val fl,.val r8,.val t2,.val t2,.val t2,.val t2,.val t2,.val t2,.val t2,.val pz,.own 100002]),(100002,.bu q7)]⟩,[],2,H.Af f⟩
theorem aiU:∀f,di Tryz.prog Bd 158 (U9 f)
 |0=>Qh func158 H.atG
 |f+1=>eD DV [(158,.fr (U9 f)),(212,.fr aiT)] ⟨aiU f,aEf,trivial⟩ func158 (S L (S (S L (C (J [] aio (S L ax) L) L)) (S L (B (aj [(0,.aK 100000 0),(1,dc),(4,v2),(7,v2)] aio hf))))) (H.atJ f)
def aEg:=pC DV (HK.u [(156,1)] [] trivial) [(154,.fr aiO),(155,.fr aiP),(158,.fr (U9 5))] ⟨aD_,aD',aiU 5,trivial⟩ func74 H.x5 (S L (S jK (S L (S L (S L (J [(7,.aK 15 0)] [(15,.cells tj [mE,ju,dc,mE,v2,v2,v2,v2,v2,v2,v2,.sub 50200,.own 30000]),(50200,pR),(30000,HD)] bO jT)))))) H.atM
def aEh:=mk aEg func77 H.CV (S L (J [(4,.aK 4 0),(5,v4)] [(4,vg)] (S L (B (aj aib [(4,vg)] (S L (S eW (J aib [(4,vg)] (B (S L (S L (B (S L (C L ax)))))) L)))))) aV)) H.atN
def aEi:=k1 aEh [] func152 H.CZ 1 aU H.aua
def aEj:=k1 aEi [(152,1)] func150 H.R2 1 aU H.aub (hc:=λx h=>by obtain⟨_,f,aw,_⟩:=h;exact uz ⟨trivial,tk aw⟩)
def U_:=mk aEj func89 H.qp (S L (S L (J [(7,v2)] [] (S L (B (aj [(1,v2),(2,v2),(7,v2),(14,mE),(15,v2),(16,v2)] [] fR))) aV))) H.as3
def aiV:cW:=⟨⟨[(0,.ia),(1,.eI q7),(2,.eI xE),(1000000,.tr (.ar kq t2))],[]⟩,⟨[(1000000,.tr (.ar kq t2))],[]⟩,[],3,(H.Ks H.qp.sh)⟩
theorem aEk:di Tryz.prog dY 159 aiV:=eD (S:=(H.Ks H.qp.sh)) U_ [] trivial func159 (S L (B (aj ah0 [] (S L (S eW (J ah0 [] (B (S L (S L (B (aj [(0,.ia),(2,.eI xE),(5,HE),(6,v2),(10,ahL),(11,v2),(1000000,.tr (.ar kq t2))] [] (S ax (S (B ax) L))))))) L)))))) (λx=>le_refl _)
theorem aEl:yN Tryz.prog 159 ⟨[q7,xE],(.ar kq t2),H.uW⟩:=P3 (c:=aiV) aEk lX (λx l L=>(l,x.1.getD none,x.2.getD none,(l,L,[],false),())) rfl (by decide) (by simp[hI])
 (λx l L i al=>by
  obtain⟨T,be⟩:=al;obtain⟨t,b,E,M,aq,_⟩:=be;obtain⟨kD,p2⟩:=x;change kD=some (some t) at E;change p2=some (some b) at M;subst E;subst M;by_cases aZ:i=0
  ·subst aZ;exact .inr (.inr (.inl ⟨rfl,rfl⟩))
  ·by_cases E:i=1
   ·subst E;exact .inr (.inl ⟨by decide,by decide,_,_,rfl,rfl⟩)
   by_cases ai:i=2
   ·subst ai;exact .inr (.inl ⟨by decide,by decide,_,_,rfl,rfl⟩)
   by_cases M:i=cw
   ·subst M;exact .inr (.inr (.inr ⟨rfl,rfl⟩))
   ·refine .inl ?_;exact (if_neg aZ).trans ((if_neg E).trans ((if_neg ai).trans (if_neg M))))
 rfl (λbG=>⟨_,_,_,_,rfl⟩) (λx l al=>by
  obtain⟨T,be⟩:=al;obtain⟨t,b,E,M,aq,_⟩:=be;obtain⟨kD,p2⟩:=x;change kD=some (some t) at E;change p2=some (some b) at M;subst E;subst M;have h:=H.atT l t b aq;refine⟨h.1,λbG hh eo fI p eG=>?_⟩;have e:aO.tr bG.1.1 (.ar kq t2) bG.1.2.1 bG.1.2.2.1 bG.1.2.2.2=.tr eo (.ar kq t2) fI p false:=eG;injection e with ax aU cD eZ fR
  rw[<-eZ];exact h.2 bG hh fR)
def aEm:=pC U_ (U_.u [] [(159,⟨[q7,xE],(.ar kq t2),H.uW⟩)] ⟨aEl,trivial⟩) [] trivial func79 H.CW aU H.atX
def aEn:=k1 aEm [] func153 H.R3 1 (S L (S (S L (B (cC [(2,.eI t2),(3,.eI P'),(5,.aK 5 0),(6,.aK 6 0)] [(5,.cells t2 [v2]),(6,.cells t4 [v4])] [(2,.eI t2),(3,.eI P'),(5,.aK 100005 0),(6,.aK 100006 0),(12,ahI),(13,v2)] [(100005,.cells t2 [v2]),(100006,.cells t4 [v4])] [] [(100005,.cells t2 [v2]),(100006,.cells t4 [v4])] aV (B bO)))) aV)) H.auc (hc:=λx h=>by obtain⟨_,_,_,_,rfl,_⟩:=h;exact uz ⟨⟨⟨trivial,rfl⟩,rfl⟩,rfl⟩)
def aEo:=nA aEn [(150,1),(153,1)] func70 H.C0 (S L (S L (S bO jT))) H.aud
def aEp:=mk aEo func71 H.Ah aU H.auf
def aEq:=nA aEp [] func34 H.xW aU H.aug
def aEr:=mk aEq func199 aj.AS (S L (S bO (S L (J [(3,.own 3)] [(3,a9)] (S L (B (aj [(3,.own 3),(9,dc),(10,v2),(11,v2)] [(3,a9)] fR))) aV)))) aj.ayY
def aEs:=mk aEr func198 aj.sF MT aj.ayZ
def aiW:=mk aEs func197 aj.AT aU aj.ay0
def aEt:cW:=mF (aj.gj 1 aj.TN)
theorem aEu:di Tryz.prog dY 122 aEt:=eD aiW [] trivial func122 aU aj.ay5
def aEv:=mk aiW func73 H.qq jT H.as5
def aEw:=k1 aEv [] func72 H.Ai 1 aU H.auh
def aiX:=nA aEw [(72,1)] func35 H.xX aU H.auj
def aEx:cW:=mF (aj.gj 1 aj.TO)
theorem aEy:di Tryz.prog dY 123 aEx:=eD aiX [] trivial func123 aU aj.ay6
def aEz:=k1 aiX [] func75 H.R4 1 aU H.auk
def aEA:=k1 aEz [] func78 H.R5 1 (S L (S L (S (S L (B (cC [(2,.eI t2),(3,.eI o6),(7,.aK 7 0)] [(7,.cells t2 [v2])] [(2,.eI t2),(3,.eI o6),(7,.aK 100007 0),(13,ahI),(14,v2)] [(100007,.cells t2 [v2])] [] [(100007,.cells t2 [v2])] aV (B ax)))) aV))) H.aul (hc:=λx h=>by obtain⟨_,_,_,_,rfl,_⟩:=h;exact uz ⟨⟨⟨trivial,rfl⟩,rfl⟩,rfl⟩)
def aiY:=nA aEA [(75,1),(78,1)] func36 H.xZ Bb H.auo
def aEB:cW:=mF (aj.gj 1 aj.TP)
theorem aEC:di Tryz.prog dY 124 aEB:=eD aiY [] trivial func124 aU aj.ay7
def aED:=mk aiY func81 H.zZ aU H.ar6
def aEE:=k1 aED [] func80 H.C2 1 aU H.adC
def aEF:=mk aEE func83 H.Aj (S L (S L (S L (J [(6,.aK 6 0),(8,.aK 8 0),(9,v4)] [(6,A9),(8,A9)] (S L (B (aj ah2 [(6,A9),(8,A9)] (S L (S eW (J ah2 [(6,A9),(8,A9)] qL L)))))) aV)))) H.auq
def aEG:=k1 aEF [] func82 H.R9 1 (S L (S L (J [(6,v2)] [] (S L (B (aj [(0,ahK),(1,.eI t2),(2,.eI o6),(6,v2),(10,v2)] [] (S L (S eW (J [(0,ahK),(1,.eI t2),(2,.eI o6),(6,v2),(10,v2)] [] Bc L)))))) aV))) H.aut (hc:=λx h=>by obtain⟨_,_,_,rfl,_⟩:=h;exact uz ⟨⟨trivial,rfl⟩,rfl⟩)
def aiZ:=nA aEG [(80,1),(82,1)] func37 H.x1 Bb H.auv
def aEH:cW:=mF (aj.gj 1 aj.TQ)
theorem aEI:di Tryz.prog dY 125 aEH:=eD aiZ [] trivial func125 aU aj.ay8
def U':=k1 aiZ [] func84 H.Sa 1 aU H.auA (hc:=λx h=>by obtain⟨a,b,aw⟩:=h;exact uz ⟨⟨trivial,tk (congrArg (λo=>o.1) aw)⟩,tk (congrArg (λo=>o.2) aw)⟩)
def ai0:cW:=⟨⟨[(0,.ia),(1,.eI J0),(1000000,.tr t2)],[]⟩,⟨[(1000000,.tr t2)],[]⟩,[],2,H.Rh⟩
theorem aEJ:di Tryz.prog dY 162 ai0:=eD (S:=H.Rh) U' [] trivial func162 (S L (B (aj [(0,.ia),(5,.la 5),(1000000,.tr t2)] [(5,.cO t2 t2)] (S L (S eW qL))))) (λx=>le_refl _)
theorem aEK:yN Tryz.prog 162 ⟨[J0],t2,H.k3⟩:=P3 (c:=ai0) aEJ lX (λx l L=>(l,x.getD [],(l,L,[],false),())) rfl (by decide) (by simp[hI])
 (λx l L i al=>by
  obtain⟨T,be⟩:=al;obtain⟨m,hm,_⟩:=be;subst hm;by_cases aZ:i=0
  ·subst aZ;exact .inr (.inr (.inl ⟨rfl,rfl⟩))
  ·by_cases E:i=1
   ·subst E;exact .inr (.inl ⟨by decide,by decide,_,_,rfl,rfl⟩)
   by_cases M:i=cw
   ·subst M;exact .inr (.inr (.inr ⟨rfl,rfl⟩))
   ·refine .inl ?_;exact (if_neg aZ).trans ((if_neg E).trans (if_neg M)))
 rfl (λbG=>⟨_,_,_,_,rfl⟩) (λx l al=>by
  obtain⟨T,be⟩:=al;obtain⟨m,hm,_⟩:=be;subst hm;have h:=H.atO l m;refine⟨h.1,λbG hh eo fI p eG=>?_⟩;have e:aO.tr bG.1.1 t2 bG.1.2.1 bG.1.2.2.1 bG.1.2.2.2=.tr eo t2 fI p false:=eG;injection e with ax aU cD eZ fR
  rw[<-eZ];exact h.2 bG hh fR)
def aEL:=pC U' (U'.u [] [(162,⟨[J0],t2,H.k3⟩)] ⟨aEK,trivial⟩) [] trivial func87 H.KB aU H.asD
def ai1:=nA aEL [(84,1)] func38 H.x2 (S L (S L (S bO (S L (J [(10,.gE 24)] [(24,.mp t2 t2)] (S L (B (aj ah3 [(4,.hR t2),(5,.hR t2),(24,.mp t2 t2)] (S L (S eW (J ah3 [(4,.hR t2),(5,.hR t2),(24,.mp t2 t2)] Bc L)))))) aV))))) H.auB
def aEM:cW:=mF (aj.gj 2 aj.TR)
theorem aEN:di Tryz.prog dY 126 aEM:=eD ai1 [] trivial func126 (S L (S L (S bO qK))) aj.ay9
def aEO:=k1 ai1 [] func88 H.C2 1 aU H.aus
def ai2:=nA aEO [(88,1)] func39 H.x4 (S L (S L (S bO (J [(4,.own 4),(5,.own 5)] [(4,a2),(5,a2)] (S L (B (aj ah4 DT (S L (S eW (J ah4 DT (B (S L (S L (J ahX DT (S L (B (aj ahT DT (S L (S eW (J ahT DT Bc L)))))) (J ahX DT ax ax))))) L)))))) aV)))) H.auF
def aEP:cW:=mF (aj.gj 1 aj.TS)
theorem aEQ:di Tryz.prog dY 127 aEP:=eD ai2 [] trivial func127 (S L jT) aj.ay_
def aER:=mk ai2 func143 tv rD avW
def aES:=k1 aER [] func142 GQ 1 aU avX (hc:=λx h=>by obtain⟨i,w,n,aw,_⟩:=h;exact uz ⟨⟨⟨trivial,tk (congrArg (λo=>o.1) aw)⟩,tk (congrArg (λo=>o.2.1) aw)⟩,tk (congrArg (λo=>o.2.2) aw)⟩)
def aET:=nA aES [(142,1)] func63 Db (S L (S jK (S bO (S L (J [(7,.aK 22 0)] [(22,.cells zO [v22,o1,v2,rB,.own 61]),(61,sJ)] (S L (B (aj [(2,.aK 2 0),(7,.aK 22 0),(24,v22),(25,v2),(26,v2)] aip (S L (S eW (J [(2,.aK 2 0),(7,.aK 22 0),(24,v22),(25,v2),(26,v2)] aip (B (S L (S L (J [(2,.aK 2 0),(7,.aK 22 0),(10,.own 10),(24,v22),(25,v2),(26,v2)] [(2,.hR oE),(10,a2),(22,.cells zO [v22,o1,v2,rB,.own 61]),(61,sJ)] (S L (B (aj ahS [(2,.hR oE),(8,.hR t2),(9,ahN),(10,a2),(11,.cells t2 [v2]),(22,.cells zO [v22,o1,v2,rB,.own 61]),(61,sJ)] (S ax (J ahS [(2,.hR oE),(8,.hR t2),(9,ahN),(10,a2),(11,.hR t2),(22,.cells zO [v22,o1,v2,rB,.own 61]),(61,sJ)] qL (S aV L)))))) (S bO L))))) L)))))) aV))))) av0
def F8:=mk aET func24 C_ Bb av7
def DW:cW:=⟨⟨[(0,.val t32)],[]⟩,⟨[(0,.val t22),(1,.val xB),(2,.val t2),(3,.own 28),(4,.own 11),(5,.own 16),(6,.own 20),(7,.own 24),(8,.val t2)],[(28,.bu xC),(11,.bu t2),(16,.bu wj),(20,.bu ti),(24,.bu q6)]⟩,[some 9],1,aj.tK⟩
theorem HL:di Tryz.prog dY 118 DW:=eD F8 [(188,UZ),(189,U0),(190,U1),(191,.fr U2),(192,U3),(193,U4),(194,MU),(195,U6)] ⟨aiD,aiE,aiF,aiG,aiJ,aiK,U5,aiL,trivial⟩ func118 Ek aj.azf
def aEU:cW:=mF (aj.gj 4 aj.tJ)
theorem aEV:di Tryz.prog dY 128 aEU:=eD F8 [(118,.fr DW)] ⟨HL,trivial⟩ func128 (S L (S L (S L (S L (S bO (S jK aU)))))) aj.azj
def aEW:=mk F8 func146 yf MT av1
def aEX:=mk aEW func66 K9 (S L (S L (J [(0,ahH),(1,v2),(9,v2)] [] (S L (B (aj ah7 [] (S L (S eW (J ah7 [] qL L)))))) aV))) av5
def tm:=mk aEX func23 tx (S L jT) av9
def aEY:cW:=mF (aj.gj 3 aj.TT)
theorem aEZ:di Tryz.prog dY 129 aEY:=eD tm [] trivial func129 (S L jT) aj.SE
def HM:cW:=⟨⟨[(0,.aK 100000 0),(1,.val t32)],[(100000,.gI r9)]⟩,⟨[(0,.val t9)],[(100000,.gI r9)]⟩,[none],2,aj.yy⟩
theorem MW:di Tryz.prog dY 200 HM:=eD tm [] trivial func200 (S L (S bO aU)) aj.azh
def aE0:cW:=mF (aj.gj 2 aj.AP)
theorem aE1:di Tryz.prog dY 130 aE0:=eD tm [(118,.fr DW),(200,.fr HM)] ⟨HL,MW,trivial⟩ func130 Bb aj.azk
def aE2:cW:=mF (aj.gj 3 aj.TU)
theorem aE3:di Tryz.prog dY 131 aE2:=eD tm [(118,.fr DW),(200,.fr HM)] ⟨HL,MW,trivial⟩ func131 vj aj.azl
def aE4:cW:=mF (aj.gj 4 aj.TV)
theorem aE5:di Tryz.prog dY 132 aE4:=eD tm [(118,.fr DW),(200,.fr HM)] ⟨HL,MW,trivial⟩ func132 vj aj.azm
def aE6:cW:=mF (aj.gj 5 aj.TW)
theorem aE7:di Tryz.prog dY 133 aE6:=eD tm [(118,.fr DW),(200,.fr HM)] ⟨HL,MW,trivial⟩ func133 vj aj.azn
def ai3:cW:=⟨⟨[(0,.own 200001),(1,.val t3),(2,.val t3)],[(200001,.bu ti)]⟩,⟨[(0,.sub 200001)],[(200001,.bu ti)]⟩,[none],3,(aj.Mg aj.T4)⟩
theorem aE8:di Tryz.prog dY 201 ai3:=eD tm [] trivial func201 (S L (S L (S bO vj))) (aj.aze aj.T4)
def aE9:cW:=mF (aj.gj 1 aj.wV)
theorem aE_:di Tryz.prog dY 134 aE9:=eD tm [(194,MU),(201,.fr ai3)] ⟨U5,aE8,trivial⟩ func134 (S L (S bO (S .I8 aV))) aj.azo
def aE':=mk tm func217 u2 (S L (S L (S L (S L (S L (S L (S L (S L vj)))))))) awz
def aFa:=mk aE' func165 u2 (S L (S (C aU L) aU)) (awB (λ_=>eu))
def aFb:=mk aFa func163 Lj (S L (J [(0,mE),(1,v2)] [] ax (S L (J [(0,mE),(6,v228)] [] ax (S L (S L (J [(7,.own 30)] [(30,MK)] (B (aj [(7,.own 30),(8,v2)] [(30,MK)] (S ax (B L)))) aV))))))) awJ
def aFc:=mk aFb func90 Dg (S L (S jK (S bO (S L (J [(2,.aK 2 0),(7,.aK 30 0)] yG (S L (C jK L)) (J [(2,.aK 2 0),(7,.aK 30 0)] yG (S L (B (aj [(2,.aK 2 0),(7,.aK 30 0),(46,v2),(47,v2)] yG (S L (S eW (J [(2,.aK 2 0),(7,.aK 30 0),(46,v2),(47,v2)] yG (B (S L (S L (B (aj ahY yG (S L (S eW (J ahY yG (B (S L (S L (B (aj ahU yG (S L (S eW (J ahU yG Bc L)))))))) L)))))))) L)))))) (J [(2,.aK 2 0),(7,.aK 30 0)] aim (S L (B (aj [(2,.aK 2 0),(7,.aK 30 0),(92,dc),(93,v2),(94,v2)] aim fR))) (J [(7,.aK 30 0)] ain (S L (B (aj [(7,.aK 30 0),(114,o2),(115,v2),(116,v2)] ain fR))) aV)))))))) awX
def ai4:=mk aFc func91 Dd aU awK
def ai5:cW:=⟨⟨[(0,.val fl),(1,.val t3)],[]⟩,⟨[(0,.own 30)],[(30,.bu t3)]⟩,[none],2,yi⟩
theorem aFd:di Tryz.prog dY 92 ai5:=eD ai4 [] trivial func92 UU ae8
def aFe:=mk ai4 func168 qz (S L aix) awO
def ai6:=mk aFe func96 Lo (S L (S L (J [(6,.own 6)] [(6,rC)] (S L (B (aj [(0,l9),(6,.own 6),(14,dc),(15,v2),(16,v2)] [(6,rC)] (S L (S eW (J [(0,l9),(6,.own 6),(14,dc),(15,v2),(16,v2)] [(6,rC)] (B (S L (S ax (S L (S L (J [(0,l9),(6,.own 6),(10,.aK 10 0),(11,v2),(14,dc),(15,v2),(16,v2)] [(6,rC),(10,A8)] (S L (B (S L (C aV ax)))) (S bO (S L (B (aj [(0,l9),(6,.own 6),(10,.aK 10 0),(11,v2),(14,dc),(15,v2),(16,v2),(58,dc),(59,v2),(60,v2)] [(6,rC),(10,A8)] fR)))))))))) L)))))) aV))) aw6
def ai7:cW:=⟨⟨[(0,.val fl),(1,.val t2)],[]⟩,⟨[(0,.own 30)],[(30,.bu t2)]⟩,[none],2,yi⟩
theorem aFf:di Tryz.prog dY 92 ai7:=eD ai6 [] trivial func92 UU ae8
def ai8:=mk ai6 func169 Dn aU axm
def Va(f:Nat):cW:=⟨⟨[(0,.val qh),(1,.own 200001),(2,.val wk),(3,.val t2),(4,.gE 100002)],[(100002,.mp t2 t2),(200001,.bu t2)]⟩,⟨[(0,.val t4)],[(100002,.mp t2 t2),(200001,.bu t2)]⟩,[none],5,wS f⟩
theorem ai9:∀f,di Tryz.prog dY 170 (Va f)
 |0=>Qh func170 axw
 |f+1=>eD ai8 [(170,.fr (Va f))] ⟨ai9 f,trivial⟩ func170 (S L (J [] UT (S L (B (aj ahW UT (S L (S eW (J ahW UT (B (S L (S ax (S L (S L (C aU L)))))) L)))))) aV)) (axv f)
def aFg:=pC ai8 lX [(92,.fr ai7),(170,.fr (Va 201))] ⟨aFf,ai9 201,trivial⟩ func98 Lx (S L (S L (S L (J [(6,v2)] [] (S L (B (aj aic [(50140,a2)] (S L (S eW (J aic [(50140,a2)] qL L)))))) aV)))) axy
def aFh:=mk aFg func93 AF rD axz
def ai_:=pC aFh lX [(92,.fr ai5)] ⟨aFd,trivial⟩ func40 LH (S L (S L (S bO (S L (S L (J [(8,.own 8)] [(8,a2)] (S L (B (aj ah9 [(8,a2),(50260,a2)] (S L (S eW (J ah9 [(8,a2),(50260,a2)] Bc L)))))) aV)))))) axS
def aFi:cW:=mF (aj.gj 1 aj.TX)
theorem aFj:di Tryz.prog dY 135 aFi:=eD ai_ [] trivial func135 rD aj.ay'
def aFk:=mk ai_ func181 De aU awM
def aFl:=mk aFk func108 As (S L (J [(1,dc),(2,.aK 2 0)] [(2,jt)] (S L (B (aj [(1,dc),(2,.aK 2 0),(7,dc),(8,v2),(9,v2)] [(2,jt)] eZ))) aV)) awQ
def aFm:=mk aFl func109 yn (S L (J [(4,v2)] [] (S L (B (aj [(0,l9),(4,v2),(7,dc),(8,v2),(9,v2)] [] (S L (S eW (J [(0,l9),(4,v2),(7,dc),(8,v2),(9,v2)] [] qL L)))))) aV)) aw8
def ai':=mk aFm func49 LI (S L (S L (S bO qK))) axT
def aFn:cW:=mF (aj.gj 0 aj.TY)
theorem aFo:di Tryz.prog dY 136 aFn:=eD ai' [(192,.fr aiH)] ⟨aiI,trivial⟩ func136 (S L (S L (J [(0,.aK 100000 0),(5,.own 50100)] [(50100,a2),(100000,HB)] (S L (B (aj [(0,.aK 100000 0),(5,.own 50100),(12,v2),(13,v2)] [(50100,a2),(100000,HB)] fR))) aU))) aj.aza
def Vb:=mk ai' func92 Lh UU awI
def MX(f:Nat):cW:=⟨⟨[(0,.val qh),(1,.val fl),(2,.val t2),(3,.ia),(1000000,.tr fl)],[]⟩,⟨[(0,.val t4),(1000000,.tr fl)],[]⟩,[none],4,tE f⟩
theorem Vc:∀f,di Tryz.prog dY 167 (MX f)
 |0=>Qh func167 axI
 |f+1=>eD Vb [(167,.fr (MX f))] ⟨Vc f,trivial⟩ func167 (S L (S L (S bO (J [(0,l9),(1,dc),(2,v2),(3,.ia),(9,v2),(1000000,.tr fl)] [] (S L (B (aj ahV [] (S L (S eW (J ahV [] (B (S L (S ax bO))) L)))))) aV)))) (axH f)
def aja:cW:=⟨⟨[(0,.val qh),(1,.ia),(1000000,.tr fl)],[]⟩,⟨[(1000000,.tr fl)],[]⟩,[],2,(Km (tE 10))⟩
theorem aFp:di Tryz.prog dY 218 aja:=eD (S:=(Km (tE 10))) Vb [(167,.fr (MX 10))] ⟨Vc 10,trivial⟩ func218 L (λx=>le_refl _)
def MY:BS:=⟨qh,fl,AG,Lz⟩
theorem aFq:Fm Tryz.prog 218 MY:=YJ (c:=aja) aFp lX (ic:=MY) (λx l L=>(x,l,(l,L,[],false),())) rfl (by decide) (by simp[MY])
 (λx l L i=>by
  by_cases aZ:i=0
  ·subst aZ;exact .inr (.inl ⟨by decide,rfl⟩)
  ·by_cases E:i=1
   ·subst E;exact .inr (.inr (.inl ⟨rfl,rfl⟩))
   ·by_cases M:i=cw
    ·subst M;exact .inr (.inr (.inr ⟨rfl,rfl⟩))
    ·refine .inl ?_;exact (if_neg aZ).trans ((if_neg E).trans (if_neg M)))
 rfl (λbG=>⟨_,_,_,_,rfl⟩) (λx l aq=>by
  obtain⟨s,az,ab⟩:=aq;subst az;have h:=axJ s ab l;refine⟨h.1,λbG hh eo fI n eG=>?_⟩;have e:aO.tr bG.1.1 fl bG.1.2.1 bG.1.2.2.1 bG.1.2.2.2=.tr eo fl fI n false:=eG;injection e with ax aU cD eZ fR
  exact eZ.symm.trans ((h.2 bG hh).2.2 fR))
def aFr:=pC Vb lX [(218,.cO MY)] ⟨aFq,trivial⟩ func166 Tu (S L (S L (S (S L (B (cC [(1,.aK 1 0),(3,.aK 3 0)] [(1,.cells qh [l9]),(3,.cells fl [dc])] [(1,.aK 100001 0),(3,.aK 100003 0),(15,dc)] [(100001,.cells qh [l9]),(100003,.cells fl [dc])] [] [(100001,.cells qh [l9]),(100003,.cells fl [dc])] L (B ax)))) aV))) axO
def aFs:=mk aFr func94 Tv (S L jT) axP
def Vd:=mk aFs func41 LD aU axQ
def aFt:cW:=mF (aj.gj 0 aj.TZ)
theorem aFu:di Tryz.prog dY 137 aFt:=eD Vd [] trivial func137 rD aj.azb
def ajb:cW:=⟨⟨[(0,.val qh),(1,.ia),(1000000,.tr fl)],[]⟩,⟨[(1000000,.tr fl)],[]⟩,[],2,(Kn (tE 10))⟩
theorem aFv:di Tryz.prog dY 95 ajb:=eD (S:=(Kn (tE 10))) Vd [(167,.fr (MX 10))] ⟨Vc 10,trivial⟩ func95 L (λx=>le_refl _)
def MZ:BS:=⟨qh,fl,AG,Tr⟩
theorem aFw:Fm Tryz.prog 95 MZ:=YJ (c:=ajb) aFv lX (ic:=MZ) (λx l L=>(x,l,(l,L,[],false),())) rfl (by decide) (by simp[MZ])
 (λx l L i=>by
  by_cases aZ:i=0
  ·subst aZ;exact .inr (.inl ⟨by decide,rfl⟩)
  ·by_cases E:i=1
   ·subst E;exact .inr (.inr (.inl ⟨rfl,rfl⟩))
   ·by_cases M:i=cw
    ·subst M;exact .inr (.inr (.inr ⟨rfl,rfl⟩))
    ·refine .inl ?_;exact (if_neg aZ).trans ((if_neg E).trans (if_neg M)))
 rfl (λbG=>⟨_,_,_,_,rfl⟩) (λx l aq=>by
  obtain⟨s,az,ab⟩:=aq;subst az;have h:=axK s ab l;refine⟨h.1,λbG hh eo fI n eG=>?_⟩;have e:aO.tr bG.1.1 fl bG.1.2.1 bG.1.2.2.1 bG.1.2.2.2=.tr eo fl fI n false:=eG;injection e with ax aU cD eZ fR
  exact eZ.symm.trans ((h.2 bG hh).2.2 fR))
def aFx:=mk Vd func97 Tj (S L (J [] [] (S L (B (aj [(0,l9),(9,o2),(10,v2),(11,v2)] [] (S L (S eW (J [(0,l9),(9,o2),(10,v2),(11,v2)] [] (B (S L (S L (J [(0,l9),(7,v4),(9,o2),(10,v2),(11,v2)] [] (S L (B (aj [(0,l9),(6,.aK 6 0),(7,v4),(9,o2),(10,v2),(11,v2),(20,v2),(21,v2)] [(6,aB1)] fR))) bO)))) L)))))) aV)) axo
def Ve:=pC aFx lX [(95,.cO MZ)] ⟨aFw,trivial⟩ func42 LF (S L (S L (S bO (S L (S (S L (B (cC [(4,.aK 4 0),(6,.aK 6 0)] [(4,.cells qh [l9]),(6,.cells t2 [v2])] [(4,.aK 100004 0),(6,.aK 100006 0),(21,dc)] [(100004,.cells qh [l9]),(100006,.cells t2 [v2])] [] [(100004,.cells qh [l9]),(100006,.cells t2 [v2])] L (B (S L (S ax (S L ax))))))) qK))))) axR
def aFy:cW:=mF (aj.gj 0 aj.T0)
theorem aFz:di Tryz.prog dY 138 aFy:=eD Ve [] trivial func138 rD aj.azc
theorem aFA:∀ k∈[119,120,121,122,123,124,125,126,127,128,129,130,131,132,133,134,135,136,137,138],di Tryz.prog dY k {U8 with sh:=aj.Hj k}:=Hn.mem (l:=[119,120,121,122,123,124,125,126,127,128,129,130,131,132,133,134,135,136,137,138]) ⟨aD0,aD2,aD4,aEu,aEy,aEC,aEI,aEN,aEQ,aEV,aEZ,aE1,aE3,aE5,aE7,aE_,aFj,aFo,aFu,aFz,trivial⟩
def ajc:cW:=⟨⟨[(0,.aK 100000 0),(1,.val P_),(2,.val t9)],[(100000,.gI r9)]⟩,⟨[(0,.val t9)],[(100000,.gI r9)]⟩,[none],3,aj.Mo⟩
theorem aFB:di Tryz.prog dY 59 ajc:=eD Ve [(999999,.IT U8 aj.Hj [119,120,121,122,123,124,125,126,127,128,129,130,131,132,133,134,135,136,137,138])] ⟨aFA,trivial⟩ func59 (S L (S L (S L (S jK (S L (J [(0,.aK 100000 0),(8,.aK 8 0),(11,.own 48)] [(8,ahM),(48,a2),(100000,HB)] (S L (B (aj [(0,.aK 100000 0),(8,.aK 8 0),(11,.own 48),(50,sK),(51,v2),(52,v2)] [(8,ahM),(48,a2),(100000,HB)] (S L (S eW (S (B (S L (S L (S bO L)))) L)))))) aV)))))) aj.azt
def xK:=pC Ve lX [(57,.fr aiN),(59,.fr ajc)] ⟨aDZ,aFB,trivial⟩ func20 aj.sH (S L (S jK (S bO (S L (J [(4,.own 4),(5,.aK 5 0),(8,.aK 50230 0)] aik (S L (B (aj [(4,.own 4),(5,.aK 5 0),(8,.aK 50230 0),(9,aB2),(25,sK),(26,v2),(27,v2)] aik fR))) aV))))) aj.azA
def aFC:=mk xK func62 aj.DH (S L (S bO (J [] [] (S L (B (aj [(0,dc),(1,dc),(5,v2)] [] cD))) aV))) aj.azP
def aFD:=mk aFC func60 aj.Mt (S L (S bO (J A' HH (S L (B (aj [(2,.aK 2 0),(3,.aK 3 0),(5,v2)] HH cD))) (J A' HH (S L (B (aj [(2,.aK 2 0),(3,.aK 3 0),(6,v2)] HH cD))) (J [] [] (S L (B (aj UQ HH cD))) aV))))) aj.azQ
def aFE:=mk aFD func61 aj.Mu (S L (S bO (J A' Ba (S L (B (aj [(2,.aK 2 0),(3,.aK 3 0),(5,v2)] Ba cD))) (J A' Ba (S L (B (aj [(2,.aK 2 0),(3,.aK 3 0),(6,v2)] Ba cD))) (J [] [] (S L (B (aj UQ Ba (S ax (J UQ Ba (B (S L (S bO (S L (B (aj [(2,.aK 2 0),(3,.aK 3 0),(7,v2),(8,UJ),(9,UJ),(10,v2)] Ba cD)))))) L))))) aV))))) aj.azR
def Q6:=mk aFE func22 aj.DI (S L (S L (S bO (J [(5,.aK 5 0),(6,.aK 6 0)] HI (S L (B (aj [(5,.aK 5 0),(6,.aK 6 0),(7,v2)] HI wX))) (J [(5,.aK 5 0),(6,.aK 6 0)] HI (S L (B (aj [(5,.aK 5 0),(6,.aK 6 0),(10,v2)] HI wX))) (J [] [] (S L (B (aj [(5,.aK 5 0),(6,.aK 6 0),(13,v2)] HI cD))) aV)))))) aj.azS
def aFF:=mk Q6 func30 aj.DG (S L (S bO (J [] [] (S L (B (aj [(0,sK),(1,sK),(5,v2)] [] cD))) aV))) aj.azO
def aFG:=mk aFF func183 SK aU awf
def aFH:=mk aFG func115 L1 aU ayw
def aFI:=mk aFH func54 aj.Mp aU aj.azB
def aFJ:=mk aFI func29 aj.Hm rD aj.azZ
def aFK:=mk aFJ func173 H.CD (S L (S L (J [(3,.own 3)] [(3,pR)] (S L (B (aj [(0,ju),(3,.own 3),(4,v2)] [(3,pR)] (S ax (J [(0,ju),(3,.own 3),(4,v2)] [(3,pR)] (B (S L (B (aj [(0,ju),(3,.own 3),(4,v2),(5,v2)] [(3,pR)] cD)))) L))))) aV))) H.asI
def aFL:=mk aFK func235 i' aiu ava
def aFM:=mk aFL func174 H.i' aU H.asf
def aFN:=mk aFM func102 H.sD (S L (S jK (S L (S L (S jK (J [(1,ju),(2,dc),(3,.aK 3 0),(6,.aK 6 0),(9,.aK 9 0)] MR (S L (B (aj ah6 MR (S ax (J ah6 MR (B (S L (B (aj [(1,ju),(2,dc),(3,.aK 3 0),(6,.aK 6 0),(9,.aK 9 0),(11,v2),(12,v2)] MR cD)))) L))))) (S L (S L (J [(6,.aK 6 0),(9,.aK 9 0)] [(6,.cells o6 [.bZ,.bZ,.bZ,.bZ,v2,v2,v2,v2,v2,v2,v2]),(9,.cells o6 [mE,ju,.own 82,mE,v2,v2,v2,v2,v2,v2,v2]),(82,a2)] (S L (B (aj aid aij (S ax (J aid aij (B ax) L))))) qK))))))))) H.aBz
def aFO:=mk aFN func175 aj.DN Bb aj.aBL
def aFP:=mk aFO func255 tv rD avr
def aFQ:=mk aFP func182 K1 (S L (J [(1,v2),(2,v2),(3,.aK 3 0)] [(3,qI)] (S L (B (aj [(1,v2),(2,v2),(3,.aK 3 0),(7,v2)] [(3,qI)] wX))) aV)) avu
def aFR:=mk aFQ func114 C7 (S L (S L (J [(5,.own 5)] [(5,a2)] (S L (B (aj [(1,v2),(2,.aK 2 0),(5,.own 5),(6,v2)] [(2,qI),(5,a2)] (S ax (J [(1,v2),(2,.aK 2 0),(5,.own 5),(6,v2)] [(2,qI),(5,a2)] (B ax) L))))) aV))) avw
def aFS:=mk aFR func53 GL (S L (S jK (S bO (J [] [] (S L (B (aj [(2,.aK 2 0),(6,v2)] [(2,qI)] cD))) aV)))) avy
def se:=mk aFS func16 qt aU RM
def ajd:cW:=⟨⟨[(0,.val oE)],[]⟩,⟨[(0,.val t22),(1,.val xB),(2,.val t2),(3,.own 28)],[(28,.bu xC)]⟩,[some 4],1,K'⟩
theorem aFT:di Tryz.prog dY 116 ajd:=eD se [] trivial func116 air awb
def aje:cW:=⟨⟨[(0,.val t32)],[]⟩,⟨[(0,.val t22),(1,.val xB),(2,.val t2),(3,.own 28),(4,.own 11),(5,.own 16),(6,.own 20),(7,.own 24),(8,.val t2)],[(28,.bu xC),(11,.bu t2),(16,.bu wj),(20,.bu ti),(24,.bu q6)]⟩,[some 9],1,aj.tK⟩
theorem aFU:di Tryz.prog dY 55 aje:=eD se [(116,.fr ajd)] ⟨aFT,trivial⟩ func55 (S L (S L (S L (S L (S L (J ah8 US (S L (B (aj MN US hf))) (J A' [(2,.cells t32 [.bZ,.bZ,v2,.bZ,.bZ,.bZ,.bZ,.bZ,v2]),(3,.cells t32 [v22,o1,v2,.own 50090,.own 11,.own 16,.own 20,.own 24,v2]),(11,a2),(16,DP),(20,HA),(24,rC),(50090,yF)] (S L (B (aj ah1 US hf))) aV))))))) aj.aBN
def ajf:=pC se lX [(55,.fr aje)] ⟨aFU,trivial⟩ func176 aj.MI (S L (S L (S L (S bO (S bO aU))))) aj.aBP
def ajg:cW:=⟨⟨[(0,.val t32)],[]⟩,⟨[(0,.val t22),(1,.val xB),(2,.val t2),(3,.val FX),(4,.own 11),(5,.own 16),(6,.own 20),(7,.own 24),(8,.val t2)],[(11,.bu t2),(16,.bu wj),(20,.bu ti),(24,.bu q6)]⟩,[some 9],1,LZ⟩
theorem aFV:di Tryz.prog dY 55 ajg:=eD ajf [] trivial func55 ais ayt
def aFW:=mk ajf func236 aj.MH (S L (S bO aU)) aj.aBM
def aFX:=pC aFW lX [(55,.fr ajg)] ⟨aFV,trivial⟩ func177 aj.Hx (S L (S L (J [(3,.aK 3 0),(6,.aK 6 0),(8,.aK 8 0)] [(3,tN),(6,.cells tQ [.bZ,.bZ,v2,.bZ,.bZ,.bZ,.bZ,.bZ,v2,.bZ,.bZ,.bZ,.bZ,v2,v2,v2,v2,v2,v2,v2]),(8,.cells t32 [v22,o1,v2,rB,.own 50110,.own 50111,A7,.own 50113,v2]),(50110,a2),(50111,DP),(50113,rC)] (S L (B (S L (C (S bO L) (S L (C L (S L (C L (S L (C L (S L (C (S bO L) L)))))))))))) aV))) aj.aBR
def aFY:=mk aFX func45 aj.My (S L (S bO (S L (J [(3,v9)] [] (B (aj [(0,v2),(3,v9)] [] (S ax (B aV)))) aV)))) aj.aAK
def aFZ:=mk aFY func99 aj.A1 (S L (S L (J [(3,v9)] [] (S L (B (aj [(0,dc),(3,v9),(4,v2)] [] (S ax (S (B (J [(0,dc),(3,v9),(4,v2)] [] ax L)) L))))) qK))) aj.aAP
def aF0:=mk aFZ func348 H.xP (S L (S L (S L (J [(3,.own 3)] [(3,pR)] (S L (B (aj [(1,.aK 1 0),(3,.own 3),(4,ju),(5,v2)] [(1,jS),(3,pR)] (S ax (J [(1,.aK 1 0),(3,.own 3),(4,ju),(5,v2)] [(1,jS),(3,pR)] (B ax) L))))) aV)))) H.asK
def aF1:=mk aF0 func349 H.CM (S L (S L (S L (J [(8,.own 8)] [(8,gB)] (S L (B (aj [(1,dc),(2,v2),(8,.own 8),(9,ju),(10,v2)] [(8,gB)] (S ax (J [(1,dc),(2,v2),(8,.own 8),(9,ju),(10,v2)] [(8,gB)] (B (S ax (S L (S L (B (aj [(1,dc),(2,v2),(8,.own 8),(9,ju),(10,v2),(11,v2)] [(8,gB)] hf)))))) L))))) (J [(8,.own 8)] [(8,gB)] (S L (B (aj [(8,.own 8),(12,v2)] [(8,gB)] cD))) aV))))) H.asY
def aF2:=mk aF1 func384 H.KM (S L (S bO (J [(1,dc),(2,.aK 2 0)] [(2,jS)] (S L (B (aj [(1,dc),(2,.aK 2 0),(5,v2)] [(2,jS)] cD))) (J [] [] (S L (B (aj [(1,dc),(2,.aK 2 0),(6,v2)] [(2,jS)] wX))) aV)))) H.atj
def aF3:=ml aF2 func347 (ts:=(.ar o6 fl)) (tr:=xD) (λf=>(H.xU f).pre) (λf=>(H.xU f).g) (λx h=>H.atl x h) (S L (S (S L (C qK L)) (S L (S L (J [(5,.own 5)] [(5,sJ)] (S L (B (aj [(1,dc),(2,.aK 2 0),(5,.own 5),(6,.aK 6 0),(7,v2)] [(2,jS),(5,sJ),(6,vg)] hf))) aV))))) H.atm 5
def aF4:=mk aF3 func299 H.qt (S L (S jK (S bO jT))) H.RM
def aF5:=mk aF4 func345 H.KL (S L (S L (J [] [] (S L (B (aj [(1,v2),(5,ju),(6,v2)] [] cD))) aV))) H.ati
def aF6:=mk aF5 func303 H.qp (S L (S L (J [(7,v2)] [] (S L (B (aj [(1,v2),(2,v2),(3,.aK 3 0),(7,v2),(8,v2)] [(3,jS)] hf))) aV))) H.as2
def aF7:=mk aF6 func346 H.Gr (S L (J [] [] (S L (B (aj [(1,dc),(2,v2),(3,.aK 3 0),(7,v2)] [(3,jS)] (S ax (J [(1,dc),(2,v2),(3,.aK 3 0),(7,v2)] [(3,jS)] (B (S L (S L (B (aj [(1,dc),(2,v2),(3,.aK 3 0),(7,v2),(8,HE),(10,v2)] [(3,jS)] cD))))) L))))) aV)) H.ata
def aF8:=mk aF7 func296 H.CS (S L (S L (S bO (S L (J [(8,.own 8)] [(8,a2)] (S L (B (aj [(1,v2),(2,.aK 2 0),(6,qJ),(8,.own 8),(9,v2)] [(2,jS),(8,a2)] (S ax (J [(1,v2),(2,.aK 2 0),(6,qJ),(8,.own 8),(9,v2)] [(2,jS),(8,a2)] qL L))))) qK))))) H.ato
def aF9:=mk aF8 func297 H.z6 jT H.ase
def aF_:=mk aF9 func237 H.xW (S L (S L (S L (J UO MS (S L (B (aj [(4,.aK 4 0),(6,dc),(7,v2),(8,.aK 8 0),(9,v2)] MS hf))) aV)))) H.atq
def aF':=mk aF_ func243 aj.A2 MT aj.aBI
def aGa:=mk aF' func238 aj.Hp aU aj.aBJ
def aGb:=mk aGa func298 H.qq jT H.as4
def aGc:=mk aGb func239 H.xX (S L (S L (S L (J UO MS (S L (B (aj [(2,.aK 2 0),(4,.aK 4 0),(6,dc),(7,v2),(8,.aK 8 0),(9,v2)] [(2,jS),(4,vg),(8,vg)] hf))) aV)))) H.atr
def aGd:=mk aGc func300 H.KK (S L (S L (S L (J [(8,v2)] [] (S L (B (aj [(1,dc),(2,v2),(3,.aK 3 0),(7,ju),(8,v2),(9,v2)] [(3,jS)] (S ax (J [(1,dc),(2,v2),(3,.aK 3 0),(7,ju),(8,v2),(9,v2)] [(3,jS)] (B (S L (C (S L ax) L))) L))))) aV)))) H.ath
def aGe:=mk aGd func240 H.xZ ait H.ats
def aGf:=mk aGe func302 H.xS (S L (S L (S L (J [(8,v2),(9,v2)] [] (S L (B (aj [(3,v2),(8,v2),(9,v2),(10,HE),(12,v2)] [] (S ax (J [(3,v2),(8,v2),(9,v2),(10,HE),(12,v2)] [] (B (S L (C (S L ax) L))) L))))) aV)))) H.as7
def aGg:=mk aGf func301 H.KI (S L (S L (J [(7,v2)] [] (S L (B (aj [(1,dc),(2,v2),(3,.aK 3 0),(7,v2),(8,v2)] [(3,jS)] (S ax (J [(1,dc),(2,v2),(3,.aK 3 0),(7,v2),(8,v2)] [(3,jS)] qL L))))) aV))) H.as8
def aGh:=mk aGg func241 H.x1 ait H.att
def aGi:=mk aGh func242 H.x2 (S L (S L (S L (J [(9,v2),(10,.own 10),(11,.own 11)] [(10,a2),(11,a2)] (S L (B (aj [(1,v2),(2,v2),(3,.aK 3 0),(8,qJ),(9,v2),(10,.own 10),(11,.own 11),(12,v2)] [(3,jS),(10,a2),(11,a2)] (S ax (S (B aV) L))))) (J [(9,v2),(11,.own 11)] [(11,a2)] (S L (B (aj [(9,v2),(10,.own 10),(11,.own 11),(15,v2)] [(10,a2),(11,a2)] (S ax (J [(9,v2),(10,.own 10),(11,.own 11),(15,v2)] [(10,a2),(11,a2)] (B ax) L))))) aV))))) H.atu
def aGj:=mk aGi func244 H.x4 (S L (S L (S bO (J [(4,.own 4),(5,.own 5)] [(4,a2),(5,a2)] (S L (B (aj ah_ DU (S ax (J ah_ DU (B (S L (J ah5 DU (S L (B (aj ahZ DU (S ax (J ahZ DU qL L))))) (J ah5 DU ax ax)))) L))))) aV)))) H.atv
def aGk:=mk aGj func350 yf MT avA
def aGl:=mk aGk func304 K2 (S L (S L (S L (J [(9,dc),(10,v2)] [] (S L (B (aj ah' [(4,qI)] (S ax (J ah' [(4,qI)] (B ax) L))))) aV)))) avC
def aGm:=mk aGl func245 tx (S L (S jK aV)) SE
def aGn:=mk aGm func305 G8 (S L (S jK qK)) ayf
def aGo:=mk aGn func306 Dd aU awL
def aGp:=mk aGo func351 Tz (S L (S L (J [(7,.own 7)] [(7,a2)] (S L (B (aj UN [(3,qI),(7,a2)] (S ax (J UN [(3,qI),(7,a2)] qL L))))) aV))) axV
def aGq:=mk aGp func307 Dp (S L (S L (J [(3,.own 3)] [(3,HC)] (S L (B (aj [(1,.aK 1 0),(3,.own 3),(4,v2)] [(1,jt),(3,HC)] (S ax (J [(1,.aK 1 0),(3,.own 3),(4,v2)] [(1,jt),(3,HC)] (B (S L (S L (J [(1,.aK 1 0),(3,.own 3),(4,v2),(6,.own 6)] [(1,jt),(3,HC),(6,sJ)] (S L (B (aj [(1,.aK 1 0),(3,.own 3),(4,v2),(5,.aK 5 0),(6,.own 6),(7,v2)] [(1,jt),(3,HC),(5,A8),(6,sJ)] hf))) L)))) L))))) aV))) axW
def aGr:=mk aGq func356 qz (S L (S L (J [(2,.aK 2 0),(3,.aK 3 0),(5,v4)] [(2,ahG),(3,A8)] (S L (B (aj [(2,.aK 2 0),(3,.aK 3 0),(5,v4),(6,v2)] [(2,ahG),(3,A8)] hf))) aix))) awP
def aGs:=mk aGr func352 LL (S L (S L (J [(8,.own 8)] [(8,HG)] (S L (B (aj [(1,A_),(2,dc),(3,.aK 3 0),(8,.own 8),(9,v2)] [(3,jt),(8,HG)] (S ax (J [(1,A_),(2,dc),(3,.aK 3 0),(8,.own 8),(9,v2)] [(3,jt),(8,HG)] (B (S ax (S L (S L (J [(1,A_),(2,dc),(3,.aK 3 0),(8,.own 8),(9,v2),(11,.aK 11 0),(12,v2)] [(3,jt),(8,HG),(11,A8)] (S L (B (S L (C aV ax)))) (S bO (S L (B (aj [(1,A_),(2,dc),(3,.aK 3 0),(8,.own 8),(9,v2),(11,.aK 11 0),(12,v2),(13,v2)] [(3,jt),(8,HG),(11,A8)] hf))))))))) L))))) aV))) ax0
def aGt:=mk aGs func385 Dq (S L (S L (J [(5,.own 5)] [(5,UG)] (S L (B (aj [(1,o2),(2,.aK 2 0),(5,.own 5),(6,v2)] [(2,ahQ),(5,UG)] (S ax (J [(1,o2),(2,.aK 2 0),(5,.own 5),(6,v2)] [(2,ahQ),(5,UG)] (B (S L (C aU L))) L))))) aV))) ax2
def aGu:=ml aGt func353 (ts:=(.ar J3 wk)) (tr:=t4) (λf=>(AJ f).pre) (λf=>(AJ f).g) (λx h=>ax5 x h) (S L (S bO (S L (J [] [] (S L (B (aj [(0,MM),(5,UL),(6,v2)] [] cD))) aV)))) ax9 1001
def aGv:=mk aGu func354 LN (S L (S L (J [(3,.own 5)] [(5,rC)] (S L (B (aj [(1,.aK 1 0),(3,.own 5),(4,v2)] [(1,jt),(5,rC)] hf))) aV))) ayb
def aGw:=mk aGv func308 G7 rD ayc
def aGx:=mk aGw func309 TE (S L (S L (J [(1,v2),(2,v2),(7,.own 7)] [(7,a2)] (S L (B (aj UN [(3,jt),(7,a2)] hf))) aU))) ayh
def aGy:=mk aGx func246 LP (S L (S jK (S L (S L (J [(7,.own 7)] [(7,a2)] (S L (B (aj [(1,v2),(2,.aK 2 0),(7,.own 7),(8,A_),(9,v2)] [(2,jt),(7,a2)] (S ax (J [(1,v2),(2,.aK 2 0),(7,.own 7),(8,A_),(9,v2)] [(2,jt),(7,a2)] (B ax) L))))) aV))))) ayi
def aGz:=mk aGy func355 De aU awN
def aGA:=mk aGz func310 As (S L (J [(1,dc),(2,.aK 2 0)] [(2,jt)] (S L (B (aj [(1,dc),(2,.aK 2 0),(5,v2)] [(2,jt)] (S ax (J [(1,dc),(2,.aK 2 0),(5,v2)] [(2,jt)] (B (S bO (S L (B (aj UP [(2,jt)] cD))))) L))))) aV)) awR
def aGB:=mk aGA func311 TC aU ayd
def aGC:=mk aGB func312 LR (S L (S L (J [(5,v2)] [] (S L (B (aj UP [(2,jt)] (S ax (J UP [(2,jt)] (B ax) L))))) aV))) ayj
def aGD:=mk aGC func247 LS (S L (S jK qK)) ayl
def aGE:=mk aGD func248 aj.Hv aU aj.aBK
def aGF:=mk aGE func313 LO aU ayg
def aGG:=ml aGF func314 (ts:=(.ar t32 fl)) (tr:=xD) (λf=>(yt f).pre) (λf=>(yt f).g) (λx h=>aym x h) (S L (S L (S bO (S L (J [(6,.own 6)] [(6,sJ)] (S L (B (aj [(1,dc),(2,.aK 2 0),(5,v2),(6,.own 6),(7,v2)] [(2,jt),(6,sJ)] (S ax (J [(1,dc),(2,.aK 2 0),(5,v2),(6,.own 6),(7,v2)] [(2,jt),(6,sJ)] qL L))))) aV))))) ayo 1001
def aGH:=mk aGG func249 LW (S L (S jK (S L (S L (S L (J [(5,v2)] [] (S L (B (aj MO o4 (S ax (J MO o4 qL L))))) aV)))))) ayp
def aGI:=ml aGH func357 (ts:=(.ar J3 wk)) (tr:=t3) (λf=>(AK f).pre) (λf=>(AK f).g) (λx h=>ax6 x h) (S L (S bO (S bO (S L (J [(0,MM),(1,o2),(5,v2)] [] ax (S L (J [(5,v2)] [] (S L (B (aj [(0,MM),(5,v2),(6,UL),(7,v2)] [] (S ax (J [(0,MM),(5,v2),(6,UL),(7,v2)] [] qL L))))) aV))))))) aya 1001
def aGJ:=mk aGI func315 TD (S L jT) aye
def aGK:=mk aGJ func250 LX (S L (S jK (S L (S L (S L (J [(5,v2)] [] (S L (B (aj MO o4 (S ax (J MO o4 (B (S ax (S L ax))) L))))) qK)))))) ayq
def aGL:=mk aGK func178 aj.A6 (S L (J [(3,.aK 3 0)] [(3,tN)] (S L (B (S L (C aU (S L (C aU (S L (C aU (S L (C aU (S L (C aU (S L (C jT (S L (C jT (S L (C aU (S L (C (S L (J [(3,.aK 3 0),(24,.own 24)] [(3,tN),(24,a2)] (S L (B (aj [(2,dc),(3,.aK 3 0),(24,.own 24),(25,v2)] [(3,tN),(24,a2)] hf))) aU)) (S L (C aU L)))))))))))))))))))))) aU)) aj.aBU
def aGM:=mk aGL func103 aj.MJ (S L (S L (S bO (S (S L (B (S L (C aV (S L (C aV (S L (C aV (S L (C aV (J [(2,.aK 2 0),(4,.aK 4 0),(6,v9),(7,dc),(76,v4)] [(2,tN),(4,.cells tQ [.bZ,.bZ,v2,.bZ,.bZ,.bZ,.bZ,.bZ,v2,.bZ,.bZ,.bZ,.bZ,v2,v2,v2,v2,v2,v2,v2])] (S L (C L (S L (C L (S L (C L ax)))))) (C aV L)))))))))))) aV)))) aj.aBX
def aGN:=mk aGM func47 aj.sH (S L (S jK (S bO (S L (S L (J [(4,.own 4),(5,.aK 5 0),(8,.aK 8 0)] ail (S L (B (aj [(1,sK),(4,.own 4),(5,.aK 5 0),(8,.aK 8 0),(9,v2)] ail (S ax (S (B aU) L))))) aV)))))) aj.aBZ
theorem ajw:je Tryz.prog 12 (.ar tQ HO) t4 (λx=>UD aj.Hl.sh aj.pP.sh aj.A3.sh aj.sH.sh aj.DI.sh aj.Hm.sh aj.DG.sh aj.pP.sh aj.sH.sh x):=Cn aGN lX (sp:=[]) trivial func12 (ann:=(S L (S bO (S L (S bO rD))))) (λx=>le_refl _) (by kernel_rfl) λx=>by kernel_rfl
end
end Go.Fer.pT
namespace Go.Fer.pT
open Go Go.Proofs
theorem ajt{H:Type}{enc:TypeId×Value->H}{a:Assume}{C:Checked}{os:Os}{f:FuncId}{fn:Func}{s:ChangeSpec}{conds:List PathCond}{apart IP handsOn again:Bool}{X:World->Array Value->Prop}
  (B5:∀ (w w':World) (args:Array Value),w.heap=w'.heap->X w args->X w' args)
  (own:ownKnob C.prog.godebug=none) (started:os.Started) (aGO:C.prog.inits.idxOf? f=none) (gC:C.prog.funcs[f]?=some fn)
  (witness:∃ (w:World) (tape:Tape) (i:Input),w.os=os/\(w.forCall tape i).Shaped C.prog/\i.vars=[]/\Input.okWide C.prog (w.forCall tape i) .any w.heap.size f i/\
   ((s.pre enc C.prog fn conds apart (w.forCall tape i).memory i.args/\X (w.forCall tape i).memory i.args)/\sizedMet enc C.prog fn (OpenSpec.ofChange s) apart (w.forCall tape i).memory i.args)/\a.holds C.prog (lone (Frame.enter C.prog f i.args .normal) [] (w.forCall tape i)))
  (aGP:∀ (aj:World) (base:Nat) (args:Array Value) (bI gs:List (DataW H)) (before:List MemPlace),(∀ (j:Nat) t v,fn.params[j]?=some t->args[j]?=some v->Value.okWide C.prog aj .any base t v)->
   DataW.Whole enc C.prog fn.params.toList s.vars apart aj args.toList bI gs before->
   aj.ShapedOpen C.prog->X aj args->
   Calls C.prog f args aj λe r3=>∃ v,e=.returned v/\s.post enc C.prog fn apart IP handsOn again aj args v r3) :
  ReturnsInHanded a C os f .any (λw args=>(s.pre enc C.prog fn conds apart w args/\X w args)/\sizedMet enc C.prog fn (OpenSpec.ofChange s) apart w args) (s.post enc C.prog fn apart IP handsOn again):=by
 refine returnsInHanded_of_calls own started aGO witness ?_;intro w tape i _ pU _ cJ iR aJ5;obtain⟨_,_,_,aGQ,aGR,_,_,_,_,zM⟩:=cJ;have e:aGQ=fn:=aKI (aGR.symm.trans gC);subst e;obtain⟨⟨⟨bI,gs,before,hw,hc⟩,al⟩,bD⟩:=iR;have Fc:=DataW.Whole.of_heap (w':=w.forCall tape i) (by rfl) hw;refine (aGP (w.forCall tape i) w.heap.size i.args bI gs before zM Fc pU (B5 (w.forCall tape i).memory (w.forCall tape i) i.args rfl al)).mono λe r3 ⟨v,he,aq⟩=>?_;subst he;exact ChangeSpec.post_blind aq
theorem M2{P:Program}{w:World}:∀ {l:List (String×DataW Unit)} {bw:List MemPlace},DataW.LaidVars P w l bw->∀ n d,(n,d)∈l->∃ g t cs de p,P.globalNamed n=some g/\(P.globals[g]?).map (·.type)=some t/\w.var? P n=some cs/\DataW.trod (λ_=>()) P w 0 (λ_=>true) false de t cs.toList=some (d,p)
 | [],_,_,_,_,hm=>by cases hm
 | (kn,tX)::r,bw,h,n,d,hm=>by
  obtain⟨g,t,cs,de,p,q,E,M,ai,bf,b2,_⟩:=h;rcases List.mem_cons.1 hm with e | e
  ·cases e;exact⟨g,t,cs,de,p,E,M,ai,bf⟩
  ·exact M2 b2 n d e
theorem ajs{P:Program}{w:World}{n:String}{g:Nat}{t:TypeId}{d:DataW Unit}{de:Nat}{cs:Array Value}{p:List MemPlace}(aA:P.globalNamed n=some g)(ab:w.var? P n=some cs)(hu:∃ ms,P.underlying t=some (.interface ms))
  (h:DataW.trod (λ_=>()) P w 0 (λ_=>true) false de t cs.toList=some (d,p)):∃ v,w.cell? ⟨g,0,none⟩=some v/\(v=.nilIface\/∃ nj nM,v=.iface nj nM):=by
 obtain⟨ms,hu⟩:=hu;have hc:w.cell? ⟨g,0,none⟩=cs[0]?:=by
  unfold World.var? at ab;rw[aA]at ab;simp only[Option.bind_some]at ab;cases au:w.heap[g]? with
  | none=>rw[au]at ab;cases ab
  | some o=>
   rw[au]at ab;cases o with
   | cells a T uN=>cases ab;simp[World.cell?,au]
   | _=>cases ab
 have aT:cs[0]?=cs.toList[0]?:=by simp
 rw[hc,aT];generalize cs.toList=l at h;cases de with
 | zero=>simp[DataW.trod]at h
 | succ de=>
  match l with
  | []=>simp[DataW.trod,hu]at h
  | [.nilIface]=>exact⟨_,rfl,.inl rfl⟩
  | [.iface u v]=>exact⟨_,rfl,.inr ⟨u,v,rfl⟩⟩
  | _::_::_=>simp[DataW.trod,hu]at h
  | [x]=>cases x<;>first | exact⟨_,rfl,.inl rfl⟩ | exact⟨_,rfl,.inr ⟨_,_,rfl⟩⟩ | (simp[DataW.trod,hu]at h;done)
theorem aGS:((List.range 8).all λb=>(((begin Tryz.prog (λ_ _=>0) default).world.heap[b]?).bind Obj.row?).isSome)=true:=by kernel_rfl
theorem ajy{aj : World}(h : aj.ShapedOpen Tryz.prog)(E : ∃ v, aj.cell? ⟨1, 0, none⟩ = some v /\ (v = .nilIface \/ ∃ nj nM, v = .iface nj nM))(M : ∃ v, aj.cell? ⟨2, 0, none⟩ = some v /\ (v = .nilIface \/ ∃ nj nM, v = .iface nj nM))(aT : Lib.TabIs Tryz.prog aj "internal/strconv.uint64pow10" .u64 Lib.pow10Tab) : o7 Tryz.prog (r7 aj) aj := λb V => by
 have jL:b<8:=aJ' V (aKv (by kernel_rfl));refine⟨?_,?_⟩
 ·have U:=List.all_eq_true.1 aGS b (List.mem_range.2 jL);obtain⟨⟨zero,t⟩,bD⟩:=Option.isSome_iff_exists.1 U;obtain⟨cs,dt,_⟩:=h.1 b zero t V bD;exact (Array.getElem?_eq_some_iff.1 dt).1
 ·match b,V,jL with
  | 0,V,_=>exact cell_of_shapedOpen_int (t:=3) (zero:=#[.int .i64 0]) h V (by kernel_rfl) rfl (by kernel_rfl) (by kernel_rfl) Tryz.underlying3
  | 1,_,_=>exact E
  | 2,_,_=>exact M
  | 3,_,_=>trivial
  | 4,_,_=>trivial
  | 5,_,_=>
   show ∀ i,aj.cell? ⟨5,i,none⟩=if i<20 then some (.int .u64 (10 ^ i)) else none
   unfold Lib.TabIs World.var? at aT;rw[show Tryz.prog.globalNamed "internal/strconv.uint64pow10" = some 5 by kernel_rfl]at aT;change (match aj.heap[5]? with | some (.cells cs _ _)=>some cs | _=>none)=_ at aT;intro i;cases au:aj.heap[5]? with
   | none=>rw[au]at aT;cases aT
   | some o=>
    rw[au]at aT;cases o with
    | cells cs T uN=>
     simp only[ajk]at aT;simp only[World.cell?,au,aT];simp only[aLN,ajh,ajq,aKV,List.getElem?_map,Lib.pow10Tab];split
     ·rename_i A0;rw[List.getElem?_range A0];simp
     ·rename_i A0;rw[List.getElem?_eq_none (by simp;omega)];rfl
    | _=>cases aT
  | 6,_,_=>trivial
  | 7,_,_=>trivial
end Go.Fer.pT
