/- Part 7 of the proof of Answers: shallow programs of Go functions, and what they compute. No condition. -/
import Derived.Test.YtplfnoecifjgeaaGreatDoorAnswersF
import Derived.Shelf.SlGeneric
import Derived.Shelf.Spec.SlicesGrow
import Derived.Shelf.Strings.OnBuilder
import Derived.Shelf.LaysM
import Derived.Shelf.Strconv.Itoa3
import Derived.Shelf.LaysC
import Derived.Shelf.Strconv.AtoiAll
import Derived.Shelf.Strings.Split
import Derived.Shelf.Slices.In.SortNone
import Derived.Test.YtplfnoecifjgeaaGreatDoorProg
import Derived.WalkKit
import Derived.WalkSpells
import Derived.Handy
import Derived.Shelf.Sort.AssemblyIn
import Derived.Sort.EveryDepth
import Derived.Handed
import Derived.Shelf.Vars
import Derived.Lib.LaidTab
import Derived.Lib.ItoaNum
noncomputable section
set_option linter.unusedVariables false
set_option linter.unusedSimpArgs false
namespace Go.Proofs
open Go.Shelf
theorem cG{P:Program}{k:Nat}{f g:Func}(h:P.funcs[k]?=some f)(e:f=g:=by kernel_rfl):P.funcs[k]?=some g:=h.trans (congrArg some e)
open Tryz
def Tryz.aaR:Go.Shelf.Ren:=⟨fun | 156=>258 | 165=>318 | 166=>319 | 169=>320 | 240=>358 | 241=>359 | 276=>386 | 277=>387 | n=>n,fun | 31=>48 | 9=>9 | 3=>3 | 4=>4 | 0=>0 | 20=>20 | 72=>345 | 76=>267 | 70=>343 | 37=>171 | 75=>266 | 127=>380 | 164=>405 | 5=>5 | 80=>347 | n=>n,fun | n=>n⟩
theorem Tryz.aaS : Go.Proofs.Lays.n156 Tryz.prog Tryz.aaR := {
  mixed:=by kernel_rfl
  f156:=cG func258
  f165:=cG func318
  f166:=cG func319
  f169:=cG func320
  f240:=cG func358
  f241:=cG func359
  f276:=cG func386
  f277:=cG func387
  t0:=underlying0
  a0:=isAgg0
  z0:=sizeOf0
  v0:=zeroValue0
  t3:=underlying3
  a3:=isAgg3
  z3:=sizeOf3
  v3:=zeroValue3
  t4:=underlying4
  a4:=isAgg4
  z4:=sizeOf4
  v4:=zeroValue4
  t9:=underlying9
  a9:=isAgg9
  z9:=sizeOf9
  v9:=zeroValue9
  t20:=underlying20
  a20:=isAgg20
  z20:=sizeOf20
  v20:=zeroValue20
  t31:=underlying48
  a31:=isAgg48
  z31:=sizeOf48
  v31:=zeroValue48
  t37:=underlying171
  a37:=isAgg171
  z37:=sizeOf171
  v37:=zeroValue171
  t70:=underlying343
  a70:=isAgg343
  z70:=sizeOf343
  v70:=zeroValue343
  t72:=underlying345
  a72:=isAgg345
  z72:=sizeOf345
  v72:=zeroValue345
  t75:=underlying266
  a75:=isAgg266
  z75:=sizeOf266
  v75:=zeroValue266
  t76:=underlying267
  a76:=isAgg267
  z76:=sizeOf267
  v76:=zeroValue267
  t127:=underlying380
  a127:=isAgg380
  z127:=sizeOf380
  v127:=zeroValue380
  t164:=underlying405
  a164:=isAgg405
  z164:=sizeOf405
  v164:=zeroValue405 }
theorem Tryz.aaT : Builder.Extra Tryz.prog Tryz.aaR := {
  sizeBuilder:=by kernel_rfl
  liesBuilder:=by kernel_rfl
  t5:=underlying5
  a5:=isAgg5
  z5:=sizeOf5
  v5:=zeroValue5
  infoByte:=by kernel_rfl
  cellsByte:=by kernel_rfl
  sizeByte:=by kernel_rfl
  neB5:=by decide }
def Tryz.asy:Go.Shelf.Ren:=⟨fun | 171=>204 | 243=>264 | 246=>330 | 283=>368 | 284=>369 | 285=>370 | 286=>371 | 129=>291 | 317=>392 | 318=>393 | 319=>394 | 320=>395 | 337=>399 | 338=>400 | n=>n,fun | 3=>3 | 9=>9 | 2=>2 | 4=>4 | 171=>386 | 0=>0 | 53=>285 | 37=>171 | 5=>5 | 173=>388 | 212=>418 | 51=>282 | 20=>20 | 213=>419 | 46=>228 | 232=>423 | 233=>424 | n=>n,fun | 17=>5 | 18=>6 | 19=>7 | n=>n⟩
theorem Tryz.aaU : Go.Proofs.LaysM.n171 Tryz.prog Tryz.asy := {
  mixed:=by kernel_rfl
  f129:=cG func291
  f171:=cG func204
  f243:=cG func264
  f246:=cG func330
  f283:=cG func368
  f284:=cG func369
  f285:=cG func370
  f286:=cG func371
  f317:=cG func392
  f318:=cG func393
  f319:=cG func394
  f320:=cG func395
  f337:=cG func399
  f338:=cG func400
  t0:=underlying0
  a0:=isAgg0
  z0:=sizeOf0
  v0:=zeroValue0
  t2:=underlying2
  a2:=isAgg2
  z2:=sizeOf2
  v2:=zeroValue2
  t3:=underlying3
  a3:=isAgg3
  z3:=sizeOf3
  v3:=zeroValue3
  t4:=underlying4
  a4:=isAgg4
  z4:=sizeOf4
  v4:=zeroValue4
  t5:=underlying5
  a5:=isAgg5
  z5:=sizeOf5
  v5:=zeroValue5
  t9:=underlying9
  a9:=isAgg9
  z9:=sizeOf9
  v9:=zeroValue9
  t20:=underlying20
  a20:=isAgg20
  z20:=sizeOf20
  v20:=zeroValue20
  t37:=underlying171
  a37:=isAgg171
  z37:=sizeOf171
  v37:=zeroValue171
  t46:=underlying228
  a46:=isAgg228
  z46:=sizeOf228
  v46:=zeroValue228
  t51:=underlying282
  a51:=isAgg282
  z51:=sizeOf282
  v51:=zeroValue282
  t53:=underlying285
  a53:=isAgg285
  z53:=sizeOf285
  v53:=zeroValue285
  t171:=underlying386
  a171:=isAgg386
  z171:=sizeOf386
  v171:=zeroValue386
  t173:=underlying388
  a173:=isAgg388
  z173:=sizeOf388
  v173:=zeroValue388
  t212:=underlying418
  a212:=isAgg418
  z212:=sizeOf418
  v212:=zeroValue418
  t213:=underlying419
  a213:=isAgg419
  z213:=sizeOf419
  t232:=underlying423
  a232:=isAgg423
  z232:=sizeOf423
  v232:=zeroValue423
  t233:=underlying424
  a233:=isAgg424
  z233:=sizeOf424
  v233:=zeroValue424
  g17:=by kernel_rfl
  g18:=by kernel_rfl
  g19:=by kernel_rfl
  i0:=by kernel_rfl
  i2:=by kernel_rfl
  i3:=by kernel_rfl
  i4:=by kernel_rfl
  i5:=by kernel_rfl
  i9:=by kernel_rfl
  i20:=by kernel_rfl
  i37:=by kernel_rfl
  i46:=by kernel_rfl
  i51:=by kernel_rfl
  i53:=by kernel_rfl
  i171:=by kernel_rfl
  i173:=by kernel_rfl
  i212:=by kernel_rfl
  i232:=by kernel_rfl
  i233:=by kernel_rfl
  m17:=by kernel_rfl
  m18:=by kernel_rfl
  m19:=by kernel_rfl }
def Tryz.asz:Go.Shelf.Ren:=⟨fun | 172=>203 | 244=>262 | 245=>263 | 247=>325 | 279=>326 | 280=>327 | 281=>328 | 282=>329 | 287=>365 | 316=>366 | 171=>204 | 205=>367 | 321=>390 | 322=>391 | 243=>264 | 246=>330 | 283=>368 | 284=>369 | 285=>370 | 286=>371 | 129=>291 | 317=>392 | 318=>393 | 319=>394 | 320=>395 | 337=>399 | 338=>400 | n=>n,fun | 9=>9 | 3=>3 | 75=>266 | 76=>267 | 4=>4 | 5=>5 | 167=>351 | 37=>171 | 0=>0 | 85=>352 | 2=>2 | 168=>354 | 53=>285 | 175=>381 | 46=>228 | 210=>384 | 127=>380 | 145=>416 | 143=>414 | 21=>21 | 171=>386 | 173=>388 | 212=>418 | 51=>282 | 20=>20 | 213=>419 | 232=>423 | 233=>424 | 80=>347 | n=>n,fun | 15=>1 | 16=>2 | 17=>5 | 18=>6 | 19=>7 | n=>n⟩
theorem Tryz.QO : Go.Proofs.LaysC.n172 Tryz.prog Tryz.asz := {
  mixed:=by kernel_rfl
  f129:=cG func291
  f171:=cG func204
  f172:=cG func203
  f205:=cG func367
  f243:=cG func264
  f244:=cG func262
  f245:=cG func263
  f246:=cG func330
  f247:=cG func325
  f279:=cG func326
  f280:=cG func327
  f281:=cG func328
  f282:=cG func329
  f283:=cG func368
  f284:=cG func369
  f285:=cG func370
  f286:=cG func371
  f287:=cG func365
  f316:=cG func366
  f317:=cG func392
  f318:=cG func393
  f319:=cG func394
  f320:=cG func395
  f321:=cG func390
  f322:=cG func391
  f337:=cG func399
  f338:=cG func400
  t0:=underlying0
  a0:=isAgg0
  z0:=sizeOf0
  v0:=zeroValue0
  t2:=underlying2
  a2:=isAgg2
  z2:=sizeOf2
  v2:=zeroValue2
  t3:=underlying3
  a3:=isAgg3
  z3:=sizeOf3
  v3:=zeroValue3
  t4:=underlying4
  a4:=isAgg4
  z4:=sizeOf4
  v4:=zeroValue4
  t5:=underlying5
  a5:=isAgg5
  z5:=sizeOf5
  v5:=zeroValue5
  t9:=underlying9
  a9:=isAgg9
  z9:=sizeOf9
  v9:=zeroValue9
  t20:=underlying20
  a20:=isAgg20
  z20:=sizeOf20
  v20:=zeroValue20
  t21:=underlying21
  a21:=isAgg21
  z21:=sizeOf21
  v21:=zeroValue21
  t37:=underlying171
  a37:=isAgg171
  z37:=sizeOf171
  v37:=zeroValue171
  t46:=underlying228
  a46:=isAgg228
  z46:=sizeOf228
  v46:=zeroValue228
  t51:=underlying282
  a51:=isAgg282
  z51:=sizeOf282
  v51:=zeroValue282
  t53:=underlying285
  a53:=isAgg285
  z53:=sizeOf285
  v53:=zeroValue285
  t75:=underlying266
  a75:=isAgg266
  z75:=sizeOf266
  v75:=zeroValue266
  t76:=underlying267
  a76:=isAgg267
  z76:=sizeOf267
  v76:=zeroValue267
  t85:=underlying352
  a85:=isAgg352
  z85:=sizeOf352
  v85:=zeroValue352
  t127:=underlying380
  a127:=isAgg380
  z127:=sizeOf380
  v127:=zeroValue380
  t143:=underlying414
  a143:=isAgg414
  z143:=sizeOf414
  v143:=zeroValue414
  t145:=underlying416
  a145:=isAgg416
  z145:=sizeOf416
  v145:=zeroValue416
  t167:=underlying351
  a167:=isAgg351
  z167:=sizeOf351
  v167:=zeroValue351
  t168:=underlying354
  a168:=isAgg354
  z168:=sizeOf354
  v168:=zeroValue354
  t171:=underlying386
  a171:=isAgg386
  z171:=sizeOf386
  v171:=zeroValue386
  t173:=underlying388
  a173:=isAgg388
  z173:=sizeOf388
  v173:=zeroValue388
  t175:=underlying381
  a175:=isAgg381
  z175:=sizeOf381
  v175:=zeroValue381
  t210:=underlying384
  a210:=isAgg384
  z210:=sizeOf384
  v210:=zeroValue384
  t212:=underlying418
  a212:=isAgg418
  z212:=sizeOf418
  v212:=zeroValue418
  t213:=underlying419
  a213:=isAgg419
  z213:=sizeOf419
  t232:=underlying423
  a232:=isAgg423
  z232:=sizeOf423
  v232:=zeroValue423
  t233:=underlying424
  a233:=isAgg424
  z233:=sizeOf424
  v233:=zeroValue424
  g15:=by kernel_rfl
  g16:=by kernel_rfl
  g17:=by kernel_rfl
  g18:=by kernel_rfl
  g19:=by kernel_rfl
  t80:=underlying347
  a80:=isAgg347
  z80:=sizeOf347
  v80:=zeroValue347
  i0:=by kernel_rfl
  i2:=by kernel_rfl
  i3:=by kernel_rfl
  i4:=by kernel_rfl
  i5:=by kernel_rfl
  i9:=by kernel_rfl
  i20:=by kernel_rfl
  i21:=by kernel_rfl
  i37:=by kernel_rfl
  i46:=by kernel_rfl
  i51:=by kernel_rfl
  i53:=by kernel_rfl
  i75:=by kernel_rfl
  i76:=by kernel_rfl
  i80:=by kernel_rfl
  i85:=by kernel_rfl
  i127:=by kernel_rfl
  i143:=by kernel_rfl
  i145:=by kernel_rfl
  i167:=by kernel_rfl
  i168:=by kernel_rfl
  i171:=by kernel_rfl
  i173:=by kernel_rfl
  i175:=by kernel_rfl
  i210:=by kernel_rfl
  i212:=by kernel_rfl
  i232:=by kernel_rfl
  i233:=by kernel_rfl
  m15:=by kernel_rfl
  m16:=by kernel_rfl
  m17:=by kernel_rfl
  m18:=by kernel_rfl
  m19:=by kernel_rfl
  c0:=by kernel_rfl
  c2:=by kernel_rfl
  c3:=by kernel_rfl
  c4:=by kernel_rfl
  c5:=by kernel_rfl
  c9:=by kernel_rfl
  c20:=by kernel_rfl
  c21:=by kernel_rfl
  c37:=by kernel_rfl
  c46:=by kernel_rfl
  c51:=by kernel_rfl
  c53:=by kernel_rfl
  c75:=by kernel_rfl
  c76:=by kernel_rfl
  c80:=by kernel_rfl
  c85:=by kernel_rfl
  c127:=by kernel_rfl
  c143:=by kernel_rfl
  c145:=by kernel_rfl
  c167:=by kernel_rfl
  c168:=by kernel_rfl
  c171:=by kernel_rfl
  c173:=by kernel_rfl
  c175:=by kernel_rfl
  c210:=by kernel_rfl
  c212:=by kernel_rfl
  c213:=by kernel_rfl
  c232:=by kernel_rfl
  c233:=by kernel_rfl }
open Go.RowKit in
theorem Tryz.strconv_Atoi_ok(s:ByteArray)(zW:s.size<=9223372036854775806)(v:Int)(h:Lib.atoiAll s.data.toList=.ok v)(w:World) :
  Calls Tryz.prog 203 #[.string s] w λe w'=>e=.returned (.tuple #[.int .i64 v,.nilIface])/\(w'=w\/∃ t,w'=Lib.bytesWorld w 5 t):=Any.strconv_Atoi_ok Tryz.QO s zW v h w
open Go.RowKit in
theorem Tryz.strconv_Atoi_syntax(s:ByteArray)(sA:s.size<=281474976710656)(h:Lib.atoiAll s.data.toList=Lib.atoiAll [])(ik:Value)(w:World)(ae:w.cell? ⟨1,0,none⟩=some ik)(p5:ik=.nilIface\/∃ lK mn,ik=.iface lK mn) :
  Calls Tryz.prog 203 #[.string s] w λe w'=>∃ N,e=.returned (.tuple #[.int .i64 (0),.iface 354 (.pointer (some ⟨N,0,none⟩))])/\w.heap.size<=N/\w'.heap[N]?=some (.cells #[.string ⟨#[65,116,111,105]⟩,.string s,ik] 384 (0,0))/\Below w.heap.size w w':=Any.strconv_Atoi_syntax Tryz.QO s sA h ik w ae p5
open Go.RowKit in
theorem Tryz.strconv_Atoi_range(s:ByteArray)(sA:s.size<=281474976710656)(h:Lib.atoiAll s.data.toList=.range)(ik:Value)(w:World)(ae:w.cell? ⟨2,0,none⟩=some ik)(p5:ik=.nilIface\/∃ lK mn,ik=.iface lK mn) :
  Calls Tryz.prog 203 #[.string s] w λe w'=>∃ N,e=.returned (.tuple #[.int .i64 (Lib.atoiSat s.data.toList),.iface 354 (.pointer (some ⟨N,0,none⟩))])/\w.heap.size<=N/\w'.heap[N]?=some (.cells #[.string ⟨#[65,116,111,105]⟩,.string s,ik] 384 (0,0))/\Below w.heap.size w w':=Any.strconv_Atoi_range Tryz.QO s sA h ik w ae p5
def Tryz.asA:Go.Shelf.Ren:=⟨fun | 146=>139 | 221=>202 | 268=>259 | 138=>260 | 143=>261 | 195=>321 | 197=>322 | 218=>323 | 219=>324 | 260=>360 | 217=>361 | 225=>362 | 224=>363 | 267=>364 | 266=>388 | 314=>389 | n=>n,fun | 9=>9 | 31=>48 | 3=>3 | 4=>4 | 0=>0 | 105=>348 | 21=>21 | 5=>5 | 46=>228 | 119=>408 | 139=>411 | 138=>410 | 146=>283 | 51=>282 | n=>n,fun | 1=>0 | 3=>3 | 4=>4 | n=>n⟩
theorem Tryz.asB : Go.Proofs.Lays.n146 Tryz.prog Tryz.asA := {
  mixed:=by kernel_rfl
  f138:=cG func260
  f143:=cG func261
  f146:=cG func139
  f195:=cG func321
  f197:=cG func322
  f217:=cG func361
  f218:=cG func323
  f219:=cG func324
  f221:=cG func202
  f224:=cG func363
  f225:=cG func362
  f260:=cG func360
  f266:=cG func388
  f267:=cG func364
  f268:=cG func259
  f314:=cG func389
  t0:=underlying0
  a0:=isAgg0
  z0:=sizeOf0
  v0:=zeroValue0
  t3:=underlying3
  a3:=isAgg3
  z3:=sizeOf3
  v3:=zeroValue3
  t4:=underlying4
  a4:=isAgg4
  z4:=sizeOf4
  v4:=zeroValue4
  t5:=underlying5
  a5:=isAgg5
  z5:=sizeOf5
  v5:=zeroValue5
  t9:=underlying9
  a9:=isAgg9
  z9:=sizeOf9
  v9:=zeroValue9
  t21:=underlying21
  a21:=isAgg21
  z21:=sizeOf21
  v21:=zeroValue21
  t31:=underlying48
  a31:=isAgg48
  z31:=sizeOf48
  v31:=zeroValue48
  t46:=underlying228
  a46:=isAgg228
  z46:=sizeOf228
  v46:=zeroValue228
  t51:=underlying282
  a51:=isAgg282
  z51:=sizeOf282
  v51:=zeroValue282
  t105:=underlying348
  a105:=isAgg348
  z105:=sizeOf348
  v105:=zeroValue348
  t119:=underlying408
  a119:=isAgg408
  z119:=sizeOf408
  t138:=underlying410
  a138:=isAgg410
  z138:=sizeOf410
  v138:=zeroValue410
  t139:=underlying411
  a139:=isAgg411
  z139:=sizeOf411
  v139:=zeroValue411
  t146:=underlying283
  a146:=isAgg283
  z146:=sizeOf283
  v146:=zeroValue283
  g1:=by kernel_rfl
  g3:=by kernel_rfl
  g4:=by kernel_rfl }
def Tryz.asC:Go.Shelf.Ren:=⟨fun | 189=>161 | 125=>215 | 257=>214 | 128=>290 | 129=>291 | 294=>281 | 295=>282 | 296=>283 | 297=>284 | 298=>285 | 299=>286 | 216=>287 | 300=>288 | 301=>289 | 328=>340 | 329=>341 | 330=>342 | 331=>343 | 332=>344 | 215=>339 | 343=>383 | n=>n,fun | 28=>27 | 3=>3 | 46=>228 | 0=>0 | 51=>282 | 53=>285 | 4=>4 | 183=>314 | 182=>313 | 131=>193 | 5=>5 | 9=>9 | 218=>359 | 222=>363 | 228=>398 | 229=>331 | n=>n,fun | n=>n⟩
theorem Tryz.aaV : Go.Proofs.Lays.n189 Tryz.prog Tryz.asC := {
  mixed:=by kernel_rfl
  f125:=cG func215
  f128:=cG func290
  f129:=cG func291
  f189:=cG func161
  f215:=cG func339
  f216:=cG func287
  f257:=cG func214
  f294:=cG func281
  f295:=cG func282
  f296:=cG func283
  f297:=cG func284
  f298:=cG func285
  f299:=cG func286
  f300:=cG func288
  f301:=cG func289
  f328:=cG func340
  f329:=cG func341
  f330:=cG func342
  f331:=cG func343
  f332:=cG func344
  f343:=cG func383
  t0:=underlying0
  a0:=isAgg0
  z0:=sizeOf0
  v0:=zeroValue0
  t3:=underlying3
  a3:=isAgg3
  z3:=sizeOf3
  v3:=zeroValue3
  t4:=underlying4
  a4:=isAgg4
  z4:=sizeOf4
  v4:=zeroValue4
  t5:=underlying5
  a5:=isAgg5
  z5:=sizeOf5
  v5:=zeroValue5
  t9:=underlying9
  a9:=isAgg9
  z9:=sizeOf9
  v9:=zeroValue9
  t28:=underlying27
  a28:=isAgg27
  z28:=sizeOf27
  v28:=zeroValue27
  t46:=underlying228
  a46:=isAgg228
  z46:=sizeOf228
  v46:=zeroValue228
  t51:=underlying282
  a51:=isAgg282
  z51:=sizeOf282
  v51:=zeroValue282
  t53:=underlying285
  a53:=isAgg285
  z53:=sizeOf285
  v53:=zeroValue285
  t131:=underlying193
  a131:=isAgg193
  z131:=sizeOf193
  v131:=zeroValue193
  t182:=underlying313
  a182:=isAgg313
  z182:=sizeOf313
  v182:=zeroValue313
  t183:=underlying314
  a183:=isAgg314
  z183:=sizeOf314
  v183:=zeroValue314
  t218:=underlying359
  a218:=isAgg359
  z218:=sizeOf359
  v218:=zeroValue359
  t222:=underlying363
  a222:=isAgg363
  z222:=sizeOf363
  v222:=zeroValue363
  t228:=underlying398
  a228:=isAgg398
  z228:=sizeOf398
  v228:=zeroValue398
  t229:=underlying331
  a229:=isAgg331
  z229:=sizeOf331
  v229:=zeroValue331 }
def Tryz.asD:Go.Shelf.Ren:=⟨fun | 4=>257 | n=>n,fun | 22=>27 | 25=>3 | 3=>3 | 4=>4 | 9=>9 | 20=>20 | 0=>0 | n=>n,fun | n=>n⟩
theorem Tryz.aaW : Go.Proofs.Lays8.n4 Tryz.prog Tryz.asD := {
  mixed:=by kernel_rfl
  f4:=⟨Tryz.f257.name,by decide,cG func257⟩
  t0:=underlying0
  a0:=isAgg0
  z0:=sizeOf0
  v0:=zeroValue0
  t3:=underlying3
  a3:=isAgg3
  z3:=sizeOf3
  v3:=zeroValue3
  t4:=underlying4
  a4:=isAgg4
  z4:=sizeOf4
  v4:=zeroValue4
  t9:=underlying9
  a9:=isAgg9
  z9:=sizeOf9
  v9:=zeroValue9
  t20:=underlying20
  a20:=isAgg20
  z20:=sizeOf20
  v20:=zeroValue20
  t22:=underlying27
  a22:=isAgg27
  z22:=sizeOf27
  v22:=zeroValue27 }
def Tryz.asE:Go.Shelf.Ren:=⟨fun | 4=>256 | n=>n,fun | 22=>34 | 25=>125 | 3=>3 | 4=>4 | 9=>9 | 20=>20 | 0=>0 | n=>n,fun | n=>n⟩
theorem Tryz.aaX : Go.Proofs.Lays8.n4 Tryz.prog Tryz.asE := {
  mixed:=by kernel_rfl
  f4:=⟨Tryz.f256.name,by decide,cG func256⟩
  t0:=underlying0
  a0:=isAgg0
  z0:=sizeOf0
  v0:=zeroValue0
  t3:=underlying3
  a3:=isAgg3
  z3:=sizeOf3
  v3:=zeroValue3
  t4:=underlying4
  a4:=isAgg4
  z4:=sizeOf4
  v4:=zeroValue4
  t9:=underlying9
  a9:=isAgg9
  z9:=sizeOf9
  v9:=zeroValue9
  t20:=underlying20
  a20:=isAgg20
  z20:=sizeOf20
  v20:=zeroValue20
  t22:=underlying34
  a22:=isAgg34
  z22:=sizeOf34
  v22:=zeroValue34 }
end Go.Proofs
namespace Go.Fer.ax
theorem aaY:∀ s:aL,(Go.Lib.index s [32]=-1/\cF s=[s])\/∃ t r,s=t++32::r/\Go.Lib.index s [32]=(t.length:Int)/\cF s=t::cF r
 | []=>.inl ⟨rfl,rfl⟩
 | b::l=>by
  unfold Go.Lib.index;by_cases W:b=32
  ·subst W;exact .inr ⟨[],l,rfl,by rfl,by rfl⟩
  ·have ao:List.isPrefixOf [32] (b::l)=false:=by
    grind
   rw[ao];have aE:=vd l;rcases aaY l with⟨E,U⟩ | ⟨t,r,E,U,ag⟩
   ·rw[E];refine .inl ⟨rfl,?_⟩;unfold cF;grind
   ·rw[U];refine .inr ⟨b::t,r,by grind,?_,?_⟩
    ·rfl
    ·conv=>lhs;unfold cF
     grind
theorem asF:∀ (n:Nat) (s:aL),s.length<=n->Go.Lib.splitK [32] 0 (Go.Lib.count s [32]) s=cF s:=by
 intro n;induction n with
 | zero=>
  intro s h;have:s=[]:=List.eq_nil_of_length_eq_zero (by omega);subst this;rfl
 | succ n aI=>
  intro s h;rcases aaY s with⟨E,U⟩ | ⟨t,r,E,U,ag⟩
  ·rw[Go.Lib.count_miss E,U];rfl
  ·rw[Go.Lib.count_hit (by simp) U,ag,Nat.add_comm,Go.Lib.splitK,U];have:((t.length:Int) == -1)=false:=by rfl
   rw[this];have e:((t.length:Int)).toNat=t.length:=rfl;have EG:s.drop (t.length+1)=r:=by simp_all
   grind
end Go.Fer.ax
namespace Go.Fer.oG
open Go Go.Proofs Go.RowKit
section
variable {P:Program} {F:Nat->Prop} {w:World}
theorem QP(x:List UInt8):(ByteArray.mk x.toArray).data.toList=x:=by simp
theorem J'(x:List UInt8):(ByteArray.mk x.toArray).size=x.length:=by rfl
theorem QQ{args:List Value}{x:List UInt8}(h:fp P .str F w args x):args=[.string ⟨x.toArray⟩]/\x.length<2 ^ 63:=by
 obtain⟨v,rfl,ae⟩:=(si rfl).1 h;obtain⟨rfl,ai⟩:=mo.1 ae;grind
theorem asG{args:List Value}{x y:List UInt8}(h:fp P (.aA .str .str) F w args (x,y)):args=[.string ⟨x.toArray⟩,.string ⟨y.toArray⟩]/\x.length<2 ^ 63/\y.length<2 ^ 63:=by
 obtain⟨v,us,rfl,ae,hu⟩:=FV h;obtain⟨rfl,ai⟩:=mo.1 ae;obtain⟨rfl,gr⟩:=QQ hu;grind
theorem asH(w:World)(k:Nat)(os:Array Obj):Below w.heap.size w (Go.Sort.grow (w.drewN k) os):=by
 refine⟨rfl,rfl,rfl,?_,λj aF=>?_⟩
 ·simp
 ·show (w.heap++os)[j]?=_;grind
theorem Ka(h:nT Tryz.prog F w){b:Nat}(W:b<6):F b/\Rw b λi=>w.cell? ⟨b,i,none⟩:=h b (Nat.lt_of_lt_of_le W (of_decide_eq_true (by rfl)))
end
theorem aaZ(sep:ByteArray):∀ (k:Nat) (s:ByteArray),∀ x∈Lib.splitB sep 0 k s,x.size<=s.size
 | 0,s,x,ah=>by
  unfold Lib.splitB at ah;grind
 | k+1,s,x,ah=>by
  unfold Lib.splitB at ah;split at ah
  ·grind
  ·simp only[List.mem_cons]at ah;rcases ah with rfl | ah
   ·rw[ByteArray.size_extract];omega
   ·have:=aaZ sep k _ x ah;rw[ByteArray.size_extract]at this;omega
def qF(s sep:List UInt8):List (List UInt8):=(Lib.splitB ⟨sep.toArray⟩ 0 (Lib.countB ⟨s.toArray⟩ ⟨sep.toArray⟩) ⟨s.toArray⟩).map (·.data.toList)
theorem asI(s:List UInt8):qF s [32]=ax.cF s:=by
 unfold qF;rw[Lib.splitB_data];exact ax.asF s.length s (Nat.le_refl _)
abbrev asJ:Code:=Tryz.f139.body.getD .skip
theorem asK:h7 Tryz.prog 139 (.aA .str .str) (.slice .str) ax.JX.sh where
 enter:=uH Tryz.func139 (show Tryz.f139.body=some asJ by rfl) (by rfl)
 iW:=λF w args x bn gn a_ aE=>by
  obtain⟨s,sep⟩:=x;obtain⟨aE,E⟩:s.length<=10000/\sep=[32]:=aE;subst E;obtain⟨rfl,ai,gr⟩:=asG a_;obtain⟨_,m,hm⟩:=Ka gn (b:=0) (by decide);have cf:1<=(ByteArray.mk [32].toArray).size:=by decide
  refine (Any.strings_Split Tryz.asB (by kernel_rfl) ⟨s.toArray⟩ ⟨[32].toArray⟩ m w (by rw[J'];omega) hm cf).mono ?_;rintro e w' ⟨rfl,rfl⟩;have hlen:=Lib.splitB_all ⟨[32].toArray⟩ cf 0 _ ⟨s.toArray⟩ rfl;have rT:=Lib.countB_le ⟨[32].toArray⟩ cf _ ⟨s.toArray⟩ (Nat.le_refl _);rw[J']at rT;have kj:=aaZ ⟨[32].toArray⟩ (Lib.countB ⟨s.toArray⟩ ⟨[32].toArray⟩) ⟨s.toArray⟩;rw[J']at kj;have xv:(qF s [32]).length=Lib.countB ⟨s.toArray⟩ ⟨[32].toArray⟩+1:=by unfold qF;grind
  refine⟨_,qF s [32],rfl,asI s,⟨[_],rfl,(si rfl).2 ⟨_,rfl,(dU rfl).2 ⟨rfl,some ⟨w.heap.size,0,none⟩,Lib.countB ⟨s.toArray⟩ ⟨[32].toArray⟩+1,by rw[xv],by omega,by omega,nofun,λp ao hc=>?_⟩⟩⟩,?_⟩
  ·cases ao;refine⟨.inr ⟨Nat.le_refl _,by simp⟩,rfl,λi G=>?_⟩;have dA:i<(Lib.splitB ⟨[32].toArray⟩ 0 (Lib.countB ⟨s.toArray⟩ ⟨[32].toArray⟩) ⟨s.toArray⟩).length:=by omega
   generalize aT:Lib.splitB ⟨[32].toArray⟩ 0 (Lib.countB ⟨s.toArray⟩ ⟨[32].toArray⟩) ⟨s.toArray⟩=B at dA kj hlen;have jy:(qF s [32])[i]=B[i].data.toList:=by
    have U:qF s [32]=B.map (·.data.toList):=by unfold qF;rw[aT]
    grind
   have bF:Value.string B[i]=.string ⟨(B[i].data.toList).toArray⟩:=by simp
   refine⟨[.string B[i]],⟨.inr ⟨Nat.le_refl _,by simp⟩,rfl,λj aF=>?_⟩,?_,?_⟩
   ·have aF:j=0:=by grind
    subst aF;rw[vu (qt w _)];have ay:0+i*ab.size .str+0=i:=by show 0+i*1+0=i;omega
    grind
   ·simp_all
   ·have:=kj _ (List.getElem_mem dA);have e:(B[i]).data.toList.length=(B[i]).size:=Array.length_toList;grind
  ·exact (Below.refl _ _).alloc (Nat.le_refl _) _
theorem aa0{F : Nat -> Prop}{w : World}(h : nT Tryz.prog F w) : Lib.TabIs Tryz.prog w "internal/strconv.uint64pow10" .u64 Lib.pow10Tab := by
 have bN:∀ i,w.cell? ⟨5,i,none⟩=if i<20 then some (.int .u64 (10 ^ i)) else none:=(Ka h (b:=5) (by decide)).2
 unfold Lib.TabIs World.var?;rw[show Tryz.prog.globalNamed "internal/strconv.uint64pow10" = some 5 by rfl];show (match w.heap[5]? with | some (.cells cs _ _)=>some cs | _=>none)=_;have aU:=bN 0;cases af:w.heap[5]? with
 | none=>simp[World.cell?,af]at aU
 | some o=>
  cases o with
  | cells cs T tf=>
   simp only[Option.some.injEq];apply Array.ext_getElem?;intro i;have G:=bN i;simp only[World.cell?,af,Option.isSome_none,Bool.false_eq_true,if_false]at G;rw[G];split
   ·rename_i B0;simp only[List.getElem?_toArray,List.getElem?_map,Lib.pow10Tab];grind
   ·rename_i B0;rw[Array.getElem?_eq_none];simp[Lib.pow10Tab];omega
  | _=>simp[World.cell?,af]at aU
abbrev asL:Code:=Tryz.f204.body.getD .skip
theorem asM{P:Program}{F:Nat->Prop}{w:World}{args:List Value}{x:Int}(h:fp P (.int .i64) F w args x):args=[.int .i64 x]/\fR .i64 x:=by
 obtain⟨v,rfl,ae⟩:=(si rfl).1 h;obtain⟨rfl,ai⟩:=gV.1 ae;grind
theorem asN{n:Int}(h:fR .i64 n):-9223372036854775808<=n/\n<=9223372036854775807:=h
theorem asO:h7 Tryz.prog 204 (.int .i64) .str ax.JO.sh where
 enter:=uH Tryz.func204 (show Tryz.f204.body=some asL by rfl) (by rfl)
 iW:=λF w args x bn gn a_ aE=>by
  change Int at x;obtain⟨rfl,M⟩:=asM a_;obtain⟨aU,E⟩:=asN M;refine (Any.strconv_Itoa Tryz.aaU x aU E w (aa0 gn)).mono ?_;rintro e w' ⟨rfl,k,os,rfl⟩;have ah:ax.qg x=Lib.itoa x:=by unfold ax.qg;rw[bG aU (by omega)]
  refine⟨_,ax.qg x,rfl,rfl,⟨[_],rfl,(si rfl).2 ⟨_,rfl,mo.2 ⟨by rw[ah],Nat.lt_of_le_of_lt (ax.Qv x) (by decide)⟩⟩⟩,asH w k os⟩
abbrev asP:Code:=Tryz.f258.body.getD .skip
theorem asQ:h7 Tryz.prog 258 (.aA (.slice .str) .str) .str ax.Fw.sh where
 enter:=uH Tryz.func258 (show Tryz.f258.body=some asP by rfl) (by rfl)
 iW:=λF w args x bn gn a_ aE=>by
  obtain⟨l,sep⟩:=x;obtain⟨aw,hw,E⟩:l.length<=60000/\(∀ w∈l,w.length<=21)/\sep.length=1:=aE;have AB:=ax.aar l sep 21 hw;have E:sep.length=1:=E;have aw:l.length<=60000:=aw;rw[E]at AB;have aF:(Lib.join l sep).length<2 ^ 63:=by omega
  obtain⟨v,us,rfl,ae,hu⟩:=FV a_;obtain⟨rfl,_⟩:=QQ hu;obtain⟨_,p,cap,iq,c2,c3,c4,c5⟩:=(dU rfl).1 ae;obtain rfl:v=.slice p l.length cap:=by grind
  change l.length<=cap at c2;have fin:∀ w',Below w.heap.size w w'->∃ v y,Ending.returned (.string ⟨(Lib.join l sep).toArray⟩)=.returned v/\(ax.Fw.sh (l,sep)).bR y/\tR Tryz.prog .str (vk F w w') w' v y/\Below w.heap.size w w':=λw' W=>
   ⟨_,Lib.join l sep,rfl,rfl,⟨[_],rfl,(si rfl).2 ⟨_,rfl,mo.2 ⟨rfl,aF⟩⟩⟩,W⟩
  by_cases ai:l=[]
  ·subst ai;refine (Any.strings_Join_none Tryz.aaS Tryz.aaT p cap ⟨sep.toArray⟩ w).mono ?_;rintro e w' ⟨rfl,rfl⟩;exact fin _ (Below.refl _ _)
  ·have lo:0<l.length:=List.length_pos_iff.2 ai;obtain⟨q,rfl⟩:∃ q,p=some q:=by
    cases p with
    | none=>grind
    | some q=>simp
   obtain⟨d1,d2,d3⟩:=c5 q rfl (by omega);obtain⟨asR,o,sp⟩:=q;obtain rfl:sp=none:=d2;have hlen:(l.map λx:List UInt8=>ByteArray.mk x.toArray).length=l.length:=List.length_map ..;have K3:(l.map λx:List UInt8=>ByteArray.mk x.toArray).map (·.data.toList)=l:=by rw[List.map_map];exact (List.map_congr_left λx _=>QP x).trans (List.map_id _)
   have:=Any.strings_Join Tryz.aaS Tryz.aaT asR o cap (l.map λx:List UInt8=>ByteArray.mk x.toArray) ⟨sep.toArray⟩ w (λj x ah=>by
    rw[List.getElem?_map]at ah;obtain⟨y,aS,rfl⟩:=Option.map_eq_some_iff.1 ah;obtain⟨AB,rfl⟩:=List.getElem?_eq_some_iff.1 aS;obtain⟨bj,⟨_,_,cw⟩,ed⟩:=d3 j AB;obtain⟨rfl,_⟩:=ed;have:=cw 0 (by simp);simpa [ab.size]using this) (bn _ d1) (by omega) (by omega) (by grind)
   rw[hlen,K3,QP]at this;refine this.mono ?_;simp_all
end Go.Fer.oG
namespace Go.Proofs
open Go.RowKit
theorem Tryz.asS{P:Program}{w w':World}{n:String}{k:IntKind}{zs:z1'}(h:Lib.TabIs P w n k zs)(W:Below w.heap.size w w'):Lib.TabIs P w' n k zs:=by
 unfold Lib.TabIs World.var? at *
 cases aC:P.globalNamed n with
 | none=>rw[aC]at h;cases h
 | some g=>
  rw[aC]at h;simp only[Option.bind_some]at h ⊢;by_cases ck:g<w.heap.size
  ·rw[W.block g ck];exact h
  ·rw[Array.getElem?_eq_none (by omega)]at h;cases h
set_option maxHeartbeats 4000000 in
set_option maxRecDepth 1000000 in
theorem Tryz.asT(s:ByteArray)(w:World)(v:Int)(zW:s.size<=9223372036854775806)(h:Lib.atoiAll s.data.toList=.ok v)(aU:-9223372036854775808<=v)(E:v<=9223372036854775807)
  (asU : Lib.TabIs Tryz.prog w "internal/strconv.uint64pow10" .u64 Lib.pow10Tab) :
  Calls Tryz.prog 140 #[.string s] w λe w'=>e=.returned (.tuple #[.int .i64 v,.bool (decide (s.size<=6)&&decide (0<=v)&&decide (Lib.itoa v=s.data.toList))])/\Below w.heap.size w w':=by
 go_enter Tryz.func140,Tryz.ntmps140;go_wp2_with fail;refine (Tryz.strconv_Atoi_ok s zW v h w).mono ?_;rintro e b' ⟨rfl,lX⟩;have mD:Below w.heap.size w b':=by
  rcases lX with rfl | ⟨t,rfl⟩
  ·exact Below.refl _ _
  ·exact Lib.bytesWorld_below w 5 t
 have asV:=Tryz.asS asU mD;clear lX;by_cases aR:(s.size:Int)<=6
 ·by_cases aW:v>=0
  ·go_wp2_with fail;refine (Any.strconv_Itoa Tryz.aaU v aU E b' asV).mono ?_;rintro e c8 ⟨rfl,k,os,rfl⟩;have rz:Below w.heap.size w (Go.Sort.grow (b'.drewN k) os):=mD.trans ⟨rfl,rfl,rfl,by show _<=(b'.heap++os).size;simp,λj aF=>by
    have:=mD.size;show (b'.heap++os)[j]?=_;rw[Array.getElem?_append_left (by omega)]⟩
   generalize Go.Sort.grow (b'.drewN k) os=c8 at rz;go_wp2;go_returns;refine⟨congrArg Ending.returned (congrArg Value.tuple ?_),rz⟩;show #[Value.int IntKind.i64 v,Value.bool (Lib.itoa v == s.toList)]=_;rw[Go.ByteArray.toList_eq,show decide (s.size<=6)=true from decide_eq_true (by omega),show decide (0<=v)=true from decide_eq_true aW,Bool.true_and,Bool.true_and,show (Lib.itoa v == s.data.toList)=decide (Lib.itoa v=s.data.toList) by rw[Bool.eq_iff_iff];simp]
  ·go_wp2;go_returns;refine⟨congrArg Ending.returned (congrArg Value.tuple ?_),mD⟩;show #[Value.int IntKind.i64 v,Value.bool false]=_;rw[show decide (0<=v)=false from decide_eq_false (by omega),Bool.and_false,Bool.false_and]
 ·go_wp2;go_returns;refine⟨congrArg Ending.returned (congrArg Value.tuple ?_),mD⟩;show #[Value.int IntKind.i64 v,Value.bool false]=_;rw[show decide (s.size<=6)=false from decide_eq_false (by omega),Bool.false_and,Bool.false_and]
set_option maxHeartbeats 4000000 in
set_option maxRecDepth 1000000 in
theorem Tryz.asW(s:ByteArray)(w:World)(sA:s.size<=281474976710656)(h:Lib.atoiAll s.data.toList=Lib.atoiAll [])(ik:Value)(ae:w.cell? ⟨1,0,none⟩=some ik)(p5:ik=.nilIface\/∃ lK mn,ik=.iface lK mn) :
  Calls Tryz.prog 140 #[.string s] w λe w'=>e=.returned (.tuple #[.int .i64 0,.bool false])/\Below w.heap.size w w':=by
 go_enter Tryz.func140,Tryz.ntmps140;go_wp2_with fail;refine (Tryz.strconv_Atoi_syntax s sA h ik w ae p5).mono ?_;rintro e b' ⟨N,rfl,_,_,mD⟩;go_wp2;go_returns;exact⟨rfl,mD⟩
set_option maxHeartbeats 4000000 in
set_option maxRecDepth 1000000 in
theorem Tryz.asX(s:ByteArray)(w:World)(sA:s.size<=281474976710656)(h:Lib.atoiAll s.data.toList=.range)(ik:Value)(ae:w.cell? ⟨2,0,none⟩=some ik)(p5:ik=.nilIface\/∃ lK mn,ik=.iface lK mn) :
  Calls Tryz.prog 140 #[.string s] w λe w'=>e=.returned (.tuple #[.int .i64 (Lib.atoiSat s.data.toList),.bool false])/\Below w.heap.size w w':=by
 go_enter Tryz.func140,Tryz.ntmps140;go_wp2_with fail;refine (Tryz.strconv_Atoi_range s sA h ik w ae p5).mono ?_;rintro e b' ⟨N,rfl,_,_,mD⟩;go_wp2;go_returns;exact⟨rfl,mD⟩
end Go.Proofs
namespace Go.Fer.ax
open A (V)
theorem aa1:∀ (s:aL) (n:Int),0<=n->gf s n≠-1->n<=gf s n
 | [],n,_,_=>Int.le_refl _
 | c::s,n,h,E=>by
  unfold gf at E ⊢;split at E
  ·omega
  ·rename_i hc;rw[if_neg hc];simp only[Bool.or_eq_true,decide_eq_true_eq,not_or]at hc;have:=aa1 s _ (by omega) E;omega
theorem QR(d:UInt8):∀ (s:aL) (n:Int),0<=n->gf (s++[d]) n=if gf s n=-1 then -1 else if (decide ((d.toNat:Int)<48)||decide ((d.toNat:Int) > 57))=true then -1 else 10*gf s n+((d.toNat:Int) - 48)
 | [],n,h=>by
  show gf [d] n=if n=-1 then _ else _
  rw[if_neg (by omega)];rfl
 | c::s,n,h=>by
  rw[List.cons_append];conv=>lhs;unfold gf
  by_cases hc:(decide ((c.toNat:Int)<48)||decide ((c.toNat:Int) > 57))=true
  ·rw[if_pos hc,show gf (c::s) n=-1 by unfold gf;grind,if_pos rfl]
  ·rw[if_neg hc,show gf (c::s) n=gf s (10*n+((c.toNat:Int) - 48)) from (if_neg hc:(if (decide ((c.toNat:Int)<48)||decide ((c.toNat:Int) > 57))=true then (-1:Int) else _)=_)];simp only[Bool.or_eq_true,decide_eq_true_eq,not_or]at hc;exact QR d s _ (by omega)
theorem Kb(k:Nat)(h:k<10):((UInt8.ofNat (48+k)).toNat:Int)=48+k:=by
 have:(UInt8.ofNat (48+k)).toNat=(48+k) % 256:=UInt8.toNat_ofNat';omega
theorem aa2(u:Nat):gf (Go.Lib.decDigits u) 0=u:=by
 induction u using Nat.strongRecOn with
 | _ u aI=>
  unfold Go.Lib.decDigits;split
  ·rename_i h;have:=Kb u h;unfold gf;rw[if_neg (by grind),this];show (10*0+(48+(u:Int) - 48))=u;omega
  ·rename_i h;have ar:=Kb (u % 10) (by omega);rw[QR _ _ _ (Int.le_refl _),aI (u / 10) (by omega),if_neg (by omega),if_neg (by grind),ar];omega
theorem QS(u:Nat):Go.Lib.decDigits u≠[]/\(1<(Go.Lib.decDigits u).length->((Go.Lib.decDigits u).getD 0 0).toNat≠48):=by
 induction u using Nat.strongRecOn with
 | _ u aI=>
  by_cases h:u<10
  ·rw[Go.Lib.decDigits_one h];simp
  ·obtain⟨E,U⟩:=aI (u / 10) (by omega);have e:Go.Lib.decDigits u=Go.Lib.decDigits (u / 10)++[UInt8.ofNat (48+u % 10)]:=by
    conv=>lhs;unfold Go.Lib.decDigits
    grind
   rw[e];refine⟨by simp,λ_=>?_⟩;have ai:0<(Go.Lib.decDigits (u / 10)).length:=List.length_pos_iff.2 E;rw[show (Go.Lib.decDigits (u / 10)++[UInt8.ofNat (48+u % 10)]).getD 0 0=(Go.Lib.decDigits (u / 10)).getD 0 0 by
    grind]
   by_cases ag:1<(Go.Lib.decDigits (u / 10)).length
   ·omega
   ·have qn:u / 10<10:=by
     refine Classical.byContradiction λaw=>ag ?_;have aP:Go.Lib.decDigits (u / 10)=Go.Lib.decDigits (u / 10 / 10)++[UInt8.ofNat (48+u / 10 % 10)]:=by
      conv=>lhs;unfold Go.Lib.decDigits
      grind
     grind
    rw[Go.Lib.decDigits_one qn];have:=Kb (u / 10) qn;grind
theorem asY:∀ (n:Nat) (s:aL),s.length=n->s≠[]->(1<s.length->(s.getD 0 0).toNat≠48)->gf s 0≠-1->Go.Lib.decDigits (gf s 0).toNat=s:=by
 intro n;induction n with
 | zero=>simp
 | succ n aI=>
  intro s E U ag a7;obtain⟨a,d,rfl⟩:∃ a d,s=a++[d]:=⟨s.dropLast,s.getLast U,(List.dropLast_concat_getLast U).symm⟩
  rw[QR _ _ _ (Int.le_refl _)]at a7 ⊢;split at a7
  ·omega
  ·rename_i a_;split at a7
   ·omega
   ·rename_i ar;rw[if_neg a_,if_neg ar];simp only[Bool.or_eq_true,decide_eq_true_eq,not_or]at ar;have MX:UInt8.ofNat (48+(d.toNat - 48))=d:=by
     apply UInt8.toNat_inj.1;rw[UInt8.toNat_ofNat'];omega
    by_cases aw:a=[]
    ·subst aw;have e:(10*gf [] 0+((d.toNat:Int) - 48)).toNat=d.toNat - 48:=by show (10*0+((d.toNat:Int) - 48)).toNat=_;omega
     rw[e,Go.Lib.decDigits_one (by omega),MX];rfl
    ·have ai:0<a.length:=List.length_pos_iff.2 aw;have cU:(a.getD 0 0).toNat≠48:=by
      grind
     have ao:1<=gf a 0:=by
      cases a with
      | nil=>grind
      | cons c r=>
       unfold gf at a_ ⊢;split at a_
       ·omega
       ·rename_i hc;rw[if_neg hc];simp only[Bool.or_eq_true,decide_eq_true_eq,not_or]at hc;have azd:c.toNat≠48:=cU;have:=aa1 r _ (by omega) a_;omega
     have G:=aI a (by grind) aw (λ_=>cU) a_;have ay:(10*gf a 0+((d.toNat:Int) - 48)).toNat / 10=(gf a 0).toNat:=by omega
     have aP:(10*gf a 0+((d.toNat:Int) - 48)).toNat % 10=d.toNat - 48:=by omega
     conv=>lhs;unfold Go.Lib.decDigits
     grind
theorem asZ{s:aL}{v:Int}(h:Go.Lib.atoiAll s=.ok v):(decide (s.length<=6)&&decide (0<=v)&&decide (Go.Lib.itoa v=s))=decide (0<=eZ s):=by
 rw[Bool.eq_iff_iff];simp only[Bool.and_eq_true,decide_eq_true_eq];constructor
 ·rintro⟨⟨du,ae⟩,G⟩;obtain⟨u,rfl⟩:∃ u:Nat,v=u:=⟨v.toNat,by omega⟩
  have e:Go.Lib.itoa (u:Int)=Go.Lib.decDigits u:=by rfl
  rw[e]at G;obtain⟨aR,aW⟩:=QS u;rw[G]at aR aW;unfold eZ;rw[if_neg]
  ·have:=aa2 u;grind
  grind
 ·intro aw;have e:=QJ aw;rw[h]at e;obtain rfl:v=eZ s:=by grind
  refine⟨⟨?_,aw⟩,?_⟩
  ·unfold eZ at aw;grind
  ·have e:Go.Lib.itoa (eZ s)=Go.Lib.decDigits (eZ s).toNat:=by unfold Go.Lib.itoa;grind
   rw[e];unfold eZ at aw ⊢;split at aw
   ·omega
   ·rename_i W;rw[if_neg W];simp only[Bool.or_eq_true,Bool.and_eq_true,decide_eq_true_eq,not_or,not_and]at W;exact asY _ s rfl (λe=>W.1.1 (by grind)) W.2 (by omega)
theorem aa3{s:aL}(h:∀ v,Go.Lib.atoiAll s≠.ok v):decide (0<=eZ s)=false:=decide_eq_false λaw=>h _ (QJ aw)
end Go.Fer.ax
namespace Go.Fer.oG
open Go Go.Proofs Go.RowKit
abbrev as0:Code:=Tryz.f140.body.getD .skip
theorem as1:h7 Tryz.prog 140 .str (.aA (.int .i64) .bool) ax.Fz.sh where
 enter:=uH Tryz.func140 (show Tryz.f140.body=some as0 by kernel_rfl) (by kernel_rfl)
 iW:=λF w args x bn gn a_ aE=>by
  change List UInt8 at x;have aE:x.length<=10000:=aE;obtain⟨rfl,ai⟩:=QQ a_;have W:=QP x;have bk:=J' x;have fin:∀ (n:Int) (b:Bool) (w':World),fR .i64 n->ax.rK x=(n,b)->Below w.heap.size w w'->∃ v y,Ending.returned (.tuple #[.int .i64 n,.bool b])=.returned v/\(ax.Fz.sh x).bR y/\tR Tryz.prog (.aA (.int .i64) .bool) (vk F w w') w' v y/\Below w.heap.size w w':=λn b w' M he zj=>
   ⟨_,(n,b),rfl,he.symm,⟨[.int .i64 n,.bool b],rfl,Ck.2 ⟨gV.2 ⟨rfl,M⟩,(si rfl).2 ⟨_,rfl,fe.2 rfl⟩⟩⟩,zj⟩
  cases he:Lib.atoiAll x with
  | ok v=>
   have ae:=Lib.atoiAll_bounds he;refine (Tryz.asT ⟨x.toArray⟩ w v (by rw[bk];omega) (by rw[W];exact he) ae.1 ae.2 (aa0 gn)).mono ?_;rintro e w' ⟨rfl,zj⟩;refine fin v _ w' ae ?_ zj;rw[W,bk,ax.asZ he];unfold ax.rK ax.tC;rw[he]
  | range=>
   obtain⟨_,ik,ae,p5⟩:=Ka gn (b:=2) (by decide);refine (Tryz.asX ⟨x.toArray⟩ w (by rw[bk];omega) (by rw[W];exact he) ik ae p5).mono ?_;rintro e w' ⟨rfl,zj⟩;rw[W]at *
   refine fin _ _ w' (Lib.atoiSat_bounds x) ?_ zj;unfold ax.rK ax.tC;rw[he,ax.aa3 λv h=>by rw[he]at h;cases h]
  | _=>
   obtain⟨_,ik,ae,p5⟩:=Ka gn (b:=1) (by decide);refine (Tryz.asW ⟨x.toArray⟩ w (by rw[bk];omega) (by rw[W];exact he) ik ae p5).mono ?_;rintro e w' ⟨rfl,zj⟩;refine fin 0 _ w' (by decide) ?_ zj;unfold ax.rK ax.tC;rw[he,ax.aa3 λv h=>by rw[he]at h;cases h]
end Go.Fer.oG
namespace Go.Fer
open Go.RowKit
abbrev mP:ab:=.int .i64
def QT(x:z1'×Unit):A (z1'×Unit):=A.dQ (x.1.length<4611686018427387904) (x.1.mergeSort (λa b=>decide (a<=b)),())
def qi:cK:=⟨⟨[(0,.an 200001)],[(200001,.bh mP)]⟩,⟨[],[(200001,.bh mP)]⟩,[],1,QT⟩
section
variable {P:Program} {F:Nat->Prop} {w:World}
theorem aa4{cs:Array Value}{off:Nat}{xs:z1'}(h:lL P mP F w cs off xs){i:Nat}(G:i<xs.length):cs[off+i]?=some (.int .i64 xs[i])/\fR .i64 xs[i]:=by
 obtain⟨bj,E,U,ag⟩:=h i G;subst U;have:=E 0 (by simp);refine⟨?_,ag⟩;have e:off+i*ab.size mP+0=off+i:=by show off+i*1+0=off+i;omega
 rw[e]at this;exact this
theorem as2{cs:Array Value}{off:Nat}{xs:z1'}(h:∀ i (h:i<xs.length),cs[off+i]?=some (.int .i64 xs[i])/\fR .i64 xs[i]):lL P mP F w cs off xs:=λi G=>by
 obtain⟨E,U⟩:=h i G;refine⟨[.int .i64 xs[i]],λj aF=>?_,rfl,U⟩;have aF:j=0:=by simpa using aF
 subst aF;have e:off+i*ab.size mP+0=off+i:=by show off+i*1+0=off+i;omega
 rw[e];exact E
theorem as3{cs:Array Value}{T:TypeId}{b off:Nat}{xs:z1'}(W:w.heap[b]?=some (.cells cs T (0,0)))(h:lL P mP F w cs off xs):Go.Sort.Holds (Value.int .i64) w b off xs.toArray:=λj aF=>by
 have fS:j<xs.length:=by simpa using aF
 obtain⟨E,_⟩:=aa4 h fS;refine⟨?_,by simp[World.frozen?,W]⟩;simp only[World.cell?,W];simp only[Option.isSome_none,Bool.false_eq_true,if_false];rw[E];simp[fS]
theorem as4{cs:Array Value}{off:Nat}{xs ys:z1'}(ai:ys.length=xs.length)(hX:∀ y∈ys,fR .i64 y)(cf:off+xs.length<=cs.size):lL P mP F w (Go.Sort.putCells (Value.int .i64) off ys.toArray cs) off ys:=by
 refine as2 λi G=>⟨?_,hX _ (List.getElem_mem G)⟩
 have E:off+i<cs.size:=by omega
 simp[Go.Sort.putCells,E,G]
end
section
variable {P:Program} {aQ:dD}
theorem as5{k:FuncId}(he:∀ args w,(callFunc k args).run P w=.ok (.enter k args) w)
  (E:∀ (aa off cap:Nat) (zs:z1') (w:World),Go.Sort.Holds (Value.int .i64) w aa off zs.toArray->aa<w.heap.size->zs.length<4611686018427387904->Calls P k #[.slice (some ⟨aa,off,none⟩) zs.length cap] w λe w'=>
   e=.returned (.tuple #[])/\∃ n os,w'=Go.Sort.grow (Go.Sort.putRow (Value.int .i64) (Go.Sort.ahead w n) aa off (zs.mergeSort λx y=>decide (x<=y)).toArray) os)
  (aU:∀ (p:Option Addr) (cap:Nat) (w:World),Calls P k #[.slice p 0 cap] w λe w'=>e=.returned (.tuple #[])/\w'=w):cR P aQ k qi where
 enter:=he
 iW C a w κ F D jt AO M ar rS ua h aE:=by
  obtain⟨xs,u⟩:=D;have hlen:xs.length<4611686018427387904:=aE;have cf:a.tmps.size=1:=h.dE.trans rS;have qJ:=h.bT 0;have W:=h.bC 200001;change jG C.P _ κ F w (κ 200001) (.bh mP xs) at W;have ae:a.tmps.getD 0 undef=(κ 200001).slice xs.length:=qJ.2 rfl rfl;have a_:a.tmps=#[(κ 200001).slice xs.length]:=by
   apply Array.ext (by simp[cf]);intro i G dJ;have:i=0:=by omega
   subst this;rw[<-ae];simp[Array.getD,cf]
  have qO:∀ bm,bm=((xs.mergeSort (λx y=>decide (x<=y)),()):z1'×Unit)->(qi.sh (xs,u)).bR bm:=λbm e=>e;have n_:∀ {w':World} {F':Nat->Prop} {ys:z1'},bl C (aB.mk (qi.cn.st (xs,u)).az λi=>if i=200001 then ⟨0,.bh mP ys⟩ else (qi.cn.st (xs,u)).aa i) a w' κ F'->bl { C with nt:=0 } (qi.bR.st (ys,())) { tmps:=#[],defers:=[] } w' κ F':=λ{w' F' ys} jU=>by
   have e:(qi.bR.st (ys,())).aa=λi=>if i=200001 then (⟨0,.bh mP ys⟩:bK) else (qi.cn.st (xs,u)).aa i:=by
    funext i;show eP [(200001,bQ.bh mP ys)] i=if i=200001 then _ else eP [(200001,bQ.bh mP xs)] i
    simp only[eP];by_cases G:i=200001
    ·rw[if_pos G,if_pos G]
    ·rw[if_neg G,if_neg G,if_neg G]
   refine { dE:=rfl,dfr:=ar.symm,bT:=λi=>trivial,bC:=λb=>?_,an:=λb=>?_,inj:=λb be=>?_,db:=jU.db,hi:=jU.hi,hT:=jU.hT,hx:=jU.hx,eH:=jU.eH,size:=jU.size,er:=jU.er,gl:=Nat.zero_le _,kv:=jU.kv,jH:=λb r=>?_,j_:=jU.j_,kx:=λb k=>?_,eL:=λl aK L n st e=>(by cases e),jI:=jU.jI,iD:=jU.iD }
   ·rw[e];exact jU.bC b
   ·rw[e];exact jU.an b
   ·rw[e];exact jU.inj b be
   ·rw[e];exact jU.jH b r
   ·rw[e];exact jU.kx b k
  subst jt;rw[a_];by_cases aw:(κ 200001).e6=true
  ·have ah:xs=[]:=W.1 aw;subst ah;have iq:(κ 200001).slice 0=.slice none 0 0:=by simp[bB.slice,aw]
   rw[show ([]:z1').length=0 from rfl,iq];refine (aU none 0 w).mono ?_;rintro e w' ⟨rfl,rfl⟩;refine⟨_,([],()),[],κ,F,rfl,qO _ (congrArg (λl=>(l,())) List.mergeSort_nil.symm),⟨[],rfl,rfl,rfl⟩,n_ ?_⟩;have e:(λi=>if i=200001 then (⟨0,.bh mP []⟩:bK) else (qi.cn.st ([],u)).aa i)=(qi.cn.st ([],u)).aa:=by
    funext i;by_cases G:i=200001
    ·subst G;rfl
    ·rw[if_neg G]
   rw[e];exact h
  ·have aw:(κ 200001).e6=false:=by simpa using aw
   obtain⟨cs,T,ds,ec,lJ,qm,w7⟩:=W.2 aw;have gm:((qi.cn.st (xs,u)).aa 200001).body.bZ (κ 200001)=true:=by show (!(κ 200001).e6)=true;rw[aw];rfl
   have af:=h.an 200001 gm;have iq:(κ 200001).slice xs.length=.slice (some ⟨(κ 200001).aa,(κ 200001).off,none⟩) xs.length (κ 200001).cap:=by simp[bB.slice,aw]
   rw[iq];refine (E (κ 200001).aa (κ 200001).off (κ 200001).cap xs w (as3 ds w7) af.1 hlen).mono ?_;rintro e w' ⟨rfl,n,os,rfl⟩;have ao:(xs.mergeSort λx y=>decide (x<=y)).Perm xs:=List.mergeSort_perm _ _;generalize ke:(xs.mergeSort λx y=>decide (x<=y))=ys at ao qO;have aa5:ys.length=xs.length:=ao.length_eq;have Ge:(κ 200001).off+xs.length<=cs.size:=by
    have:(κ 200001).cap*ab.size mP=(κ 200001).cap:=Nat.mul_one _;omega
   have hX:∀ y∈ys,fR .i64 y:=λy aS=>by
    have:=ao.mem_iff.1 aS;obtain⟨i,G,rfl⟩:=List.getElem_of_mem this;exact (aa4 w7 G).2
   have as6:(Go.Sort.putRow (Value.int .i64) (Go.Sort.ahead w n) (κ 200001).aa (κ 200001).off ys.toArray).heap[(κ 200001).aa]?=some (.cells (Go.Sort.putCells (Value.int .i64) (κ 200001).off ys.toArray cs) T (0,0)):=by
    simp[Go.Sort.putRow,Go.Sort.mapBlock,Go.Sort.ahead,Array.getElem?_modify,ds,Go.Sort.onCells]
   have w8:bl C ((qi.cn.st (xs,u)).cx 200001 ⟨0,.bh mP ys⟩) a (Go.Sort.putRow (Value.int .i64) (Go.Sort.ahead w n) (κ 200001).aa (κ 200001).off ys.toArray) κ F:=by
    refine h.px (b:=200001) (x:=⟨0,.bh mP ys⟩) gm ?_ ?_ nofun nofun (λr M=>?_) (by simp[Go.Sort.putRow,Go.Sort.mapBlock,Go.Sort.ahead]) ⟨rfl,rfl,rfl⟩ (λH mY iP kE=>⟨λhc=>absurd (aw.symm.trans hc) nofun,λ_=>?_⟩)
    ·show (!(κ 200001).e6)=true;rw[aw];rfl
    ·intro b;by_cases W:b=200001
     ·subst W;exact⟨Nat.le_refl _,λ_=>⟨nofun,λ_=>⟨rfl,rfl,aa5,rfl⟩,nofun,nofun⟩⟩
     ·show qq _ (if b=200001 then _ else _) _ _;rw[if_neg W];exact qq.refl _ _
    ·simp[Go.Sort.putRow,Go.Sort.mapBlock,Go.Sort.ahead,Array.getElem?_modify,Ne.symm M]
    ·refine⟨_,T,as6,?_,?_,qm,as4 aa5 hX Ge⟩
     ·simpa [Go.Sort.putCells]using ec
     ·show ys.length<=_;omega
   refine⟨_,(ys,()),[],κ,_,rfl,qO _ rfl,⟨[],rfl,rfl,rfl⟩,n_ (w8.grow ?_)⟩;refine⟨rfl,rfl,rfl,by simp[Go.Sort.grow],λk al=>?_⟩;simp only[Go.Sort.grow];rw[Array.getElem?_append_left al]
end
end Go.Fer
namespace Go.Fer
open Go.RowKit
def as7(e:ab)(x:Int×Unit):A (List e.aj×Unit):=A.dQ (0<=x.1/\x.1<60000) ([],())
def vg(e:ab):cK:=⟨⟨[(0,.dn),(1,.val (.int .i64))],[]⟩,⟨[(0,.an 50000)],[(50000,.bh e)]⟩,[none],2,as7 e⟩
section
variable {P:Program} {aQ:dD} {e:ab}
theorem aa6{C:b9}{a:Act}{w w':World}{κ:Nat->bB}{F:Nat->Prop}{D:(vg e).cn.aj}(h:bl C ((vg e).cn.st D) a w κ F)(ar:C.dfr=[]){kb:bB}{v:Value}
  (ae:v=kb.slice 0) (cf:w.heap.size<=w'.heap.size) (hw:∀ r,r<w.heap.size->w'.heap[r]?=w.heap[r]?) (hc:dd w w') (lp:kb.e6=false->kb.aa=w.heap.size/\w.heap.size<w'.heap.size)
  (aT:kb.e6=false->∃ cs T,w'.heap[kb.aa]?=some (.cells cs T (0,0))/\kb.off+kb.cap*e.size<=cs.size/\kb.cap<2 ^ 63) :
  bl { C with nt:=1 } ((vg e).bR.st ([],())) { tmps:=#[v],defers:=[] } w' (λi=>if i=50000 then kb else κ i) F:=by
 have W:∀ b,((vg e).bR.st ([],())).aa b=if b=50000 then ⟨0,.bh e []⟩ else ⟨0,.fy⟩:=λb=>rfl
 have a_:∀ b,b≠50000->((vg e).bR.st ([],())).aa b=⟨0,.fy⟩:=λb aw=>by rw[W,if_neg aw]
 have bN:((vg e).bR.st ([],())).aa 50000=⟨0,.bh e []⟩:=rfl;have gm:∀ b,(((vg e).bR.st ([],())).aa b).body.bZ (if b=50000 then kb else κ b)=true->b=50000/\kb.e6=false:=λb af=>by
  by_cases e:b=50000
  ·subst e;rw[bN,if_pos rfl]at af;exact⟨rfl,by simpa [bQ.bZ]using af⟩
  ·rw[a_ b e]at af;cases af
 refine { dE:=rfl,dfr:=ar.symm,bT:=λi=>?_,bC:=λb=>?_,an:=λb af=>?_,inj:=λb be E U _=>?_,db:=λr M=>Nat.lt_of_lt_of_le (h.db r M) cf,hi:=h.hi,hT:=h.hT,hx:=h.hx,eH:=λr M=>?_,size:=Nat.le_trans h.size cf,er:=h.er.trans hc,gl:=(by unfold eQ;exact (by decide:1<=100000)),kv:=h.kv,jH:=λb r M ja=>?_,j_:=h.j_,kx:=λb k al _ G=>?_,eL:=λl aK L n st e=>(by cases e),jI:=h.jI,iD:=h.iD.mono (λ_ h=>h) ⟨cf,λr M=>hw r (h.db r M)⟩ }
 ·by_cases G:i=0
  ·subst G;refine⟨⟨Nat.le_refl _,?_⟩,λ_ _=>?_⟩
   ·show v.oneCell'=true;rw[ae];unfold bB.slice;split<;>rfl
   ·show v=_;rw[ae];show kb.slice 0=(if (50000:Nat)=50000 then kb else κ 50000).slice 0;rw[if_pos rfl]
  ·have:((vg e).bR.st ([],())).az i=.undef:=by
    show fr [(0,aH.an 50000 0)] i=.undef;simp[fr,G]
   rw[this];trivial
 ·unfold cD;by_cases ay:b=50000
  ·subst ay;rw[bN];show jG _ _ _ _ _ (if (50000:Nat)=50000 then kb else κ 50000) (.bh e []);rw[if_pos rfl];refine⟨λ_=>rfl,λaw=>?_⟩;obtain⟨cs,T,E,U,ag⟩:=aT aw;exact⟨cs,T,E,U,Nat.zero_le _,ag,λi G=>absurd G (Nat.not_lt_zero _)⟩
  ·rw[a_ b ay];trivial
 ·obtain⟨rfl,aw⟩:=gm b af;obtain⟨E,U⟩:=lp aw;rw[if_pos rfl,E];refine⟨U,λau=>?_,λal=>?_⟩
  ·have:=h.db _ au;omega
  ·have:=h.hx _ al;have:=h.size;omega
 ·rw[(gm b E).1,(gm be U).1]
 ·have E:=h.hx r M;rw[hw r (Nat.lt_of_lt_of_le E h.size)];exact h.eH r M
 ·by_cases ay:b=50000
  ·subst ay;rw[bN]at ja;rcases ja with h | h<;>cases h
  ·rw[a_ b ay]at ja;rcases ja with h | h<;>cases h
 ·by_cases ay:b=50000
  ·subst ay;have:=h.j_ _ _ al;unfold xi at this;omega
  ·rw[a_ b ay]at G;cases G
theorem aa7{k:FuncId}(he:∀ args w,(callFunc k args).run P w=.ok (.enter k args) w)
  (aU:∀ w:World,Calls P k #[.slice none 0 0,.int .i64 0] w λe w'=>e=.returned (.slice none 0 0)/\w'=w)
  (E:∀ (n:Nat) (w:World),0<n->n<60000->Calls P k #[.slice none 0 0,.int .i64 (n:Int)] w λy w'=>∃ (ch:Nat) (T:TypeId) (cs:Array Value),y=.returned (.slice (some ⟨w.heap.size,0,none⟩) 0 ch)/\
   w'=w.drew.alloc (.cells cs T)/\ch<2 ^ 63/\ch*e.size<=cs.size):cR P aQ k (vg e) where
 enter:=he
 iW C a w κ F D jt AO M ar rS ua h aE:=by
  obtain⟨n,u⟩:=D;change Int at n;obtain⟨sF,qD⟩:0<=n/\n<60000:=aE;have cf:a.tmps.size=2:=h.dE.trans rS;have as8:a.tmps.getD 0 undef=.slice none 0 0:=h.bT 0;have qu:a.tmps.getD 1 undef=.int .i64 n:=(gV.1 (h.bT 1)).1;have a_:a.tmps=#[.slice none 0 0,.int .i64 n]:=by
   apply Array.ext (by simp[cf]);intro i G dJ;have:i=0\/i=1:=by omega
   rcases this with rfl | rfl
   ·rw[<-as8];simp[Array.getD,cf]
   ·rw[<-qu];simp[Array.getD,cf]
  subst jt;rw[a_];by_cases bk:n=0
  ·subst bk;refine (aU w).mono ?_;rintro y w' ⟨rfl,rfl⟩;refine⟨_,([],()),[.slice none 0 0],_,F,rfl,rfl,⟨[.slice none 0 0],rfl,rfl,[],rfl,rfl⟩,aa6 h ar (kb:=⟨0,0,0,true⟩) rfl (Nat.le_refl _) (λ_ _=>rfl) (dd.refl _) nofun nofun⟩
  ·obtain⟨m,rfl⟩:∃ m:Nat,n=m:=⟨n.toNat,by omega⟩
   refine (E m w (by omega) (by omega)).mono ?_;rintro y w' ⟨ch,T,cs,rfl,rfl,gn,pA⟩;refine⟨_,([],()),[.slice (some ⟨w.heap.size,0,none⟩) 0 ch],_,F,rfl,rfl,⟨[_],rfl,rfl,[],rfl,rfl⟩,aa6 h ar (kb:=⟨w.heap.size,0,ch,false⟩) rfl (by simp) (λr M=>?_) ⟨rfl,rfl,rfl⟩ (λ_=>⟨rfl,by simp⟩) (λ_=>⟨cs,T,?_,by simpa using pA,gn⟩)⟩
   ·exact pw w.drew _ M
   ·show (w.drew.heap.push _)[w.heap.size]?=_;exact Array.getElem?_push_size
theorem aa8{aJ:Go.Shelf.Ren}(L:Go.Proofs.Lays8.n4 P aJ)(w:World):Calls P (aJ.f 4) #[.slice none 0 0,.int .i64 0] w λe w'=>e=.returned (.slice none 0 0)/\w'=w:=
 Go.Proofs.Any8.slices_Grow_room L none 0 0 0 w (Nat.le_refl _) (by decide) (by decide) (Nat.le_refl _)
theorem aa9{aJ:Go.Shelf.Ren}(L:Go.Proofs.Lays8.n4 P aJ)(aM:b8 P e (aJ.t 25))(aE:e.size≠0)(n:Nat)(w:World)(aU:0<n)(E:n<60000) :
  Calls P (aJ.f 4) #[.slice none 0 0,.int .i64 (n:Int)] w λy w'=>∃ (ch:Nat) (T:TypeId) (cs:Array Value),y=.returned (.slice (some ⟨w.heap.size,0,none⟩) 0 ch)/\w'=w.drew.alloc (.cells cs T)/\ch<2 ^ 63/\ch*e.size<=cs.size:=by
 obtain⟨i0,z,oP,cf,W,Ly,as9,_⟩:=kA aM.kz;have nj:0<i0.size:=by omega
 have uk:=(CL (P:=P) e as9).2;refine (Go.Proofs.Any8.slices_Grow_grow L i0 z oP Ly nj none 0 0 n [] w (Nat.le_refl _) (by omega) ?_ (by omega) (by simp) (λ_=>rfl) nofun).mono ?_
 ·have:(0+n)*i0.bytes<=(0+n)*1024:=Nat.mul_le_mul_left _ W;omega
 ·rintro y w' ⟨rfl,rfl⟩;refine⟨_,_,_,rfl,rfl,?_,?_⟩
  ·have:=grownCap_le_maxLen w (0+n) 0 (aJ.t 25) (by unfold maxLen;omega);unfold maxLen at this;omega
  ·have:=grownCap_ge w (0+n) 0 (aJ.t 25);generalize grownCap w (0+n) 0 (aJ.t 25)=ch at this;simp only[Array.size_append,size_zeroCells,uk];have ay:(0+n - 0)*e.size+(ch - (0+n))*e.size=ch*e.size:=by rw[<-Nat.add_mul];congr 1;omega
   have aP:(#[]:Array Value).size=0:=rfl;omega
end
end Go.Fer
namespace Go.Fer.oG
open Go.Proofs
def FF(aQ:dD)(c:cK)(sh:Nat->c.cn.aj->A c.bR.aj):List Nat->Prop
 | []=>True
 | k::l=>cR Tryz.prog aQ k { c with sh:=sh k }/\FF aQ c sh l
theorem FF.mem{aQ:dD}{c:cK}{sh:Nat->c.cn.aj->A c.bR.aj}:∀ {l:List Nat},FF aQ c sh l->∀ k∈l,cR Tryz.prog aQ k { c with sh:=sh k }
 | [],_,k,h=>by cases h
 | j::l,h,k,al=>by
  rcases List.mem_cons.1 al with rfl | al
  ·exact h.1
  ·exact FF.mem h.2 k al
theorem zk{k:Nat}{e:ab}{f:List e.aj×Unit->A (List e.aj×Unit)}{sh:(ab.slice e).aj->A (ab.slice e).aj}(h:cR Tryz.prog dC k ⟨⟨[(0,.val (.slice e))],[]⟩,⟨[(0,.an 60)],[(60,.bh e)]⟩,[none],1,f⟩)
  (ao:∀ x:List e.aj,(sh x).b2->(f (x,())).b2/\∀ bm,(f (x,())).bR bm->bm.1=(sh x).val (ab.slice e).df):nW (hJ.kJ ⟨.slice e,.slice e,sh,true⟩).aX=true/\CZ Tryz.prog k (hJ.kJ ⟨.slice e,.slice e,sh,true⟩):=
 ajJ (by simp) h mI (b0:=60) (λx=>(x,())) (λx=>rfl) rfl (by show 1<=eQ;decide) rfl (λbm=>bm.1) (λbm=>⟨rfl,rfl⟩) ao
abbrev as_:Code:=Tryz.f161.body.getD .skip
theorem as'(aQ:dD):cR Tryz.prog aQ 161 qi:=
 as5 (uH Tryz.func161 (show Tryz.f161.body=some as_ by kernel_rfl) (by kernel_rfl)) (λaa off cap zs w E U ag=>calls_of_every_depth λbU=>AnyS.slices_Sort_int_in Tryz.aaV bU aa off cap zs w E U ag)
  λp cap w=>Any.slices_Sort_int_none Tryz.aaV p cap w
theorem ata:QT=H.yv:=by
 funext x;unfold QT H.yv;rw[show x.1.mergeSort (λa b=>decide (a<=b))=H.fu H.ht x.1 from (H.A6 ((List.pairwise_mergeSort (le:=λa b:Int=>decide (a<=b)) (λa b c E U=>by simp at E U ⊢;omega) (λa b=>by simp;omega) x.1).imp λh=>by simpa using h) (List.mergeSort_perm _ _).symm).symm]
def QU:cK:=⟨⟨[(0,.an 200001)],[(200001,.bh t3)]⟩,⟨[],[(200001,.bh t3)]⟩,[],1,H.yv⟩
theorem aa_:cR Tryz.prog dC 161 QU:=by
 have:=as' dC;unfold qi at this;rw[ata]at this;exact this
abbrev atb:Code:=Tryz.f257.body.getD .skip
abbrev atc:Code:=Tryz.f256.body.getD .skip
def aa':cK:=⟨⟨[(0,.dn),(1,.val t3)],[]⟩,⟨[(0,.an 50000)],[(50000,.bh t3)]⟩,[none],2,H.Js⟩
def aba:cK:=⟨⟨[(0,.dn),(1,.val t3)],[]⟩,⟨[(0,.an 50000)],[(50000,.bh H.hr)]⟩,[none],2,H.Jt⟩
theorem atd:cR Tryz.prog dC 257 aa':=
 aa7 (e:=t3) (uH Tryz.func257 (show Tryz.f257.body=some atb by kernel_rfl) (by kernel_rfl)) (aa8 Tryz.aaW) (aa9 Tryz.aaW (oe.cc (id:=3) rfl (by decide)) (by decide))
theorem ate:cR Tryz.prog dC 256 aba:=
 aa7 (e:=H.hr) (uH Tryz.func256 (show Tryz.f256.body=some atc by kernel_rfl) (by kernel_rfl)) (aa8 Tryz.aaX) (aa9 Tryz.aaX (oe.cc (id:=125) rfl (by decide)) (by decide))
def g1:=ajH.cons (n:=139) (c:=ax.JX.dv) ⟨asK,λ_ _=>A.v8⟩
def ei:=g1.cons (n:=204) (c:=ax.JO.dv) ⟨asO,λ_ _=>A.v8⟩
def g3:=ei.cons (n:=258) (c:=ax.Fw.dv) ⟨asQ,λ_ _=>A.v8⟩
def atf:=g3.cons (n:=140) (c:=ax.Fz.dv) ⟨as1,λ_ _=>A.v8⟩
end Go.Fer.oG
namespace Go.Fer.ax
open A (V)
open H (ft)
theorem atg{d:bb}(h:da d):pn.sh d=A.pure 0:=by
 have e:pn.sh d=A.pure (jk d):=A.bP ⟨h.gq,h.j7⟩ _;rw[e,h.aaq]
def gg(n:Int):aL:=if n<0 then Fu else Go.Lib.decDigits n.toNat
theorem QV(u:Nat):Go.Lib.decDigits u=(if u<10 then [] else Go.Lib.decDigits (u / 10))++[UInt8.ofNat (48+u % 10)]:=by
 split
 ·rw[Go.Lib.decDigits_one (by omega),Nat.mod_eq_of_lt (by omega)];rfl
 ·conv=>lhs;unfold Go.Lib.decDigits
  rw[dif_neg (by omega)]
theorem abb(k:Nat):UInt8.ofNat (Int.toNat (IntKind.wrap .u8 (IntKind.wrap .i64 (Add.add 48 (Int.tmod (k:Int) 10)))))=UInt8.ofNat (48+k % 10):=by
 have e:Int.tmod (k:Int) 10=((k % 10:Nat):Int):=rfl;rw[e,cp,bG (by omega) (by omega),aaN (by omega) (by omega)];congr 1
theorem abc:∀ (k u:Nat),u<10 ^ (k+1)->Go.Lib.nDigits u<=k+1
 | 0,u,h=>by rw[Go.Lib.nDigits_small (by omega)];omega
 | k+1,u,h=>by
  unfold Go.Lib.nDigits;split
  ·omega
  ·have:=abc k (u / 10) (by rw[Nat.pow_succ]at h;omega);omega
abbrev B1:aN:=⟨.int .i64,.str,λn=>n<2 ^ 63,gg⟩
theorem ath(x):A.le (Y6 x) (B1.sh x):=A.bw λh=>by
 change x<2 ^ 63 at h;unfold Y6;show _=A.pure (gg x);unfold gg;by_cases ah:x<0
 ·rw[if_pos (decide_eq_true ah),if_pos ah]
 ·rw[if_neg (by simpa using ah),if_neg ah,A.bu (by decide)];obtain⟨u,rfl⟩:∃ u:Nat,x=u:=⟨x.toNat,by omega⟩
  have B0:=Go.Lib.nDigits_le20 u (by omega);rw[<-Go.Lib.decDigits_length]at B0;have e:=QV u;rw[A.ac_ (res:=V.next (Go.Lib.decDigits u,())) (λs=>∃ k:Nat,s.1=(k:Int)/\k<=u/\Go.Lib.decDigits u=(if k<10 then [] else Go.Lib.decDigits (k / 10))++s.2.1) (λs=>s.1.toNat) ?_ _ ⟨u,rfl,Nat.le_refl _,by rw[abb];exact e⟩,A.aG]
  ·rfl
  ·rintro⟨n,t,⟨⟩⟩ ⟨k,E,U,ag⟩;change n=(k:Int) at E;subst E;change _=_++t at ag;have ati:=congrArg List.length ag;rw[List.length_append]at ati;have EG:Int.tdiv (k:Int) 10=((k / 10:Nat):Int):=rfl;by_cases al:k<10
   ·right;rw[if_pos al,List.nil_append]at ag;simp only[EG];rw[if_neg (by simp;omega),A.aG,ag]
   ·left;rw[if_neg al,QV (k / 10),List.append_assoc]at ag;refine⟨(((k / 10:Nat):Int),[UInt8.ofNat (48+k / 10 % 10)]++t,()),?_,⟨k / 10,rfl,by omega,ag⟩,by show (((k / 10:Nat):Int)).toNat<((k:Int)).toNat;omega⟩;simp only[EG];rw[if_pos (by simp;omega),A.bu (by decide),A.bu (by decide),A.bu (ft (by simp only[gZ];omega)),bG (by omega) (by omega),abb]
theorem QW{n:Int}(h:n<=999999):(gg n).length<=6:=by
 unfold gg;split
 ·decide
 ·rw[Go.Lib.decDigits_length];exact abc 5 _ (by omega)
def fm(w:aL)(l:z1'):aL:=l.foldl (λs n=>s++([32]++gg n)) w
abbrev qj:aN:=⟨.aA .str fP,.str,λx=>x.1.length<=1000/\x.2.length<=1000/\∀ n∈x.2,n<=999999,λx=>fm x.1 x.2⟩
theorem atj(x):A.le (Y7 B1.sh x) (qj.sh x):=A.bw λh=>by
 obtain⟨w,l⟩:=x;obtain⟨E,U,ag⟩:w.length<=1000/\l.length<=1000/\∀ n∈l,n<=999999:=h;unfold Y7;show _=A.pure (fm w l);rw[A.gw l (λi (s:aL)=>(s,l,(i:Int),())) (λn s=>.next (s++([32]++gg n))) (λs=>.next (s,())) (λi s=>s.length<=1000+7*i) w ?_ (by omega) ?_ ?_]
 ·rw[fs,A.aG];rfl
 ·rfl
 ·intro i G s aE;have hw:=bG (n:=(i:Int)+1) (by omega) (by omega);have aw:=ag _ (List.getElem_mem G);have aM:=QW aw;refine⟨?_,λbe de=>?_⟩
  ·simp only[bX,cY G,if_true,dm G,cI G,A.bo,cp,hw];rw[show B1.sh l[i]=A.pure (gg l[i]) from A.bP (show l[i]<2 ^ 63 by omega) _,A.aG,A.bu (ft (by simp only[gZ];omega)),A.bu (ft (by simp only[gZ];omega))];rfl
  ·simp only[V.next.injEq]at de;subst de;simp only[List.length_append,List.length_cons,List.length_nil];omega
 ·simp
theorem w2{w:aL}{l:z1'}(E:w.length<=1000)(U:l.length<=1000)(ag:∀ n∈l,n<=999999):qj.sh (w,l)=A.pure (fm w l):=A.bP ⟨E,U,ag⟩ _
theorem vh{n:Nat}:∀ {l:z1'} {w:aL},(∀ n∈l,n<=999999)->w.length<=n->(fm w l).length<=n+7*l.length
 | [],w,_,h=>h
 | k::l,w,h,hw=>by
  have aM:=QW (h k (by simp));have:=vh (n:=n+7) (l:=l) (w:=w++([32]++gg k)) (λn aw=>h n (by simp[aw])) (by simp;omega);show (fm (w++([32]++gg k)) l).length<=_;simp only[List.length_cons];omega
theorem abd:∀ (a b:aL),cF (a++32::b)=cF a++cF b
 | [],b=>by simp[cF]
 | c::a,b=>by
  have aI:=abd a b;have ai:=vd a;simp only[List.cons_append,cF];split
  ·rw[aI];rfl
  ·rw[aI];cases h:cF a with
   | nil=>exact absurd ai.1 (by rw[h];decide)
   | cons v l=>rfl
theorem abe:∀ (w:aL),(∀ c∈w,c≠32)->cF w=[w]
 | [],_=>rfl
 | c::w,h=>by
  have aI:=abe w λd ar=>h d (by simp[ar]);simp only[cF];rw[if_neg (h c (by simp)),aI]
theorem atk(u:Nat):∀ c∈Go.Lib.decDigits u,c≠32:=by
 induction u using Nat.strongRecOn with
 | _ u aI=>
  intro c hc;rw[QV,List.mem_append]at hc;rcases hc with hc | hc
  ·split at hc
   ·cases hc
   ·exact aI (u / 10) (by omega) c hc
  ·rw[List.mem_singleton]at hc;subst hc;have:=Kb (u % 10) (by omega);intro e;rw[e]at this;have:((32:UInt8).toNat:Int)=32:=by decide
   omega
theorem atl(n:Int):cF (gg n)=[gg n]:=by
 refine abe _ ?_;unfold gg;split
 ·decide
 ·exact atk _
theorem abf:∀ (l:z1') (w:aL),cF (fm w l)=cF w++l.map gg
 | [],w=>by simp[fm]
 | n::l,w=>by
  show cF (fm (w++32::gg n) l)=_;rw[abf l,abd,atl];simp
theorem abg{n:Int}(aU:0<=n)(E:n<=999999):eZ (gg n)=n:=by
 have ai:=QW E;unfold gg at ai ⊢;rw[if_neg (by omega)]at ai ⊢;obtain⟨aR,aW⟩:=QS n.toNat;have ao:=List.length_pos_iff.2 aR;unfold eZ;rw[if_neg,aa2]
 ·omega
 ·simp only[Bool.or_eq_true,Bool.and_eq_true,decide_eq_true_eq,not_or,not_and];exact⟨⟨by omega,by omega⟩,aW⟩
theorem atm{l:z1'}(h:∀ n∈l,0<=n/\n<=999999):Ft (l.map gg)=some l:=by
 unfold Ft;have e:(l.map gg).map eZ=l:=by
  rw[List.map_map];conv=>rhs;rw[<-List.map_id l]
  exact List.map_congr_left λn aw=>abg (h n aw).1 (h n aw).2
 rw[e,if_pos];rw[List.all_map,List.all_eq_true];intro n aw;have:=h n aw;have:=abg (h n aw).1 (h n aw).2;simp only[Function.comp,decide_eq_true_eq];omega
theorem atn{w:aL}{k:Int}{m:Bool}{j:Nat}{l:z1'}(hw:cF w=[w])(au:oB w kQ 0=some (k,m,j))(al:k<=(l.length:Int)/\((l.length:Int)<=k\/m=true))(ai:∀ n∈l,0<=n/\n<=999999):Fv (fm w l)=some (j,l):=by
 unfold Fv;rw[abf,hw];have ay:(([w]++l.map gg).getD 0 [])=w:=rfl;have aP:(([w]++l.map gg).drop 1)=l.map gg:=rfl;have cw:((([w]++l.map gg).length:Int) - 1)=(l.length:Int):=by simp
 rw[ay,aP,cw,au,atm ai];simp only;rw[if_neg]
 ·rfl
 ·simp only[Bool.or_eq_true,Bool.and_eq_true,decide_eq_true_eq,Bool.not_eq_true',not_or,not_and,Bool.not_eq_false];refine⟨by omega,λh=>?_⟩;rcases al.2 with U | U
  ·omega
  ·exact U
theorem tG{w:aL}{k:Int}{m:Bool}{j:Nat}{l:z1'}(hw:cF w=[w])(au:oB w kQ 0=some (k,m,j))(al:k<=(l.length:Int)/\((l.length:Int)<=k\/m=true))(ai:∀ n∈l,0<=n/\n<=999999)(d:bb):iB d (fm w l)=zb j d l:=by
 unfold iB;rw[atn hw au al ai]
theorem QX(n:Int):gg n≠[]:=by
 unfold gg;split
 ·decide
 ·exact (QS _).1
theorem ato{n:Int}(h:n<2 ^ 63):(gg n).length<=21:=by
 unfold gg;split
 ·decide
 ·rw[Go.Lib.decDigits_length];have:=Go.Lib.nDigits_le20 n.toNat (by omega);omega
theorem atp{n:Int}(aU:0<=n)(h:n<2 ^ 63):gg n=qg n:=by
 unfold gg qg Go.Lib.itoa;rw[bG (by omega) (by omega),if_neg (by omega),if_neg (by omega)]
def tH(l:z1'):aL:=if l=[] then JC else Go.Lib.join (l.map gg) [32]
def w3(s:aL)(n:Int):aL:=(if s=[] then s else s++[32])++gg n
theorem abh:∀ (l:z1') (s:aL),s≠[]->l.foldl w3 s=s++Go.Lib.joinTail [32] (l.map gg)
 | [],s,_=>by simp[Go.Lib.joinTail]
 | n::l,s,h=>by
  rw[List.foldl_cons,abh l _ (by unfold w3;rw[if_neg h];simp)];unfold w3 Go.Lib.joinTail;rw[if_neg h];simp
theorem atq:∀ (l:z1'),l.foldl w3 []=Go.Lib.join (l.map gg) [32]
 | []=>rfl
 | n::l=>by
  have e:w3 [] n=gg n:=rfl;rw[List.foldl_cons,e,abh l _ (QX n),List.map_cons,Go.Lib.join_cons]
abbrev B2(l:z1'):Prop:=l.length<=2000/\∀ n∈l,-1<=n/\n<2 ^ 63
abbrev Kc:aN:=⟨fP,.str,B2,tH⟩
theorem atr(x):A.le (Zi B1.sh x) (Kc.sh x):=A.bw λh=>by
 obtain⟨E,U⟩:B2 x:=h;unfold Zi;show _=A.pure (tH x);rw[A.gw x (λi (s:aL)=>(x,s,(i:Int),())) (λn s=>.next (w3 s n)) (λs=>.next (s,())) (λi s=>s.length<=22*i/\(s=[]<->i=0)) [] ?_ ⟨by simp,by simp⟩ ?_ ?_]
 ·rw[fs,atq,A.aG,A.b3];unfold tH;cases x with
  | nil=>rfl
  | cons n l=>
   have:Go.Lib.join ((n::l).map gg) [32]≠[]:=by
    rw[List.map_cons,Go.Lib.join_cons];have:=QX n;simp[this]
   rw[if_neg (by simpa using this),if_neg (by simp)]
 ·rfl
 ·rintro i G s ⟨aR,aW⟩;have hw:=bG (n:=(i:Int)+1) (by omega) (by omega);have aw:=U _ (List.getElem_mem G);have aM:=ato aw.2;refine⟨?_,λbe de=>?_⟩
  ·simp only[bX,cY G,if_true,dm G,cI G,A.bo,cp,hw];have ah:B1.sh x[i]=A.pure (gg x[i]):=A.bP aw.2 _;unfold w3;by_cases aU:i=0
   ·have aE:=aW.2 aU;rw[if_neg (by simp[aU]),if_pos aE,A.aG,A.b3];simp only[cI G,A.bo,hw,dm G,ah,A.aG];rw[A.bu (ft (by simp only[gZ];omega))];rfl
   ·have aE:¬s=[]:=λe=>aU (aW.1 e);rw[if_pos (by simp;omega),if_neg aE,A.bu (ft (by simp only[gZ];omega)),A.aG,A.b3];simp only[cI G,A.bo,hw,dm G,ah,A.aG];rw[A.bu (ft (by simp only[gZ,List.length_append,List.length_cons,List.length_nil];omega))];rfl
  ·simp only[V.next.injEq]at de;subst de;unfold w3;have:=QX x[i];refine⟨?_,by simp[this]⟩;split
   ·simp only[List.length_append];omega
   ·simp only[List.length_append,List.length_cons,List.length_nil];omega
 ·simp
def sd(l:z1')(e:Int):aL:=if e=0 then tH l else if e=3 then JC else y9
abbrev oD:aN:=⟨.aA fP br,.str,λx=>B2 x.1,λx=>sd x.1 x.2⟩
theorem ats(x):A.le (Zh Kc.sh x) (oD.sh x):=A.bw λh=>by
 obtain⟨l,e⟩:=x;obtain⟨E,U⟩:B2 l:=h;unfold Zh;show _=A.pure (sd l e);rw[A.eu l (λi (_:Unit)=>(l,e,(i:Int),())) (λ_ b=>.next b) (λ_=>.next (l,e,())) () ?_ ?_ ?_]
 ·rw[fs,A.aG,A.b3];unfold sd;rw[show Kc.sh l=A.pure (tH l) from A.bP ⟨E,U⟩ _,A.aG];by_cases bF:e=0
  ·simp[bF]
  ·by_cases cw:e=3
   ·simp[cw]
   ·simp[bF,cw]
 ·rfl
 ·intro i G _;have hw:=bG (n:=(i:Int)+1) (by omega) (by omega);have aw:=U _ (List.getElem_mem G);simp only[bX,cY G,if_true,dm G,cI G,A.bo,cp,hw];rw[if_neg (by simp;omega)];rfl
 ·simp
theorem QY{l:z1'}(h:B2 l)(e:Int):oD.sh (l,e)=A.pure (sd l e):=A.bP h _
abbrev B3:aN:=⟨.aA l9 br,.str,λx=>B2 [x.1.1,x.1.2],λx=>sd [x.1.1,x.1.2] x.2⟩
theorem att(x):A.le (Zj oD.sh x) (B3.sh x):=A.bw λh=>by
 unfold Zj;rw[QY h,A.aG]
theorem abi{l:z1'}(h:∀ n∈l,0<=n/\n<2 ^ 63):tH l=ml l:=by
 unfold tH ml;rw[List.map_congr_left λn aw=>atp (h n aw).1 (h n aw).2]
theorem QZ{l:z1'}(h:∀ n∈l,0<=n/\n<2 ^ 63)(e:Int):sd l e=gz e l:=by
 unfold sd gz;rw[abi h]
abbrev w4(s:Int×Int):Prop:=(0<=s.1/\s.1<2 ^ 63)/\0<=s.2/\s.2<2 ^ 63
theorem Kd{l:z1'}(h:∀ n∈l,0<=n/\n<2 ^ 63):w4 (H.tk l):=by
 have key:∀ (l:z1') (o:Option (Int×Int)),w4 (o.getD (0,0))->(∀ n∈l,0<=n/\n<2 ^ 63)->w4 ((l.foldl (λo n=>some (H.Bm o n)) o).getD (0,0)):=by
  intro l;induction l with
  | nil=>exact λo h _=>h
  | cons n l aI=>
   intro o af ai;rw[List.foldl_cons];refine aI _ ?_ λk al=>ai k (by simp[al]);have aw:=ai n (by simp);cases o with
   | none=>exact⟨aw,aw⟩
   | some s=>
    obtain⟨⟨ca,a2⟩,a3,a4⟩:=af;simp only[Option.getD_some]at ca a2 a3 a4;simp only[Option.getD_some,H.Bm];omega
 exact key l none ⟨by decide,by decide⟩ h
theorem abj{d:bb}(ar:da d){b:Bool}{w:z1'}(h:w∈(H.eF d.2 b).1):H.iz d.2 w=true/\H.oj d.2 w:=by
 rcases H.yK d.2 b with⟨_,U,_⟩ | ⟨E,_⟩
 ·rw[U]at h;cases h
 ·rw[E]at h;have:=H.uX h;exact⟨this,H.Bl ar.q_ this⟩
theorem abk{d:bb}(ar:da d)(n:Int):∀ m∈(H.kN d.2 n).1,0<=m/\m<=11000:=by
 intro m hm;unfold H.kN at hm;split at hm
 ·cases hm
 split at hm
 ·cases hm
 obtain⟨w,hw,e⟩:=List.mem_filterMap.1 hm;exact H.IE (H.l' ar.q_) (abj ar hw).2 e
theorem atu{d:bb}(ar:da d)(n:Int):w4 (H.q0 d.2 n).1:=Kd λm hm=>by have:=abk ar n m hm;omega
theorem abl{d:bb}(ar:da d){m:Int}(h:0<=m/\m<=11000):0<=H.jA d.2.2.2.2.2 m/\H.jA d.2.2.2.2.2 m<=100000:=H.XN ⟨(H.l' ar.q_).EC,by omega,by omega⟩
theorem atv{d:bb}(ar:da d)(n:Int):w4 (H.q1 d.2 n).1:=Kd λp ao=>by
 obtain⟨m,hm,rfl⟩:=List.mem_map.1 ao;have:=abl ar (abk ar n m hm);omega
theorem atw{d:bb}(ar:da d){w:z1'}(hw:H.oj d.2 w)(g:Int):0<=H.yA d.2 w g/\H.yA d.2 w g<2 ^ 63:=by
 have aC:=H.l' ar.q_;have key:∀ (l:List H.a8) (n:Int),0<=n->0<=l.foldl (λn s=>if (H.eb s=1/\H.ij s=g)/\(H.iy d.2 w (H.jX s)).isSome=true then n+H.jA d.2.2.2.2.2 ((H.iy d.2 w (H.jX s)).getD 0) else n) n/\
   l.foldl (λn s=>if (H.eb s=1/\H.ij s=g)/\(H.iy d.2 w (H.jX s)).isSome=true then n+H.jA d.2.2.2.2.2 ((H.iy d.2 w (H.jX s)).getD 0) else n) n<=n+100000*l.length:=by
  intro l;induction l with
  | nil=>intro n h;simpa using h
  | cons s l aI=>
   intro n h;rw[List.foldl_cons];simp only[List.length_cons];split
   ·rename_i hc;obtain⟨m,hm⟩:=Option.isSome_iff_exists.1 hc.2;have ao:=abl ar (H.IE aC hw hm);rw[hm];have:=aI (n+H.jA d.2.2.2.2.2 ((some m).getD 0)) (by simp only[Option.getD_some];omega);simp only[Option.getD_some]at this ⊢;omega
   ·have:=aI n h;omega
 have:=key (H.fl d.2) 0 (Int.le_refl _);have ai:=aC.IC;unfold H.yA;omega
theorem atx{d:bb}(ar:da d)(g:Int):w4 (H.q2 d.2 g).1:=Kd λp ao=>by
 obtain⟨w,hw,rfl⟩:=List.mem_map.1 ao;exact atw ar (abj ar hw).2 g
theorem aty{d:bb}(ar:da d)(t:Int):w4 (H.q3 d.2 t).1:=Kd λp ao=>by
 obtain⟨w,hw,rfl⟩:=List.mem_map.1 ao;have E:=H.amp d.2 w t;have U:=(H.l' ar.q_).EC;unfold H.o8 at U;simp only[Bool.and_eq_true,H.oi]at U;obtain⟨_,ag,a7⟩:=U;have aR:=Int.mul_nonneg E.1 ag;have aW:=Int.mul_le_mul E.2 a7 ag (by decide);omega
theorem atz{d:bb}(ar:da d):0<=(pk d.1 true).1/\(pk d.1 true).1<2 ^ 63:=by
 have ae:=ar.val;unfold pk;split
 ·exact show (0:Int)<=0/\(0:Int)<2 ^ 63 by decide
 ·have ai:=(aaf d.1).1;have du:=ae.tw;have key:∀ (l:z1') (n:Int),0<=n->(∀ k∈l,0<=k/\k<=100000)->0<=l.foldl (·+·) n/\l.foldl (·+·) n<=n+100000*l.length:=by
   intro l;induction l with
   | nil=>intro n h _;simpa using h
   | cons k l aI=>
    intro n h al;have aR:=al k (by simp);have:=aI (n+k) (by omega) λj aF=>al j (by simp[aF]);rw[List.foldl_cons];simp only[List.length_cons];omega
  show 0<=pj d.1 (u' d.1)/\pj d.1 (u' d.1)<2 ^ 63;unfold pj;have:=key ((List.range (u' d.1).length).map λ(i:Nat)=>if (u' d.1).getD i 0=-1 then 0 else (mh d.1 (i:Int)).2.2.2.2) 0 (Int.le_refl _) λk al=>by
   obtain⟨i,G,rfl⟩:=List.mem_map.1 al;rw[List.mem_range,ai]at G;have:=(P4 ae (Jb G)).2;split
   ·decide
   ·exact this
  rw[List.length_map,List.length_range]at this;omega
theorem atA(gd:Nat->Int->Bool)(m J F:Nat):0<=(y3 gd m J F).2/\(y3 gd m J F).2<=(J:Int):=by
 have key:∀ (l:List Nat) (st:z1'×Int),0<=st.2->0<=(l.foldl (qd gd m F) st).2/\(l.foldl (qd gd m F) st).2<=st.2+l.length:=by
  intro l;induction l with
  | nil=>intro st h;simpa using h
  | cons j l aI=>
   intro st h;rw[List.foldl_cons];have e:0<=(qd gd m F st j).2/\(qd gd m F st j).2<=st.2+1:=by
    unfold qd;simp only;split<;>omega
   have:=aI (qd gd m F st j) e.1;simp only[List.length_cons];omega
 have:=key (List.range J) (List.replicate m (-1),0) (Int.le_refl _);rw[List.length_range]at this;unfold y3;simp only at this;omega
theorem atB{d:bb}(ar:da d):0<=(qf d.1).1/\(qf d.1).1<2 ^ 63:=by
 have ae:=ar.val;have key:∀ (l:List (z1')) (n:Int),-1<=n/\n<=24->(∀ y∈l,nC d.1 y)->-1<=l.foldl (va d.1) n/\l.foldl (va d.1) n<=24:=by
  intro l;induction l with
  | nil=>intro n h _;exact h
  | cons y l aI=>
   intro n h aS;rw[List.foldl_cons];refine aI _ ?_ λz bk=>aS z (by simp[bk]);have E:=atA (gK (dc d.1) (jD d.1 y).1) (dc d.1).2.1.length (jD d.1 y).1.length 201;have U:=Qh ae (aS y (by simp));have ag:wS (dc d.1) (jD d.1 y).1=(y3 (gK (dc d.1) (jD d.1 y).1) (dc d.1).2.1.length (jD d.1 y).1.length 201).2:=rfl;unfold va;rw[ag];split
   ·exact h
   ·split
    ·omega
    ·exact h
 have:=key (ld 0 d.1) (-1) (by decide) λy aS=>(Jl aS).2;unfold qf;split
 ·exact show (0:Int)<=0/\(0:Int)<2 ^ 63 by decide
 split
 ·exact show (0:Int)<=0/\(0:Int)<2 ^ 63 by decide
 ·rename_i h;have h:vb d.1≠-1:=h;have this:-1<=vb d.1/\vb d.1<=24:=this;show 0<=vb d.1/\vb d.1<2 ^ 63;omega
theorem atC(s:bJ)(w:Int):∀ n∈(ow s w).1,0<=n/\n<(s.2.2.1.length:Int):=by
 intro n aw;unfold ow at aw;split at aw
 ·cases aw
 ·unfold Qr at aw;obtain⟨p,ao,rfl⟩:=List.mem_map.1 aw;have:=List.mem_range.1 (List.mem_filter.1 ao).1;omega
theorem atD(c:H.a6)(t:Int):(∀ n∈(H.nr c t).1,0<=n/\n<=9)/\∀ n∈(H.nr c t).2.1,0<=n/\n<=9:=by
 unfold H.nr;split
 ·simp
 ·exact⟨λn aw=>pW.1 (List.mem_filter.1 aw).1,λn aw=>pW.1 (List.mem_filter.1 aw).1⟩
theorem atE(c:H.a6)(u t:Int):∀ n∈(H.nq c u t).1,-1<=n/\n<=99:=λn aw=>pW.1 (List.mem_filter.1 aw).1
theorem atF(c:H.a6)(u t:Int):(H.nq c u t).1.Pairwise (·<·):=(H.Qt (-1) 99).filter _
theorem atG{r:z1'×Int}(E:∀ n∈r.1,-1<=n/\n<=99)(U:r.1.Pairwise (·<·))(ag:r.2=0->0<r.1.length):sd r.1 r.2=BU r:=by
 obtain⟨l,e⟩:=r;simp only at E U ag;unfold BU;by_cases he:e=0
 ·subst he;cases l with
  | nil=>exact absurd (ag rfl) (by decide)
  | cons a l=>
   rw[List.pairwise_cons]at U;have a_:=E a (by simp);have ai:∀ n∈l,0<=n/\n<2 ^ 63:=λn aw=>by
    have:=U.1 n aw;have:=E n (by simp[aw]);omega
   by_cases aU:0<=a
   ·rw[if_pos (by simp;exact aU)];refine QZ (λn aw=>?_) 0;rcases List.mem_cons.1 aw with rfl | aw
    ·omega
    ·exact ai n aw
   ·obtain rfl:a=-1:=by omega
    rw[if_neg (by simp)];show tH (-1::l)=_;have ay:gg (-1)=Fu:=rfl;unfold tH;rw[if_neg (by simp),List.map_cons,Go.Lib.join_cons,ay];cases l with
    | nil=>rfl
    | cons b l=>
     rw[if_neg (by simp)];show _=Fu++[32]++ml (b::l);rw[<-abi ai];unfold tH;rw[if_neg (by simp),List.map_cons,Go.Lib.join_cons];unfold Go.Lib.joinTail;simp
 ·rw[if_pos (by simp[he])];unfold sd gz;rw[if_neg he,if_neg he]
theorem Q0{a b n:Int}:n<=lE a b<->n<=a/\n<=b:=by
 unfold lE;split<;>omega
theorem abm{a b n:Int}:uZ a b<=n<->a<=n/\b<=n:=by
 unfold uZ;split<;>omega
theorem wy{s:Int×Int}(h:w4 s)(e:Int):B3.sh (s,e)=A.pure (gz e [s.1,s.2]):=by
 have k:∀ n∈[s.1,s.2],0<=n/\n<2 ^ 63:=λn aw=>by
  simp only[List.mem_cons,List.not_mem_nil,or_false]at aw;rcases aw with rfl | rfl
  ·exact h.1
  ·exact h.2
 have ay:B3.sh (s,e)=A.pure (sd [s.1,s.2] e):=A.bP ⟨by simp,λn aw=>by have:=k n aw;omega⟩ _;rw[ay,QZ k]
theorem B4{l:z1'}(ai:l.length<=2000)(h:∀ n∈l,0<=n/\n<2 ^ 63)(e:Int):oD.sh (l,e)=A.pure (gz e l):=by
 rw[QY ⟨ai,λn aw=>by have:=h n aw;omega⟩,QZ h]
theorem ac8(x:bb×List aL×Int×Int×Int×Int×Int×Int×Int×Int)(E:fF x.1.1)(U:H.j7 x.1.2)(ag:x.2.1.length<2 ^ 63):PH pn.sh ve.sh u5.sh FD.sh FE.sh zi.sh qj.sh H.yC.sh H.yD.sh H.yE.sh H.yF.sh H.yG.sh H.yH.sh y7.sh y5.sh y6.sh oD.sh B3.sh x=A.pure true:=by
 obtain⟨d,l,n,o,f,t,w,j,b,c⟩:=x;change fF d.1 at E;change H.j7 d.2 at U;change l.length<2 ^ 63 at ag;unfold PH;rw[HE E U ag,A.aG,asw];by_cases hc:(!tF d l&&decide (jk d=0)&&decide ((l.length:Int)<=28))=true/\(0<=n/\0<=o/\0<=f/\0<=t/\0<=w/\0<=j/\0<=b/\0<=c)/\n<=9999/\o<=9999/\f<=9999/\t<=9999/\w<=9999/\j<=9999/\b<=9999/\c<=9999
 ·obtain⟨M,ao,hm⟩:=hc;rw[if_neg (by
   rw[M];simp only[Bool.not_true,Bool.false_or,Bool.or_eq_true,decide_eq_true_eq,not_or,gt_iff_lt,Int.not_lt,Q0,abm];omega)]
  obtain⟨ar,aw,atH⟩:=asr E U M;have aw:l.length<=28:=by omega
  have ai:∀ s∈l,s.length<=10000:=λs aE=>by have:=atH s aE;omega
  have kE:=aaG ar;have dh:qj.sh ([108,97,115,116,115],[n])=A.pure (fm [108,97,115,116,115] [n]):=w2 (by decide) (by simp) (by simp;omega);have dK:qj.sh ([102,101,101],[n])=A.pure (fm [102,101,101] [n]):=w2 (by decide) (by simp) (by simp;omega);have mZ:qj.sh ([111,119,101,115],[o])=A.pure (fm [111,119,101,115] [o]):=w2 (by decide) (by simp) (by simp;omega);have r8:qj.sh ([104,101,108,100],[t])=A.pure (fm [104,101,108,100] [t]):=w2 (by decide) (by simp) (by simp;omega);have cZ:qj.sh ([119,104,101,114,101],[f,t])=A.pure (fm [119,104,101,114,101] [f,t]):=w2 (by decide) (by simp) (by simp;omega);have fb:qj.sh ([109,105,115,115,105,110,103],[t])=A.pure (fm [109,105,115,115,105,110,103] [t]):=w2 (by decide) (by simp) (by simp;omega);have gx:qj.sh ([102,105,116,115],[w,j,b])=A.pure (fm [102,105,116,115] [w,j,b]):=w2 (by decide) (by simp) (by simp;omega);have h1:qj.sh ([99,97,110],[c])=A.pure (fm [99,97,110] [c]):=w2 (by decide) (by simp) (by simp;omega);have ay:∀ bU,iB bU (fm [108,97,115,116,115] [n])=JD bU [n]:=tG (k:=1) (m:=false) (j:=3) (by decide) (by decide) (by simp) (by simp;omega);have aP:∀ bU,iB bU (fm [102,101,101] [n])=JE bU [n]:=tG (k:=1) (m:=false) (j:=4) (by decide) (by decide) (by simp) (by simp;omega);have cw:∀ bU,iB bU (fm [111,119,101,115] [o])=JF bU [o]:=tG (k:=1) (m:=false) (j:=5) (by decide) (by decide) (by simp) (by simp;omega);have ed:∀ bU,iB bU (fm [104,101,108,100] [t])=JG bU [t]:=tG (k:=1) (m:=false) (j:=6) (by decide) (by decide) (by simp) (by simp;omega);have gW:∀ bU,iB bU (fm [119,104,101,114,101] [f,t])=JH bU [f,t]:=tG (k:=2) (m:=false) (j:=7) (by decide) (by decide) (by simp) (by simp;omega);have j8:∀ bU,iB bU (fm [109,105,115,115,105,110,103] [t])=JI bU [t]:=tG (k:=1) (m:=false) (j:=8) (by decide) (by decide) (by simp) (by simp;omega);have su:∀ bU,iB bU (fm [102,105,116,115] [w,j,b])=JJ bU [w,j,b]:=tG (k:=3) (m:=false) (j:=10) (by decide) (by decide) (by simp) (by simp;omega);have mm:∀ bU,iB bU (fm [99,97,110] [c])=JK bU [c]:=tG (k:=1) (m:=false) (j:=16) (by decide) (by decide) (by simp) (by simp;omega);have j6:∀ bU,iB bU [109,111,115,116]=JL bU []:=tG (w:=[109,111,115,116]) (l:=[]) (k:=0) (m:=false) (j:=18) (by decide) (by decide) (by simp) (by simp);have bF:∀ bU,iB bU [101,120,116,114,97]=JM bU []:=tG (w:=[101,120,116,114,97]) (l:=[]) (k:=0) (m:=false) (j:=19) (by decide) (by decide) (by simp) (by simp);have g1:(fm [108,97,115,116,115] [n]).length<=10000:=Nat.le_trans (vh (n:=10) (by simp;omega) (by decide)) (by simp);have ei:(fm [102,101,101] [n]).length<=10000:=Nat.le_trans (vh (n:=10) (by simp;omega) (by decide)) (by simp);have g3:(fm [111,119,101,115] [o]).length<=10000:=Nat.le_trans (vh (n:=10) (by simp;omega) (by decide)) (by simp);have g4:(fm [104,101,108,100] [t]).length<=10000:=Nat.le_trans (vh (n:=10) (by simp;omega) (by decide)) (by simp);have g5:(fm [119,104,101,114,101] [f,t]).length<=10000:=Nat.le_trans (vh (n:=10) (by simp;omega) (by decide)) (by simp);have g6:(fm [109,105,115,115,105,110,103] [t]).length<=10000:=Nat.le_trans (vh (n:=10) (by simp;omega) (by decide)) (by simp);have g7:(fm [102,105,116,115] [w,j,b]).length<=10000:=Nat.le_trans (vh (n:=10) (by simp;omega) (by decide)) (by simp);have g8:(fm [99,97,110] [c]).length<=10000:=Nat.le_trans (vh (n:=10) (by simp;omega) (by decide)) (by simp);generalize fm [108,97,115,116,115] [n]=abn at *
  generalize fm [102,101,101] [n]=abo at *
  generalize fm [111,119,101,115] [o]=abp at *
  generalize fm [104,101,108,100] [t]=abq at *
  generalize fm [119,104,101,114,101] [f,t]=abr at *
  generalize fm [109,105,115,115,105,110,103] [t]=abt at *
  generalize fm [102,105,116,115] [w,j,b]=abu at *
  generalize fm [99,97,110] [c]=abv at *
  have q:=asx ar (l:=l++[abn,abo,abp,abq,abr,abt,abu,abv,[109,111,115,116],[101,120,116,114,97]]) (by simp;omega) (λs aE=>by
   rw[List.mem_append]at aE;rcases aE with aE | aE
   ·exact ai s aE
   ·simp only[List.mem_cons,List.not_mem_nil,or_false]at aE;rcases aE with rfl | rfl | rfl | rfl | rfl | rfl | rfl | rfl | rfl | rfl<;>first | assumption | decide)
  rw[arp]at q;have iO:=ar_ kE ai;have hlen:=arq (ji d) l;generalize (h6 (ji d) l).1=a at *
  generalize (h6 (ji d) l).2=X at *
  have atI:h6 X [abn,abo,abp,abq,abr,abt,abu,abv,[109,111,115,116],[101,120,116,114,97]]=([oz (H.q0 X.2 n),oz (H.q1 X.2 n),oz (H.q2 X.2 o),oz (H.q3 X.2 t),BU (H.nq X.2 f t),BV (H.nr X.2 t),pg (me X.1.1 w j b),gz (ow X.1 c).2 (ow X.1 c).1,gz (pk X.1 true).2 [(pk X.1 true).1],gz (qf X.1).2 [(qf X.1).1]],X):=by
   simp only[h6,ay,aP,cw,ed,gW,j8,su,mm,j6,bF];rfl
  rw[atI]at q;have hw:=bG (n:=(l.length:Int)+10) (by omega) (by omega);simp only[dh,dK,mZ,r8,cZ,fb,gx,h1,A.e5,A.hR,A.bo,List.nil_append,q,atg iO,A.ko,A.aG];rw[A.bu (ft (by simp only[gZ];omega)),A.bu (ft (by simp only[gZ];omega)),if_neg (by simp[hlen,cp,gZ,hw])];have kf:H.yC.sh (X.2,n)=A.pure (H.q0 X.2 n):=A.bP iO.fE _;have z2:H.yD.sh (X.2,n)=A.pure (H.q1 X.2 n):=A.bP iO.fE _;have z3:H.yE.sh (X.2,o)=A.pure (H.q2 X.2 o):=A.bP iO.fE _;have z4:H.yF.sh (X.2,t)=A.pure (H.q3 X.2 t):=A.bP iO.fE _;have z5:H.yG.sh (X.2,f,t)=A.pure (H.nq X.2 f t):=A.bP iO.fE _;have iT:H.yH.sh (X.2,t)=A.pure (H.nr X.2 t):=A.bP iO.fE _;have atJ:u5.sh (X.1.1,w,j,b)=A.pure (me X.1.1 w j b):=A.bP iO.gq.1 _;have atK:y7.sh (X.1,c)=A.pure (ow X.1 c):=A.bP iO.gq _;have z9:y5.sh X.1=A.pure (pk X.1 true):=A.bP iO.gq _;have z0:y6.sh X.1=A.pure (qf X.1):=A.bP iO.gq _;have ds:=atu iO n;have ec:=atv iO n;have lJ:=atx iO o;have qm:=aty iO t;have w7:=atE X.2 f t;have atL:=atF X.2 f t;have atM:=aat (c:=X.2) (u:=f) (t:=t);have aze:=aas X.2 f t;obtain⟨atN,atO⟩:=atD X.2 t;obtain⟨azf,azg⟩:=aau X.2 t;have Ke:0<=(me X.1.1 w j b).1/\(me X.1.1 w j b).1<4:=by
   have:=aav X.1.1 w j b;unfold me;grind
  have atP:=atC X.1 c;have azh:=aaw iO.val c;have iV:=iO.val.Fh;have atQ:=atz iO;have b0:=atB iO;simp only[kf,z2,z3,z4,z5,iT,atJ,atK,z9,z0,A.aG];have l1:oz (H.q0 X.2 n)=gz (H.q0 X.2 n).2 [(H.q0 X.2 n).1.1,(H.q0 X.2 n).1.2]:=rfl;have pO:oz (H.q1 X.2 n)=gz (H.q1 X.2 n).2 [(H.q1 X.2 n).1.1,(H.q1 X.2 n).1.2]:=rfl;have atS:oz (H.q2 X.2 o)=gz (H.q2 X.2 o).2 [(H.q2 X.2 o).1.1,(H.q2 X.2 o).1.2]:=rfl;have atT:oz (H.q3 X.2 t)=gz (H.q3 X.2 t).2 [(H.q3 X.2 t).1.1,(H.q3 X.2 t).1.2]:=rfl;have atU:=atG w7 atL atM;rw[l1,pO,atS,atT,<-atU];generalize H.q0 X.2 n=rs at *
  generalize H.q1 X.2 n=SI at *
  generalize H.q2 X.2 o=atV at *
  generalize H.q3 X.2 t=atW at *
  generalize H.nq X.2 f t=Kf at *
  generalize H.nr X.2 t=ku at *
  generalize me X.1.1 w j b=tI at *
  generalize ow X.1 c=Kg at *
  generalize pk X.1 true=Kh at *
  generalize qf X.1=Ki at *
  rw[if_neg (by
   simp only[Bool.or_eq_true,decide_eq_true_eq,not_or,gt_iff_lt,Int.not_lt,Q0];omega)]
  have s0:∀ e,oD.sh ([],e)=A.pure (gz e []):=λe=>B4 (by simp) (λn aw=>by cases aw) e;have oC:oD.sh (Kf.1,Kf.2)=A.pure (sd Kf.1 Kf.2):=QY ⟨by omega,λn aw=>by have:=w7 n aw;omega⟩ _;have re:∀ e,oD.sh (ku.1,e)=A.pure (gz e ku.1):=λe=>B4 (by omega) (λn aw=>by have:=atN n aw;omega) e;have atX:∀ e,oD.sh (ku.2.1,e)=A.pure (gz e ku.2.1):=λe=>B4 (by omega) (λn aw=>by have:=atO n aw;omega) e;have Kj:oD.sh (Kg.1,Kg.2)=A.pure (gz Kg.2 Kg.1):=B4 (by omega) (λn aw=>by have:=atP n aw;omega) _;have Kk:oD.sh ([Kh.1],Kh.2)=A.pure (gz Kh.2 [Kh.1]):=B4 (by simp) (λn aw=>by rw[List.mem_singleton.1 aw];exact atQ) _;have Kl:oD.sh ([Ki.1],Ki.2)=A.pure (gz Ki.2 [Ki.1]):=B4 (by simp) (λn aw=>by rw[List.mem_singleton.1 aw];exact b0) _;have aR:=wy ds rs.2;have aW:=wy ec SI.2;have bL:=wy lJ atV.2;have fA:=wy qm atW.2;have Km:∀ aK:List aL,List.drop (Int.toNat (Int.ofNat l.length)) (List.take (Int.toNat (Int.ofNat (a++aK).length)) (a++aK))=aK:=λaK=>by
   simp only[bX,Int.toNat_natCast,List.take_length];rw[<-hlen,List.drop_left]
  have hX:∀ aK:List aL,((0:Int)<=Int.ofNat l.length/\Int.ofNat l.length<=Int.ofNat (a++aK).length/\Int.ofNat (a++aK).length<=Int.ofNat (a++aK).length)=True:=λaK=>eq_true (by simp[hlen];omega);simp only[s0,A.aG];by_cases m6:ku.2.2=0
  ·rw[if_pos (decide_eq_true m6)];have ez:=Fx ku.1;have pr:=Fx ku.2.1;have fY:gz ku.2.2 ku.1=ml ku.1:=if_pos m6;have atY:gz ku.2.2 ku.2.1=ml ku.2.1:=if_pos m6;have atZ:oD.sh ku.2=A.pure (gz ku.2.2 ku.2.1):=atX ku.2.2;have am:BV ku=ml ku.1++[32,47,32]++ml ku.2.1:=if_neg (by simpa using m6);rw[re,A.aG,atZ,fY,atY,A.aG,A.bu (ft (by simp only[gZ];omega)),A.bu (ft (by simp only[gZ,List.length_append,List.length_cons,List.length_nil];omega)),A.aG,A.b3];simp only[];by_cases m7:tI.2=0
   ·rw[if_pos (decide_eq_true m7),A.bu ⟨Ke.1,Ke.2⟩,A.aG,A.b3];have zl:pg tI=List.getD [[],[115,117,114,101,108,121],[110,101,118,101,114],[112,101,114,104,97,112,115]] tI.1.toNat []:=if_neg (by simpa using m7);simp only[aR,aW,bL,fA,oC,Kj,Kk,Kl,A.hR,A.e5,A.bo,Km,hX,am,zl];rw[FB (by simp),A.aG];simp[A.ko]
   ·rw[if_neg (by simpa using m7),A.aG,A.b3];have zl:pg tI=gz tI.2 []:=if_pos m7;simp only[aR,aW,bL,fA,oC,Kj,Kk,Kl,A.hR,A.e5,A.bo,Km,hX,am,zl];rw[FB (by simp),A.aG];simp[A.ko]
  ·rw[if_neg (by simpa using m6),A.aG,A.b3];have am:BV ku=gz ku.2.2 []:=if_pos m6;simp only[];by_cases m7:tI.2=0
   ·rw[if_pos (decide_eq_true m7),A.bu ⟨Ke.1,Ke.2⟩,A.aG,A.b3];have zl:pg tI=List.getD [[],[115,117,114,101,108,121],[110,101,118,101,114],[112,101,114,104,97,112,115]] tI.1.toNat []:=if_neg (by simpa using m7);simp only[aR,aW,bL,fA,oC,Kj,Kk,Kl,A.hR,A.e5,A.bo,Km,hX,am,zl];rw[FB (by simp),A.aG];simp[A.ko]
   ·rw[if_neg (by simpa using m7),A.aG,A.b3];have zl:pg tI=gz tI.2 []:=if_pos m7;simp only[aR,aW,bL,fA,oC,Kj,Kk,Kl,A.hR,A.e5,A.bo,Km,hX,am,zl];rw[FB (by simp),A.aG];simp[A.ko]
 ·rw[if_pos (by
   by_cases M:(!tF d l&&decide (jk d=0)&&decide ((l.length:Int)<=28))=true
   ·rw[M];refine Classical.byContradiction λal=>hc ⟨M,?_⟩;simp only[Bool.not_true,Bool.false_or,Bool.or_eq_true,decide_eq_true_eq,not_or,gt_iff_lt,Int.not_lt,Q0,abm]at al;omega
   ·rw[Bool.not_eq_true]at M;rw[M];rfl),A.aG]
end Go.Fer.ax
namespace Go.Fer.oG
open Go.Proofs Go.Proofs.Tryz
open A (V)
set_option maxRecDepth 100000
noncomputable section
abbrev L:cB:=.eN
abbrev S(a b:cB):cB:=.seq a b
abbrev bU:cB:=S L L
abbrev C(a b:cB):cB:=.cond a b
abbrev B(a:cB):cB:=.block a
abbrev J(s:List (Nat×bY))(b:List (Nat×b6))(x y:cB):cB:=.join ⟨s,b⟩ x y
abbrev ax(s:List (Nat×bY))(b:List (Nat×b6))(x:cB):cB:=.loop ⟨s,b⟩ x
abbrev ch(s:List (Nat×bY))(b:List (Nat×b6))(t:List (Nat×bY))(c:List (Nat×b6))(u:List (Nat×bY))(d:List (Nat×b6))(x y:cB):cB:=.range ⟨s,b⟩ ⟨t,c⟩ ⟨u,d⟩ x y
abbrev v2:bY:=.val t2
abbrev a2:b6:=.bh t2
abbrev v4:bY:=.val t4
abbrev v9:bY:=.val t9
abbrev a9:b6:=.bh t9
abbrev v22:bY:=.val t22
abbrev se:bY:=.val D_
abbrev tJ:bY:=.val HY
abbrev at0:b6:=.f' uJ
abbrev dT:bY:=.val eX
abbrev FG:b6:=.bh eX
abbrev v28:bY:=.val t28
abbrev B5:bY:=.val HZ
abbrev qk:bY:=.val AT
abbrev FH:b6:=.f' pq
abbrev nO:bY:=.val qR
abbrev ql:bY:=.val od
abbrev abw:b6:=.f' NR
abbrev abx:b6:=.f' tN
abbrev FI:b6:=.f' w9
abbrev Q1:b6:=.bh AS
abbrev oE:bY:=.val FQ
abbrev Kn:b6:=.bh ye
abbrev sf:b6:=.f' ye
abbrev at1:b6:=.bh vW
abbrev B6:b6:=.bh rV
abbrev at2:b6:=.f' rV
abbrev at3:b6:=.bh yg
abbrev aby:b6:=.f' yg
abbrev at4:bY:=.val NT
abbrev FJ:b6:=.f' qS
abbrev abz:bY:=.val Va
abbrev B7:bY:=.val D'
abbrev abA:bY:=.val jd
abbrev w5:b6:=.bh jd
abbrev Q2:bY:=.val vY
abbrev abB:bY:=.val Vb
abbrev abC:bY:=.val pU
abbrev FK:b6:=.bh pU
abbrev at5:bY:=.val Vc
abbrev abD:bY:=.val NV
abbrev abE:bY:=.val NW
abbrev gU:b6:=.bh qT
abbrev zm:b6:=.f' qT
abbrev Q3:bY:=.val NX
abbrev kR:bY:=.val o2
abbrev at6:bY:=.val Vi
abbrev abF:b6:=.f' NS
abbrev Q4:b6:=.bh AQ
abbrev abG:b6:=.f' AQ
abbrev at7:bY:=.val HX
abbrev abH:b6:=.bh yf
abbrev aua:b6:=.bh AR
abbrev abI:b6:=.f' AR
abbrev aub:bY:=.val Vj
abbrev Q5:bY:=.val NZ
abbrev v228:bY:=.val t228
abbrev auc:bY:=.val Vm
abbrev aud:bY:=.val Vn
abbrev aue:bY:=.val Vo
abbrev B8:bY:=.val Vp
abbrev auf:bY:=.val Vq
abbrev aug:bY:=.val Vr
abbrev Ko:bY:=.val Eb
abbrev nD:List (Nat×bY):=[(6,.bd 17 0),(56,.hI [30000,30001,30002,30003,30004,30005,30006,30007,30008,30009]),(57,v2)]
abbrev nP:List (Nat×bY):=[(1,.bd 1 0)]
abbrev abJ:List (Nat×bY):=[(1,.bd 1 0),(2,.bd 2 0),(3,.bd 1 0),(38,v2),(39,v2)]
abbrev abK:List (Nat×bY):=[(2,.bd 2 0),(7,.bd 22 0),(8,.bd 8 0),(9,.bd 9 0),(10,.an 10),(11,.bd 11 0),(24,v22),(25,v2),(26,v2)]
abbrev abL:List (Nat×bY):=[(2,.bd 2 0),(3,.bd 3 0),(4,.an 4),(5,.an 5),(7,Q2),(8,v2),(9,v2),(23,v2),(29,Q3),(30,v2),(31,v2)]
abbrev tK:List (Nat×bY):=[(1,.bd 1 0),(3,v2)]
abbrev abM:List (Nat×bY):=[(2,.bd 2 0),(7,.bd 30 0),(10,v2),(11,v2),(46,v2),(47,v2),(52,se),(53,v2),(54,v2),(61,v2),(62,v2)]
abbrev auh:List (Nat×bY):=[(1,.bd 1 0),(2,.bd 2 0),(3,.bd 1 0),(5,.iX 22),(38,v2),(39,v2),(60,v2),(61,v2)]
abbrev abN:List (Nat×bY):=[(0,kR),(1,dT),(2,v2),(3,.hh),(9,v2),(29,v28),(30,v2),(31,v2),(1000000,.aX eX)]
abbrev abO:List (Nat×bY):=[(0,kR),(1,.an 200001),(2,qk),(3,v2),(4,.fH 100002),(16,nO),(17,v2),(18,v2)]
abbrev Q6:List (Nat×bY):=[(1,.bd 1 0),(2,.bd 2 0)]
abbrev abP:List (Nat×bY):=[(2,.bd 2 0),(3,.bd 3 0),(4,.an 4),(5,.an 5),(7,Q2),(8,v2),(9,v2),(23,v2)]
abbrev abQ:List (Nat×bY):=[(2,.bd 2 0),(7,.bd 30 0),(10,v2),(46,v2),(47,v2),(52,se),(53,v2),(54,v2)]
abbrev abR:List (Nat×bY):=[(0,.hh),(2,.dV vY),(10,abE),(11,v2),(1000000,.aX (.aA jd t2))]
abbrev abS:List (Nat×bY):=[(2,v2),(6,.bd 6 0),(8,.bd 8 0),(9,v4),(17,abD),(18,v2),(19,v2)]
abbrev abT:List (Nat×bY):=[(4,.bd 4 0),(5,.bd 5 0),(10,.fH 24),(28,Q3),(29,v2),(30,v2)]
abbrev abU:List (Nat×bY):=[(2,.bd 2 0),(3,.bd 3 0),(4,.an 4),(5,.an 5),(7,Q2),(23,v2)]
abbrev B9:List (Nat×bY):=[(1,.bd 1 0),(5,v2)]
abbrev abV:List (Nat×bY):=[(0,abz),(1,v2),(2,v2),(3,v2),(9,v2),(18,dT),(19,v2),(20,v2)]
abbrev abW:List (Nat×bY):=[(1,v2),(6,kR),(8,.an 8),(9,.an 50260),(29,v2),(30,v2)]
abbrev abX:List (Nat×bY):=[(1,oE),(2,.bd 2 0),(5,v2),(6,v2),(7,v2),(8,v2),(10,v2)]
abbrev Kp:List (Nat×bY):=[(1,.bd 1 0),(3,v2),(4,v2)]
abbrev abY:List (Nat×bY):=[(1,at5),(4,.bd 4 0),(5,v4),(13,Q3),(14,v2),(15,v2)]
abbrev abZ:List (Nat×bY):=[(0,kR),(1,qk),(5,.an 50140),(6,v2),(16,v2),(17,v2)]
abbrev jE:List (Nat×b6):=[(17,.cells Ea [dT,.an 30000,.an 30001,.an 30002,.an 30003,.an 30004,.an 30005,.an 30006,.an 30007,.an 30008,.an 30009]),(30000,gU),(30001,gU),(30002,gU),(30003,gU),(30004,gU),(30005,gU),(30006,gU),(30007,gU),(30008,gU),(30009,gU),(100000,.cells rW [nO,ql,dT,nO,v2,v2,v2,v2,v2,v2,v2,ql,.an 100002]),(100002,FK)]
abbrev tL:List (Nat×b6):=[(12,zm),(17,.cells Ea [dT,.an 30000,.an 30001,.an 30002,.an 30003,.an 30004,.an 30005,.an 30006,.an 30007,.an 30008,.an 30009]),(30000,gU),(30001,gU),(30002,gU),(30003,gU),(30004,gU),(30005,gU),(30006,gU),(30007,gU),(30008,gU),(30009,gU),(100000,.cells rW [nO,ql,dT,nO,v2,v2,v2,v2,v2,v2,v2,ql,.an 100002]),(100002,FK)]
abbrev Kq:List (Nat×b6):=[(1,.cells pq [.an 17,.an 22,v2,.an 27,.an 84,.an 87,.an 90,.an 93,v2]),(2,.cells pq [.dn,.dn,v2,.dn,.dn,.dn,.dn,.dn,v2]),(17,Q4),(22,abH),(27,Q1),(84,a2),(87,at3),(90,at1),(93,B6)]
abbrev ab0:List (Nat×b6):=[(1,.cells pq [.an 17,.an 22,v2,.an 27,dT,v28,B5,qk,v2]),(2,.cells pq [.dn,.dn,v2,.dn,.dn,.dn,.dn,.dn,v2]),(17,Q4),(22,.gj yf (.an 50530)),(27,Q1),(50530,aua)]
abbrev w6:List (Nat×b6):=[(2,FH),(28,.mp rV t2),(30,.cells t222 [v22,se,v2,tJ,dT,v28,B5,qk,v2,.dn,.fH 28])]
abbrev ab1:List (Nat×b6):=[(1,.cells pq [.an 17,.an 22,v2,.an 27,dT,v28,B5,qk,v2]),(2,.cells pq [.dn,.dn,v2,.dn,.dn,.dn,.dn,.dn,v2]),(17,Q4),(22,abH),(27,Q1)]
abbrev ab2:List (Nat×b6):=[(4,a9),(5,.cells w9 [.dn,.dn,v2,.dn,.dn,.dn,.dn,.dn,v2,.dn,.dn,.dn,.dn,v2,v2,v2,v2,v2,v2,v2]),(50230,FJ)]
abbrev B_:List (Nat×b6):=[(2,abx),(3,.gM t2),(4,a2),(5,a2)]
abbrev ab3:List (Nat×b6):=[(2,FH),(28,.mp rV t2),(30,.cells t222 [v22,se,v2,tJ,dT,v28,B5,qk,v2,.an 109,.fH 28]),(109,Kn)]
abbrev ab4:List (Nat×b6):=[(28,.mp rV t2),(30,.cells t222 [v22,se,v2,tJ,dT,v28,B5,qk,v2,.an 109,.fH 28]),(109,Kn)]
abbrev ab5:List (Nat×b6):=[(100000,.cells rW [nO,ql,dT,nO,v2,v2,v2,v2,v2,v2,v2,ql,.an 100002]),(100002,FK)]
abbrev nQ:List (Nat×b6):=[(1,at0)]
abbrev oF:List (Nat×b6):=[(1,abx)]
abbrev ab6:List (Nat×b6):=[(2,.gM uJ),(22,.cells yh [v22,se,v2,tJ,.an 61]),(61,FG)]
abbrev rf:List (Nat×b6):=[(1,FH)]
abbrev Q7:List (Nat×b6):=[(100002,.mp t2 t2),(200001,a2)]
abbrev bF:cB:=S L (C bU L)
abbrev eg:cB:=C L L
abbrev ay:cB:=S L eg
abbrev aP:cB:=S L bU
abbrev mQ:cB:=S L bF
abbrev cw:cB:=S L (S eg (S (B mQ) L))
abbrev ed:cB:=S L (S eg (S (B bU) L))
abbrev gW:cB:=S L (S L (S L (J Q6 ab1 (S L (B (ax abJ ab1 (S L (S eg (J abJ ab0 (B (S L (S L (S (.n1 5 L) (S L (B (ax auh ab0 ed))))))) (.G3 22 L))))))) (S L (J Q6 Kq (S L (B (ax [(1,.bd 1 0),(2,.bd 2 0),(100,v2),(101,v2)] Kq ed))) (J Q6 Kq (S L (B (ax [(1,.bd 1 0),(2,.bd 2 0),(119,v2),(120,v2)] Kq ed))) bU))))))
abbrev j8:cB:=S L (J [(0,dT),(1,v2)] [] ay (S L (J [(0,dT),(6,v228)] [] ay (S L (S L (J [(7,.an 30)] [(30,a2)] (B (ax [(7,.an 30),(8,v2)] [(30,a2)] (S ay (B L)))) bU))))))
abbrev su:cB:=S L (S L (J [(4,.fH 12)] [(12,.mp t2 jd)] (S L (B (ax [(4,.fH 12),(13,ql),(14,v2),(15,v2)] [(12,.mp t2 jd)] (S L (S eg (S (B (S L (S mQ L))) L)))))) (S L (J [(9,.an 9)] [(9,w5)] (S L (B (ax [(4,.fH 12),(9,.an 9),(39,dT),(40,v2),(41,v2)] [(9,w5),(12,.jl t2 jd)] ed))) bU))))
abbrev mm:cB:=S ay (S (B bF) L)
abbrev j6:cB:=S L (S bF bU)
abbrev B':cB:=S L (S L (S bF aP))
abbrev FL:cB:=S ay (S (B mQ) L)
abbrev zn:cB:=B (S L (S L ay))
abbrev tM:cB:=S L aP
abbrev vi:cB:=S L tM
abbrev Ca:cB:=S ay (S (B L) L)
abbrev Q8:cB:=S (S L (B (S L (C bU bF)))) bU
abbrev ab7:cB:=S L (J [] [] (S L (B (ax [(0,dT),(3,v2)] [] mm))) bU)
abbrev zo:cB:=B (S L ay)
abbrev ab8:cB:=S L (B (ax [(0,dT),(1,v2),(5,v2)] [] mm))
abbrev ab9:cB:=S L (B (ax [(1,.bd 1 0),(4,v2)] rf mm))
abbrev lg:=cK.mk ⟨[(0,.bd 100000 0),(1,.val eX)],[(100000,.f' qS)]⟩ ⟨[(0,.val t9)],[(100000,.f' qS)]⟩ [none] 2
def aui:=mk atf func208 cq aP aoe
def auj:=mk aui func148 H.cq aP H.alp
def auk:=mk auj func147 H.wc aP H.alu
def aul:=mk auk func149 H.we j6 H.alw
def aum:=mk aul func67 H.wh (S L (S bF (J nP oF (S L (B (ax tK oF mm))) (J nP oF (S L (B (ax [(1,.bd 1 0),(4,v2)] oF mm))) (J nP oF (S L (B (ax B9 oF mm))) (J [] [] (S L (B (ax [(1,.bd 1 0),(6,v2)] oF FL))) bU)))))) H.al2
def aun:=mk aum func68 H.Iq aP H.alA
def auo:=mk aun func26 H.h3 (S L (S bF (J [] [] (S L (B (ax tK oF (S ay (J tK oF (B (S L (B (ax Kp oF mm)))) L))))) bU))) H.al4
def aup:=mk auo func251 pc aP aoj
def auq:=mk aup func316 u1 ab7 aok
def aur:=mk auq func252 tr (S L (J nP [(1,abI)] (S L (B (ax tK [(1,abI)] mm))) bU)) aom
def aus:=mk aur func253 p7 aP aof
def aut:=mk aus func317 Bz aP aoh
def auu:=mk aut func254 r5 aP aoi
def auv:=mk auu func179 tt (S L (S bF (J nP nQ (S L (B (ax tK nQ FL))) (J nP nQ (S L (B (ax B9 nQ (S ay (J B9 nQ (B (S bF (S L (B (ax [(1,.bd 1 0),(5,v2),(6,v2)] nQ mm))))) L))))) (J [] [] (S L (B (ax [(1,.bd 1 0),(7,v2)] nQ FL))) bU))))) aoo
def auw:=mk auv func104 h3 (S L (S bF (J [] [] (S L (B (ax tK nQ (S ay (J tK nQ (B (S L (B (ax Kp nQ FL)))) L))))) bU))) aoq
def auy:=mk auw func105 cq aP aph
def auz:=mk auy func180 I2 (S L (J [] [] ab8 bU)) apl
def auA:=mk auz func106 I4 j6 apw
def auB:=mk auA func107 I5 aP apx
def auC:=mk auB func48 qc (S L (S mQ (S bF (J nP rf ab9 (J nP rf (S L (B (ax B9 rf mm))) (J nP rf (S L (B (ax [(1,.bd 1 0),(6,v2)] rf mm))) (J [] [] (S L (B (ax [(1,.bd 1 0),(7,v2)] rf FL))) bU))))))) apy
def yp:=mk auC func15 ax.pn j6 ax.asd
def auD:=mk yp func276 (k6 j1) (S L (J [] [] (S L (B (ax [(0,tJ),(1,aub),(7,v2),(8,v2)] [] cw))) bU)) (ta j1)
def auE:=mk auD func206 (jf j1) aP (tb j1)
def auF:=jV auE [] func207 (wJ j1) 1 aP (E7 j1)
def auG:=l6 auF [(207,1)] func144 (jC j1) aP (E8 j1)
def auH:=mk auG func145 cq aP aoz
def auI:=mk auH func266 yT aP aoB
def auJ:=mk auI func267 pc aP aoA
def auK:=mk auJ func265 IU aP aoI
def auL:=mk auK func292 (k6 br) (S L (J [] [] (S L (B (ax [(0,dT),(1,abB),(7,v2),(8,v2)] [] cw))) bU)) (ta br)
def auM:=mk auL func227 (jf br) aP (tb br)
def auN:=jV auM [] func331 (wJ br) 1 aP (E7 br)
def auO:=l6 auN [(331,1)] func269 (jC br) aP (E8 br)
def auP:=mk auO func270 u1 ab7 aoE
def auQ:=l6 auP [] func268 tr aP aoJ
def auR:=mk auQ func372 (k6 q4) (S L (J [] [] (S L (B (ax [(0,at7),(1,aue),(7,v2),(8,v2)] [] cw))) bU)) (ta q4)
def auS:=mk auR func332 (jf q4) aP (tb q4)
def auT:=jV auS [] func333 (wJ q4) 1 aP (E7 q4)
def auU:=l6 auT [(333,1)] func272 (jC q4) aP (E8 q4)
def auV:=jV auU [] func271 BC 1 aP aoK
def auW:=mk auV func64 p7 aP aoC
def auX:=mk auW func65 r5 aP aoD
def auY:=jV auX [] func273 BD 1 aP aoL
def auZ:=mk auY func373 (k6 kP) (S L (J [] [] (S L (B (ax [(0,v22),(1,auf),(7,v2),(8,v2)] [] cw))) bU)) (ta kP)
def au0:=mk auZ func334 (jf kP) aP (tb kP)
def au1:=jV au0 [] func335 (wJ kP) 1 aP (E7 kP)
def au2:=l6 au1 [(335,1)] func274 (jC kP) aP (E8 kP)
def au3:=mk au2 func374 (k6 k9) (S L (J [] [] (S L (B (ax [(0,se),(1,aug),(7,v2),(8,v2)] [] cw))) bU)) (ta k9)
def au4:=mk au3 func336 (jf k9) aP (tb k9)
def au5:=jV au4 [] func337 (wJ k9) 1 aP (E7 k9)
def au6:=l6 au5 [(337,1)] func275 (jC k9) aP (E8 k9)
def au7:=l6 au6 [(271,1),(273,1)] func205 tt (S L (S L vi)) aoM
def au8:=mk au7 func141 h3 (S L (S bF (S L (J [] [] (S L (B (ax [(3,.fH 12),(14,tJ),(15,v2),(16,v2)] [(12,.mp rV t2)] (S L (S eg (S (B (S L (S L (S mQ L)))) L)))))) bU)))) aoQ
def au9:=mk au8 func164 cq aP apg
def au_:=mk au9 func220 r9 aP api
def au':=mk au_ func221 I1 (S L (J [] [] (S L (B (ax [(0,dT),(1,abB),(7,dT),(8,v2),(9,v2)] [] cw))) bU)) apk
def ava:=jV au' [] func222 Fa 1 aP apo (hc:=λx h=>by obtain⟨w,p,au,_⟩:=h;exact s3 ⟨⟨trivial,rX (congrArg (λo=>o.1) au)⟩,rX (congrArg (λo=>o.2) au)⟩)
def avb:=jV ava [(222,1)] func219 Fb 1 aP apq (hc:=λx h=>by obtain⟨_,w,au,_⟩:=h;exact s3 ⟨trivial,rX au⟩)
def avc:=mk avb func224 r9 aP apj
def avd:=l6 avc [] func223 Fc aP apr
def ave:=jV avd [] func225 Fe 1 aP aps (hc:=λx h=>by obtain⟨w,au,_⟩:=h;exact s3 ⟨trivial,rX au⟩)
def avf:=mk ave func226 Ff aP apt
def avg:=mk avf func293 (k6 nz) (S L (J [] [] (S L (B (ax [(0,v28),(1,auc),(7,v2),(8,v2)] [] cw))) bU)) (ta nz)
def avh:=mk avg func228 (jf nz) aP (tb nz)
def avi:=mk avh func294 (k6 mO) (S L (J [] [] (S L (B (ax [(0,B5),(1,at6),(7,v2),(8,v2)] [] cw))) bU)) (ta mO)
def avj:=mk avi func229 (jf mO) aP (tb mO)
def avk:=mk avj func295 (k6 qa) (S L (J [] [] (S L (B (ax [(0,qk),(1,aud),(7,v2),(8,v2)] [] cw))) bU)) (ta qa)
def avl:=mk avk func230 (jf qa) aP (tb qa)
def avm:=l6 avl [(219,1),(225,1)] func171 PW (S L (S L (S L vi))) apu
def Q9:=mk avm func100 qc (S L (S mQ (S bF bU))) apv
def ab_:cK:=⟨⟨[(0,.dn),(1,.val NY)],[]⟩,⟨[(0,.an 50000)],[(50000,.bh t2)]⟩,[none],2,H.A8⟩
theorem avn:cR Tryz.prog dC 213 ab_:=dZ Q9 [] trivial func213 (S L (S (S L (B (ch [(2,.bd 2 0)] [(2,.cells eX [.an 50000]),(50000,a2)] [(2,.bd 100002 0),(7,v2)] [(100002,.cells eX [.an 150000]),(150000,a2)] [] [(100002,.cells eX [.an 150000]),(150000,a2)] L (B L)))) bU)) H.alW
def ab':cK:=⟨⟨[(0,.val NY)],[]⟩,⟨[(0,.an 50040)],[(50040,.bh t2)]⟩,[none],1,H.A8⟩
theorem avo:cR Tryz.prog dC 160 ab':=dZ Q9 [(213,.e_ ab_)] ⟨avn,trivial⟩ func160 aP H.alX
def Q_:=pY Q9 mI [(160,.e_ ab'),(161,.e_ QU)] ⟨avo,aa_,trivial⟩ func86 H.tc vi H.alY
def aca:cK:=⟨⟨[(0,.hh),(1,.dV H2),(1000000,.aX t2)],[]⟩,⟨[(1000000,.aX t2)],[]⟩,[],2,H.OR⟩
theorem avp:cR Tryz.prog dC 277 aca:=dZ (S:=H.OR) Q_ [] trivial func277 (S L (B (ax [(0,.hh),(5,.j9 5),(1000000,.aX t2)] [(5,.cr t2 jd)] (S L (S eg zo))))) (λx=>A.le_refl _)
theorem avq:xe Tryz.prog 277 ⟨[H2],t2,H.jY⟩:=NN (c:=aca) avp mI (λx l L=>(l,x.getD [],(l,L,[],false),())) rfl (by decide) (by simp[gi])
 (λx l L i ah=>by
  obtain⟨T,aV⟩:=ah;obtain⟨m,hm,_⟩:=aV;subst hm;by_cases aU:i=0
  ·subst aU;exact .inr (.inr (.inl ⟨rfl,rfl⟩))
  ·by_cases E:i=1
   ·subst E;exact .inr (.inl ⟨by decide,by decide,_,_,rfl,rfl⟩)
   by_cases U:i=b5
   ·subst U;exact .inr (.inr (.inr ⟨rfl,rfl⟩))
   ·refine .inl ?_;exact (if_neg aU).trans ((if_neg E).trans (if_neg U)))
 rfl (λbm=>⟨_,_,_,_,rfl⟩) (λx l ah=>by
  obtain⟨T,aV⟩:=ah;obtain⟨m,hm,_⟩:=aV;subst hm;have h:=H.amW l m;refine⟨h.1,λbm ga dF e4 p fk=>?_⟩;have e:aH.aX bm.1.1 t2 bm.1.2.1 bm.1.2.2.1 bm.1.2.2.2=.aX dF t2 e4 p false:=fk;injection e with ay aP cw ed gW
  rw[<-ed];exact h.2 bm ga gW)
def avr:=pY Q_ (Q_.u [] [(277,⟨[H2],t2,H.jY⟩)] ⟨avq,trivial⟩) [] trivial func210 H.yw aP H.al1
def avt:=mk avr func154 H.Bd su H.ama
def avu:=mk avt func85 H.cq aP H.alq
def avv:=mk avu func209 (H.k6 H.hr) (S L (J [] [] (S L (B (ax [(0,ql),(1,Q5),(7,v2),(8,v2)] [] cw))) bU)) H.alB
def avw:=mk avv func151 (H.jf H.hr) aP H.alC
def avx:=mk avw func231 H.wc (S L (J nP [(1,abw)] (S L (B (ax [(1,.bd 1 0),(13,.an 13),(14,v2),(15,v2)] [(1,abw),(13,a2)] cw))) bU)) H.alv
def avy:=mk avx func76 H.wb aP H.als
def avz:=mk avy func233 H.we tM H.alx
def avA:=jV avz [] func232 H.Ex 1 aP H.aly
def avB:=mk avA func234 H.A5 aP H.alz
def avC:=l6 avB [(232,1)] func172 H.wh (S L (S bF (J nP oF (S L (B (ax [(1,.bd 1 0),(38,nO),(39,v2),(40,v2)] oF cw))) (J nP oF (S L (B (ax [(1,.bd 1 0),(57,nO),(58,v2),(59,v2)] oF cw))) tM)))) H.al3
def avD:=mk avC func101 H.h3 (S L (S bF (S mQ bU))) H.amc
def avE:=mk avD func46 ax.pn j6 ax.ar6
def Q':=pY avE mI [(256,.e_ aba)] ⟨ate,trivial⟩ func184 H.Jv (S L (S L (J [(0,B8),(3,v2)] [] (S L (B (ax [(0,B8),(3,v2),(9,B8),(10,v2),(11,v2)] [] (S L (S eg (J [(0,B8),(3,v2),(9,B8),(10,v2),(11,v2)] [] zn L)))))) (S L (J [(6,.an 50240)] [(50240,w5)] (S L (B (ax [(6,.an 50240),(25,B8),(26,v2),(27,v2)] [(50240,w5)] ed))) bU))))) H.aq4
def acb:cK:=⟨⟨[(0,.val D')],[]⟩,⟨[(0,.an 50240)],[(50240,.bh t3)]⟩,[none],1,H.Jw⟩
theorem avF:cR Tryz.prog dC 185 acb:=dZ Q' [(257,.e_ aa')] ⟨atd,trivial⟩ func185 (S L (S L (J [(0,B7),(3,v2)] [] (S L (B (ax [(0,B7),(3,v2),(9,B7),(10,v2),(11,v2)] [] (S L (S eg (J [(0,B7),(3,v2),(9,B7),(10,v2),(11,v2)] [] zn L)))))) (S L (J [(6,.an 50240)] [(50240,a2)] (S L (B (ax [(6,.an 50240),(25,B7),(26,v2),(27,v2)] [(50240,a2)] ed))) bU))))) H.aq5
def acd:cK:=⟨⟨[(0,.an 200001)],[(200001,.bh t3)]⟩,⟨[(0,.sub 200001)],[(200001,.bh t3)]⟩,[none],1,H.Jy⟩
theorem avG:cR Tryz.prog dC 186 acd:=dZ Q' [] trivial func186 (S L (S bF (J [(0,.an 200001)] [(200001,a2)] (S L (B (ax [(0,.an 200001),(3,v2)] [(200001,a2)] (S ay (J [(0,.an 200001),(3,v2)] [(200001,a2)] (B (S L (C (S L (J [(0,.an 200001),(3,v2)] [(200001,a2)] (S L (B (ax [(0,.an 200001),(3,v2),(4,.sub 200001),(5,v2)] [(200001,a2)] (S ay (J [(0,.an 200001),(3,v2),(4,.sub 200001),(5,v2)] [(200001,a2)] (B bF) L))))) aP)) L))) L))))) bU))) H.aq'
def avH:=mk Q' func187 H.Fs j6 H.ari
def vj:=pY avH mI [(161,.e_ QU),(185,.e_ acb),(186,.e_ acd)] ⟨aa_,avF,avG,trivial⟩ func117 H.BS (S L (S mQ (S L (S L (S mQ (S L (S bF (S L B')))))))) H.ark
def avI:cK:=⟨⟨[(0,.val t22)],[]⟩,⟨[(0,.an 60)],[(60,.bh AQ)]⟩,[none],1,ax.rb⟩
theorem avJ:cR Tryz.prog dC 188 avI:=dZ vj [] trivial func188 j6 ax.wX
abbrev Ra:e3:=.kJ (hJ.kJ (ax.fQ kP).dv)
theorem ace:e3.hD Tryz.prog dC 188 Ra:=zk (sh:=(ax.fQ kP).sh) avJ (λx h=>⟨h,λbm ga=>by have h:bm=_:=ga;subst h;exact (A.gR).symm⟩)
def avK:cK:=⟨⟨[(0,.val D_)],[]⟩,⟨[(0,.an 60)],[(60,.bh yf)]⟩,[none],1,ax.rb⟩
theorem avL:cR Tryz.prog dC 189 avK:=dZ vj [] trivial func189 j6 ax.wX
abbrev Rb:e3:=.kJ (hJ.kJ (ax.fQ k9).dv)
theorem acf:e3.hD Tryz.prog dC 189 Rb:=zk (sh:=(ax.fQ k9).sh) avL (λx h=>⟨h,λbm ga=>by have h:bm=_:=ga;subst h;exact (A.gR).symm⟩)
def avM:cK:=⟨⟨[(0,.val HY)],[]⟩,⟨[(0,.an 60)],[(60,.bh AS)]⟩,[none],1,ax.rb⟩
theorem avN:cR Tryz.prog dC 190 avM:=dZ vj [] trivial func190 j6 ax.wX
abbrev Rc:e3:=.kJ (hJ.kJ (ax.fQ j1).dv)
theorem acg:e3.hD Tryz.prog dC 190 Rc:=zk (sh:=(ax.fQ j1).sh) avN (λx h=>⟨h,λbm ga=>by have h:bm=_:=ga;subst h;exact (A.gR).symm⟩)
def Re:cK:=⟨⟨[(0,.val HX)],[]⟩,⟨[(0,.an 60)],[(60,.bh AR)]⟩,[none],1,ax.rb⟩
theorem ach:cR Tryz.prog dC 191 Re:=dZ vj [] trivial func191 j6 ax.wX
def aci:cK:=⟨⟨[(0,.val eX)],[]⟩,⟨[(0,.an 60)],[(60,.bh t3)]⟩,[none],1,ax.JQ⟩
theorem acj:cR Tryz.prog dC 192 aci:=dZ vj [] trivial func192 j6 ax.arK
abbrev Rf:e3:=.kJ (hJ.kJ H.o_.dv)
theorem ack:e3.hD Tryz.prog dC 192 Rf:=zk (sh:=H.o_.sh) acj (λx h=>⟨h,λbm ga=>by have h:bm=_:=ga;subst h;exact (A.gR).symm⟩)
def avO:cK:=⟨⟨[(0,.val t28)],[]⟩,⟨[(0,.an 60)],[(60,.bh yg)]⟩,[none],1,ax.rb⟩
theorem avP:cR Tryz.prog dC 193 avO:=dZ vj [] trivial func193 j6 ax.wX
abbrev Rg:e3:=.kJ (hJ.kJ (ax.fQ nz).dv)
theorem acm:e3.hD Tryz.prog dC 193 Rg:=zk (sh:=(ax.fQ nz).sh) avP (λx h=>⟨h,λbm ga=>by have h:bm=_:=ga;subst h;exact (A.gR).symm⟩)
def avQ:cK:=⟨⟨[(0,.val HZ)],[]⟩,⟨[(0,.an 60)],[(60,.bh vW)]⟩,[none],1,ax.rb⟩
theorem avR:cR Tryz.prog dC 194 avQ:=dZ vj [] trivial func194 j6 ax.wX
abbrev Kr:e3:=.kJ (hJ.kJ (ax.fQ mO).dv)
theorem Rh:e3.hD Tryz.prog dC 194 Kr:=zk (sh:=(ax.fQ mO).sh) avR (λx h=>⟨h,λbm ga=>by have h:bm=_:=ga;subst h;exact (A.gR).symm⟩)
def avS:cK:=⟨⟨[(0,.val AT)],[]⟩,⟨[(0,.an 60)],[(60,.bh rV)]⟩,[none],1,ax.rb⟩
theorem avT:cR Tryz.prog dC 195 avS:=dZ vj [] trivial func195 j6 ax.wX
abbrev Ri:e3:=.kJ (hJ.kJ (ax.fQ qa).dv)
theorem acn:e3.hD Tryz.prog dC 195 Ri:=zk (sh:=(ax.fQ qa).sh) avT (λx h=>⟨h,λbm ga=>by have h:bm=_:=ga;subst h;exact (A.gR).symm⟩)
def aco:=pY vj mI [(188,Ra),(189,Rb),(190,Rc),(191,.e_ Re),(192,Rf),(193,Rg),(194,Kr),(195,Ri)] ⟨ace,acf,acg,ach,ack,acm,Rh,acn,trivial⟩ func118 ax.JT gW ax.arO
def acp:cK:=⟨⟨[(0,.val w9)],[]⟩,⟨[(0,.bd 17 0)],[(17,.f' qS)]⟩,[none],1,ax.uT⟩
theorem avU:cR Tryz.prog dC 57 acp:=dZ aco [] trivial func57 tM ax.Pd
def FM:=mk aco func58 ax.JZ aP ax.ar1
def Ks:cK:=⟨⟨[(0,.bd 100000 0),(1,.val od),(2,.val eX)],[(100000,.f' qS)]⟩,⟨[(0,.val t9)],[(100000,.f' qS)]⟩,[none],3,ax.BX⟩
theorem Rj:cR Tryz.prog dC 196 Ks:=dZ FM [] trivial func196 B' ax.arw
def Rk:cK:=lg (ax.fw 5 ax.Qw)
theorem avV:cR Tryz.prog dC 119 Rk:=dZ FM [(196,.e_ Ks)] ⟨Rj,trivial⟩ func119 aP ax.arx
def avW:cK:=lg (ax.fw 4 ax.Qx)
theorem avX:cR Tryz.prog dC 120 avW:=dZ FM [(196,.e_ Ks)] ⟨Rj,trivial⟩ func120 aP ax.ary
def avY:cK:=lg (ax.fw 1 ax.Qy)
theorem avZ:cR Tryz.prog dC 121 avY:=dZ FM [(196,.e_ Ks)] ⟨Rj,trivial⟩ func121 aP ax.Pe
def av0:=mk FM func339 H.Ir aP H.alF
def av1:=mk av0 func280 H.Is (S L (S L (S L (S (S L (C (S bF bU) L)) (S bF (S bF (S bF bU))))))) H.alG
def av2:=mk av1 func279 H.l_ aP H.alH
def av3:=mk av2 func211 IT (S L (J [] [] (S L (B (ax [(0,dT),(1,v2),(7,v2),(8,v2)] [] cw))) bU)) aoG
def av4:=mk av3 func157 o9 aP aoH
def FN:=jV av4 [] func156 H.Bn 1 aP H.Pe
abbrev zp:=AV (ajG FN) [(156,1)] []
def acq:cK:=⟨⟨[(0,.val od)],[]⟩,⟨[(0,.an 9),(1,.val t4)],[(9,.bh jd)]⟩,[none,none],1,H.Iz⟩
theorem av5:cR Tryz.prog zp 154 acq:=dZ FN [] trivial func154 su H.amb
def acr:cK:=⟨⟨[(0,.an 200001),(1,.val NZ)],[(200001,.bh jd)]⟩,⟨[(0,.sub 200001)],[(200001,.bh jd)]⟩,[none],2,H.IB⟩
theorem av6:cR Tryz.prog zp 155 acr:=dZ FN [] trivial func155 (S L (S L (S bF (J [(0,.an 200001),(5,v2)] [(200001,w5)] (S L (B (ax [(0,.an 200001),(1,Q5),(5,v2),(6,v2)] [(200001,w5)] (S ay (J [(0,.an 200001),(1,Q5),(5,v2),(6,v2)] [(200001,w5)] (B mQ) L))))) aP)))) H.amd
def av7:=mk FN func192 H.o_ j6 H.alD
def av8:=mk av7 func291 H.OV (S L (J [(0,v228),(2,v2)] [] bF (J [(0,v228),(2,v2)] [] bF (J [(0,v228),(2,v2)] [] bF bU)))) H.alI
def Cb:=mk av8 func215 H.OW (S L (S (C bU L) bU)) (H.alJ (λ_=>A.fail))
def acs:cK:=⟨⟨[(0,.an 200001),(1,.val t2),(2,.val t2),(3,.val Eb)],[(200001,.bh qT)]⟩,⟨[],[(200001,.bh qT)]⟩,[],4,H.Iu⟩
theorem av9:cR Tryz.prog zp 375 acs:=dZ Cb [] trivial func375 (S L (B (ax [(0,.an 200001),(1,v2),(2,v2),(3,Ko),(8,v2)] [(200001,gU)] (S ay (J [(0,.an 200001),(1,v2),(2,v2),(3,Ko),(8,v2)] [(200001,gU)] (B (S L (B (ax [(0,.an 200001),(1,v2),(2,v2),(3,Ko),(8,v2),(9,v2)] [(200001,gU)] Ca)))) L))))) H.alS
def acu:cK:=⟨⟨[(0,.an 200001),(1,.val t2),(2,.val t2),(3,.val t2),(4,.val Eb)],[(200001,.bh qT)]⟩,⟨[],[(200001,.bh qT)]⟩,[],5,H.Iw⟩
theorem av_:cR Tryz.prog zp 338 acu:=dZ Cb [(375,.e_ acs)] ⟨av9,trivial⟩ func338 (S L (S L (B (ax [(0,.an 200001),(1,v2),(2,v2),(3,v2),(4,Ko),(10,v4),(11,v4)] [(200001,gU)] (B (S L (S bF L))))))) H.alT
def acv:cK:=⟨⟨[(0,.an 200001),(1,.val Eb)],[(200001,.bh qT)]⟩,⟨[],[(200001,.bh qT)]⟩,[],2,H.A7⟩
theorem awa:cR Tryz.prog zp 278 acv:=dZ Cb [(338,.e_ acu)] ⟨av_,trivial⟩ func278 bU H.alV
def acw:cK:=⟨⟨[(0,.bd 100000 0),(1,.val eX)],[(100000,.cells rW [.val qR,.val od,.val eX,.val qR,.val t2,.val t2,.val t2,.val t2,.val t2,.val t2,.val t2,.val od,.an 100002]),(100002,.bh pU)]⟩,⟨[(0,.val pU),(1,.val t4)],[(100000,.cells rW [.val qR,.val od,.val eX,.val qR,.val t2,.val t2,.val t2,.val t2,.val t2,.val t2,.val t2,.val od,.an 100002]),(100002,.bh pU)]⟩,[none,none],2,H.uT⟩
theorem awb:cR Tryz.prog zp 212 acw:=dZ Cb [(278,.e_ acv)] ⟨awa,trivial⟩ func212 (S L (J [(0,.bd 100000 0),(1,dT),(6,.bd 17 0)] [(17,.cells Ea [dT,.an 30000,.an 30001,.an 30002,.an 30003,.an 30004,.an 30005,.an 30006,.an 30007,.an 30008,.an 30009]),(100000,.cells rW [nO,ql,dT,nO,v2,v2,v2,v2,v2,v2,v2,ql,.an 100002]),(100002,FK),(30000,gU),(30001,gU),(30002,gU),(30003,gU),(30004,gU),(30005,gU),(30006,gU),(30007,gU),(30008,gU),(30009,gU)] L (J [(6,.bd 17 0)] jE (S L (B (ax [(1,dT),(6,.bd 17 0),(21,ql),(22,v2),(23,v2)] jE (S L (S eg (J [(1,dT),(6,.bd 17 0),(21,ql),(22,v2),(23,v2)] jE (B (S L (.split 8 4 10 L))) L)))))) (J [(6,.bd 17 0)] jE (S L (B (.n7 (.num 57 0 (S L (S eg (J nD jE (B (S L (S L (S L (B (ax [(6,.bd 17 0),(10,.an 30000),(56,.hI [30000,30001,30002,30003,30004,30005,30006,30007,30008,30009]),(57,v2),(62,.an 30000),(63,v2),(64,v2)] jE (S L (S eg (S (B (S L (S L (J [(6,.bd 17 0),(10,.an 30000),(11,v2),(12,.bd 12 0),(13,v2),(56,.hI [30000,30001,30002,30003,30004,30005,30006,30007,30008,30009]),(57,v2),(62,.an 30000),(63,v2),(64,v2)] tL ay bF)))) L))))))))) L)))) (.n7 (.num 57 1 (S L (S eg (J nD jE (B (S L (S L (S L (B (ax [(6,.bd 17 0),(10,.an 30001),(56,.hI [30000,30001,30002,30003,30004,30005,30006,30007,30008,30009]),(57,v2),(62,.an 30001),(63,v2),(64,v2)] jE (S L (S eg (S (B (S L (S L (J [(6,.bd 17 0),(10,.an 30001),(11,v2),(12,.bd 12 0),(13,v2),(56,.hI [30000,30001,30002,30003,30004,30005,30006,30007,30008,30009]),(57,v2),(62,.an 30001),(63,v2),(64,v2)] tL ay bF)))) L))))))))) L)))) (.n7 (.num 57 2 (S L (S eg (J nD jE (B (S L (S L (S L (B (ax [(6,.bd 17 0),(10,.an 30002),(56,.hI [30000,30001,30002,30003,30004,30005,30006,30007,30008,30009]),(57,v2),(62,.an 30002),(63,v2),(64,v2)] jE (S L (S eg (S (B (S L (S L (J [(6,.bd 17 0),(10,.an 30002),(11,v2),(12,.bd 12 0),(13,v2),(56,.hI [30000,30001,30002,30003,30004,30005,30006,30007,30008,30009]),(57,v2),(62,.an 30002),(63,v2),(64,v2)] tL ay bF)))) L))))))))) L)))) (.n7 (.num 57 3 (S L (S eg (J nD jE (B (S L (S L (S L (B (ax [(6,.bd 17 0),(10,.an 30003),(56,.hI [30000,30001,30002,30003,30004,30005,30006,30007,30008,30009]),(57,v2),(62,.an 30003),(63,v2),(64,v2)] jE (S L (S eg (S (B (S L (S L (J [(6,.bd 17 0),(10,.an 30003),(11,v2),(12,.bd 12 0),(13,v2),(56,.hI [30000,30001,30002,30003,30004,30005,30006,30007,30008,30009]),(57,v2),(62,.an 30003),(63,v2),(64,v2)] tL ay bF)))) L))))))))) L)))) (.n7 (.num 57 4 (S L (S eg (J nD jE (B (S L (S L (S L (B (ax [(6,.bd 17 0),(10,.an 30004),(56,.hI [30000,30001,30002,30003,30004,30005,30006,30007,30008,30009]),(57,v2),(62,.an 30004),(63,v2),(64,v2)] jE (S L (S eg (S (B (S L (S L (J [(6,.bd 17 0),(10,.an 30004),(11,v2),(12,.bd 12 0),(13,v2),(56,.hI [30000,30001,30002,30003,30004,30005,30006,30007,30008,30009]),(57,v2),(62,.an 30004),(63,v2),(64,v2)] tL ay bF)))) L))))))))) L)))) (.n7 (.num 57 5 (S L (S eg (J nD jE (B (S L (S L (S L (B (ax [(6,.bd 17 0),(10,.an 30005),(56,.hI [30000,30001,30002,30003,30004,30005,30006,30007,30008,30009]),(57,v2),(62,.an 30005),(63,v2),(64,v2)] jE (S L (S eg (S (B (S L (S L (J [(6,.bd 17 0),(10,.an 30005),(11,v2),(12,.bd 12 0),(13,v2),(56,.hI [30000,30001,30002,30003,30004,30005,30006,30007,30008,30009]),(57,v2),(62,.an 30005),(63,v2),(64,v2)] tL ay bF)))) L))))))))) L)))) (.n7 (.num 57 6 (S L (S eg (J nD jE (B (S L (S L (S L (B (ax [(6,.bd 17 0),(10,.an 30006),(56,.hI [30000,30001,30002,30003,30004,30005,30006,30007,30008,30009]),(57,v2),(62,.an 30006),(63,v2),(64,v2)] jE (S L (S eg (S (B (S L (S L (J [(6,.bd 17 0),(10,.an 30006),(11,v2),(12,.bd 12 0),(13,v2),(56,.hI [30000,30001,30002,30003,30004,30005,30006,30007,30008,30009]),(57,v2),(62,.an 30006),(63,v2),(64,v2)] tL ay bF)))) L))))))))) L)))) (.n7 (.num 57 7 (S L (S eg (J nD jE (B (S L (S L (S L (B (ax [(6,.bd 17 0),(10,.an 30007),(56,.hI [30000,30001,30002,30003,30004,30005,30006,30007,30008,30009]),(57,v2),(62,.an 30007),(63,v2),(64,v2)] jE (S L (S eg (S (B (S L (S L (J [(6,.bd 17 0),(10,.an 30007),(11,v2),(12,.bd 12 0),(13,v2),(56,.hI [30000,30001,30002,30003,30004,30005,30006,30007,30008,30009]),(57,v2),(62,.an 30007),(63,v2),(64,v2)] tL ay bF)))) L))))))))) L)))) (.n7 (.num 57 8 (S L (S eg (J nD jE (B (S L (S L (S L (B (ax [(6,.bd 17 0),(10,.an 30008),(56,.hI [30000,30001,30002,30003,30004,30005,30006,30007,30008,30009]),(57,v2),(62,.an 30008),(63,v2),(64,v2)] jE (S L (S eg (S (B (S L (S L (J [(6,.bd 17 0),(10,.an 30008),(11,v2),(12,.bd 12 0),(13,v2),(56,.hI [30000,30001,30002,30003,30004,30005,30006,30007,30008,30009]),(57,v2),(62,.an 30008),(63,v2),(64,v2)] tL ay bF)))) L))))))))) L)))) (.n7 (.num 57 9 (S L (S eg (J nD jE (B (S L (S L (S L (B (ax [(6,.bd 17 0),(10,.an 30009),(56,.hI [30000,30001,30002,30003,30004,30005,30006,30007,30008,30009]),(57,v2),(62,.an 30009),(63,v2),(64,v2)] jE (S L (S eg (S (B (S L (S L (J [(6,.bd 17 0),(10,.an 30009),(11,v2),(12,.bd 12 0),(13,v2),(56,.hI [30000,30001,30002,30003,30004,30005,30006,30007,30008,30009]),(57,v2),(62,.an 30009),(63,v2),(64,v2)] tL ay bF)))) L))))))))) L)))) (.n7 (.num 57 10 (S L (S eg L))) L))))))))))))) bU)))) H.Pd
def Rl(f:Nat):cK:=⟨⟨[(0,.bd 100000 0),(1,.val eX)],[(100000,.cells rW [.val qR,.val od,.val eX,.val qR,.val t2,.val t2,.val t2,.val t2,.val t2,.val t2,.val t2,.val od,.an 100002]),(100002,.bh pU)]⟩,⟨[],[(100000,.cells rW [.val qR,.val od,.val eX,.val qR,.val t2,.val t2,.val t2,.val t2,.val t2,.val t2,.val t2,.val od,.an 100002]),(100002,.bh pU)]⟩,[],2,H.yI f⟩
theorem acx:∀f,cR Tryz.prog zp 158 (Rl f)
 |0=>N2 func158 H.amM
 |f+1=>dZ Cb [(158,.e_ (Rl f)),(212,.e_ acw)] ⟨acx f,awb,trivial⟩ func158 (S L (S (S L (C (J [] ab5 (S L ay) L) L)) (S L (B (ax [(0,.bd 100000 0),(1,dT),(4,v2),(7,v2)] ab5 Ca))))) (H.amP f)
def awc:=pY Cb (FN.u [(156,1)] [] trivial) [(154,.e_ acq),(155,.e_ acr),(158,.e_ (Rl 5))] ⟨av5,av6,acx 5,trivial⟩ func74 H.wu (S L (S mQ (S L (S L (S L (J [(7,.bd 15 0)] [(15,.cells rW [nO,ql,dT,nO,v2,v2,v2,v2,v2,v2,v2,.sub 50200,.an 30000]),(50200,w5),(30000,FK)] bF j6)))))) H.amT
def awd:=mk awc func77 H.Bo (S L (J [(4,.bd 4 0),(5,v4)] [(4,sf)] (S L (B (ax abY [(4,sf)] (S L (S eg (J abY [(4,sf)] (B (S L (S L (B (S L (C L ay)))))) L)))))) bU)) H.amU
def awe:=jV awd [] func152 H.Bs 1 aP H.anc
def awf:=jV awe [(152,1)] func150 H.Po 1 aP H.ane (hc:=λx h=>by obtain⟨_,f,au,_⟩:=h;exact s3 ⟨trivial,rX au⟩)
def Rm:=mk awf func89 H.wm (S L (S L (J [(7,v2)] [] (S L (B (ax [(1,v2),(2,v2),(7,v2),(14,nO),(15,v2),(16,v2)] [] ed))) bU))) H.amm
def acy:cK:=⟨⟨[(0,.hh),(1,.dV pU),(2,.dV vY),(1000000,.aX (.aA jd t2))],[]⟩,⟨[(1000000,.aX (.aA jd t2))],[]⟩,[],3,(H.Ik H.wm.sh)⟩
theorem awg:cR Tryz.prog dC 159 acy:=dZ (S:=(H.Ik H.wm.sh)) Rm [] trivial func159 (S L (B (ax abR [] (S L (S eg (J abR [] (B (S L (S L (B (ax [(0,.hh),(2,.dV vY),(5,abD),(6,v2),(10,abE),(11,v2),(1000000,.aX (.aA jd t2))] [] (S ay (S (B ay) L))))))) L)))))) (λx=>A.le_refl _)
theorem awh:xe Tryz.prog 159 ⟨[pU,vY],(.aA jd t2),H.tp⟩:=NN (c:=acy) awg mI (λx l L=>(l,x.1.getD none,x.2.getD none,(l,L,[],false),())) rfl (by decide) (by simp[gi])
 (λx l L i ah=>by
  obtain⟨T,aV⟩:=ah;obtain⟨t,b,E,U,ao,_⟩:=aV;obtain⟨xq,xp⟩:=x;change xq=some (some t) at E;change xp=some (some b) at U;subst E;subst U;by_cases aU:i=0
  ·subst aU;exact .inr (.inr (.inl ⟨rfl,rfl⟩))
  ·by_cases E:i=1
   ·subst E;exact .inr (.inl ⟨by decide,by decide,_,_,rfl,rfl⟩)
   by_cases ag:i=2
   ·subst ag;exact .inr (.inl ⟨by decide,by decide,_,_,rfl,rfl⟩)
   by_cases U:i=b5
   ·subst U;exact .inr (.inr (.inr ⟨rfl,rfl⟩))
   ·refine .inl ?_;exact (if_neg aU).trans ((if_neg E).trans ((if_neg ag).trans (if_neg U))))
 rfl (λbm=>⟨_,_,_,_,rfl⟩) (λx l ah=>by
  obtain⟨T,aV⟩:=ah;obtain⟨t,b,E,U,ao,_⟩:=aV;obtain⟨xq,xp⟩:=x;change xq=some (some t) at E;change xp=some (some b) at U;subst E;subst U;have h:=H.amZ l t b ao;refine⟨h.1,λbm ga dF e4 p fk=>?_⟩;have e:aH.aX bm.1.1 (.aA jd t2) bm.1.2.1 bm.1.2.2.1 bm.1.2.2.2=.aX dF (.aA jd t2) e4 p false:=fk;injection e with ay aP cw ed gW
  rw[<-ed];exact h.2 bm ga gW)
def awi:=pY Rm (Rm.u [] [(159,⟨[pU,vY],(.aA jd t2),H.tp⟩)] ⟨awh,trivial⟩) [] trivial func79 H.Bp aP H.am3
def awj:=jV awi [] func153 H.Pp 1 (S L (S (S L (B (ch [(2,.dV t2),(3,.dV NU),(5,.bd 5 0),(6,.bd 6 0)] [(5,.cells t2 [v2]),(6,.cells t4 [v4])] [(2,.dV t2),(3,.dV NU),(5,.bd 100005 0),(6,.bd 100006 0),(12,abA),(13,v2)] [(100005,.cells t2 [v2]),(100006,.cells t4 [v4])] [] [(100005,.cells t2 [v2]),(100006,.cells t4 [v4])] bU (B bF)))) bU)) H.anf (hc:=λx h=>by obtain⟨_,_,_,_,rfl,_⟩:=h;exact s3 ⟨⟨⟨trivial,rfl⟩,rfl⟩,rfl⟩)
def awk:=l6 awj [(150,1),(153,1)] func70 H.Bt (S L (S L (S bF j6))) H.ang
def awl:=mk awk func71 H.yL aP H.anh
def awm:=l6 awl [] func34 H.yC aP H.ani
def awn:=mk awm func199 ax.zd (S L (S bF (S L (J [(3,.an 3)] [(3,a9)] (S L (B (ax [(3,.an 3),(9,dT),(10,v2),(11,v2)] [(3,a9)] ed))) bU)))) ax.art
def awo:=mk awn func198 ax.ra (S L Q8) ax.aru
def acz:=mk awo func197 ax.ze aP ax.arv
def awp:cK:=lg (ax.fw 1 ax.JD)
theorem awq:cR Tryz.prog dC 122 awp:=dZ acz [] trivial func122 aP ax.arz
def awr:=mk acz func73 H.wo j6 H.amn
def aws:=jV awr [] func72 H.yM 1 aP H.anj
def acA:=l6 aws [(72,1)] func35 H.yD aP H.anl
def awt:cK:=lg (ax.fw 1 ax.JE)
theorem awu:cR Tryz.prog dC 123 awt:=dZ acA [] trivial func123 aP ax.arA
def awv:=jV acA [] func75 H.Pq 1 aP H.anm
def aww:=jV awv [] func78 H.Pr 1 (S L (S L (S (S L (B (ch [(2,.dV t2),(3,.dV tN),(7,.bd 7 0)] [(7,.cells t2 [v2])] [(2,.dV t2),(3,.dV tN),(7,.bd 100007 0),(13,abA),(14,v2)] [(100007,.cells t2 [v2])] [] [(100007,.cells t2 [v2])] bU (B ay)))) bU))) H.ano (hc:=λx h=>by obtain⟨_,_,_,_,rfl,_⟩:=h;exact s3 ⟨⟨⟨trivial,rfl⟩,rfl⟩,rfl⟩)
def acB:=l6 aww [(75,1),(78,1)] func36 H.yE B' H.anr
def awx:cK:=lg (ax.fw 1 ax.JF)
theorem awy:cR Tryz.prog dC 124 awx:=dZ acB [] trivial func124 aP ax.arB
def awz:=mk acB func81 H.yu aP H.alr
def awA:=jV awz [] func80 H.Bu 1 aP H.Yn
def awB:=mk awA func83 H.yN (S L (S L (S L (J [(6,.bd 6 0),(8,.bd 8 0),(9,v4)] [(6,zm),(8,zm)] (S L (B (ax abS [(6,zm),(8,zm)] (S L (S eg (J abS [(6,zm),(8,zm)] zo L)))))) bU)))) H.ant
def awC:=jV awB [] func82 H.Pv 1 (S L (S L (J [(6,v2)] [] (S L (B (ax [(0,abC),(1,.dV t2),(2,.dV tN),(6,v2),(10,v2)] [] (S L (S eg (J [(0,abC),(1,.dV t2),(2,.dV tN),(6,v2),(10,v2)] [] zn L)))))) bU))) H.anw (hc:=λx h=>by obtain⟨_,_,_,rfl,_⟩:=h;exact s3 ⟨⟨trivial,rfl⟩,rfl⟩)
def acC:=l6 awC [(80,1),(82,1)] func37 H.yF B' H.anz
def awD:cK:=lg (ax.fw 1 ax.JG)
theorem awE:cR Tryz.prog dC 125 awD:=dZ acC [] trivial func125 aP ax.arC
def Rn:=jV acC [] func84 H.Py 1 aP H.anD (hc:=λx h=>by obtain⟨a,b,au⟩:=h;exact s3 ⟨⟨trivial,rX (congrArg (λo=>o.1) au)⟩,rX (congrArg (λo=>o.2) au)⟩)
def acD:cK:=⟨⟨[(0,.hh),(1,.dV H0),(1000000,.aX t2)],[]⟩,⟨[(1000000,.aX t2)],[]⟩,[],2,H.OQ⟩
theorem awF:cR Tryz.prog dC 162 acD:=dZ (S:=H.OQ) Rn [] trivial func162 (S L (B (ax [(0,.hh),(5,.j9 5),(1000000,.aX t2)] [(5,.cr t2 t2)] (S L (S eg zo))))) (λx=>A.le_refl _)
theorem awG:xe Tryz.prog 162 ⟨[H0],t2,H.jY⟩:=NN (c:=acD) awF mI (λx l L=>(l,x.getD [],(l,L,[],false),())) rfl (by decide) (by simp[gi])
 (λx l L i ah=>by
  obtain⟨T,aV⟩:=ah;obtain⟨m,hm,_⟩:=aV;subst hm;by_cases aU:i=0
  ·subst aU;exact .inr (.inr (.inl ⟨rfl,rfl⟩))
  ·by_cases E:i=1
   ·subst E;exact .inr (.inl ⟨by decide,by decide,_,_,rfl,rfl⟩)
   by_cases U:i=b5
   ·subst U;exact .inr (.inr (.inr ⟨rfl,rfl⟩))
   ·refine .inl ?_;exact (if_neg aU).trans ((if_neg E).trans (if_neg U)))
 rfl (λbm=>⟨_,_,_,_,rfl⟩) (λx l ah=>by
  obtain⟨T,aV⟩:=ah;obtain⟨m,hm,_⟩:=aV;subst hm;have h:=H.amV l m;refine⟨h.1,λbm ga dF e4 p fk=>?_⟩;have e:aH.aX bm.1.1 t2 bm.1.2.1 bm.1.2.2.1 bm.1.2.2.2=.aX dF t2 e4 p false:=fk;injection e with ay aP cw ed gW
  rw[<-ed];exact h.2 bm ga gW)
def awH:=pY Rn (Rn.u [] [(162,⟨[H0],t2,H.jY⟩)] ⟨awG,trivial⟩) [] trivial func87 H.Ix aP H.al0
def acE:=l6 awH [(84,1)] func38 H.yG (S L (S L (S bF (S L (J [(10,.fH 24)] [(24,.mp t2 t2)] (S L (B (ax abT [(4,.gM t2),(5,.gM t2),(24,.mp t2 t2)] (S L (S eg (J abT [(4,.gM t2),(5,.gM t2),(24,.mp t2 t2)] zn L)))))) bU))))) H.anE
def awI:cK:=lg (ax.fw 2 ax.JH)
theorem awJ:cR Tryz.prog dC 126 awI:=dZ acE [] trivial func126 (S L (S L (S bF (S bF bU)))) ax.arD
def awK:=jV acE [] func88 H.Bu 1 aP H.anv
def acF:=l6 awK [(88,1)] func39 H.yH (S L (S L (S bF (J [(4,.an 4),(5,.an 5)] [(4,a2),(5,a2)] (S L (B (ax abU B_ (S L (S eg (J abU B_ (B (S L (S L (J abP B_ (S L (B (ax abL B_ (S L (S eg (J abL B_ zn L)))))) (J abP B_ ay ay))))) L)))))) bU)))) H.anJ
def awL:cK:=lg (ax.fw 1 ax.JI)
theorem awM:cR Tryz.prog dC 127 awL:=dZ acF [] trivial func127 (S L j6) ax.arE
def awN:=mk acF func143 E5 tM aoS
def awO:=jV awN [] func142 yU 1 aP aoT (hc:=λx h=>by obtain⟨i,w,n,au,_⟩:=h;exact s3 ⟨⟨⟨trivial,rX (congrArg (λo=>o.1) au)⟩,rX (congrArg (λo=>o.2.1) au)⟩,rX (congrArg (λo=>o.2.2) au)⟩)
def awP:=l6 awO [(142,1)] func63 BE (S L (S mQ (S bF (S L (J [(7,.bd 22 0)] [(22,.cells yh [v22,se,v2,tJ,.an 61]),(61,FG)] (S L (B (ax [(2,.bd 2 0),(7,.bd 22 0),(24,v22),(25,v2),(26,v2)] ab6 (S L (S eg (J [(2,.bd 2 0),(7,.bd 22 0),(24,v22),(25,v2),(26,v2)] ab6 (B (S L (S L (J [(2,.bd 2 0),(7,.bd 22 0),(10,.an 10),(24,v22),(25,v2),(26,v2)] [(2,.gM uJ),(10,a2),(22,.cells yh [v22,se,v2,tJ,.an 61]),(61,FG)] (S L (B (ax abK [(2,.gM uJ),(8,.gM t2),(9,abG),(10,a2),(11,.cells t2 [v2]),(22,.cells yh [v22,se,v2,tJ,.an 61]),(61,FG)] (S ay (J abK [(2,.gM uJ),(8,.gM t2),(9,abG),(10,a2),(11,.gM t2),(22,.cells yh [v22,se,v2,tJ,.an 61]),(61,FG)] zo (S bU L)))))) (S bF L))))) L)))))) bU))))) aoY
def En:=mk awP func24 yS B' ao6
def Cc:cK:=⟨⟨[(0,.val pq)],[]⟩,⟨[(0,.val t22),(1,.val D_),(2,.val t2),(3,.an 28),(4,.an 11),(5,.an 16),(6,.an 20),(7,.an 24),(8,.val t2)],[(28,.bh AS),(11,.bh t2),(16,.bh yg),(20,.bh vW),(24,.bh rV)]⟩,[some 9],1,ax.wY⟩
theorem FO:cR Tryz.prog dC 118 Cc:=dZ En [(188,Ra),(189,Rb),(190,Rc),(191,.e_ Re),(192,Rf),(193,Rg),(194,Kr),(195,Ri)] ⟨ace,acf,acg,ach,ack,acm,Rh,acn,trivial⟩ func118 gW ax.arN
def awQ:cK:=lg (ax.fw 4 ax.y_)
theorem awR:cR Tryz.prog dC 128 awQ:=dZ En [(118,.e_ Cc)] ⟨FO,trivial⟩ func128 (S L (S L (S L (S L (S bF (S mQ aP)))))) ax.arR
def awS:=mk En func146 IQ (S L Q8) aoZ
def awT:=mk awS func66 IY (S L (S L (J [(0,abz),(1,v2),(9,v2)] [] (S L (B (ax abV [] (S L (S eg (J abV [] zo L)))))) bU))) ao4
def r0:=mk awT func23 u5 (S L j6) ao8
def awU:cK:=lg (ax.fw 3 ax.JJ)
theorem awV:cR Tryz.prog dC 129 awU:=dZ r0 [] trivial func129 (S L j6) ax.arF
def FP:cK:=⟨⟨[(0,.bd 100000 0),(1,.val pq)],[(100000,.f' qS)]⟩,⟨[(0,.val t9)],[(100000,.f' qS)]⟩,[none],2,ax.wZ⟩
theorem Kt:cR Tryz.prog dC 200 FP:=dZ r0 [] trivial func200 (S L (S bF aP)) ax.arP
def awW:cK:=lg (ax.fw 2 ax.y')
theorem awX:cR Tryz.prog dC 130 awW:=dZ r0 [(118,.e_ Cc),(200,.e_ FP)] ⟨FO,Kt,trivial⟩ func130 B' ax.arS
def awY:cK:=lg (ax.fw 3 ax.Qz)
theorem awZ:cR Tryz.prog dC 131 awY:=dZ r0 [(118,.e_ Cc),(200,.e_ FP)] ⟨FO,Kt,trivial⟩ func131 vi ax.arT
def aw0:cK:=lg (ax.fw 4 ax.QA)
theorem aw1:cR Tryz.prog dC 132 aw0:=dZ r0 [(118,.e_ Cc),(200,.e_ FP)] ⟨FO,Kt,trivial⟩ func132 vi ax.arU
def aw2:cK:=lg (ax.fw 5 ax.QB)
theorem aw3:cR Tryz.prog dC 133 aw2:=dZ r0 [(118,.e_ Cc),(200,.e_ FP)] ⟨FO,Kt,trivial⟩ func133 vi ax.arV
def acG:cK:=⟨⟨[(0,.an 200001),(1,.val t3),(2,.val t3)],[(200001,.bh vW)]⟩,⟨[(0,.sub 200001)],[(200001,.bh vW)]⟩,[none],3,(ax.JR ax.JV)⟩
theorem aw4:cR Tryz.prog dC 201 acG:=dZ r0 [] trivial func201 (S L (S L (S bF vi))) (ax.arL ax.JV)
def aw5:cK:=lg (ax.fw 1 ax.za)
theorem aw6:cR Tryz.prog dC 134 aw5:=dZ r0 [(194,Kr),(201,.e_ acG)] ⟨Rh,aw4,trivial⟩ func134 (S L (S bF (S .G4 bU))) ax.arW
def aw7:=mk r0 func217 tu (S L (S L (S L (S L (S L (S L (S L (S L vi)))))))) apA
def aw8:=mk aw7 func165 tu (S L (S (C aP L) aP)) (apC (λ_=>A.fail))
def aw9:=mk aw8 func163 I9 (S L (J [(0,nO),(1,v2)] [] ay (S L (J [(0,nO),(6,v228)] [] ay (S L (S L (J [(7,.an 30)] [(30,Kn)] (B (ax [(7,.an 30),(8,v2)] [(30,Kn)] (S ay (B L)))) bU))))))) apK
def aw_:=mk aw9 func90 BJ (S L (S mQ (S bF (S L (J [(2,.bd 2 0),(7,.bd 30 0)] w6 (S L (C mQ L)) (J [(2,.bd 2 0),(7,.bd 30 0)] w6 (S L (B (ax [(2,.bd 2 0),(7,.bd 30 0),(46,v2),(47,v2)] w6 (S L (S eg (J [(2,.bd 2 0),(7,.bd 30 0),(46,v2),(47,v2)] w6 (B (S L (S L (B (ax abQ w6 (S L (S eg (J abQ w6 (B (S L (S L (B (ax abM w6 (S L (S eg (J abM w6 zn L)))))))) L)))))))) L)))))) (J [(2,.bd 2 0),(7,.bd 30 0)] ab3 (S L (B (ax [(2,.bd 2 0),(7,.bd 30 0),(92,dT),(93,v2),(94,v2)] ab3 ed))) (J [(7,.bd 30 0)] ab4 (S L (B (ax [(7,.bd 30 0),(114,qk),(115,v2),(116,v2)] ab4 ed))) bU)))))))) apY
def acH:=mk aw_ func91 PY aP apN
def acI:cK:=⟨⟨[(0,.val eX),(1,.val t3)],[]⟩,⟨[(0,.an 30)],[(30,.bh t3)]⟩,[none],2,wK⟩
theorem aw':cR Tryz.prog dC 92 acI:=dZ acH [] trivial func92 j8 ZP
def axa:=mk acH func168 wL (S L (S (B (S L (C bU (S L (C bU bF))))) bU)) apP
def acJ:=mk axa func96 Je (S L (S L (J [(6,.an 6)] [(6,B6)] (S L (B (ax [(0,kR),(6,.an 6),(14,dT),(15,v2),(16,v2)] [(6,B6)] (S L (S eg (J [(0,kR),(6,.an 6),(14,dT),(15,v2),(16,v2)] [(6,B6)] (B (S L (S ay (S L (S L (J [(0,kR),(6,.an 6),(10,.bd 10 0),(11,v2),(14,dT),(15,v2),(16,v2)] [(6,B6),(10,aby)] (S L (B (S L (C bU ay)))) (S bF (S L (B (ax [(0,kR),(6,.an 6),(10,.bd 10 0),(11,v2),(14,dT),(15,v2),(16,v2),(58,dT),(59,v2),(60,v2)] [(6,B6),(10,aby)] ed)))))))))) L)))))) bU))) ap_
def acK:cK:=⟨⟨[(0,.val eX),(1,.val t2)],[]⟩,⟨[(0,.an 30)],[(30,.bh t2)]⟩,[none],2,wK⟩
theorem axb:cR Tryz.prog dC 92 acK:=dZ acJ [] trivial func92 j8 ZP
def acL:=mk acJ func169 BO aP aqj
def Ro(f:Nat):cK:=⟨⟨[(0,.val o2),(1,.an 200001),(2,.val AT),(3,.val t2),(4,.fH 100002)],[(100002,.mp t2 t2),(200001,.bh t2)]⟩,⟨[(0,.val t4)],[(100002,.mp t2 t2),(200001,.bh t2)]⟩,[none],5,u_ f⟩
theorem acM:∀f,cR Tryz.prog dC 170 (Ro f)
 |0=>N2 func170 aqs
 |f+1=>dZ acL [(170,.e_ (Ro f))] ⟨acM f,trivial⟩ func170 (S L (J [] Q7 (S L (B (ax abO Q7 (S L (S eg (J abO Q7 (B (S L (S ay (S L (S L (C aP L)))))) L)))))) bU)) (aqr f)
def axc:=pY acL mI [(92,.e_ acK),(170,.e_ (Ro 201))] ⟨axb,acM 201,trivial⟩ func98 Ji (S L (S L (S L (J [(6,v2)] [] (S L (B (ax abZ [(50140,a2)] (S L (S eg (J abZ [(50140,a2)] zo L)))))) bU)))) aqu
def axd:=mk axc func93 wT tM aqv
def acN:=pY axd mI [(92,.e_ acI)] ⟨aw',trivial⟩ func40 y7 (S L (S L (S bF (S L (S L (J [(8,.an 8)] [(8,a2)] (S L (B (ax abW [(8,a2),(50260,a2)] (S L (S eg (J abW [(8,a2),(50260,a2)] zn L)))))) bU)))))) aqQ
def axe:cK:=lg (ax.fw 1 ax.JK)
theorem axf:cR Tryz.prog dC 135 axe:=dZ acN [] trivial func135 tM ax.arG
def axg:=mk acN func181 PZ aP apO
def axh:=mk axg func108 I_ (S L (J [(1,dT),(2,.bd 2 0)] [(2,FH)] (S L (B (ax [(1,dT),(2,.bd 2 0),(7,dT),(8,v2),(9,v2)] [(2,FH)] cw))) bU)) apQ
def axi:=mk axh func109 tz (S L (J [(4,v2)] [] (S L (B (ax [(0,kR),(4,v2),(7,dT),(8,v2),(9,v2)] [] (S L (S eg (J [(0,kR),(4,v2),(7,dT),(8,v2),(9,v2)] [] zo L)))))) bU)) aqa
def acO:=mk axi func49 Jo (S L (S L (S bF (S bF bU)))) aqS
def axj:cK:=lg (ax.fw 0 ax.QC)
theorem axk:cR Tryz.prog dC 136 axj:=dZ acO [(192,.e_ aci)] ⟨acj,trivial⟩ func136 (S L (S L (J [(0,.bd 100000 0),(5,.an 50100)] [(50100,a2),(100000,FJ)] (S L (B (ax [(0,.bd 100000 0),(5,.an 50100),(12,v2),(13,v2)] [(50100,a2),(100000,FJ)] ed))) aP))) ax.arH
def Rp:=mk acO func92 I7 j8 apJ
def Ku(f:Nat):cK:=⟨⟨[(0,.val o2),(1,.val eX),(2,.val t2),(3,.hh),(1000000,.aX eX)],[]⟩,⟨[(0,.val t4),(1000000,.aX eX)],[]⟩,[none],4,sa f⟩
theorem Rq:∀f,cR Tryz.prog dC 167 (Ku f)
 |0=>N2 func167 aqF
 |f+1=>dZ Rp [(167,.e_ (Ku f))] ⟨Rq f,trivial⟩ func167 (S L (S L (S bF (J [(0,kR),(1,dT),(2,v2),(3,.hh),(9,v2),(1000000,.aX eX)] [] (S L (B (ax abN [] (S L (S eg (J abN [] (B (S L (S ay bF))) L)))))) bU)))) (aqE f)
def acP:cK:=⟨⟨[(0,.val o2),(1,.hh),(1000000,.aX eX)],[]⟩,⟨[(1000000,.aX eX)],[]⟩,[],2,(Ig (sa 10))⟩
theorem axl:cR Tryz.prog dC 218 acP:=dZ (S:=(Ig (sa 10))) Rp [(167,.e_ (Ku 10))] ⟨Rq 10,trivial⟩ func218 L (λx=>A.le_refl _)
def Kv:Ak:=⟨o2,eX,y4,Jk⟩
theorem axm:DB Tryz.prog 218 Kv:=U1 (c:=acP) axl mI (ic:=Kv) (λx l L=>(x,l,(l,L,[],false),())) rfl (by decide) (by simp[Kv])
 (λx l L i=>by
  by_cases aU:i=0
  ·subst aU;exact .inr (.inl ⟨by decide,rfl⟩)
  ·by_cases E:i=1
   ·subst E;exact .inr (.inr (.inl ⟨rfl,rfl⟩))
   ·by_cases U:i=b5
    ·subst U;exact .inr (.inr (.inr ⟨rfl,rfl⟩))
    ·refine .inl ?_;exact (if_neg aU).trans ((if_neg E).trans (if_neg U)))
 rfl (λbm=>⟨_,_,_,_,rfl⟩) (λx l ao=>by
  obtain⟨s,aE,ae⟩:=ao;subst aE;have h:=aqG s ae l;refine⟨h.1,λbm ga dF e4 n fk=>?_⟩;have e:aH.aX bm.1.1 eX bm.1.2.1 bm.1.2.2.1 bm.1.2.2.2=.aX dF eX e4 n false:=fk;injection e with ay aP cw ed gW
  exact ed.symm.trans ((h.2 bm ga).2.2 gW))
def axn:=pY Rp mI [(218,.cr Kv)] ⟨axm,trivial⟩ func166 Qo (S L (S L (S (S L (B (ch [(1,.bd 1 0),(3,.bd 3 0)] [(1,.cells o2 [kR]),(3,.cells eX [dT])] [(1,.bd 100001 0),(3,.bd 100003 0),(15,dT)] [(100001,.cells o2 [kR]),(100003,.cells eX [dT])] [] [(100001,.cells o2 [kR]),(100003,.cells eX [dT])] L (B ay)))) bU))) aqL
def axo:=mk axn func94 Qq (S L j6) aqM
def Rr:=mk axo func41 y5 aP aqN
def axp:cK:=lg (ax.fw 0 ax.JL)
theorem axq:cR Tryz.prog dC 137 axp:=dZ Rr [] trivial func137 tM ax.arI
def acQ:cK:=⟨⟨[(0,.val o2),(1,.hh),(1000000,.aX eX)],[]⟩,⟨[(1000000,.aX eX)],[]⟩,[],2,(Ih (sa 10))⟩
theorem axr:cR Tryz.prog dC 95 acQ:=dZ (S:=(Ih (sa 10))) Rr [(167,.e_ (Ku 10))] ⟨Rq 10,trivial⟩ func95 L (λx=>A.le_refl _)
def Kw:Ak:=⟨o2,eX,y4,Ql⟩
theorem axs:DB Tryz.prog 95 Kw:=U1 (c:=acQ) axr mI (ic:=Kw) (λx l L=>(x,l,(l,L,[],false),())) rfl (by decide) (by simp[Kw])
 (λx l L i=>by
  by_cases aU:i=0
  ·subst aU;exact .inr (.inl ⟨by decide,rfl⟩)
  ·by_cases E:i=1
   ·subst E;exact .inr (.inr (.inl ⟨rfl,rfl⟩))
   ·by_cases U:i=b5
    ·subst U;exact .inr (.inr (.inr ⟨rfl,rfl⟩))
    ·refine .inl ?_;exact (if_neg aU).trans ((if_neg E).trans (if_neg U)))
 rfl (λbm=>⟨_,_,_,_,rfl⟩) (λx l ao=>by
  obtain⟨s,aE,ae⟩:=ao;subst aE;have h:=aqH s ae l;refine⟨h.1,λbm ga dF e4 n fk=>?_⟩;have e:aH.aX bm.1.1 eX bm.1.2.1 bm.1.2.2.1 bm.1.2.2.2=.aX dF eX e4 n false:=fk;injection e with ay aP cw ed gW
  exact ed.symm.trans ((h.2 bm ga).2.2 gW))
def axt:=mk Rr func97 Qe (S L (J [] [] (S L (B (ax [(0,kR),(9,qk),(10,v2),(11,v2)] [] (S L (S eg (J [(0,kR),(9,qk),(10,v2),(11,v2)] [] (B (S L (S L (J [(0,kR),(7,v4),(9,qk),(10,v2),(11,v2)] [] (S L (B (ax [(0,kR),(6,.bd 6 0),(7,v4),(9,qk),(10,v2),(11,v2),(20,v2),(21,v2)] [(6,at2)] ed))) bF)))) L)))))) bU)) aql
def Rs:=pY axt mI [(95,.cr Kw)] ⟨axs,trivial⟩ func42 y6 (S L (S L (S bF (S L (S (S L (B (ch [(4,.bd 4 0),(6,.bd 6 0)] [(4,.cells o2 [kR]),(6,.cells t2 [v2])] [(4,.bd 100004 0),(6,.bd 100006 0),(21,dT)] [(100004,.cells o2 [kR]),(100006,.cells t2 [v2])] [] [(100004,.cells o2 [kR]),(100006,.cells t2 [v2])] L (B (S L (S ay (S L ay))))))) (S bF bU)))))) aqO
def axu:cK:=lg (ax.fw 0 ax.JM)
theorem axv:cR Tryz.prog dC 138 axu:=dZ Rs [] trivial func138 tM ax.arJ
theorem axw:∀ k∈[119,120,121,122,123,124,125,126,127,128,129,130,131,132,133,134,135,136,137,138],cR Tryz.prog dC k {Rk with sh:=ax.FA k}:=FF.mem (l:=[119,120,121,122,123,124,125,126,127,128,129,130,131,132,133,134,135,136,137,138]) ⟨avV,avX,avZ,awq,awu,awy,awE,awJ,awM,awR,awV,awX,awZ,aw1,aw3,aw6,axf,axk,axq,axv,trivial⟩
def acR:cK:=⟨⟨[(0,.bd 100000 0),(1,.val NT),(2,.val t9)],[(100000,.f' qS)]⟩,⟨[(0,.val t9)],[(100000,.f' qS)]⟩,[none],3,ax.J1⟩
theorem axx:cR Tryz.prog dC 59 acR:=dZ Rs [(999999,.GN Rk ax.FA [119,120,121,122,123,124,125,126,127,128,129,130,131,132,133,134,135,136,137,138])] ⟨axw,trivial⟩ func59 (S L (S L (S L (S mQ (S L (J [(0,.bd 100000 0),(8,.bd 8 0),(11,.an 48)] [(8,abF),(48,a2),(100000,FJ)] (S L (B (ax [(0,.bd 100000 0),(8,.bd 8 0),(11,.an 48),(50,oE),(51,v2),(52,v2)] [(8,abF),(48,a2),(100000,FJ)] (S L (S eg (S (B (S L (S L (S bF L)))) L)))))) bU)))))) ax.ar4
def OH:=pY Rs mI [(57,.e_ acp),(59,.e_ acR)] ⟨avU,axx,trivial⟩ func20 ax.ve (S L (S mQ (S bF (S L (J [(4,.an 4),(5,.bd 5 0),(8,.bd 50230 0)] ab2 (S L (B (ax [(4,.an 4),(5,.bd 5 0),(8,.bd 50230 0),(9,at4),(25,oE),(26,v2),(27,v2)] ab2 ed))) bU))))) ax.ar'
def axy:=mk OH func110 wz (S L (S bF (J nP nQ (S L (B (ax tK nQ (S ay (J tK nQ (B (S bF (S L (B (ax Kp nQ mm))))) L))))) (S bF (J nP nQ (S L (B (ax B9 nQ mm))) bU))))) apd
def axz:=mk axy func50 Jp (S L (S bF (J nP rf (S L (B (ax tK rf mm))) (J nP rf ab9 (S bF (S L (J B9 rf (S L (B (ax [(1,.bd 1 0),(5,v2),(6,v2)] rf Ca))) bU))))))) aqV
def axA:=mk axz func51 H.wz (S L (S bF (S bF (S L (J [(3,v2)] [] (S L (B (ax Kp oF Ca))) bU))))) H.anL
def axB:=mk axA func111 ax.J5 (S L (S L (J [(3,.an 5)] [(5,a9)] (S L (B (ax [(0,v9),(3,.an 5),(4,v2)] [(5,a9)] (S ay (J [(0,v9),(3,.an 5),(4,v2)] [(5,a9)] (B ay) L))))) bU))) ax.asg
def axC:=mk axB func112 ax.J4 (S L (S bF (S L (J [(3,v2)] [] (S L (B (ax [(0,v9),(3,v2),(4,v2)] [] (S ay (S (B (S bF L)) L))))) bU)))) ax.asf
def axD:=mk axC func113 ax.J6 (S L vi) ax.asi
def axE:=mk axD func52 ax.J8 (S L (S L (J [(3,.an 3),(5,oE)] [(3,a2)] (S L (B (ax [(3,.an 3),(5,oE),(6,v2)] [(3,a2)] (S ay (S (B (S L (S bF L))) L))))) (S L (J [] [] (S L (B (ax [(3,.an 3),(5,oE),(8,oE),(9,dT),(10,dT),(11,v2)] [(3,a2)] mm))) bU))))) ax.asj
def s8:=mk axE func14 ax.J_ (S L (S bF (S L (J [(1,oE),(2,.bd 2 0),(5,v2),(6,v2),(7,v2),(8,v2)] [(2,FI)] (S L (B (ax [(1,oE),(2,.bd 2 0),(5,v2),(6,v2),(7,v2),(8,v2),(9,v2)] [(2,FI)] Ca))) (J [(2,.bd 2 0),(5,v2),(6,v2),(7,v2),(8,v2)] [(2,FI)] (S L (B (ax abX [(2,FI)] (S ay (J abX [(2,FI)] (B (S bF (S L (B (S L (C L (S L (C L (S L (C bU ay)))))))))) L))))) bU))))) ax.asp
def axF:=mk s8 func28 ax.FD aP ax.asq
def axG:=mk axF func30 ax.zi (S L (S bF (J [] [] (S L (B (ax [(0,oE),(1,oE),(5,v2)] [] mm))) bU))) ax.asn
def axH:=mk axG func183 PU aP ape
def axI:=mk axH func115 Jq aP aqW
def axJ:=mk axI func54 ax.J2 aP ax.asb
def axK:=mk axJ func29 ax.FE tM ax.asv
def axL:=mk axK func45 ax.B1 (S L (S bF (S L (J [(3,v9)] [] (B (ax [(0,v2),(3,v9)] [] (S ay (B bU)))) bU)))) ax.ath
def axM:=mk axL func33 ax.qj (S L (J [(0,v9)] [] (S L (B (ax [(0,v9),(1,dT),(5,v2)] [] Ca))) bU)) ax.atj
def axN:=mk axM func99 ax.Kc (S L (S L (J [(3,v9)] [] (S L (B (ax [(0,dT),(3,v9),(4,v2)] [] (S ay (S (B (J [(0,dT),(3,v9),(4,v2)] [] ay L)) L))))) (S bF bU)))) ax.atr
def axO:=mk axN func43 ax.oD (S L (J [(0,dT),(1,v2)] [] ab8 Q8)) ax.ats
def axP:=mk axO func44 ax.B3 aP ax.att
theorem ac7:h7 Tryz.prog 7 (.aA w9 (.aA FQ Kz)) t4 (λx=>PH ax.pn.sh ax.ve.sh u5.sh ax.FD.sh ax.FE.sh ax.zi.sh ax.qj.sh H.yC.sh H.yD.sh H.yE.sh H.yF.sh H.yG.sh H.yH.sh y7.sh y5.sh y6.sh ax.oD.sh ax.B3.sh x):=H9 axP mI (sp:=[]) trivial func7 (ann:=(S L (S bF (S L (S L (S bF (S L (S L (S L (S L (S L (S L (S L (S L (S L (S L (S bF (S L (J [(1,oE),(8,oE),(11,.bd 11 0),(12,v2),(13,.bd 13 0),(14,v2),(15,.bd 15 0),(16,v2),(17,.bd 17 0),(18,v2),(19,dT),(20,v2),(24,v2),(25,v2),(26,dT),(27,v2),(28,v2),(29,v2),(30,v2),(31,v2),(32,v9),(33,v9)] [(11,sf),(13,sf),(15,sf),(17,sf)] ay (J [(1,oE),(8,oE),(11,.bd 11 0),(12,v2),(13,.bd 13 0),(14,v2),(15,.bd 15 0),(16,v2),(17,.bd 17 0),(18,v2),(19,dT),(20,v2),(26,dT),(27,v2),(28,v2),(29,v2),(30,v2),(31,v2),(32,v9),(33,v9)] [(11,sf),(13,sf),(15,sf),(17,sf)] ay aP)))))))))))))))))))) (λx=>A.le_refl _) (by kernel_rfl) λx=>by kernel_rfl
end
end Go.Fer.oG
namespace Go.Fer.oG
open Go Go.Proofs
theorem ac4{H:Type}{enc:TypeId×Value->H}{a:Assume}{C:Checked}{os:Os}{f:FuncId}{fn:Func}{s:ChangeSpec}{conds:List PathCond}{apart GL handsOn again:Bool}{X:World->Array Value->Prop}
  (iO:∀ (w w':World) (args:Array Value),w.heap=w'.heap->X w args->X w' args)
  (an:ownKnob C.prog.godebug=none) (started:os.Started) (axQ:C.prog.inits.idxOf? f=none) (tO:C.prog.funcs[f]?=some fn)
  (witness:∃ (w:World) (tape:Tape) (i:Input),w.os=os/\(w.forCall tape i).Shaped C.prog/\i.vars=[]/\Input.okWide C.prog (w.forCall tape i) .any w.heap.size f i/\
   ((s.pre enc C.prog fn conds apart (w.forCall tape i).memory i.args/\X (w.forCall tape i).memory i.args)/\sizedMet enc C.prog fn (OpenSpec.ofChange s) apart (w.forCall tape i).memory i.args)/\a.holds C.prog (lone (Frame.enter C.prog f i.args .normal) [] (w.forCall tape i)))
  (axR:∀ (ax:World) (base:Nat) (args:Array Value) (bj gs:List (DataW H)) (before:List MemPlace),(∀ (j:Nat) t v,fn.params[j]?=some t->args[j]?=some v->Value.okWide C.prog ax .any base t v)->
   DataW.Whole enc C.prog fn.params.toList s.vars apart ax args.toList bj gs before->
   ax.ShapedOpen C.prog->X ax args->
   Calls C.prog f args ax λe qN=>∃ v,e=.returned v/\s.post enc C.prog fn apart GL handsOn again ax args v qN) :
  ReturnsInHanded a C os f .any (λw args=>(s.pre enc C.prog fn conds apart w args/\X w args)/\sizedMet enc C.prog fn (OpenSpec.ofChange s) apart w args) (s.post enc C.prog fn apart GL handsOn again):=by
 refine returnsInHanded_of_calls an started axQ witness ?_;intro w tape i _ nR _ cL gP azi;obtain⟨_,_,_,axS,axT,_,_,_,_,yd⟩:=cL;have e:axS=fn:=Option.some.inj (axT.symm.trans tO);subst e;obtain⟨⟨⟨bj,gs,before,hw,hc⟩,ah⟩,bk⟩:=gP;have Ds:=DataW.Whole.of_heap (w':=w.forCall tape i) (by rfl) hw;refine (axR (w.forCall tape i) w.heap.size i.args bj gs before yd Ds nR (iO (w.forCall tape i).memory (w.forCall tape i) i.args rfl ah)).mono λe qN ⟨v,he,ao⟩=>?_;subst he;exact ChangeSpec.post_blind ao
theorem Ky{P:Program}{w:World}:∀ {l:List (String×DataW Unit)} {ps:List MemPlace},DataW.LaidVars P w l ps->∀ n d,(n,d)∈l->∃ g t cs cj p,P.globalNamed n=some g/\(P.globals[g]?).map (·.type)=some t/\w.var? P n=some cs/\DataW.trod (λ_=>()) P w 0 (λ_=>true) false cj t cs.toList=some (d,p)
 | [],_,_,_,_,hm=>by cases hm
 | (i_,vo)::r,ps,h,n,d,hm=>by
  obtain⟨g,t,cs,cj,p,q,E,U,ag,a7,bN,_⟩:=h;rcases List.mem_cons.1 hm with e | e
  ·cases e;exact⟨g,t,cs,cj,p,E,U,ag,a7⟩
  ·exact Ky bN n d e
theorem ac3{P:Program}{w:World}{n:String}{g:Nat}{t:TypeId}{d:DataW Unit}{cj:Nat}{cs:Array Value}{p:List MemPlace}(aC:P.globalNamed n=some g)(ae:w.var? P n=some cs)(hu:∃ ms,P.underlying t=some (.interface ms))
  (h:DataW.trod (λ_=>()) P w 0 (λ_=>true) false cj t cs.toList=some (d,p)):∃ v,w.cell? ⟨g,0,none⟩=some v/\(v=.nilIface\/∃ lK mn,v=.iface lK mn):=by
 obtain⟨ms,hu⟩:=hu;have hc:w.cell? ⟨g,0,none⟩=cs[0]?:=by
  unfold World.var? at ae;rw[aC]at ae;simp only[Option.bind_some]at ae;cases af:w.heap[g]? with
  | none=>rw[af]at ae;cases ae
  | some o=>
   rw[af]at ae;cases o with
   | cells a T tf=>cases ae;simp[World.cell?,af]
   | _=>cases ae
 have aM:cs[0]?=cs.toList[0]?:=by simp
 rw[hc,aM];generalize cs.toList=l at h;cases cj with
 | zero=>simp[DataW.trod]at h
 | succ cj=>
  match l with
  | []=>simp[DataW.trod,hu]at h
  | [.nilIface]=>exact⟨_,rfl,.inl rfl⟩
  | [.iface u v]=>exact⟨_,rfl,.inr ⟨u,v,rfl⟩⟩
  | _::_::_=>simp[DataW.trod,hu]at h
  | [x]=>cases x<;>first | exact⟨_,rfl,.inl rfl⟩ | exact⟨_,rfl,.inr ⟨_,_,rfl⟩⟩ | (simp[DataW.trod,hu]at h;done)
theorem axU:((List.range 8).all λb=>(((begin Tryz.prog (λ_ _=>0) default).world.heap[b]?).bind Obj.row?).isSome)=true:=by kernel_rfl
theorem ac9{ax : World}(h : ax.ShapedOpen Tryz.prog)(E : ∃ v, ax.cell? ⟨1, 0, none⟩ = some v /\ (v = .nilIface \/ ∃ lK mn, v = .iface lK mn))(U : ∃ v, ax.cell? ⟨2, 0, none⟩ = some v /\ (v = .nilIface \/ ∃ lK mn, v = .iface lK mn))(aM : Lib.TabIs Tryz.prog ax "internal/strconv.uint64pow10" .u64 Lib.pow10Tab) : nT Tryz.prog (qQ ax) ax := λb W => by
 have iV:b<8:=Nat.lt_of_lt_of_le W (of_decide_eq_true (by kernel_rfl));refine⟨?_,?_⟩
 ·have M:=List.all_eq_true.1 axU b (List.mem_range.2 iV);obtain⟨⟨zero,t⟩,bk⟩:=Option.isSome_iff_exists.1 M;obtain⟨cs,cU,_⟩:=h.1 b zero t W bk;exact (Array.getElem?_eq_some_iff.1 cU).1
 ·match b,W,iV with
  | 0,W,_=>exact cell_of_shapedOpen_int (t:=3) (zero:=#[.int .i64 0]) h W (by kernel_rfl) rfl (by kernel_rfl) (by kernel_rfl) Tryz.underlying3
  | 1,_,_=>exact E
  | 2,_,_=>exact U
  | 3,_,_=>trivial
  | 4,_,_=>trivial
  | 5,_,_=>
   show ∀ i,ax.cell? ⟨5,i,none⟩=if i<20 then some (.int .u64 (10 ^ i)) else none
   unfold Lib.TabIs World.var? at aM;rw[show Tryz.prog.globalNamed "internal/strconv.uint64pow10" = some 5 by kernel_rfl]at aM;change (match ax.heap[5]? with | some (.cells cs _ _)=>some cs | _=>none)=_ at aM;intro i;cases af:ax.heap[5]? with
   | none=>rw[af]at aM;cases aM
   | some o=>
    rw[af]at aM;cases o with
    | cells cs T tf=>
     simp only[Option.some.injEq]at aM;simp only[World.cell?,af,aM];simp only[Option.isSome_none,Bool.false_eq_true,if_false,List.getElem?_toArray,List.getElem?_map,Lib.pow10Tab];split
     ·rename_i B0;rw[List.getElem?_range B0];simp
     ·rename_i B0;rw[List.getElem?_eq_none (by simp;omega)];rfl
    | _=>cases aM
  | 6,_,_=>trivial
  | 7,_,_=>trivial
end Go.Fer.oG
