/- Part 7 of the proof of Answers: shallow programs of Go functions, and what they compute. No condition. -/
import Derived.Test.YtplfnoecifjgeaaGreatDoorAnswersF
import Derived.Shelf.SlGeneric
import Derived.Shelf.Spec.SlicesGrow
import Derived.Shelf.Strings.OnBuilder
import Derived.Shelf.LaysM
import Derived.Shelf.Strconv.Itoa3
import Derived.Shelf.LaysC
import Derived.Shelf.Strconv.AtoiAll
import Derived.Shelf.Strings.Split
import Derived.Shelf.Slices.In.SortNone
import Derived.Test.YtplfnoecifjgeaaGreatDoorProg
import Derived.WalkKit
import Derived.WalkSpells
import Derived.Handy
import Derived.Shelf.Sort.AssemblyIn
import Derived.Sort.EveryDepth
import Derived.Handed
import Derived.Shelf.Vars
import Derived.Lib.LaidTab
import Derived.Lib.ItoaNum
noncomputable section
set_option linter.unusedVariables false
set_option linter.unusedSimpArgs false
namespace Go.Proofs
open Go.Shelf
theorem cF{P:Program}{k:Nat}{f g:Func}(h:P.funcs[k]?=some f)(e:f=g:=by kernel_rfl):P.funcs[k]?=some g:=h.trans (congrArg some e)
open Tryz
def Tryz.aaN:Go.Shelf.Ren:=⟨fun | 156=>258 | 165=>318 | 166=>319 | 169=>320 | 240=>358 | 241=>359 | 276=>386 | 277=>387 | n=>n,fun | 31=>48 | 9=>9 | 3=>3 | 4=>4 | 0=>0 | 20=>20 | 72=>345 | 76=>267 | 70=>343 | 37=>171 | 75=>266 | 127=>380 | 164=>405 | 5=>5 | 80=>347 | n=>n,fun | n=>n⟩
theorem Tryz.aaO : Go.Proofs.Lays.n156 Tryz.prog Tryz.aaN := {
  mixed:=by kernel_rfl
  f156:=cF func258
  f165:=cF func318
  f166:=cF func319
  f169:=cF func320
  f240:=cF func358
  f241:=cF func359
  f276:=cF func386
  f277:=cF func387
  t0:=underlying0
  a0:=isAgg0
  z0:=sizeOf0
  v0:=zeroValue0
  t3:=underlying3
  a3:=isAgg3
  z3:=sizeOf3
  v3:=zeroValue3
  t4:=underlying4
  a4:=isAgg4
  z4:=sizeOf4
  v4:=zeroValue4
  t9:=underlying9
  a9:=isAgg9
  z9:=sizeOf9
  v9:=zeroValue9
  t20:=underlying20
  a20:=isAgg20
  z20:=sizeOf20
  v20:=zeroValue20
  t31:=underlying48
  a31:=isAgg48
  z31:=sizeOf48
  v31:=zeroValue48
  t37:=underlying171
  a37:=isAgg171
  z37:=sizeOf171
  v37:=zeroValue171
  t70:=underlying343
  a70:=isAgg343
  z70:=sizeOf343
  v70:=zeroValue343
  t72:=underlying345
  a72:=isAgg345
  z72:=sizeOf345
  v72:=zeroValue345
  t75:=underlying266
  a75:=isAgg266
  z75:=sizeOf266
  v75:=zeroValue266
  t76:=underlying267
  a76:=isAgg267
  z76:=sizeOf267
  v76:=zeroValue267
  t127:=underlying380
  a127:=isAgg380
  z127:=sizeOf380
  v127:=zeroValue380
  t164:=underlying405
  a164:=isAgg405
  z164:=sizeOf405
  v164:=zeroValue405 }
theorem Tryz.aaP : Builder.Extra Tryz.prog Tryz.aaN := {
  sizeBuilder:=by kernel_rfl
  liesBuilder:=by kernel_rfl
  t5:=underlying5
  a5:=isAgg5
  z5:=sizeOf5
  v5:=zeroValue5
  infoByte:=by kernel_rfl
  cellsByte:=by kernel_rfl
  sizeByte:=by kernel_rfl
  neB5:=by decide }
def Tryz.asu:Go.Shelf.Ren:=⟨fun | 171=>204 | 243=>264 | 246=>330 | 283=>368 | 284=>369 | 285=>370 | 286=>371 | 129=>291 | 317=>392 | 318=>393 | 319=>394 | 320=>395 | 337=>399 | 338=>400 | n=>n,fun | 3=>3 | 9=>9 | 2=>2 | 4=>4 | 171=>386 | 0=>0 | 53=>285 | 37=>171 | 5=>5 | 173=>388 | 212=>418 | 51=>282 | 20=>20 | 213=>419 | 46=>228 | 232=>423 | 233=>424 | n=>n,fun | 17=>5 | 18=>6 | 19=>7 | n=>n⟩
theorem Tryz.aaQ : Go.Proofs.LaysM.n171 Tryz.prog Tryz.asu := {
  mixed:=by kernel_rfl
  f129:=cF func291
  f171:=cF func204
  f243:=cF func264
  f246:=cF func330
  f283:=cF func368
  f284:=cF func369
  f285:=cF func370
  f286:=cF func371
  f317:=cF func392
  f318:=cF func393
  f319:=cF func394
  f320:=cF func395
  f337:=cF func399
  f338:=cF func400
  t0:=underlying0
  a0:=isAgg0
  z0:=sizeOf0
  v0:=zeroValue0
  t2:=underlying2
  a2:=isAgg2
  z2:=sizeOf2
  v2:=zeroValue2
  t3:=underlying3
  a3:=isAgg3
  z3:=sizeOf3
  v3:=zeroValue3
  t4:=underlying4
  a4:=isAgg4
  z4:=sizeOf4
  v4:=zeroValue4
  t5:=underlying5
  a5:=isAgg5
  z5:=sizeOf5
  v5:=zeroValue5
  t9:=underlying9
  a9:=isAgg9
  z9:=sizeOf9
  v9:=zeroValue9
  t20:=underlying20
  a20:=isAgg20
  z20:=sizeOf20
  v20:=zeroValue20
  t37:=underlying171
  a37:=isAgg171
  z37:=sizeOf171
  v37:=zeroValue171
  t46:=underlying228
  a46:=isAgg228
  z46:=sizeOf228
  v46:=zeroValue228
  t51:=underlying282
  a51:=isAgg282
  z51:=sizeOf282
  v51:=zeroValue282
  t53:=underlying285
  a53:=isAgg285
  z53:=sizeOf285
  v53:=zeroValue285
  t171:=underlying386
  a171:=isAgg386
  z171:=sizeOf386
  v171:=zeroValue386
  t173:=underlying388
  a173:=isAgg388
  z173:=sizeOf388
  v173:=zeroValue388
  t212:=underlying418
  a212:=isAgg418
  z212:=sizeOf418
  v212:=zeroValue418
  t213:=underlying419
  a213:=isAgg419
  z213:=sizeOf419
  t232:=underlying423
  a232:=isAgg423
  z232:=sizeOf423
  v232:=zeroValue423
  t233:=underlying424
  a233:=isAgg424
  z233:=sizeOf424
  v233:=zeroValue424
  g17:=by kernel_rfl
  g18:=by kernel_rfl
  g19:=by kernel_rfl
  i0:=by kernel_rfl
  i2:=by kernel_rfl
  i3:=by kernel_rfl
  i4:=by kernel_rfl
  i5:=by kernel_rfl
  i9:=by kernel_rfl
  i20:=by kernel_rfl
  i37:=by kernel_rfl
  i46:=by kernel_rfl
  i51:=by kernel_rfl
  i53:=by kernel_rfl
  i171:=by kernel_rfl
  i173:=by kernel_rfl
  i212:=by kernel_rfl
  i232:=by kernel_rfl
  i233:=by kernel_rfl
  m17:=by kernel_rfl
  m18:=by kernel_rfl
  m19:=by kernel_rfl }
def Tryz.asv:Go.Shelf.Ren:=⟨fun | 172=>203 | 244=>262 | 245=>263 | 247=>325 | 279=>326 | 280=>327 | 281=>328 | 282=>329 | 287=>365 | 316=>366 | 171=>204 | 205=>367 | 321=>390 | 322=>391 | 243=>264 | 246=>330 | 283=>368 | 284=>369 | 285=>370 | 286=>371 | 129=>291 | 317=>392 | 318=>393 | 319=>394 | 320=>395 | 337=>399 | 338=>400 | n=>n,fun | 9=>9 | 3=>3 | 75=>266 | 76=>267 | 4=>4 | 5=>5 | 167=>351 | 37=>171 | 0=>0 | 85=>352 | 2=>2 | 168=>354 | 53=>285 | 175=>381 | 46=>228 | 210=>384 | 127=>380 | 145=>416 | 143=>414 | 21=>21 | 171=>386 | 173=>388 | 212=>418 | 51=>282 | 20=>20 | 213=>419 | 232=>423 | 233=>424 | 80=>347 | n=>n,fun | 15=>1 | 16=>2 | 17=>5 | 18=>6 | 19=>7 | n=>n⟩
theorem Tryz.QK : Go.Proofs.LaysC.n172 Tryz.prog Tryz.asv := {
  mixed:=by kernel_rfl
  f129:=cF func291
  f171:=cF func204
  f172:=cF func203
  f205:=cF func367
  f243:=cF func264
  f244:=cF func262
  f245:=cF func263
  f246:=cF func330
  f247:=cF func325
  f279:=cF func326
  f280:=cF func327
  f281:=cF func328
  f282:=cF func329
  f283:=cF func368
  f284:=cF func369
  f285:=cF func370
  f286:=cF func371
  f287:=cF func365
  f316:=cF func366
  f317:=cF func392
  f318:=cF func393
  f319:=cF func394
  f320:=cF func395
  f321:=cF func390
  f322:=cF func391
  f337:=cF func399
  f338:=cF func400
  t0:=underlying0
  a0:=isAgg0
  z0:=sizeOf0
  v0:=zeroValue0
  t2:=underlying2
  a2:=isAgg2
  z2:=sizeOf2
  v2:=zeroValue2
  t3:=underlying3
  a3:=isAgg3
  z3:=sizeOf3
  v3:=zeroValue3
  t4:=underlying4
  a4:=isAgg4
  z4:=sizeOf4
  v4:=zeroValue4
  t5:=underlying5
  a5:=isAgg5
  z5:=sizeOf5
  v5:=zeroValue5
  t9:=underlying9
  a9:=isAgg9
  z9:=sizeOf9
  v9:=zeroValue9
  t20:=underlying20
  a20:=isAgg20
  z20:=sizeOf20
  v20:=zeroValue20
  t21:=underlying21
  a21:=isAgg21
  z21:=sizeOf21
  v21:=zeroValue21
  t37:=underlying171
  a37:=isAgg171
  z37:=sizeOf171
  v37:=zeroValue171
  t46:=underlying228
  a46:=isAgg228
  z46:=sizeOf228
  v46:=zeroValue228
  t51:=underlying282
  a51:=isAgg282
  z51:=sizeOf282
  v51:=zeroValue282
  t53:=underlying285
  a53:=isAgg285
  z53:=sizeOf285
  v53:=zeroValue285
  t75:=underlying266
  a75:=isAgg266
  z75:=sizeOf266
  v75:=zeroValue266
  t76:=underlying267
  a76:=isAgg267
  z76:=sizeOf267
  v76:=zeroValue267
  t85:=underlying352
  a85:=isAgg352
  z85:=sizeOf352
  v85:=zeroValue352
  t127:=underlying380
  a127:=isAgg380
  z127:=sizeOf380
  v127:=zeroValue380
  t143:=underlying414
  a143:=isAgg414
  z143:=sizeOf414
  v143:=zeroValue414
  t145:=underlying416
  a145:=isAgg416
  z145:=sizeOf416
  v145:=zeroValue416
  t167:=underlying351
  a167:=isAgg351
  z167:=sizeOf351
  v167:=zeroValue351
  t168:=underlying354
  a168:=isAgg354
  z168:=sizeOf354
  v168:=zeroValue354
  t171:=underlying386
  a171:=isAgg386
  z171:=sizeOf386
  v171:=zeroValue386
  t173:=underlying388
  a173:=isAgg388
  z173:=sizeOf388
  v173:=zeroValue388
  t175:=underlying381
  a175:=isAgg381
  z175:=sizeOf381
  v175:=zeroValue381
  t210:=underlying384
  a210:=isAgg384
  z210:=sizeOf384
  v210:=zeroValue384
  t212:=underlying418
  a212:=isAgg418
  z212:=sizeOf418
  v212:=zeroValue418
  t213:=underlying419
  a213:=isAgg419
  z213:=sizeOf419
  t232:=underlying423
  a232:=isAgg423
  z232:=sizeOf423
  v232:=zeroValue423
  t233:=underlying424
  a233:=isAgg424
  z233:=sizeOf424
  v233:=zeroValue424
  g15:=by kernel_rfl
  g16:=by kernel_rfl
  g17:=by kernel_rfl
  g18:=by kernel_rfl
  g19:=by kernel_rfl
  t80:=underlying347
  a80:=isAgg347
  z80:=sizeOf347
  v80:=zeroValue347
  i0:=by kernel_rfl
  i2:=by kernel_rfl
  i3:=by kernel_rfl
  i4:=by kernel_rfl
  i5:=by kernel_rfl
  i9:=by kernel_rfl
  i20:=by kernel_rfl
  i21:=by kernel_rfl
  i37:=by kernel_rfl
  i46:=by kernel_rfl
  i51:=by kernel_rfl
  i53:=by kernel_rfl
  i75:=by kernel_rfl
  i76:=by kernel_rfl
  i80:=by kernel_rfl
  i85:=by kernel_rfl
  i127:=by kernel_rfl
  i143:=by kernel_rfl
  i145:=by kernel_rfl
  i167:=by kernel_rfl
  i168:=by kernel_rfl
  i171:=by kernel_rfl
  i173:=by kernel_rfl
  i175:=by kernel_rfl
  i210:=by kernel_rfl
  i212:=by kernel_rfl
  i232:=by kernel_rfl
  i233:=by kernel_rfl
  m15:=by kernel_rfl
  m16:=by kernel_rfl
  m17:=by kernel_rfl
  m18:=by kernel_rfl
  m19:=by kernel_rfl
  c0:=by kernel_rfl
  c2:=by kernel_rfl
  c3:=by kernel_rfl
  c4:=by kernel_rfl
  c5:=by kernel_rfl
  c9:=by kernel_rfl
  c20:=by kernel_rfl
  c21:=by kernel_rfl
  c37:=by kernel_rfl
  c46:=by kernel_rfl
  c51:=by kernel_rfl
  c53:=by kernel_rfl
  c75:=by kernel_rfl
  c76:=by kernel_rfl
  c80:=by kernel_rfl
  c85:=by kernel_rfl
  c127:=by kernel_rfl
  c143:=by kernel_rfl
  c145:=by kernel_rfl
  c167:=by kernel_rfl
  c168:=by kernel_rfl
  c171:=by kernel_rfl
  c173:=by kernel_rfl
  c175:=by kernel_rfl
  c210:=by kernel_rfl
  c212:=by kernel_rfl
  c213:=by kernel_rfl
  c232:=by kernel_rfl
  c233:=by kernel_rfl }
open Go.RowKit in
theorem Tryz.strconv_Atoi_ok(s:ByteArray)(zS:s.size<=9223372036854775806)(v:Int)(h:Lib.atoiAll s.data.toList=.ok v)(w:World) :
  Calls Tryz.prog 203 #[.string s] w λe w'=>e=.returned (.tuple #[.int .i64 v,.nilIface])/\(w'=w\/∃ t,w'=Lib.bytesWorld w 5 t):=Any.strconv_Atoi_ok Tryz.QK s zS v h w
open Go.RowKit in
theorem Tryz.strconv_Atoi_syntax(s:ByteArray)(sw:s.size<=281474976710656)(h:Lib.atoiAll s.data.toList=Lib.atoiAll [])(ij:Value)(w:World)(ae:w.cell? ⟨1,0,none⟩=some ij)(p2:ij=.nilIface\/∃ lI ml,ij=.iface lI ml) :
  Calls Tryz.prog 203 #[.string s] w λe w'=>∃ N,e=.returned (.tuple #[.int .i64 (0),.iface 354 (.pointer (some ⟨N,0,none⟩))])/\w.heap.size<=N/\w'.heap[N]?=some (.cells #[.string ⟨#[65,116,111,105]⟩,.string s,ij] 384 (0,0))/\Below w.heap.size w w':=Any.strconv_Atoi_syntax Tryz.QK s sw h ij w ae p2
open Go.RowKit in
theorem Tryz.strconv_Atoi_range(s:ByteArray)(sw:s.size<=281474976710656)(h:Lib.atoiAll s.data.toList=.range)(ij:Value)(w:World)(ae:w.cell? ⟨2,0,none⟩=some ij)(p2:ij=.nilIface\/∃ lI ml,ij=.iface lI ml) :
  Calls Tryz.prog 203 #[.string s] w λe w'=>∃ N,e=.returned (.tuple #[.int .i64 (Lib.atoiSat s.data.toList),.iface 354 (.pointer (some ⟨N,0,none⟩))])/\w.heap.size<=N/\w'.heap[N]?=some (.cells #[.string ⟨#[65,116,111,105]⟩,.string s,ij] 384 (0,0))/\Below w.heap.size w w':=Any.strconv_Atoi_range Tryz.QK s sw h ij w ae p2
def Tryz.asw:Go.Shelf.Ren:=⟨fun | 146=>139 | 221=>202 | 268=>259 | 138=>260 | 143=>261 | 195=>321 | 197=>322 | 218=>323 | 219=>324 | 260=>360 | 217=>361 | 225=>362 | 224=>363 | 267=>364 | 266=>388 | 314=>389 | n=>n,fun | 9=>9 | 31=>48 | 3=>3 | 4=>4 | 0=>0 | 105=>348 | 21=>21 | 5=>5 | 46=>228 | 119=>408 | 139=>411 | 138=>410 | 146=>283 | 51=>282 | n=>n,fun | 1=>0 | 3=>3 | 4=>4 | n=>n⟩
theorem Tryz.asx : Go.Proofs.Lays.n146 Tryz.prog Tryz.asw := {
  mixed:=by kernel_rfl
  f138:=cF func260
  f143:=cF func261
  f146:=cF func139
  f195:=cF func321
  f197:=cF func322
  f217:=cF func361
  f218:=cF func323
  f219:=cF func324
  f221:=cF func202
  f224:=cF func363
  f225:=cF func362
  f260:=cF func360
  f266:=cF func388
  f267:=cF func364
  f268:=cF func259
  f314:=cF func389
  t0:=underlying0
  a0:=isAgg0
  z0:=sizeOf0
  v0:=zeroValue0
  t3:=underlying3
  a3:=isAgg3
  z3:=sizeOf3
  v3:=zeroValue3
  t4:=underlying4
  a4:=isAgg4
  z4:=sizeOf4
  v4:=zeroValue4
  t5:=underlying5
  a5:=isAgg5
  z5:=sizeOf5
  v5:=zeroValue5
  t9:=underlying9
  a9:=isAgg9
  z9:=sizeOf9
  v9:=zeroValue9
  t21:=underlying21
  a21:=isAgg21
  z21:=sizeOf21
  v21:=zeroValue21
  t31:=underlying48
  a31:=isAgg48
  z31:=sizeOf48
  v31:=zeroValue48
  t46:=underlying228
  a46:=isAgg228
  z46:=sizeOf228
  v46:=zeroValue228
  t51:=underlying282
  a51:=isAgg282
  z51:=sizeOf282
  v51:=zeroValue282
  t105:=underlying348
  a105:=isAgg348
  z105:=sizeOf348
  v105:=zeroValue348
  t119:=underlying408
  a119:=isAgg408
  z119:=sizeOf408
  t138:=underlying410
  a138:=isAgg410
  z138:=sizeOf410
  v138:=zeroValue410
  t139:=underlying411
  a139:=isAgg411
  z139:=sizeOf411
  v139:=zeroValue411
  t146:=underlying283
  a146:=isAgg283
  z146:=sizeOf283
  v146:=zeroValue283
  g1:=by kernel_rfl
  g3:=by kernel_rfl
  g4:=by kernel_rfl }
def Tryz.asy:Go.Shelf.Ren:=⟨fun | 189=>161 | 125=>215 | 257=>214 | 128=>290 | 129=>291 | 294=>281 | 295=>282 | 296=>283 | 297=>284 | 298=>285 | 299=>286 | 216=>287 | 300=>288 | 301=>289 | 328=>340 | 329=>341 | 330=>342 | 331=>343 | 332=>344 | 215=>339 | 343=>383 | n=>n,fun | 28=>27 | 3=>3 | 46=>228 | 0=>0 | 51=>282 | 53=>285 | 4=>4 | 183=>314 | 182=>313 | 131=>193 | 5=>5 | 9=>9 | 218=>359 | 222=>363 | 228=>398 | 229=>331 | n=>n,fun | n=>n⟩
theorem Tryz.aaR : Go.Proofs.Lays.n189 Tryz.prog Tryz.asy := {
  mixed:=by kernel_rfl
  f125:=cF func215
  f128:=cF func290
  f129:=cF func291
  f189:=cF func161
  f215:=cF func339
  f216:=cF func287
  f257:=cF func214
  f294:=cF func281
  f295:=cF func282
  f296:=cF func283
  f297:=cF func284
  f298:=cF func285
  f299:=cF func286
  f300:=cF func288
  f301:=cF func289
  f328:=cF func340
  f329:=cF func341
  f330:=cF func342
  f331:=cF func343
  f332:=cF func344
  f343:=cF func383
  t0:=underlying0
  a0:=isAgg0
  z0:=sizeOf0
  v0:=zeroValue0
  t3:=underlying3
  a3:=isAgg3
  z3:=sizeOf3
  v3:=zeroValue3
  t4:=underlying4
  a4:=isAgg4
  z4:=sizeOf4
  v4:=zeroValue4
  t5:=underlying5
  a5:=isAgg5
  z5:=sizeOf5
  v5:=zeroValue5
  t9:=underlying9
  a9:=isAgg9
  z9:=sizeOf9
  v9:=zeroValue9
  t28:=underlying27
  a28:=isAgg27
  z28:=sizeOf27
  v28:=zeroValue27
  t46:=underlying228
  a46:=isAgg228
  z46:=sizeOf228
  v46:=zeroValue228
  t51:=underlying282
  a51:=isAgg282
  z51:=sizeOf282
  v51:=zeroValue282
  t53:=underlying285
  a53:=isAgg285
  z53:=sizeOf285
  v53:=zeroValue285
  t131:=underlying193
  a131:=isAgg193
  z131:=sizeOf193
  v131:=zeroValue193
  t182:=underlying313
  a182:=isAgg313
  z182:=sizeOf313
  v182:=zeroValue313
  t183:=underlying314
  a183:=isAgg314
  z183:=sizeOf314
  v183:=zeroValue314
  t218:=underlying359
  a218:=isAgg359
  z218:=sizeOf359
  v218:=zeroValue359
  t222:=underlying363
  a222:=isAgg363
  z222:=sizeOf363
  v222:=zeroValue363
  t228:=underlying398
  a228:=isAgg398
  z228:=sizeOf398
  v228:=zeroValue398
  t229:=underlying331
  a229:=isAgg331
  z229:=sizeOf331
  v229:=zeroValue331 }
def Tryz.asz:Go.Shelf.Ren:=⟨fun | 4=>257 | n=>n,fun | 22=>27 | 25=>3 | 3=>3 | 4=>4 | 9=>9 | 20=>20 | 0=>0 | n=>n,fun | n=>n⟩
theorem Tryz.aaS : Go.Proofs.Lays8.n4 Tryz.prog Tryz.asz := {
  mixed:=by kernel_rfl
  f4:=⟨Tryz.f257.name,by decide,cF func257⟩
  t0:=underlying0
  a0:=isAgg0
  z0:=sizeOf0
  v0:=zeroValue0
  t3:=underlying3
  a3:=isAgg3
  z3:=sizeOf3
  v3:=zeroValue3
  t4:=underlying4
  a4:=isAgg4
  z4:=sizeOf4
  v4:=zeroValue4
  t9:=underlying9
  a9:=isAgg9
  z9:=sizeOf9
  v9:=zeroValue9
  t20:=underlying20
  a20:=isAgg20
  z20:=sizeOf20
  v20:=zeroValue20
  t22:=underlying27
  a22:=isAgg27
  z22:=sizeOf27
  v22:=zeroValue27 }
def Tryz.asA:Go.Shelf.Ren:=⟨fun | 4=>256 | n=>n,fun | 22=>34 | 25=>125 | 3=>3 | 4=>4 | 9=>9 | 20=>20 | 0=>0 | n=>n,fun | n=>n⟩
theorem Tryz.aaT : Go.Proofs.Lays8.n4 Tryz.prog Tryz.asA := {
  mixed:=by kernel_rfl
  f4:=⟨Tryz.f256.name,by decide,cF func256⟩
  t0:=underlying0
  a0:=isAgg0
  z0:=sizeOf0
  v0:=zeroValue0
  t3:=underlying3
  a3:=isAgg3
  z3:=sizeOf3
  v3:=zeroValue3
  t4:=underlying4
  a4:=isAgg4
  z4:=sizeOf4
  v4:=zeroValue4
  t9:=underlying9
  a9:=isAgg9
  z9:=sizeOf9
  v9:=zeroValue9
  t20:=underlying20
  a20:=isAgg20
  z20:=sizeOf20
  v20:=zeroValue20
  t22:=underlying34
  a22:=isAgg34
  z22:=sizeOf34
  v22:=zeroValue34 }
end Go.Proofs
namespace Go.Fer.aw
theorem aaU:∀ s:aK,(Go.Lib.index s [32]=-1/\cE s=[s])\/∃ t r,s=t++32::r/\Go.Lib.index s [32]=(t.length:Int)/\cE s=t::cE r
 | []=>.inl ⟨rfl,rfl⟩
 | b::l=>by
  unfold Go.Lib.index;by_cases W:b=32
  ·subst W;exact .inr ⟨[],l,rfl,by rfl,by rfl⟩
  ·have an:List.isPrefixOf [32] (b::l)=false:=by
    grind
   rw[an];have aD:=u' l;rcases aaU l with⟨E,U⟩ | ⟨t,r,E,U,ag⟩
   ·rw[E];refine .inl ⟨rfl,?_⟩;unfold cE;grind
   ·rw[U];refine .inr ⟨b::t,r,by grind,?_,?_⟩
    ·rfl
    ·conv=>lhs;unfold cE
     grind
theorem asB:∀ (n:Nat) (s:aK),s.length<=n->Go.Lib.splitK [32] 0 (Go.Lib.count s [32]) s=cE s:=by
 intro n;induction n with
 | zero=>
  intro s h;have:s=[]:=List.eq_nil_of_length_eq_zero (by omega);subst this;rfl
 | succ n aH=>
  intro s h;rcases aaU s with⟨E,U⟩ | ⟨t,r,E,U,ag⟩
  ·rw[Go.Lib.count_miss E,U];rfl
  ·rw[Go.Lib.count_hit (by simp) U,ag,Nat.add_comm,Go.Lib.splitK,U];have:((t.length:Int) == -1)=false:=by rfl
   rw[this];have e:((t.length:Int)).toNat=t.length:=rfl;have EC:s.drop (t.length+1)=r:=by simp_all
   grind
end Go.Fer.aw
namespace Go.Fer.oE
open Go Go.Proofs Go.RowKit
section
variable {P:Program} {F:Nat->Prop} {w:World}
theorem QL(x:List UInt8):(ByteArray.mk x.toArray).data.toList=x:=by simp
theorem J7(x:List UInt8):(ByteArray.mk x.toArray).size=x.length:=by rfl
theorem QM{args:List Value}{x:List UInt8}(h:fo P .str F w args x):args=[.string ⟨x.toArray⟩]/\x.length<2 ^ 63:=by
 obtain⟨v,rfl,ae⟩:=(sd rfl).1 h;obtain⟨rfl,ai⟩:=mm.1 ae;grind
theorem asC{args:List Value}{x y:List UInt8}(h:fo P (.az .str .str) F w args (x,y)):args=[.string ⟨x.toArray⟩,.string ⟨y.toArray⟩]/\x.length<2 ^ 63/\y.length<2 ^ 63:=by
 obtain⟨v,us,rfl,ae,hu⟩:=FQ h;obtain⟨rfl,ai⟩:=mm.1 ae;obtain⟨rfl,gq⟩:=QM hu;grind
theorem asD(w:World)(k:Nat)(os:Array Obj):Below w.heap.size w (Go.Sort.grow (w.drewN k) os):=by
 refine⟨rfl,rfl,rfl,?_,λj aE=>?_⟩
 ·simp
 ·show (w.heap++os)[j]?=_;grind
theorem J8(h:nR Tryz.prog F w){b:Nat}(W:b<6):F b/\Rs b λi=>w.cell? ⟨b,i,none⟩:=h b (Nat.lt_of_lt_of_le W (of_decide_eq_true (by rfl)))
end
theorem aaV(sep:ByteArray):∀ (k:Nat) (s:ByteArray),∀ x∈Lib.splitB sep 0 k s,x.size<=s.size
 | 0,s,x,ah=>by
  unfold Lib.splitB at ah;grind
 | k+1,s,x,ah=>by
  unfold Lib.splitB at ah;split at ah
  ·grind
  ·simp only[List.mem_cons]at ah;rcases ah with rfl | ah
   ·rw[ByteArray.size_extract];omega
   ·have:=aaV sep k _ x ah;rw[ByteArray.size_extract]at this;omega
def qC(s sep:List UInt8):List (List UInt8):=(Lib.splitB ⟨sep.toArray⟩ 0 (Lib.countB ⟨s.toArray⟩ ⟨sep.toArray⟩) ⟨s.toArray⟩).map (·.data.toList)
theorem asE(s:List UInt8):qC s [32]=aw.cE s:=by
 unfold qC;rw[Lib.splitB_data];exact aw.asB s.length s (Nat.le_refl _)
abbrev asF:Code:=Tryz.f139.body.getD .skip
theorem asG:h6 Tryz.prog 139 (.az .str .str) (.slice .str) aw.JT.sh where
 enter:=uD Tryz.func139 (show Tryz.f139.body=some asF by rfl) (by rfl)
 iV:=λF w args x bm gm a8 aD=>by
  obtain⟨s,sep⟩:=x;obtain⟨aD,E⟩:s.length<=10000/\sep=[32]:=aD;subst E;obtain⟨rfl,ai,gq⟩:=asC a8;obtain⟨_,m,hm⟩:=J8 gm (b:=0) (by decide);have cd:1<=(ByteArray.mk [32].toArray).size:=by decide
  refine (Any.strings_Split Tryz.asx (by kernel_rfl) ⟨s.toArray⟩ ⟨[32].toArray⟩ m w (by rw[J7];omega) hm cd).mono ?_;rintro e w' ⟨rfl,rfl⟩;have hlen:=Lib.splitB_all ⟨[32].toArray⟩ cd 0 _ ⟨s.toArray⟩ rfl;have rP:=Lib.countB_le ⟨[32].toArray⟩ cd _ ⟨s.toArray⟩ (Nat.le_refl _);rw[J7]at rP;have ki:=aaV ⟨[32].toArray⟩ (Lib.countB ⟨s.toArray⟩ ⟨[32].toArray⟩) ⟨s.toArray⟩;rw[J7]at ki;have xq:(qC s [32]).length=Lib.countB ⟨s.toArray⟩ ⟨[32].toArray⟩+1:=by unfold qC;grind
  refine⟨_,qC s [32],rfl,asE s,⟨[_],rfl,(sd rfl).2 ⟨_,rfl,(dT rfl).2 ⟨rfl,some ⟨w.heap.size,0,none⟩,Lib.countB ⟨s.toArray⟩ ⟨[32].toArray⟩+1,by rw[xq],by omega,by omega,nofun,λp an hc=>?_⟩⟩⟩,?_⟩
  ·cases an;refine⟨.inr ⟨Nat.le_refl _,by simp⟩,rfl,λi G=>?_⟩;have dz:i<(Lib.splitB ⟨[32].toArray⟩ 0 (Lib.countB ⟨s.toArray⟩ ⟨[32].toArray⟩) ⟨s.toArray⟩).length:=by omega
   generalize aS:Lib.splitB ⟨[32].toArray⟩ 0 (Lib.countB ⟨s.toArray⟩ ⟨[32].toArray⟩) ⟨s.toArray⟩=B at dz ki hlen;have jx:(qC s [32])[i]=B[i].data.toList:=by
    have U:qC s [32]=B.map (·.data.toList):=by unfold qC;rw[aS]
    grind
   have bE:Value.string B[i]=.string ⟨(B[i].data.toList).toArray⟩:=by simp
   refine⟨[.string B[i]],⟨.inr ⟨Nat.le_refl _,by simp⟩,rfl,λj aE=>?_⟩,?_,?_⟩
   ·have aE:j=0:=by grind
    subst aE;rw[vq (qo w _)];have ax:0+i*ab.size .str+0=i:=by show 0+i*1+0=i;omega
    grind
   ·simp_all
   ·have:=ki _ (List.getElem_mem dz);have e:(B[i]).data.toList.length=(B[i]).size:=Array.length_toList;grind
  ·exact (Below.refl _ _).alloc (Nat.le_refl _) _
theorem aaW{F : Nat -> Prop}{w : World}(h : nR Tryz.prog F w) : Lib.TabIs Tryz.prog w "internal/strconv.uint64pow10" .u64 Lib.pow10Tab := by
 have bM:∀ i,w.cell? ⟨5,i,none⟩=if i<20 then some (.int .u64 (10 ^ i)) else none:=(J8 h (b:=5) (by decide)).2
 unfold Lib.TabIs World.var?;rw[show Tryz.prog.globalNamed "internal/strconv.uint64pow10" = some 5 by rfl];show (match w.heap[5]? with | some (.cells cs _ _)=>some cs | _=>none)=_;have aT:=bM 0;cases af:w.heap[5]? with
 | none=>simp[World.cell?,af]at aT
 | some o=>
  cases o with
  | cells cs T tb=>
   simp only[Option.some.injEq];apply Array.ext_getElem?;intro i;have G:=bM i;simp only[World.cell?,af,Option.isSome_none,Bool.false_eq_true,if_false]at G;rw[G];split
   ·rename_i BW;simp only[List.getElem?_toArray,List.getElem?_map,Lib.pow10Tab];grind
   ·rename_i BW;rw[Array.getElem?_eq_none];simp[Lib.pow10Tab];omega
  | _=>simp[World.cell?,af]at aT
abbrev asH:Code:=Tryz.f204.body.getD .skip
theorem asI{P:Program}{F:Nat->Prop}{w:World}{args:List Value}{x:Int}(h:fo P (.int .i64) F w args x):args=[.int .i64 x]/\fQ .i64 x:=by
 obtain⟨v,rfl,ae⟩:=(sd rfl).1 h;obtain⟨rfl,ai⟩:=gU.1 ae;grind
theorem asJ{n:Int}(h:fQ .i64 n):-9223372036854775808<=n/\n<=9223372036854775807:=h
theorem asK:h6 Tryz.prog 204 (.int .i64) .str aw.JK.sh where
 enter:=uD Tryz.func204 (show Tryz.f204.body=some asH by rfl) (by rfl)
 iV:=λF w args x bm gm a8 aD=>by
  change Int at x;obtain⟨rfl,M⟩:=asI a8;obtain⟨aT,E⟩:=asJ M;refine (Any.strconv_Itoa Tryz.aaQ x aT E w (aaW gm)).mono ?_;rintro e w' ⟨rfl,k,os,rfl⟩;have ah:aw.qd x=Lib.itoa x:=by unfold aw.qd;rw[bF aT (by omega)]
  refine⟨_,aw.qd x,rfl,rfl,⟨[_],rfl,(sd rfl).2 ⟨_,rfl,mm.2 ⟨by rw[ah],Nat.lt_of_le_of_lt (aw.Qr x) (by decide)⟩⟩⟩,asD w k os⟩
abbrev asL:Code:=Tryz.f258.body.getD .skip
theorem asM:h6 Tryz.prog 258 (.az (.slice .str) .str) .str aw.Fs.sh where
 enter:=uD Tryz.func258 (show Tryz.f258.body=some asL by rfl) (by rfl)
 iV:=λF w args x bm gm a8 aD=>by
  obtain⟨l,sep⟩:=x;obtain⟨au,hw,E⟩:l.length<=60000/\(∀ w∈l,w.length<=21)/\sep.length=1:=aD;have Ax:=aw.aan l sep 21 hw;have E:sep.length=1:=E;have au:l.length<=60000:=au;rw[E]at Ax;have aE:(Lib.join l sep).length<2 ^ 63:=by omega
  obtain⟨v,us,rfl,ae,hu⟩:=FQ a8;obtain⟨rfl,_⟩:=QM hu;obtain⟨_,p,cap,im,c2,c3,c4,c5⟩:=(dT rfl).1 ae;obtain rfl:v=.slice p l.length cap:=by grind
  change l.length<=cap at c2;have fin:∀ w',Below w.heap.size w w'->∃ v y,Ending.returned (.string ⟨(Lib.join l sep).toArray⟩)=.returned v/\(aw.Fs.sh (l,sep)).bQ y/\tN Tryz.prog .str (vg F w w') w' v y/\Below w.heap.size w w':=λw' W=>
   ⟨_,Lib.join l sep,rfl,rfl,⟨[_],rfl,(sd rfl).2 ⟨_,rfl,mm.2 ⟨rfl,aE⟩⟩⟩,W⟩
  by_cases ai:l=[]
  ·subst ai;refine (Any.strings_Join_none Tryz.aaO Tryz.aaP p cap ⟨sep.toArray⟩ w).mono ?_;rintro e w' ⟨rfl,rfl⟩;exact fin _ (Below.refl _ _)
  ·have ll:0<l.length:=List.length_pos_iff.2 ai;obtain⟨q,rfl⟩:∃ q,p=some q:=by
    cases p with
    | none=>grind
    | some q=>simp
   obtain⟨d1,d2,d3⟩:=c5 q rfl (by omega);obtain⟨asN,o,sp⟩:=q;obtain rfl:sp=none:=d2;have hlen:(l.map λx:List UInt8=>ByteArray.mk x.toArray).length=l.length:=List.length_map ..;have KY:(l.map λx:List UInt8=>ByteArray.mk x.toArray).map (·.data.toList)=l:=by rw[List.map_map];exact (List.map_congr_left λx _=>QL x).trans (List.map_id _)
   have:=Any.strings_Join Tryz.aaO Tryz.aaP asN o cap (l.map λx:List UInt8=>ByteArray.mk x.toArray) ⟨sep.toArray⟩ w (λj x ah=>by
    rw[List.getElem?_map]at ah;obtain⟨y,aR,rfl⟩:=Option.map_eq_some_iff.1 ah;obtain⟨Ax,rfl⟩:=List.getElem?_eq_some_iff.1 aR;obtain⟨bh,⟨_,_,cv⟩,ec⟩:=d3 j Ax;obtain⟨rfl,_⟩:=ec;have:=cv 0 (by simp);simpa [ab.size]using this) (bm _ d1) (by omega) (by omega) (by grind)
   rw[hlen,KY,QL]at this;refine this.mono ?_;simp_all
end Go.Fer.oE
namespace Go.Proofs
open Go.RowKit
theorem Tryz.asO{P:Program}{w w':World}{n:String}{k:IntKind}{zs:z1'}(h:Lib.TabIs P w n k zs)(W:Below w.heap.size w w'):Lib.TabIs P w' n k zs:=by
 unfold Lib.TabIs World.var? at *
 cases aB:P.globalNamed n with
 | none=>rw[aB]at h;cases h
 | some g=>
  rw[aB]at h;simp only[Option.bind_some]at h ⊢;by_cases cj:g<w.heap.size
  ·rw[W.block g cj];exact h
  ·rw[Array.getElem?_eq_none (by omega)]at h;cases h
set_option maxHeartbeats 4000000 in
set_option maxRecDepth 1000000 in
theorem Tryz.asP(s:ByteArray)(w:World)(v:Int)(zS:s.size<=9223372036854775806)(h:Lib.atoiAll s.data.toList=.ok v)(aT:-9223372036854775808<=v)(E:v<=9223372036854775807)
  (asQ : Lib.TabIs Tryz.prog w "internal/strconv.uint64pow10" .u64 Lib.pow10Tab) :
  Calls Tryz.prog 140 #[.string s] w λe w'=>e=.returned (.tuple #[.int .i64 v,.bool (decide (s.size<=6)&&decide (0<=v)&&decide (Lib.itoa v=s.data.toList))])/\Below w.heap.size w w':=by
 go_enter Tryz.func140,Tryz.ntmps140;go_wp2_with fail;refine (Tryz.strconv_Atoi_ok s zS v h w).mono ?_;rintro e b_ ⟨rfl,lV⟩;have mB:Below w.heap.size w b_:=by
  rcases lV with rfl | ⟨t,rfl⟩
  ·exact Below.refl _ _
  ·exact Lib.bytesWorld_below w 5 t
 have asR:=Tryz.asO asQ mB;clear lV;by_cases aQ:(s.size:Int)<=6
 ·by_cases aV:v>=0
  ·go_wp2_with fail;refine (Any.strconv_Itoa Tryz.aaQ v aT E b_ asR).mono ?_;rintro e c7 ⟨rfl,k,os,rfl⟩;have rs:Below w.heap.size w (Go.Sort.grow (b_.drewN k) os):=mB.trans ⟨rfl,rfl,rfl,by show _<=(b_.heap++os).size;simp,λj aE=>by
    have:=mB.size;show (b_.heap++os)[j]?=_;rw[Array.getElem?_append_left (by omega)]⟩
   generalize Go.Sort.grow (b_.drewN k) os=c7 at rs;go_wp2;go_returns;refine⟨congrArg Ending.returned (congrArg Value.tuple ?_),rs⟩;show #[Value.int IntKind.i64 v,Value.bool (Lib.itoa v == s.toList)]=_;rw[Go.ByteArray.toList_eq,show decide (s.size<=6)=true from decide_eq_true (by omega),show decide (0<=v)=true from decide_eq_true aV,Bool.true_and,Bool.true_and,show (Lib.itoa v == s.data.toList)=decide (Lib.itoa v=s.data.toList) by rw[Bool.eq_iff_iff];simp]
  ·go_wp2;go_returns;refine⟨congrArg Ending.returned (congrArg Value.tuple ?_),mB⟩;show #[Value.int IntKind.i64 v,Value.bool false]=_;rw[show decide (0<=v)=false from decide_eq_false (by omega),Bool.and_false,Bool.false_and]
 ·go_wp2;go_returns;refine⟨congrArg Ending.returned (congrArg Value.tuple ?_),mB⟩;show #[Value.int IntKind.i64 v,Value.bool false]=_;rw[show decide (s.size<=6)=false from decide_eq_false (by omega),Bool.false_and,Bool.false_and]
set_option maxHeartbeats 4000000 in
set_option maxRecDepth 1000000 in
theorem Tryz.asS(s:ByteArray)(w:World)(sw:s.size<=281474976710656)(h:Lib.atoiAll s.data.toList=Lib.atoiAll [])(ij:Value)(ae:w.cell? ⟨1,0,none⟩=some ij)(p2:ij=.nilIface\/∃ lI ml,ij=.iface lI ml) :
  Calls Tryz.prog 140 #[.string s] w λe w'=>e=.returned (.tuple #[.int .i64 0,.bool false])/\Below w.heap.size w w':=by
 go_enter Tryz.func140,Tryz.ntmps140;go_wp2_with fail;refine (Tryz.strconv_Atoi_syntax s sw h ij w ae p2).mono ?_;rintro e b_ ⟨N,rfl,_,_,mB⟩;go_wp2;go_returns;exact⟨rfl,mB⟩
set_option maxHeartbeats 4000000 in
set_option maxRecDepth 1000000 in
theorem Tryz.asT(s:ByteArray)(w:World)(sw:s.size<=281474976710656)(h:Lib.atoiAll s.data.toList=.range)(ij:Value)(ae:w.cell? ⟨2,0,none⟩=some ij)(p2:ij=.nilIface\/∃ lI ml,ij=.iface lI ml) :
  Calls Tryz.prog 140 #[.string s] w λe w'=>e=.returned (.tuple #[.int .i64 (Lib.atoiSat s.data.toList),.bool false])/\Below w.heap.size w w':=by
 go_enter Tryz.func140,Tryz.ntmps140;go_wp2_with fail;refine (Tryz.strconv_Atoi_range s sw h ij w ae p2).mono ?_;rintro e b_ ⟨N,rfl,_,_,mB⟩;go_wp2;go_returns;exact⟨rfl,mB⟩
end Go.Proofs
namespace Go.Fer.aw
open A (V)
theorem aaX:∀ (s:aK) (n:Int),0<=n->gb s n≠-1->n<=gb s n
 | [],n,_,_=>Int.le_refl _
 | c::s,n,h,E=>by
  unfold gb at E ⊢;split at E
  ·omega
  ·rename_i hc;rw[if_neg hc];simp only[Bool.or_eq_true,decide_eq_true_eq,not_or]at hc;have:=aaX s _ (by omega) E;omega
theorem QN(d:UInt8):∀ (s:aK) (n:Int),0<=n->gb (s++[d]) n=if gb s n=-1 then -1 else if (decide ((d.toNat:Int)<48)||decide ((d.toNat:Int) > 57))=true then -1 else 10*gb s n+((d.toNat:Int) - 48)
 | [],n,h=>by
  show gb [d] n=if n=-1 then _ else _
  rw[if_neg (by omega)];rfl
 | c::s,n,h=>by
  rw[List.cons_append];conv=>lhs;unfold gb
  by_cases hc:(decide ((c.toNat:Int)<48)||decide ((c.toNat:Int) > 57))=true
  ·rw[if_pos hc,show gb (c::s) n=-1 by unfold gb;grind,if_pos rfl]
  ·rw[if_neg hc,show gb (c::s) n=gb s (10*n+((c.toNat:Int) - 48)) from (if_neg hc:(if (decide ((c.toNat:Int)<48)||decide ((c.toNat:Int) > 57))=true then (-1:Int) else _)=_)];simp only[Bool.or_eq_true,decide_eq_true_eq,not_or]at hc;exact QN d s _ (by omega)
theorem J9(k:Nat)(h:k<10):((UInt8.ofNat (48+k)).toNat:Int)=48+k:=by
 have:(UInt8.ofNat (48+k)).toNat=(48+k) % 256:=UInt8.toNat_ofNat';omega
theorem aaY(u:Nat):gb (Go.Lib.decDigits u) 0=u:=by
 induction u using Nat.strongRecOn with
 | _ u aH=>
  unfold Go.Lib.decDigits;split
  ·rename_i h;have:=J9 u h;unfold gb;rw[if_neg (by grind),this];show (10*0+(48+(u:Int) - 48))=u;omega
  ·rename_i h;have aq:=J9 (u % 10) (by omega);rw[QN _ _ _ (Int.le_refl _),aH (u / 10) (by omega),if_neg (by omega),if_neg (by grind),aq];omega
theorem QO(u:Nat):Go.Lib.decDigits u≠[]/\(1<(Go.Lib.decDigits u).length->((Go.Lib.decDigits u).getD 0 0).toNat≠48):=by
 induction u using Nat.strongRecOn with
 | _ u aH=>
  by_cases h:u<10
  ·rw[Go.Lib.decDigits_one h];simp
  ·obtain⟨E,U⟩:=aH (u / 10) (by omega);have e:Go.Lib.decDigits u=Go.Lib.decDigits (u / 10)++[UInt8.ofNat (48+u % 10)]:=by
    conv=>lhs;unfold Go.Lib.decDigits
    grind
   rw[e];refine⟨by simp,λ_=>?_⟩;have ai:0<(Go.Lib.decDigits (u / 10)).length:=List.length_pos_iff.2 E;rw[show (Go.Lib.decDigits (u / 10)++[UInt8.ofNat (48+u % 10)]).getD 0 0=(Go.Lib.decDigits (u / 10)).getD 0 0 by
    grind]
   by_cases ag:1<(Go.Lib.decDigits (u / 10)).length
   ·omega
   ·have qk:u / 10<10:=by
     refine Classical.byContradiction λau=>ag ?_;have aO:Go.Lib.decDigits (u / 10)=Go.Lib.decDigits (u / 10 / 10)++[UInt8.ofNat (48+u / 10 % 10)]:=by
      conv=>lhs;unfold Go.Lib.decDigits
      grind
     grind
    rw[Go.Lib.decDigits_one qk];have:=J9 (u / 10) qk;grind
theorem asU:∀ (n:Nat) (s:aK),s.length=n->s≠[]->(1<s.length->(s.getD 0 0).toNat≠48)->gb s 0≠-1->Go.Lib.decDigits (gb s 0).toNat=s:=by
 intro n;induction n with
 | zero=>simp
 | succ n aH=>
  intro s E U ag a6;obtain⟨a,d,rfl⟩:∃ a d,s=a++[d]:=⟨s.dropLast,s.getLast U,(List.dropLast_concat_getLast U).symm⟩
  rw[QN _ _ _ (Int.le_refl _)]at a6 ⊢;split at a6
  ·omega
  ·rename_i a8;split at a6
   ·omega
   ·rename_i aq;rw[if_neg a8,if_neg aq];simp only[Bool.or_eq_true,decide_eq_true_eq,not_or]at aq;have MT:UInt8.ofNat (48+(d.toNat - 48))=d:=by
     apply UInt8.toNat_inj.1;rw[UInt8.toNat_ofNat'];omega
    by_cases au:a=[]
    ·subst au;have e:(10*gb [] 0+((d.toNat:Int) - 48)).toNat=d.toNat - 48:=by show (10*0+((d.toNat:Int) - 48)).toNat=_;omega
     rw[e,Go.Lib.decDigits_one (by omega),MT];rfl
    ·have ai:0<a.length:=List.length_pos_iff.2 au;have cT:(a.getD 0 0).toNat≠48:=by
      grind
     have an:1<=gb a 0:=by
      cases a with
      | nil=>grind
      | cons c r=>
       unfold gb at a8 ⊢;split at a8
       ·omega
       ·rename_i hc;rw[if_neg hc];simp only[Bool.or_eq_true,decide_eq_true_eq,not_or]at hc;have ay':c.toNat≠48:=cT;have:=aaX r _ (by omega) a8;omega
     have G:=aH a (by grind) au (λ_=>cT) a8;have ax:(10*gb a 0+((d.toNat:Int) - 48)).toNat / 10=(gb a 0).toNat:=by omega
     have aO:(10*gb a 0+((d.toNat:Int) - 48)).toNat % 10=d.toNat - 48:=by omega
     conv=>lhs;unfold Go.Lib.decDigits
     grind
theorem asV{s:aK}{v:Int}(h:Go.Lib.atoiAll s=.ok v):(decide (s.length<=6)&&decide (0<=v)&&decide (Go.Lib.itoa v=s))=decide (0<=eY s):=by
 rw[Bool.eq_iff_iff];simp only[Bool.and_eq_true,decide_eq_true_eq];constructor
 ·rintro⟨⟨dt,ae⟩,G⟩;obtain⟨u,rfl⟩:∃ u:Nat,v=u:=⟨v.toNat,by omega⟩
  have e:Go.Lib.itoa (u:Int)=Go.Lib.decDigits u:=by rfl
  rw[e]at G;obtain⟨aQ,aV⟩:=QO u;rw[G]at aQ aV;unfold eY;rw[if_neg]
  ·have:=aaY u;grind
  grind
 ·intro au;have e:=QF au;rw[h]at e;obtain rfl:v=eY s:=by grind
  refine⟨⟨?_,au⟩,?_⟩
  ·unfold eY at au;grind
  ·have e:Go.Lib.itoa (eY s)=Go.Lib.decDigits (eY s).toNat:=by unfold Go.Lib.itoa;grind
   rw[e];unfold eY at au ⊢;split at au
   ·omega
   ·rename_i W;rw[if_neg W];simp only[Bool.or_eq_true,Bool.and_eq_true,decide_eq_true_eq,not_or,not_and]at W;exact asU _ s rfl (λe=>W.1.1 (by grind)) W.2 (by omega)
theorem aaZ{s:aK}(h:∀ v,Go.Lib.atoiAll s≠.ok v):decide (0<=eY s)=false:=decide_eq_false λau=>h _ (QF au)
end Go.Fer.aw
namespace Go.Fer.oE
open Go Go.Proofs Go.RowKit
abbrev asW:Code:=Tryz.f140.body.getD .skip
theorem asX:h6 Tryz.prog 140 .str (.az (.int .i64) .bool) aw.Fv.sh where
 enter:=uD Tryz.func140 (show Tryz.f140.body=some asW by kernel_rfl) (by kernel_rfl)
 iV:=λF w args x bm gm a8 aD=>by
  change List UInt8 at x;have aD:x.length<=10000:=aD;obtain⟨rfl,ai⟩:=QM a8;have W:=QL x;have bj:=J7 x;have fin:∀ (n:Int) (b:Bool) (w':World),fQ .i64 n->aw.rG x=(n,b)->Below w.heap.size w w'->∃ v y,Ending.returned (.tuple #[.int .i64 n,.bool b])=.returned v/\(aw.Fv.sh x).bQ y/\tN Tryz.prog (.az (.int .i64) .bool) (vg F w w') w' v y/\Below w.heap.size w w':=λn b w' M he zf=>
   ⟨_,(n,b),rfl,he.symm,⟨[.int .i64 n,.bool b],rfl,Cg.2 ⟨gU.2 ⟨rfl,M⟩,(sd rfl).2 ⟨_,rfl,fc.2 rfl⟩⟩⟩,zf⟩
  cases he:Lib.atoiAll x with
  | ok v=>
   have ae:=Lib.atoiAll_bounds he;refine (Tryz.asP ⟨x.toArray⟩ w v (by rw[bj];omega) (by rw[W];exact he) ae.1 ae.2 (aaW gm)).mono ?_;rintro e w' ⟨rfl,zf⟩;refine fin v _ w' ae ?_ zf;rw[W,bj,aw.asV he];unfold aw.rG aw.tx;rw[he]
  | range=>
   obtain⟨_,ij,ae,p2⟩:=J8 gm (b:=2) (by decide);refine (Tryz.asT ⟨x.toArray⟩ w (by rw[bj];omega) (by rw[W];exact he) ij ae p2).mono ?_;rintro e w' ⟨rfl,zf⟩;rw[W]at *
   refine fin _ _ w' (Lib.atoiSat_bounds x) ?_ zf;unfold aw.rG aw.tx;rw[he,aw.aaZ λv h=>by rw[he]at h;cases h]
  | _=>
   obtain⟨_,ij,ae,p2⟩:=J8 gm (b:=1) (by decide);refine (Tryz.asS ⟨x.toArray⟩ w (by rw[bj];omega) (by rw[W];exact he) ij ae p2).mono ?_;rintro e w' ⟨rfl,zf⟩;refine fin 0 _ w' (by decide) ?_ zf;unfold aw.rG aw.tx;rw[he,aw.aaZ λv h=>by rw[he]at h;cases h]
end Go.Fer.oE
namespace Go.Fer
open Go.RowKit
abbrev mN:ab:=.int .i64
def QP(x:z1'×Unit):A (z1'×Unit):=A.dP (x.1.length<4611686018427387904) (x.1.mergeSort (λa b=>decide (a<=b)),())
def qf:cJ:=⟨⟨[(0,.own 200001)],[(200001,.bg mN)]⟩,⟨[],[(200001,.bg mN)]⟩,[],1,QP⟩
section
variable {P:Program} {F:Nat->Prop} {w:World}
theorem aa0{cs:Array Value}{off:Nat}{xs:z1'}(h:lJ P mN F w cs off xs){i:Nat}(G:i<xs.length):cs[off+i]?=some (.int .i64 xs[i])/\fQ .i64 xs[i]:=by
 obtain⟨bh,E,U,ag⟩:=h i G;subst U;have:=E 0 (by simp);refine⟨?_,ag⟩;have e:off+i*ab.size mN+0=off+i:=by show off+i*1+0=off+i;omega
 rw[e]at this;exact this
theorem asY{cs:Array Value}{off:Nat}{xs:z1'}(h:∀ i (h:i<xs.length),cs[off+i]?=some (.int .i64 xs[i])/\fQ .i64 xs[i]):lJ P mN F w cs off xs:=λi G=>by
 obtain⟨E,U⟩:=h i G;refine⟨[.int .i64 xs[i]],λj aE=>?_,rfl,U⟩;have aE:j=0:=by simpa using aE
 subst aE;have e:off+i*ab.size mN+0=off+i:=by show off+i*1+0=off+i;omega
 rw[e];exact E
theorem asZ{cs:Array Value}{T:TypeId}{b off:Nat}{xs:z1'}(W:w.heap[b]?=some (.cells cs T (0,0)))(h:lJ P mN F w cs off xs):Go.Sort.Holds (Value.int .i64) w b off xs.toArray:=λj aE=>by
 have fR:j<xs.length:=by simpa using aE
 obtain⟨E,_⟩:=aa0 h fR;refine⟨?_,by simp[World.frozen?,W]⟩;simp only[World.cell?,W];simp only[Option.isSome_none,Bool.false_eq_true,if_false];rw[E];simp[fR]
theorem as0{cs:Array Value}{off:Nat}{xs ys:z1'}(ai:ys.length=xs.length)(hW:∀ y∈ys,fQ .i64 y)(cd:off+xs.length<=cs.size):lJ P mN F w (Go.Sort.putCells (Value.int .i64) off ys.toArray cs) off ys:=by
 refine asY λi G=>⟨?_,hW _ (List.getElem_mem G)⟩
 have E:off+i<cs.size:=by omega
 simp[Go.Sort.putCells,E,G]
end
section
variable {P:Program} {aP:dC}
theorem as1{k:FuncId}(he:∀ args w,(callFunc k args).run P w=.ok (.enter k args) w)
  (E:∀ (aa off cap:Nat) (zs:z1') (w:World),Go.Sort.Holds (Value.int .i64) w aa off zs.toArray->aa<w.heap.size->zs.length<4611686018427387904->Calls P k #[.slice (some ⟨aa,off,none⟩) zs.length cap] w λe w'=>
   e=.returned (.tuple #[])/\∃ n os,w'=Go.Sort.grow (Go.Sort.putRow (Value.int .i64) (Go.Sort.ahead w n) aa off (zs.mergeSort λx y=>decide (x<=y)).toArray) os)
  (aT:∀ (p:Option Addr) (cap:Nat) (w:World),Calls P k #[.slice p 0 cap] w λe w'=>e=.returned (.tuple #[])/\w'=w):cQ P aP k qf where
 enter:=he
 iV C a w κ F D js AK M aq rO tY h aD:=by
  obtain⟨xs,u⟩:=D;have hlen:xs.length<4611686018427387904:=aD;have cd:a.tmps.size=1:=h.dD.trans rO;have qG:=h.bS 0;have W:=h.bB 200001;change jF C.P _ κ F w (κ 200001) (.bg mN xs) at W;have ae:a.tmps.getD 0 undef=(κ 200001).slice xs.length:=qG.2 rfl rfl;have a8:a.tmps=#[(κ 200001).slice xs.length]:=by
   apply Array.ext (by simp[cd]);intro i G dI;have:i=0:=by omega
   subst this;rw[<-ae];simp[Array.getD,cd]
  have qL:∀ bl,bl=((xs.mergeSort (λx y=>decide (x<=y)),()):z1'×Unit)->(qf.sh (xs,u)).bQ bl:=λbl e=>e;have n8:∀ {w':World} {F':Nat->Prop} {ys:z1'},bk C (aA.mk (qf.cm.st (xs,u)).ay λi=>if i=200001 then ⟨0,.bg mN ys⟩ else (qf.cm.st (xs,u)).aa i) a w' κ F'->bk { C with nt:=0 } (qf.bQ.st (ys,())) { tmps:=#[],defers:=[] } w' κ F':=λ{w' F' ys} jT=>by
   have e:(qf.bQ.st (ys,())).aa=λi=>if i=200001 then (⟨0,.bg mN ys⟩:bJ) else (qf.cm.st (xs,u)).aa i:=by
    funext i;show eO [(200001,bP.bg mN ys)] i=if i=200001 then _ else eO [(200001,bP.bg mN xs)] i
    simp only[eO];by_cases G:i=200001
    ·rw[if_pos G,if_pos G]
    ·rw[if_neg G,if_neg G,if_neg G]
   refine { dD:=rfl,dfr:=aq.symm,bS:=λi=>trivial,bB:=λb=>?_,own:=λb=>?_,inj:=λb bd=>?_,da:=jT.da,hh:=jT.hh,hS:=jT.hS,hv:=jT.hv,eG:=jT.eG,size:=jT.size,ep:=jT.ep,gj:=Nat.zero_le _,ku:=jT.ku,jG:=λb r=>?_,j9:=jT.j9,kv:=λb k=>?_,eK:=λl aJ L n st e=>(by cases e),jH:=jT.jH,iC:=jT.iC }
   ·rw[e];exact jT.bB b
   ·rw[e];exact jT.own b
   ·rw[e];exact jT.inj b bd
   ·rw[e];exact jT.jG b r
   ·rw[e];exact jT.kv b k
  subst js;rw[a8];by_cases au:(κ 200001).e5=true
  ·have ah:xs=[]:=W.1 au;subst ah;have im:(κ 200001).slice 0=.slice none 0 0:=by simp[bA.slice,au]
   rw[show ([]:z1').length=0 from rfl,im];refine (aT none 0 w).mono ?_;rintro e w' ⟨rfl,rfl⟩;refine⟨_,([],()),[],κ,F,rfl,qL _ (congrArg (λl=>(l,())) List.mergeSort_nil.symm),⟨[],rfl,rfl,rfl⟩,n8 ?_⟩;have e:(λi=>if i=200001 then (⟨0,.bg mN []⟩:bJ) else (qf.cm.st ([],u)).aa i)=(qf.cm.st ([],u)).aa:=by
    funext i;by_cases G:i=200001
    ·subst G;rfl
    ·rw[if_neg G]
   rw[e];exact h
  ·have au:(κ 200001).e5=false:=by simpa using au
   obtain⟨cs,T,dr,eb,lH,qj,w3⟩:=W.2 au;have gl:((qf.cm.st (xs,u)).aa 200001).body.bY (κ 200001)=true:=by show (!(κ 200001).e5)=true;rw[au];rfl
   have af:=h.own 200001 gl;have im:(κ 200001).slice xs.length=.slice (some ⟨(κ 200001).aa,(κ 200001).off,none⟩) xs.length (κ 200001).cap:=by simp[bA.slice,au]
   rw[im];refine (E (κ 200001).aa (κ 200001).off (κ 200001).cap xs w (asZ dr w3) af.1 hlen).mono ?_;rintro e w' ⟨rfl,n,os,rfl⟩;have an:(xs.mergeSort λx y=>decide (x<=y)).Perm xs:=List.mergeSort_perm _ _;generalize kd:(xs.mergeSort λx y=>decide (x<=y))=ys at an qL;have aa1:ys.length=xs.length:=an.length_eq;have Ga:(κ 200001).off+xs.length<=cs.size:=by
    have:(κ 200001).cap*ab.size mN=(κ 200001).cap:=Nat.mul_one _;omega
   have hW:∀ y∈ys,fQ .i64 y:=λy aR=>by
    have:=an.mem_iff.1 aR;obtain⟨i,G,rfl⟩:=List.getElem_of_mem this;exact (aa0 w3 G).2
   have as2:(Go.Sort.putRow (Value.int .i64) (Go.Sort.ahead w n) (κ 200001).aa (κ 200001).off ys.toArray).heap[(κ 200001).aa]?=some (.cells (Go.Sort.putCells (Value.int .i64) (κ 200001).off ys.toArray cs) T (0,0)):=by
    simp[Go.Sort.putRow,Go.Sort.mapBlock,Go.Sort.ahead,Array.getElem?_modify,dr,Go.Sort.onCells]
   have w4:bk C ((qf.cm.st (xs,u)).cw 200001 ⟨0,.bg mN ys⟩) a (Go.Sort.putRow (Value.int .i64) (Go.Sort.ahead w n) (κ 200001).aa (κ 200001).off ys.toArray) κ F:=by
    refine h.pt (b:=200001) (x:=⟨0,.bg mN ys⟩) gl ?_ ?_ nofun nofun (λr M=>?_) (by simp[Go.Sort.putRow,Go.Sort.mapBlock,Go.Sort.ahead]) ⟨rfl,rfl,rfl⟩ (λH mW iO kD=>⟨λhc=>absurd (au.symm.trans hc) nofun,λ_=>?_⟩)
    ·show (!(κ 200001).e5)=true;rw[au];rfl
    ·intro b;by_cases W:b=200001
     ·subst W;exact⟨Nat.le_refl _,λ_=>⟨nofun,λ_=>⟨rfl,rfl,aa1,rfl⟩,nofun,nofun⟩⟩
     ·show qn _ (if b=200001 then _ else _) _ _;rw[if_neg W];exact qn.refl _ _
    ·simp[Go.Sort.putRow,Go.Sort.mapBlock,Go.Sort.ahead,Array.getElem?_modify,Ne.symm M]
    ·refine⟨_,T,as2,?_,?_,qj,as0 aa1 hW Ga⟩
     ·simpa [Go.Sort.putCells]using eb
     ·show ys.length<=_;omega
   refine⟨_,(ys,()),[],κ,_,rfl,qL _ rfl,⟨[],rfl,rfl,rfl⟩,n8 (w4.grow ?_)⟩;refine⟨rfl,rfl,rfl,by simp[Go.Sort.grow],λk al=>?_⟩;simp only[Go.Sort.grow];rw[Array.getElem?_append_left al]
end
end Go.Fer
namespace Go.Fer
open Go.RowKit
def as3(e:ab)(x:Int×Unit):A (List e.aj×Unit):=A.dP (0<=x.1/\x.1<60000) ([],())
def vc(e:ab):cJ:=⟨⟨[(0,.dm),(1,.val (.int .i64))],[]⟩,⟨[(0,.own 50000)],[(50000,.bg e)]⟩,[none],2,as3 e⟩
section
variable {P:Program} {aP:dC} {e:ab}
theorem aa2{C:b8}{a:Act}{w w':World}{κ:Nat->bA}{F:Nat->Prop}{D:(vc e).cm.aj}(h:bk C ((vc e).cm.st D) a w κ F)(aq:C.dfr=[]){kb:bA}{v:Value}
  (ae:v=kb.slice 0) (cd:w.heap.size<=w'.heap.size) (hw:∀ r,r<w.heap.size->w'.heap[r]?=w.heap[r]?) (hc:dc w w') (ln:kb.e5=false->kb.aa=w.heap.size/\w.heap.size<w'.heap.size)
  (aS:kb.e5=false->∃ cs T,w'.heap[kb.aa]?=some (.cells cs T (0,0))/\kb.off+kb.cap*e.size<=cs.size/\kb.cap<2 ^ 63) :
  bk { C with nt:=1 } ((vc e).bQ.st ([],())) { tmps:=#[v],defers:=[] } w' (λi=>if i=50000 then kb else κ i) F:=by
 have W:∀ b,((vc e).bQ.st ([],())).aa b=if b=50000 then ⟨0,.bg e []⟩ else ⟨0,.fx⟩:=λb=>rfl
 have a8:∀ b,b≠50000->((vc e).bQ.st ([],())).aa b=⟨0,.fx⟩:=λb au=>by rw[W,if_neg au]
 have bM:((vc e).bQ.st ([],())).aa 50000=⟨0,.bg e []⟩:=rfl;have gl:∀ b,(((vc e).bQ.st ([],())).aa b).body.bY (if b=50000 then kb else κ b)=true->b=50000/\kb.e5=false:=λb af=>by
  by_cases e:b=50000
  ·subst e;rw[bM,if_pos rfl]at af;exact⟨rfl,by simpa [bP.bY]using af⟩
  ·rw[a8 b e]at af;cases af
 refine { dD:=rfl,dfr:=aq.symm,bS:=λi=>?_,bB:=λb=>?_,own:=λb af=>?_,inj:=λb bd E U _=>?_,da:=λr M=>Nat.lt_of_lt_of_le (h.da r M) cd,hh:=h.hh,hS:=h.hS,hv:=h.hv,eG:=λr M=>?_,size:=Nat.le_trans h.size cd,ep:=h.ep.trans hc,gj:=(by unfold eP;exact (by decide:1<=100000)),ku:=h.ku,jG:=λb r M i'=>?_,j9:=h.j9,kv:=λb k al _ G=>?_,eK:=λl aJ L n st e=>(by cases e),jH:=h.jH,iC:=h.iC.mono (λ_ h=>h) ⟨cd,λr M=>hw r (h.da r M)⟩ }
 ·by_cases G:i=0
  ·subst G;refine⟨⟨Nat.le_refl _,?_⟩,λ_ _=>?_⟩
   ·show v.oneCell'=true;rw[ae];unfold bA.slice;split<;>rfl
   ·show v=_;rw[ae];show kb.slice 0=(if (50000:Nat)=50000 then kb else κ 50000).slice 0;rw[if_pos rfl]
  ·have:((vc e).bQ.st ([],())).ay i=.undef:=by
    show fq [(0,aG.own 50000 0)] i=.undef;simp[fq,G]
   rw[this];trivial
 ·unfold cC;by_cases ax:b=50000
  ·subst ax;rw[bM];show jF _ _ _ _ _ (if (50000:Nat)=50000 then kb else κ 50000) (.bg e []);rw[if_pos rfl];refine⟨λ_=>rfl,λau=>?_⟩;obtain⟨cs,T,E,U,ag⟩:=aS au;exact⟨cs,T,E,U,Nat.zero_le _,ag,λi G=>absurd G (Nat.not_lt_zero _)⟩
  ·rw[a8 b ax];trivial
 ·obtain⟨rfl,au⟩:=gl b af;obtain⟨E,U⟩:=ln au;rw[if_pos rfl,E];refine⟨U,λar=>?_,λal=>?_⟩
  ·have:=h.da _ ar;omega
  ·have:=h.hv _ al;have:=h.size;omega
 ·rw[(gl b E).1,(gl bd U).1]
 ·have E:=h.hv r M;rw[hw r (Nat.lt_of_lt_of_le E h.size)];exact h.eG r M
 ·by_cases ax:b=50000
  ·subst ax;rw[bM]at i';rcases i' with h | h<;>cases h
  ·rw[a8 b ax]at i';rcases i' with h | h<;>cases h
 ·by_cases ax:b=50000
  ·subst ax;have:=h.j9 _ _ al;unfold xe at this;omega
  ·rw[a8 b ax]at G;cases G
theorem aa3{k:FuncId}(he:∀ args w,(callFunc k args).run P w=.ok (.enter k args) w)
  (aT:∀ w:World,Calls P k #[.slice none 0 0,.int .i64 0] w λe w'=>e=.returned (.slice none 0 0)/\w'=w)
  (E:∀ (n:Nat) (w:World),0<n->n<60000->Calls P k #[.slice none 0 0,.int .i64 (n:Int)] w λy w'=>∃ (cg:Nat) (T:TypeId) (cs:Array Value),y=.returned (.slice (some ⟨w.heap.size,0,none⟩) 0 cg)/\
   w'=w.drew.alloc (.cells cs T)/\cg<2 ^ 63/\cg*e.size<=cs.size):cQ P aP k (vc e) where
 enter:=he
 iV C a w κ F D js AK M aq rO tY h aD:=by
  obtain⟨n,u⟩:=D;change Int at n;obtain⟨sB,qA⟩:0<=n/\n<60000:=aD;have cd:a.tmps.size=2:=h.dD.trans rO;have as4:a.tmps.getD 0 undef=.slice none 0 0:=h.bS 0;have qp:a.tmps.getD 1 undef=.int .i64 n:=(gU.1 (h.bS 1)).1;have a8:a.tmps=#[.slice none 0 0,.int .i64 n]:=by
   apply Array.ext (by simp[cd]);intro i G dI;have:i=0\/i=1:=by omega
   rcases this with rfl | rfl
   ·rw[<-as4];simp[Array.getD,cd]
   ·rw[<-qp];simp[Array.getD,cd]
  subst js;rw[a8];by_cases bj:n=0
  ·subst bj;refine (aT w).mono ?_;rintro y w' ⟨rfl,rfl⟩;refine⟨_,([],()),[.slice none 0 0],_,F,rfl,rfl,⟨[.slice none 0 0],rfl,rfl,[],rfl,rfl⟩,aa2 h aq (kb:=⟨0,0,0,true⟩) rfl (Nat.le_refl _) (λ_ _=>rfl) (dc.refl _) nofun nofun⟩
  ·obtain⟨m,rfl⟩:∃ m:Nat,n=m:=⟨n.toNat,by omega⟩
   refine (E m w (by omega) (by omega)).mono ?_;rintro y w' ⟨cg,T,cs,rfl,rfl,gm,px⟩;refine⟨_,([],()),[.slice (some ⟨w.heap.size,0,none⟩) 0 cg],_,F,rfl,rfl,⟨[_],rfl,rfl,[],rfl,rfl⟩,aa2 h aq (kb:=⟨w.heap.size,0,cg,false⟩) rfl (by simp) (λr M=>?_) ⟨rfl,rfl,rfl⟩ (λ_=>⟨rfl,by simp⟩) (λ_=>⟨cs,T,?_,by simpa using px,gm⟩)⟩
   ·exact pr w.drew _ M
   ·show (w.drew.heap.push _)[w.heap.size]?=_;exact Array.getElem?_push_size
theorem aa4{aI:Go.Shelf.Ren}(L:Go.Proofs.Lays8.n4 P aI)(w:World):Calls P (aI.f 4) #[.slice none 0 0,.int .i64 0] w λe w'=>e=.returned (.slice none 0 0)/\w'=w:=
 Go.Proofs.Any8.slices_Grow_room L none 0 0 0 w (Nat.le_refl _) (by decide) (by decide) (Nat.le_refl _)
theorem aa5{aI:Go.Shelf.Ren}(L:Go.Proofs.Lays8.n4 P aI)(aL:b7 P e (aI.t 25))(aD:e.size≠0)(n:Nat)(w:World)(aT:0<n)(E:n<60000) :
  Calls P (aI.f 4) #[.slice none 0 0,.int .i64 (n:Int)] w λy w'=>∃ (cg:Nat) (T:TypeId) (cs:Array Value),y=.returned (.slice (some ⟨w.heap.size,0,none⟩) 0 cg)/\w'=w.drew.alloc (.cells cs T)/\cg<2 ^ 63/\cg*e.size<=cs.size:=by
 obtain⟨i0,z,oN,cd,W,Lu,as5,_⟩:=kz aL.ky;have nh:0<i0.size:=by omega
 have ug:=(CG (P:=P) e as5).2;refine (Go.Proofs.Any8.slices_Grow_grow L i0 z oN Lu nh none 0 0 n [] w (Nat.le_refl _) (by omega) ?_ (by omega) (by simp) (λ_=>rfl) nofun).mono ?_
 ·have:(0+n)*i0.bytes<=(0+n)*1024:=Nat.mul_le_mul_left _ W;omega
 ·rintro y w' ⟨rfl,rfl⟩;refine⟨_,_,_,rfl,rfl,?_,?_⟩
  ·have:=grownCap_le_maxLen w (0+n) 0 (aI.t 25) (by unfold maxLen;omega);unfold maxLen at this;omega
  ·have:=grownCap_ge w (0+n) 0 (aI.t 25);generalize grownCap w (0+n) 0 (aI.t 25)=cg at this;simp only[Array.size_append,size_zeroCells,ug];have ax:(0+n - 0)*e.size+(cg - (0+n))*e.size=cg*e.size:=by rw[<-Nat.add_mul];congr 1;omega
   have aO:(#[]:Array Value).size=0:=rfl;omega
end
end Go.Fer
namespace Go.Fer.oE
open Go.Proofs
def FB(aP:dC)(c:cJ)(sh:Nat->c.cm.aj->A c.bQ.aj):List Nat->Prop
 | []=>True
 | k::l=>cQ Tryz.prog aP k { c with sh:=sh k }/\FB aP c sh l
theorem FB.mem{aP:dC}{c:cJ}{sh:Nat->c.cm.aj->A c.bQ.aj}:∀ {l:List Nat},FB aP c sh l->∀ k∈l,cQ Tryz.prog aP k { c with sh:=sh k }
 | [],_,k,h=>by cases h
 | j::l,h,k,al=>by
  rcases List.mem_cons.1 al with rfl | al
  ·exact h.1
  ·exact FB.mem h.2 k al
theorem zg{k:Nat}{e:ab}{f:List e.aj×Unit->A (List e.aj×Unit)}{sh:(ab.slice e).aj->A (ab.slice e).aj}(h:cQ Tryz.prog dB k ⟨⟨[(0,.val (.slice e))],[]⟩,⟨[(0,.own 60)],[(60,.bg e)]⟩,[none],1,f⟩)
  (an:∀ x:List e.aj,(sh x).b1->(f (x,())).b1/\∀ bl,(f (x,())).bQ bl->bl.1=(sh x).val (ab.slice e).de):nU (hI.kI ⟨.slice e,.slice e,sh,true⟩).aW=true/\CV Tryz.prog k (hI.kI ⟨.slice e,.slice e,sh,true⟩):=
 ajF (by simp) h mG (b0:=60) (λx=>(x,())) (λx=>rfl) rfl (by show 1<=eP;decide) rfl (λbl=>bl.1) (λbl=>⟨rfl,rfl⟩) an
abbrev as6:Code:=Tryz.f161.body.getD .skip
theorem as7(aP:dC):cQ Tryz.prog aP 161 qf:=
 as1 (uD Tryz.func161 (show Tryz.f161.body=some as6 by kernel_rfl) (by kernel_rfl)) (λaa off cap zs w E U ag=>calls_of_every_depth λbT=>AnyS.slices_Sort_int_in Tryz.aaR bT aa off cap zs w E U ag)
  λp cap w=>Any.slices_Sort_int_none Tryz.aaR p cap w
theorem as8:QP=H.yq:=by
 funext x;unfold QP H.yq;rw[show x.1.mergeSort (λa b=>decide (a<=b))=H.ft H.hs x.1 from (H.A2 ((List.pairwise_mergeSort (le:=λa b:Int=>decide (a<=b)) (λa b c E U=>by simp at E U ⊢;omega) (λa b=>by simp;omega) x.1).imp λh=>by simpa using h) (List.mergeSort_perm _ _).symm).symm]
def QQ:cJ:=⟨⟨[(0,.own 200001)],[(200001,.bg t3)]⟩,⟨[],[(200001,.bg t3)]⟩,[],1,H.yq⟩
theorem aa6:cQ Tryz.prog dB 161 QQ:=by
 have:=as7 dB;unfold qf at this;rw[as8]at this;exact this
abbrev as9:Code:=Tryz.f257.body.getD .skip
abbrev as_:Code:=Tryz.f256.body.getD .skip
def aa7:cJ:=⟨⟨[(0,.dm),(1,.val t3)],[]⟩,⟨[(0,.own 50000)],[(50000,.bg t3)]⟩,[none],2,H.Jo⟩
def aa8:cJ:=⟨⟨[(0,.dm),(1,.val t3)],[]⟩,⟨[(0,.own 50000)],[(50000,.bg H.hq)]⟩,[none],2,H.Jp⟩
theorem as':cQ Tryz.prog dB 257 aa7:=
 aa3 (e:=t3) (uD Tryz.func257 (show Tryz.f257.body=some as9 by kernel_rfl) (by kernel_rfl)) (aa4 Tryz.aaS) (aa5 Tryz.aaS (oc.cb (id:=3) rfl (by decide)) (by decide))
theorem ata:cQ Tryz.prog dB 256 aa8:=
 aa3 (e:=H.hq) (uD Tryz.func256 (show Tryz.f256.body=some as_ by kernel_rfl) (by kernel_rfl)) (aa4 Tryz.aaT) (aa5 Tryz.aaT (oc.cb (id:=125) rfl (by decide)) (by decide))
def g1:=ajD.cons (n:=139) (c:=aw.JT.du) ⟨asG,λ_ _=>A.vW⟩
def eh:=g1.cons (n:=204) (c:=aw.JK.du) ⟨asK,λ_ _=>A.vW⟩
def g3:=eh.cons (n:=258) (c:=aw.Fs.du) ⟨asM,λ_ _=>A.vW⟩
def atb:=g3.cons (n:=140) (c:=aw.Fv.du) ⟨asX,λ_ _=>A.vW⟩
end Go.Fer.oE
namespace Go.Fer.aw
open A (V)
open H (fs)
theorem atc{d:ba}(h:c_ d):pj.sh d=A.pure 0:=by
 have e:pj.sh d=A.pure (jj d):=A.bO ⟨h.gp,h.j6⟩ _;rw[e,h.aam]
def gf(n:Int):aK:=if n<0 then Fp else Go.Lib.decDigits n.toNat
theorem QR(u:Nat):Go.Lib.decDigits u=(if u<10 then [] else Go.Lib.decDigits (u / 10))++[UInt8.ofNat (48+u % 10)]:=by
 split
 ·rw[Go.Lib.decDigits_one (by omega),Nat.mod_eq_of_lt (by omega)];rfl
 ·conv=>lhs;unfold Go.Lib.decDigits
  rw[dif_neg (by omega)]
theorem aa9(k:Nat):UInt8.ofNat (Int.toNat (IntKind.wrap .u8 (IntKind.wrap .i64 (Add.add 48 (Int.tmod (k:Int) 10)))))=UInt8.ofNat (48+k % 10):=by
 have e:Int.tmod (k:Int) 10=((k % 10:Nat):Int):=rfl;rw[e,cn,bF (by omega) (by omega),aaJ (by omega) (by omega)];congr 1
theorem aa_:∀ (k u:Nat),u<10 ^ (k+1)->Go.Lib.nDigits u<=k+1
 | 0,u,h=>by rw[Go.Lib.nDigits_small (by omega)];omega
 | k+1,u,h=>by
  unfold Go.Lib.nDigits;split
  ·omega
  ·have:=aa_ k (u / 10) (by rw[Nat.pow_succ]at h;omega);omega
abbrev BX:aM:=⟨.int .i64,.str,λn=>n<2 ^ 63,gf⟩
theorem atd(x):A.le (Y2 x) (BX.sh x):=A.bu λh=>by
 change x<2 ^ 63 at h;unfold Y2;show _=A.pure (gf x);unfold gf;by_cases ah:x<0
 ·rw[if_pos (decide_eq_true ah),if_pos ah]
 ·rw[if_neg (by simpa using ah),if_neg ah,A.bt (by decide)];obtain⟨u,rfl⟩:∃ u:Nat,x=u:=⟨x.toNat,by omega⟩
  have BW:=Go.Lib.nDigits_le20 u (by omega);rw[<-Go.Lib.decDigits_length]at BW;have e:=QR u;rw[A.ac6 (res:=V.next (Go.Lib.decDigits u,())) (λs=>∃ k:Nat,s.1=(k:Int)/\k<=u/\Go.Lib.decDigits u=(if k<10 then [] else Go.Lib.decDigits (k / 10))++s.2.1) (λs=>s.1.toNat) ?_ _ ⟨u,rfl,Nat.le_refl _,by rw[aa9];exact e⟩,A.aF]
  ·rfl
  ·rintro⟨n,t,⟨⟩⟩ ⟨k,E,U,ag⟩;change n=(k:Int) at E;subst E;change _=_++t at ag;have ate:=congrArg List.length ag;rw[List.length_append]at ate;have EC:Int.tdiv (k:Int) 10=((k / 10:Nat):Int):=rfl;by_cases al:k<10
   ·right;rw[if_pos al,List.nil_append]at ag;simp only[EC];rw[if_neg (by simp;omega),A.aF,ag]
   ·left;rw[if_neg al,QR (k / 10),List.append_assoc]at ag;refine⟨(((k / 10:Nat):Int),[UInt8.ofNat (48+k / 10 % 10)]++t,()),?_,⟨k / 10,rfl,by omega,ag⟩,by show (((k / 10:Nat):Int)).toNat<((k:Int)).toNat;omega⟩;simp only[EC];rw[if_pos (by simp;omega),A.bt (by decide),A.bt (by decide),A.bt (fs (by simp only[gY];omega)),bF (by omega) (by omega),aa9]
theorem QS{n:Int}(h:n<=999999):(gf n).length<=6:=by
 unfold gf;split
 ·decide
 ·rw[Go.Lib.decDigits_length];exact aa_ 5 _ (by omega)
def fl(w:aK)(l:z1'):aK:=l.foldl (λs n=>s++([32]++gf n)) w
abbrev qg:aM:=⟨.az .str fO,.str,λx=>x.1.length<=1000/\x.2.length<=1000/\∀ n∈x.2,n<=999999,λx=>fl x.1 x.2⟩
theorem atf(x):A.le (Y3 BX.sh x) (qg.sh x):=A.bu λh=>by
 obtain⟨w,l⟩:=x;obtain⟨E,U,ag⟩:w.length<=1000/\l.length<=1000/\∀ n∈l,n<=999999:=h;unfold Y3;show _=A.pure (fl w l);rw[A.gv l (λi (s:aK)=>(s,l,(i:Int),())) (λn s=>.next (s++([32]++gf n))) (λs=>.next (s,())) (λi s=>s.length<=1000+7*i) w ?_ (by omega) ?_ ?_]
 ·rw[fr,A.aF];rfl
 ·rfl
 ·intro i G s aD;have hw:=bF (n:=(i:Int)+1) (by omega) (by omega);have au:=ag _ (List.getElem_mem G);have aL:=QS au;refine⟨?_,λbd dd=>?_⟩
  ·simp only[bW,cX G,if_true,dk G,cH G,A.bn,cn,hw];rw[show BX.sh l[i]=A.pure (gf l[i]) from A.bO (show l[i]<2 ^ 63 by omega) _,A.aF,A.bt (fs (by simp only[gY];omega)),A.bt (fs (by simp only[gY];omega))];rfl
  ·simp only[V.next.injEq]at dd;subst dd;simp only[List.length_append,List.length_cons,List.length_nil];omega
 ·simp
theorem wX{w:aK}{l:z1'}(E:w.length<=1000)(U:l.length<=1000)(ag:∀ n∈l,n<=999999):qg.sh (w,l)=A.pure (fl w l):=A.bO ⟨E,U,ag⟩ _
theorem vd{n:Nat}:∀ {l:z1'} {w:aK},(∀ n∈l,n<=999999)->w.length<=n->(fl w l).length<=n+7*l.length
 | [],w,_,h=>h
 | k::l,w,h,hw=>by
  have aL:=QS (h k (by simp));have:=vd (n:=n+7) (l:=l) (w:=w++([32]++gf k)) (λn au=>h n (by simp[au])) (by simp;omega);show (fl (w++([32]++gf k)) l).length<=_;simp only[List.length_cons];omega
theorem aa':∀ (a b:aK),cE (a++32::b)=cE a++cE b
 | [],b=>by simp[cE]
 | c::a,b=>by
  have aH:=aa' a b;have ai:=u' a;simp only[List.cons_append,cE];split
  ·rw[aH];rfl
  ·rw[aH];cases h:cE a with
   | nil=>exact absurd ai.1 (by rw[h];decide)
   | cons v l=>rfl
theorem aba:∀ (w:aK),(∀ c∈w,c≠32)->cE w=[w]
 | [],_=>rfl
 | c::w,h=>by
  have aH:=aba w λd aq=>h d (by simp[aq]);simp only[cE];rw[if_neg (h c (by simp)),aH]
theorem atg(u:Nat):∀ c∈Go.Lib.decDigits u,c≠32:=by
 induction u using Nat.strongRecOn with
 | _ u aH=>
  intro c hc;rw[QR,List.mem_append]at hc;rcases hc with hc | hc
  ·split at hc
   ·cases hc
   ·exact aH (u / 10) (by omega) c hc
  ·rw[List.mem_singleton]at hc;subst hc;have:=J9 (u % 10) (by omega);intro e;rw[e]at this;have:((32:UInt8).toNat:Int)=32:=by decide
   omega
theorem ath(n:Int):cE (gf n)=[gf n]:=by
 refine aba _ ?_;unfold gf;split
 ·decide
 ·exact atg _
theorem abb:∀ (l:z1') (w:aK),cE (fl w l)=cE w++l.map gf
 | [],w=>by simp[fl]
 | n::l,w=>by
  show cE (fl (w++32::gf n) l)=_;rw[abb l,aa',ath];simp
theorem abc{n:Int}(aT:0<=n)(E:n<=999999):eY (gf n)=n:=by
 have ai:=QS E;unfold gf at ai ⊢;rw[if_neg (by omega)]at ai ⊢;obtain⟨aQ,aV⟩:=QO n.toNat;have an:=List.length_pos_iff.2 aQ;unfold eY;rw[if_neg,aaY]
 ·omega
 ·simp only[Bool.or_eq_true,Bool.and_eq_true,decide_eq_true_eq,not_or,not_and];exact⟨⟨by omega,by omega⟩,aV⟩
theorem ati{l:z1'}(h:∀ n∈l,0<=n/\n<=999999):Fo (l.map gf)=some l:=by
 unfold Fo;have e:(l.map gf).map eY=l:=by
  rw[List.map_map];conv=>rhs;rw[<-List.map_id l]
  exact List.map_congr_left λn au=>abc (h n au).1 (h n au).2
 rw[e,if_pos];rw[List.all_map,List.all_eq_true];intro n au;have:=h n au;have:=abc (h n au).1 (h n au).2;simp only[Function.comp,decide_eq_true_eq];omega
theorem atj{w:aK}{k:Int}{m:Bool}{j:Nat}{l:z1'}(hw:cE w=[w])(ar:oz w kP 0=some (k,m,j))(al:k<=(l.length:Int)/\((l.length:Int)<=k\/m=true))(ai:∀ n∈l,0<=n/\n<=999999):Fq (fl w l)=some (j,l):=by
 unfold Fq;rw[abb,hw];have ax:(([w]++l.map gf).getD 0 [])=w:=rfl;have aO:(([w]++l.map gf).drop 1)=l.map gf:=rfl;have cv:((([w]++l.map gf).length:Int) - 1)=(l.length:Int):=by simp
 rw[ax,aO,cv,ar,ati ai];simp only;rw[if_neg]
 ·rfl
 ·simp only[Bool.or_eq_true,Bool.and_eq_true,decide_eq_true_eq,Bool.not_eq_true',not_or,not_and,Bool.not_eq_false];refine⟨by omega,λh=>?_⟩;rcases al.2 with U | U
  ·omega
  ·exact U
theorem tC{w:aK}{k:Int}{m:Bool}{j:Nat}{l:z1'}(hw:cE w=[w])(ar:oz w kP 0=some (k,m,j))(al:k<=(l.length:Int)/\((l.length:Int)<=k\/m=true))(ai:∀ n∈l,0<=n/\n<=999999)(d:ba):iA d (fl w l)=y9 j d l:=by
 unfold iA;rw[atj hw ar al ai]
theorem QT(n:Int):gf n≠[]:=by
 unfold gf;split
 ·decide
 ·exact (QO _).1
theorem atk{n:Int}(h:n<2 ^ 63):(gf n).length<=21:=by
 unfold gf;split
 ·decide
 ·rw[Go.Lib.decDigits_length];have:=Go.Lib.nDigits_le20 n.toNat (by omega);omega
theorem atl{n:Int}(aT:0<=n)(h:n<2 ^ 63):gf n=qd n:=by
 unfold gf qd Go.Lib.itoa;rw[bF (by omega) (by omega),if_neg (by omega),if_neg (by omega)]
def tD(l:z1'):aK:=if l=[] then Jy else Go.Lib.join (l.map gf) [32]
def wY(s:aK)(n:Int):aK:=(if s=[] then s else s++[32])++gf n
theorem abd:∀ (l:z1') (s:aK),s≠[]->l.foldl wY s=s++Go.Lib.joinTail [32] (l.map gf)
 | [],s,_=>by simp[Go.Lib.joinTail]
 | n::l,s,h=>by
  rw[List.foldl_cons,abd l _ (by unfold wY;rw[if_neg h];simp)];unfold wY Go.Lib.joinTail;rw[if_neg h];simp
theorem atm:∀ (l:z1'),l.foldl wY []=Go.Lib.join (l.map gf) [32]
 | []=>rfl
 | n::l=>by
  have e:wY [] n=gf n:=rfl;rw[List.foldl_cons,e,abd l _ (QT n),List.map_cons,Go.Lib.join_cons]
abbrev BY(l:z1'):Prop:=l.length<=2000/\∀ n∈l,-1<=n/\n<2 ^ 63
abbrev J_:aM:=⟨fO,.str,BY,tD⟩
theorem atn(x):A.le (Ze BX.sh x) (J_.sh x):=A.bu λh=>by
 obtain⟨E,U⟩:BY x:=h;unfold Ze;show _=A.pure (tD x);rw[A.gv x (λi (s:aK)=>(x,s,(i:Int),())) (λn s=>.next (wY s n)) (λs=>.next (s,())) (λi s=>s.length<=22*i/\(s=[]<->i=0)) [] ?_ ⟨by simp,by simp⟩ ?_ ?_]
 ·rw[fr,atm,A.aF,A.b2];unfold tD;cases x with
  | nil=>rfl
  | cons n l=>
   have:Go.Lib.join ((n::l).map gf) [32]≠[]:=by
    rw[List.map_cons,Go.Lib.join_cons];have:=QT n;simp[this]
   rw[if_neg (by simpa using this),if_neg (by simp)]
 ·rfl
 ·rintro i G s ⟨aQ,aV⟩;have hw:=bF (n:=(i:Int)+1) (by omega) (by omega);have au:=U _ (List.getElem_mem G);have aL:=atk au.2;refine⟨?_,λbd dd=>?_⟩
  ·simp only[bW,cX G,if_true,dk G,cH G,A.bn,cn,hw];have ah:BX.sh x[i]=A.pure (gf x[i]):=A.bO au.2 _;unfold wY;by_cases aT:i=0
   ·have aD:=aV.2 aT;rw[if_neg (by simp[aT]),if_pos aD,A.aF,A.b2];simp only[cH G,A.bn,hw,dk G,ah,A.aF];rw[A.bt (fs (by simp only[gY];omega))];rfl
   ·have aD:¬s=[]:=λe=>aT (aV.1 e);rw[if_pos (by simp;omega),if_neg aD,A.bt (fs (by simp only[gY];omega)),A.aF,A.b2];simp only[cH G,A.bn,hw,dk G,ah,A.aF];rw[A.bt (fs (by simp only[gY,List.length_append,List.length_cons,List.length_nil];omega))];rfl
  ·simp only[V.next.injEq]at dd;subst dd;unfold wY;have:=QT x[i];refine⟨?_,by simp[this]⟩;split
   ·simp only[List.length_append];omega
   ·simp only[List.length_append,List.length_cons,List.length_nil];omega
 ·simp
def r'(l:z1')(e:Int):aK:=if e=0 then tD l else if e=3 then Jy else y5
abbrev oB:aM:=⟨.az fO bq,.str,λx=>BY x.1,λx=>r' x.1 x.2⟩
theorem ato(x):A.le (Zd J_.sh x) (oB.sh x):=A.bu λh=>by
 obtain⟨l,e⟩:=x;obtain⟨E,U⟩:BY l:=h;unfold Zd;show _=A.pure (r' l e);rw[A.et l (λi (_:Unit)=>(l,e,(i:Int),())) (λ_ b=>.next b) (λ_=>.next (l,e,())) () ?_ ?_ ?_]
 ·rw[fr,A.aF,A.b2];unfold r';rw[show J_.sh l=A.pure (tD l) from A.bO ⟨E,U⟩ _,A.aF];by_cases bE:e=0
  ·simp[bE]
  ·by_cases cv:e=3
   ·simp[cv]
   ·simp[bE,cv]
 ·rfl
 ·intro i G _;have hw:=bF (n:=(i:Int)+1) (by omega) (by omega);have au:=U _ (List.getElem_mem G);simp only[bW,cX G,if_true,dk G,cH G,A.bn,cn,hw];rw[if_neg (by simp;omega)];rfl
 ·simp
theorem QU{l:z1'}(h:BY l)(e:Int):oB.sh (l,e)=A.pure (r' l e):=A.bO h _
abbrev BZ:aM:=⟨.az l7 bq,.str,λx=>BY [x.1.1,x.1.2],λx=>r' [x.1.1,x.1.2] x.2⟩
theorem atp(x):A.le (Zf oB.sh x) (BZ.sh x):=A.bu λh=>by
 unfold Zf;rw[QU h,A.aF]
theorem abe{l:z1'}(h:∀ n∈l,0<=n/\n<2 ^ 63):tD l=mi l:=by
 unfold tD mi;rw[List.map_congr_left λn au=>atl (h n au).1 (h n au).2]
theorem QV{l:z1'}(h:∀ n∈l,0<=n/\n<2 ^ 63)(e:Int):r' l e=gy e l:=by
 unfold r' gy;rw[abe h]
abbrev wZ(s:Int×Int):Prop:=(0<=s.1/\s.1<2 ^ 63)/\0<=s.2/\s.2<2 ^ 63
theorem J'{l:z1'}(h:∀ n∈l,0<=n/\n<2 ^ 63):wZ (H.tf l):=by
 have key:∀ (l:z1') (o:Option (Int×Int)),wZ (o.getD (0,0))->(∀ n∈l,0<=n/\n<2 ^ 63)->wZ ((l.foldl (λo n=>some (H.Bi o n)) o).getD (0,0)):=by
  intro l;induction l with
  | nil=>exact λo h _=>h
  | cons n l aH=>
   intro o af ai;rw[List.foldl_cons];refine aH _ ?_ λk al=>ai k (by simp[al]);have au:=ai n (by simp);cases o with
   | none=>exact⟨au,au⟩
   | some s=>
    obtain⟨⟨b',a2⟩,a3,a4⟩:=af;simp only[Option.getD_some]at b' a2 a3 a4;simp only[Option.getD_some,H.Bi];omega
 exact key l none ⟨by decide,by decide⟩ h
theorem abf{d:ba}(aq:c_ d){b:Bool}{w:z1'}(h:w∈(H.eE d.2 b).1):H.iy d.2 w=true/\H.oh d.2 w:=by
 rcases H.yG d.2 b with⟨_,U,_⟩ | ⟨E,_⟩
 ·rw[U]at h;cases h
 ·rw[E]at h;have:=H.uT h;exact⟨this,H.Bh aq.q7 this⟩
theorem abg{d:ba}(aq:c_ d)(n:Int):∀ m∈(H.kM d.2 n).1,0<=m/\m<=11000:=by
 intro m hm;unfold H.kM at hm;split at hm
 ·cases hm
 split at hm
 ·cases hm
 obtain⟨w,hw,e⟩:=List.mem_filterMap.1 hm;exact H.IA (H.l9 aq.q7) (abf aq hw).2 e
theorem atq{d:ba}(aq:c_ d)(n:Int):wZ (H.qX d.2 n).1:=J' λm hm=>by have:=abg aq n m hm;omega
theorem abh{d:ba}(aq:c_ d){m:Int}(h:0<=m/\m<=11000):0<=H.jz d.2.2.2.2.2 m/\H.jz d.2.2.2.2.2 m<=100000:=H.XJ ⟨(H.l9 aq.q7).Ey,by omega,by omega⟩
theorem atr{d:ba}(aq:c_ d)(n:Int):wZ (H.qY d.2 n).1:=J' λp an=>by
 obtain⟨m,hm,rfl⟩:=List.mem_map.1 an;have:=abh aq (abg aq n m hm);omega
theorem ats{d:ba}(aq:c_ d){w:z1'}(hw:H.oh d.2 w)(g:Int):0<=H.yw d.2 w g/\H.yw d.2 w g<2 ^ 63:=by
 have aB:=H.l9 aq.q7;have key:∀ (l:List H.a7) (n:Int),0<=n->0<=l.foldl (λn s=>if (H.ea s=1/\H.ih s=g)/\(H.ix d.2 w (H.jW s)).isSome=true then n+H.jz d.2.2.2.2.2 ((H.ix d.2 w (H.jW s)).getD 0) else n) n/\
   l.foldl (λn s=>if (H.ea s=1/\H.ih s=g)/\(H.ix d.2 w (H.jW s)).isSome=true then n+H.jz d.2.2.2.2.2 ((H.ix d.2 w (H.jW s)).getD 0) else n) n<=n+100000*l.length:=by
  intro l;induction l with
  | nil=>intro n h;simpa using h
  | cons s l aH=>
   intro n h;rw[List.foldl_cons];simp only[List.length_cons];split
   ·rename_i hc;obtain⟨m,hm⟩:=Option.isSome_iff_exists.1 hc.2;have an:=abh aq (H.IA aB hw hm);rw[hm];have:=aH (n+H.jz d.2.2.2.2.2 ((some m).getD 0)) (by simp only[Option.getD_some];omega);simp only[Option.getD_some]at this ⊢;omega
   ·have:=aH n h;omega
 have:=key (H.fk d.2) 0 (Int.le_refl _);have ai:=aB.Iy;unfold H.yw;omega
theorem att{d:ba}(aq:c_ d)(g:Int):wZ (H.qZ d.2 g).1:=J' λp an=>by
 obtain⟨w,hw,rfl⟩:=List.mem_map.1 an;exact ats aq (abf aq hw).2 g
theorem atu{d:ba}(aq:c_ d)(t:Int):wZ (H.q0 d.2 t).1:=J' λp an=>by
 obtain⟨w,hw,rfl⟩:=List.mem_map.1 an;have E:=H.aml d.2 w t;have U:=(H.l9 aq.q7).Ey;unfold H.o6 at U;simp only[Bool.and_eq_true,H.og]at U;obtain⟨_,ag,a6⟩:=U;have aQ:=Int.mul_nonneg E.1 ag;have aV:=Int.mul_le_mul E.2 a6 ag (by decide);omega
theorem atv{d:ba}(aq:c_ d):0<=(ph d.1 true).1/\(ph d.1 true).1<2 ^ 63:=by
 have ae:=aq.val;unfold ph;split
 ·exact show (0:Int)<=0/\(0:Int)<2 ^ 63 by decide
 ·have ai:=(aab d.1).1;have dt:=ae.tr;have key:∀ (l:z1') (n:Int),0<=n->(∀ k∈l,0<=k/\k<=100000)->0<=l.foldl (·+·) n/\l.foldl (·+·) n<=n+100000*l.length:=by
   intro l;induction l with
   | nil=>intro n h _;simpa using h
   | cons k l aH=>
    intro n h al;have aQ:=al k (by simp);have:=aH (n+k) (by omega) λj aE=>al j (by simp[aE]);rw[List.foldl_cons];simp only[List.length_cons];omega
  show 0<=pg d.1 (u6 d.1)/\pg d.1 (u6 d.1)<2 ^ 63;unfold pg;have:=key ((List.range (u6 d.1).length).map λ(i:Nat)=>if (u6 d.1).getD i 0=-1 then 0 else (mf d.1 (i:Int)).2.2.2.2) 0 (Int.le_refl _) λk al=>by
   obtain⟨i,G,rfl⟩:=List.mem_map.1 al;rw[List.mem_range,ai]at G;have:=(P0 ae (I9 G)).2;split
   ·decide
   ·exact this
  rw[List.length_map,List.length_range]at this;omega
theorem atw(gd:Nat->Int->Bool)(m J F:Nat):0<=(yZ gd m J F).2/\(yZ gd m J F).2<=(J:Int):=by
 have key:∀ (l:List Nat) (st:z1'×Int),0<=st.2->0<=(l.foldl (qa gd m F) st).2/\(l.foldl (qa gd m F) st).2<=st.2+l.length:=by
  intro l;induction l with
  | nil=>intro st h;simpa using h
  | cons j l aH=>
   intro st h;rw[List.foldl_cons];have e:0<=(qa gd m F st j).2/\(qa gd m F st j).2<=st.2+1:=by
    unfold qa;simp only;split<;>omega
   have:=aH (qa gd m F st j) e.1;simp only[List.length_cons];omega
 have:=key (List.range J) (List.replicate m (-1),0) (Int.le_refl _);rw[List.length_range]at this;unfold yZ;simp only at this;omega
theorem atx{d:ba}(aq:c_ d):0<=(qc d.1).1/\(qc d.1).1<2 ^ 63:=by
 have ae:=aq.val;have key:∀ (l:List (z1')) (n:Int),-1<=n/\n<=24->(∀ y∈l,nA d.1 y)->-1<=l.foldl (u7 d.1) n/\l.foldl (u7 d.1) n<=24:=by
  intro l;induction l with
  | nil=>intro n h _;exact h
  | cons y l aH=>
   intro n h aR;rw[List.foldl_cons];refine aH _ ?_ λz bj=>aR z (by simp[bj]);have E:=atw (gJ (db d.1) (jC d.1 y).1) (db d.1).2.1.length (jC d.1 y).1.length 201;have U:=Qd ae (aR y (by simp));have ag:wO (db d.1) (jC d.1 y).1=(yZ (gJ (db d.1) (jC d.1 y).1) (db d.1).2.1.length (jC d.1 y).1.length 201).2:=rfl;unfold u7;rw[ag];split
   ·exact h
   ·split
    ·omega
    ·exact h
 have:=key (lb 0 d.1) (-1) (by decide) λy aR=>(Jh aR).2;unfold qc;split
 ·exact show (0:Int)<=0/\(0:Int)<2 ^ 63 by decide
 split
 ·exact show (0:Int)<=0/\(0:Int)<2 ^ 63 by decide
 ·rename_i h;have h:u9 d.1≠-1:=h;have this:-1<=u9 d.1/\u9 d.1<=24:=this;show 0<=u9 d.1/\u9 d.1<2 ^ 63;omega
theorem aty(s:bI)(w:Int):∀ n∈(ou s w).1,0<=n/\n<(s.2.2.1.length:Int):=by
 intro n au;unfold ou at au;split at au
 ·cases au
 ·unfold Qn at au;obtain⟨p,an,rfl⟩:=List.mem_map.1 au;have:=List.mem_range.1 (List.mem_filter.1 an).1;omega
theorem atz(c:H.a1)(t:Int):(∀ n∈(H.np c t).1,0<=n/\n<=9)/\∀ n∈(H.np c t).2.1,0<=n/\n<=9:=by
 unfold H.np;split
 ·simp
 ·exact⟨λn au=>pT.1 (List.mem_filter.1 au).1,λn au=>pT.1 (List.mem_filter.1 au).1⟩
theorem atA(c:H.a1)(u t:Int):∀ n∈(H.nn c u t).1,-1<=n/\n<=99:=λn au=>pT.1 (List.mem_filter.1 au).1
theorem atB(c:H.a1)(u t:Int):(H.nn c u t).1.Pairwise (·<·):=(H.Qp (-1) 99).filter _
theorem atC{r:z1'×Int}(E:∀ n∈r.1,-1<=n/\n<=99)(U:r.1.Pairwise (·<·))(ag:r.2=0->0<r.1.length):r' r.1 r.2=BQ r:=by
 obtain⟨l,e⟩:=r;simp only at E U ag;unfold BQ;by_cases he:e=0
 ·subst he;cases l with
  | nil=>exact absurd (ag rfl) (by decide)
  | cons a l=>
   rw[List.pairwise_cons]at U;have a8:=E a (by simp);have ai:∀ n∈l,0<=n/\n<2 ^ 63:=λn au=>by
    have:=U.1 n au;have:=E n (by simp[au]);omega
   by_cases aT:0<=a
   ·rw[if_pos (by simp;exact aT)];refine QV (λn au=>?_) 0;rcases List.mem_cons.1 au with rfl | au
    ·omega
    ·exact ai n au
   ·obtain rfl:a=-1:=by omega
    rw[if_neg (by simp)];show tD (-1::l)=_;have ax:gf (-1)=Fp:=rfl;unfold tD;rw[if_neg (by simp),List.map_cons,Go.Lib.join_cons,ax];cases l with
    | nil=>rfl
    | cons b l=>
     rw[if_neg (by simp)];show _=Fp++[32]++mi (b::l);rw[<-abe ai];unfold tD;rw[if_neg (by simp),List.map_cons,Go.Lib.join_cons];unfold Go.Lib.joinTail;simp
 ·rw[if_pos (by simp[he])];unfold r' gy;rw[if_neg he,if_neg he]
theorem QW{a b n:Int}:n<=lC a b<->n<=a/\n<=b:=by
 unfold lC;split<;>omega
theorem abi{a b n:Int}:uV a b<=n<->a<=n/\b<=n:=by
 unfold uV;split<;>omega
theorem wq{s:Int×Int}(h:wZ s)(e:Int):BZ.sh (s,e)=A.pure (gy e [s.1,s.2]):=by
 have k:∀ n∈[s.1,s.2],0<=n/\n<2 ^ 63:=λn au=>by
  simp only[List.mem_cons,List.not_mem_nil,or_false]at au;rcases au with rfl | rfl
  ·exact h.1
  ·exact h.2
 have ax:BZ.sh (s,e)=A.pure (r' [s.1,s.2] e):=A.bO ⟨by simp,λn au=>by have:=k n au;omega⟩ _;rw[ax,QV k]
theorem B0{l:z1'}(ai:l.length<=2000)(h:∀ n∈l,0<=n/\n<2 ^ 63)(e:Int):oB.sh (l,e)=A.pure (gy e l):=by
 rw[QU ⟨ai,λn au=>by have:=h n au;omega⟩,QV h]
theorem ac4(x:ba×List aK×Int×Int×Int×Int×Int×Int×Int×Int)(E:fE x.1.1)(U:H.j6 x.1.2)(ag:x.2.1.length<2 ^ 63):PD pj.sh va.sh u1.sh Fz.sh FA.sh ze.sh qg.sh H.yy.sh H.yz.sh H.yA.sh H.yB.sh H.yC.sh H.yD.sh y3.sh y1.sh y2.sh oB.sh BZ.sh x=A.pure true:=by
 obtain⟨d,l,n,o,f,t,w,j,b,c⟩:=x;change fE d.1 at E;change H.j6 d.2 at U;change l.length<2 ^ 63 at ag;unfold PD;rw[HA E U ag,A.aF,ass];by_cases hc:(!tB d l&&decide (jj d=0)&&decide ((l.length:Int)<=28))=true/\(0<=n/\0<=o/\0<=f/\0<=t/\0<=w/\0<=j/\0<=b/\0<=c)/\n<=9999/\o<=9999/\f<=9999/\t<=9999/\w<=9999/\j<=9999/\b<=9999/\c<=9999
 ·obtain⟨M,an,hm⟩:=hc;rw[if_neg (by
   rw[M];simp only[Bool.not_true,Bool.false_or,Bool.or_eq_true,decide_eq_true_eq,not_or,gt_iff_lt,Int.not_lt,QW,abi];omega)]
  obtain⟨aq,au,atD⟩:=asn E U M;have au:l.length<=28:=by omega
  have ai:∀ s∈l,s.length<=10000:=λs aD=>by have:=atD s aD;omega
  have kD:=aaC aq;have df:qg.sh ([108,97,115,116,115],[n])=A.pure (fl [108,97,115,116,115] [n]):=wX (by decide) (by simp) (by simp;omega);have dJ:qg.sh ([102,101,101],[n])=A.pure (fl [102,101,101] [n]):=wX (by decide) (by simp) (by simp;omega);have mX:qg.sh ([111,119,101,115],[o])=A.pure (fl [111,119,101,115] [o]):=wX (by decide) (by simp) (by simp;omega);have r4:qg.sh ([104,101,108,100],[t])=A.pure (fl [104,101,108,100] [t]):=wX (by decide) (by simp) (by simp;omega);have cY:qg.sh ([119,104,101,114,101],[f,t])=A.pure (fl [119,104,101,114,101] [f,t]):=wX (by decide) (by simp) (by simp;omega);have fa:qg.sh ([109,105,115,115,105,110,103],[t])=A.pure (fl [109,105,115,115,105,110,103] [t]):=wX (by decide) (by simp) (by simp;omega);have gw:qg.sh ([102,105,116,115],[w,j,b])=A.pure (fl [102,105,116,115] [w,j,b]):=wX (by decide) (by simp) (by simp;omega);have h0:qg.sh ([99,97,110],[c])=A.pure (fl [99,97,110] [c]):=wX (by decide) (by simp) (by simp;omega);have ax:∀ bT,iA bT (fl [108,97,115,116,115] [n])=Jz bT [n]:=tC (k:=1) (m:=false) (j:=3) (by decide) (by decide) (by simp) (by simp;omega);have aO:∀ bT,iA bT (fl [102,101,101] [n])=JA bT [n]:=tC (k:=1) (m:=false) (j:=4) (by decide) (by decide) (by simp) (by simp;omega);have cv:∀ bT,iA bT (fl [111,119,101,115] [o])=JB bT [o]:=tC (k:=1) (m:=false) (j:=5) (by decide) (by decide) (by simp) (by simp;omega);have ec:∀ bT,iA bT (fl [104,101,108,100] [t])=JC bT [t]:=tC (k:=1) (m:=false) (j:=6) (by decide) (by decide) (by simp) (by simp;omega);have gV:∀ bT,iA bT (fl [119,104,101,114,101] [f,t])=JD bT [f,t]:=tC (k:=2) (m:=false) (j:=7) (by decide) (by decide) (by simp) (by simp;omega);have j7:∀ bT,iA bT (fl [109,105,115,115,105,110,103] [t])=JE bT [t]:=tC (k:=1) (m:=false) (j:=8) (by decide) (by decide) (by simp) (by simp;omega);have so:∀ bT,iA bT (fl [102,105,116,115] [w,j,b])=JF bT [w,j,b]:=tC (k:=3) (m:=false) (j:=10) (by decide) (by decide) (by simp) (by simp;omega);have mj:∀ bT,iA bT (fl [99,97,110] [c])=JG bT [c]:=tC (k:=1) (m:=false) (j:=16) (by decide) (by decide) (by simp) (by simp;omega);have j5:∀ bT,iA bT [109,111,115,116]=JH bT []:=tC (w:=[109,111,115,116]) (l:=[]) (k:=0) (m:=false) (j:=18) (by decide) (by decide) (by simp) (by simp);have bE:∀ bT,iA bT [101,120,116,114,97]=JI bT []:=tC (w:=[101,120,116,114,97]) (l:=[]) (k:=0) (m:=false) (j:=19) (by decide) (by decide) (by simp) (by simp);have g1:(fl [108,97,115,116,115] [n]).length<=10000:=Nat.le_trans (vd (n:=10) (by simp;omega) (by decide)) (by simp);have eh:(fl [102,101,101] [n]).length<=10000:=Nat.le_trans (vd (n:=10) (by simp;omega) (by decide)) (by simp);have g3:(fl [111,119,101,115] [o]).length<=10000:=Nat.le_trans (vd (n:=10) (by simp;omega) (by decide)) (by simp);have g4:(fl [104,101,108,100] [t]).length<=10000:=Nat.le_trans (vd (n:=10) (by simp;omega) (by decide)) (by simp);have g5:(fl [119,104,101,114,101] [f,t]).length<=10000:=Nat.le_trans (vd (n:=10) (by simp;omega) (by decide)) (by simp);have g6:(fl [109,105,115,115,105,110,103] [t]).length<=10000:=Nat.le_trans (vd (n:=10) (by simp;omega) (by decide)) (by simp);have g7:(fl [102,105,116,115] [w,j,b]).length<=10000:=Nat.le_trans (vd (n:=10) (by simp;omega) (by decide)) (by simp);have g8:(fl [99,97,110] [c]).length<=10000:=Nat.le_trans (vd (n:=10) (by simp;omega) (by decide)) (by simp);generalize fl [108,97,115,116,115] [n]=abj at *
  generalize fl [102,101,101] [n]=abk at *
  generalize fl [111,119,101,115] [o]=abl at *
  generalize fl [104,101,108,100] [t]=abm at *
  generalize fl [119,104,101,114,101] [f,t]=abn at *
  generalize fl [109,105,115,115,105,110,103] [t]=abo at *
  generalize fl [102,105,116,115] [w,j,b]=abp at *
  generalize fl [99,97,110] [c]=abq at *
  have q:=ast aq (l:=l++[abj,abk,abl,abm,abn,abo,abp,abq,[109,111,115,116],[101,120,116,114,97]]) (by simp;omega) (λs aD=>by
   rw[List.mem_append]at aD;rcases aD with aD | aD
   ·exact ai s aD
   ·simp only[List.mem_cons,List.not_mem_nil,or_false]at aD;rcases aD with rfl | rfl | rfl | rfl | rfl | rfl | rfl | rfl | rfl | rfl<;>first | assumption | decide)
  rw[ark]at q;have iN:=ar6 kD ai;have hlen:=arl (jh d) l;generalize (h5 (jh d) l).1=a at *
  generalize (h5 (jh d) l).2=X at *
  have atE:h5 X [abj,abk,abl,abm,abn,abo,abp,abq,[109,111,115,116],[101,120,116,114,97]]=([ox (H.qX X.2 n),ox (H.qY X.2 n),ox (H.qZ X.2 o),ox (H.q0 X.2 t),BQ (H.nn X.2 f t),BR (H.np X.2 t),pe (mb X.1.1 w j b),gy (ou X.1 c).2 (ou X.1 c).1,gy (ph X.1 true).2 [(ph X.1 true).1],gy (qc X.1).2 [(qc X.1).1]],X):=by
   simp only[h5,ax,aO,cv,ec,gV,j7,so,mj,j5,bE];rfl
  rw[atE]at q;have hw:=bF (n:=(l.length:Int)+10) (by omega) (by omega);simp only[df,dJ,mX,r4,cY,fa,gw,h0,A.e4,A.hQ,A.bn,List.nil_append,q,atc iN,A.kn,A.aF];rw[A.bt (fs (by simp only[gY];omega)),A.bt (fs (by simp only[gY];omega)),if_neg (by simp[hlen,cn,gY,hw])];have ke:H.yy.sh (X.2,n)=A.pure (H.qX X.2 n):=A.bO iN.fD _;have z2:H.yz.sh (X.2,n)=A.pure (H.qY X.2 n):=A.bO iN.fD _;have z3:H.yA.sh (X.2,o)=A.pure (H.qZ X.2 o):=A.bO iN.fD _;have z4:H.yB.sh (X.2,t)=A.pure (H.q0 X.2 t):=A.bO iN.fD _;have z5:H.yC.sh (X.2,f,t)=A.pure (H.nn X.2 f t):=A.bO iN.fD _;have iS:H.yD.sh (X.2,t)=A.pure (H.np X.2 t):=A.bO iN.fD _;have atF:u1.sh (X.1.1,w,j,b)=A.pure (mb X.1.1 w j b):=A.bO iN.gp.1 _;have atG:y3.sh (X.1,c)=A.pure (ou X.1 c):=A.bO iN.gp _;have z9:y1.sh X.1=A.pure (ph X.1 true):=A.bO iN.gp _;have z0:y2.sh X.1=A.pure (qc X.1):=A.bO iN.gp _;have dr:=atq iN n;have eb:=atr iN n;have lH:=att iN o;have qj:=atu iN t;have w3:=atA X.2 f t;have atH:=atB X.2 f t;have atI:=aap (c:=X.2) (u:=f) (t:=t);have aza:=aao X.2 f t;obtain⟨atJ,atK⟩:=atz X.2 t;obtain⟨azb,azc⟩:=aaq X.2 t;have Ka:0<=(mb X.1.1 w j b).1/\(mb X.1.1 w j b).1<4:=by
   have:=aar X.1.1 w j b;unfold mb;grind
  have atL:=aty X.1 c;have azd:=aas iN.val c;have iU:=iN.val.Fc;have atM:=atv iN;have b0:=atx iN;simp only[ke,z2,z3,z4,z5,iS,atF,atG,z9,z0,A.aF];have lZ:ox (H.qX X.2 n)=gy (H.qX X.2 n).2 [(H.qX X.2 n).1.1,(H.qX X.2 n).1.2]:=rfl;have pL:ox (H.qY X.2 n)=gy (H.qY X.2 n).2 [(H.qY X.2 n).1.1,(H.qY X.2 n).1.2]:=rfl;have atN:ox (H.qZ X.2 o)=gy (H.qZ X.2 o).2 [(H.qZ X.2 o).1.1,(H.qZ X.2 o).1.2]:=rfl;have atO:ox (H.q0 X.2 t)=gy (H.q0 X.2 t).2 [(H.q0 X.2 t).1.1,(H.q0 X.2 t).1.2]:=rfl;have atP:=atC w3 atH atI;rw[lZ,pL,atN,atO,<-atP];generalize H.qX X.2 n=rn at *
  generalize H.qY X.2 n=SE at *
  generalize H.qZ X.2 o=atQ at *
  generalize H.q0 X.2 t=atS at *
  generalize H.nn X.2 f t=Kb at *
  generalize H.np X.2 t=kt at *
  generalize mb X.1.1 w j b=tE at *
  generalize ou X.1 c=Kc at *
  generalize ph X.1 true=Kd at *
  generalize qc X.1=Ke at *
  rw[if_neg (by
   simp only[Bool.or_eq_true,decide_eq_true_eq,not_or,gt_iff_lt,Int.not_lt,QW];omega)]
  have s0:∀ e,oB.sh ([],e)=A.pure (gy e []):=λe=>B0 (by simp) (λn au=>by cases au) e;have oA:oB.sh (Kb.1,Kb.2)=A.pure (r' Kb.1 Kb.2):=QU ⟨by omega,λn au=>by have:=w3 n au;omega⟩ _;have q_:∀ e,oB.sh (kt.1,e)=A.pure (gy e kt.1):=λe=>B0 (by omega) (λn au=>by have:=atJ n au;omega) e;have atT:∀ e,oB.sh (kt.2.1,e)=A.pure (gy e kt.2.1):=λe=>B0 (by omega) (λn au=>by have:=atK n au;omega) e;have Kf:oB.sh (Kc.1,Kc.2)=A.pure (gy Kc.2 Kc.1):=B0 (by omega) (λn au=>by have:=atL n au;omega) _;have Kg:oB.sh ([Kd.1],Kd.2)=A.pure (gy Kd.2 [Kd.1]):=B0 (by simp) (λn au=>by rw[List.mem_singleton.1 au];exact atM) _;have Kh:oB.sh ([Ke.1],Ke.2)=A.pure (gy Ke.2 [Ke.1]):=B0 (by simp) (λn au=>by rw[List.mem_singleton.1 au];exact b0) _;have aQ:=wq dr rn.2;have aV:=wq eb SE.2;have bK:=wq lH atQ.2;have fz:=wq qj atS.2;have Ki:∀ aJ:List aK,List.drop (Int.toNat (Int.ofNat l.length)) (List.take (Int.toNat (Int.ofNat (a++aJ).length)) (a++aJ))=aJ:=λaJ=>by
   simp only[bW,Int.toNat_natCast,List.take_length];rw[<-hlen,List.drop_left]
  have hW:∀ aJ:List aK,((0:Int)<=Int.ofNat l.length/\Int.ofNat l.length<=Int.ofNat (a++aJ).length/\Int.ofNat (a++aJ).length<=Int.ofNat (a++aJ).length)=True:=λaJ=>eq_true (by simp[hlen];omega);simp only[s0,A.aF];by_cases m6:kt.2.2=0
  ·rw[if_pos (decide_eq_true m6)];have ey:=Ft kt.1;have pn:=Ft kt.2.1;have fX:gy kt.2.2 kt.1=mi kt.1:=if_pos m6;have atU:gy kt.2.2 kt.2.1=mi kt.2.1:=if_pos m6;have atV:oB.sh kt.2=A.pure (gy kt.2.2 kt.2.1):=atT kt.2.2;have am:BR kt=mi kt.1++[32,47,32]++mi kt.2.1:=if_neg (by simpa using m6);rw[q_,A.aF,atV,fX,atU,A.aF,A.bt (fs (by simp only[gY];omega)),A.bt (fs (by simp only[gY,List.length_append,List.length_cons,List.length_nil];omega)),A.aF,A.b2];simp only[];by_cases m7:tE.2=0
   ·rw[if_pos (decide_eq_true m7),A.bt ⟨Ka.1,Ka.2⟩,A.aF,A.b2];have zh:pe tE=List.getD [[],[115,117,114,101,108,121],[110,101,118,101,114],[112,101,114,104,97,112,115]] tE.1.toNat []:=if_neg (by simpa using m7);simp only[aQ,aV,bK,fz,oA,Kf,Kg,Kh,A.hQ,A.e4,A.bn,Ki,hW,am,zh];rw[Fx (by simp),A.aF];simp[A.kn]
   ·rw[if_neg (by simpa using m7),A.aF,A.b2];have zh:pe tE=gy tE.2 []:=if_pos m7;simp only[aQ,aV,bK,fz,oA,Kf,Kg,Kh,A.hQ,A.e4,A.bn,Ki,hW,am,zh];rw[Fx (by simp),A.aF];simp[A.kn]
  ·rw[if_neg (by simpa using m6),A.aF,A.b2];have am:BR kt=gy kt.2.2 []:=if_pos m6;simp only[];by_cases m7:tE.2=0
   ·rw[if_pos (decide_eq_true m7),A.bt ⟨Ka.1,Ka.2⟩,A.aF,A.b2];have zh:pe tE=List.getD [[],[115,117,114,101,108,121],[110,101,118,101,114],[112,101,114,104,97,112,115]] tE.1.toNat []:=if_neg (by simpa using m7);simp only[aQ,aV,bK,fz,oA,Kf,Kg,Kh,A.hQ,A.e4,A.bn,Ki,hW,am,zh];rw[Fx (by simp),A.aF];simp[A.kn]
   ·rw[if_neg (by simpa using m7),A.aF,A.b2];have zh:pe tE=gy tE.2 []:=if_pos m7;simp only[aQ,aV,bK,fz,oA,Kf,Kg,Kh,A.hQ,A.e4,A.bn,Ki,hW,am,zh];rw[Fx (by simp),A.aF];simp[A.kn]
 ·rw[if_pos (by
   by_cases M:(!tB d l&&decide (jj d=0)&&decide ((l.length:Int)<=28))=true
   ·rw[M];refine Classical.byContradiction λal=>hc ⟨M,?_⟩;simp only[Bool.not_true,Bool.false_or,Bool.or_eq_true,decide_eq_true_eq,not_or,gt_iff_lt,Int.not_lt,QW,abi]at al;omega
   ·rw[Bool.not_eq_true]at M;rw[M];rfl),A.aF]
end Go.Fer.aw
namespace Go.Fer.oE
open Go.Proofs Go.Proofs.Tryz
open A (V)
set_option maxRecDepth 100000
noncomputable section
abbrev L:cA:=.eM
abbrev S(a b:cA):cA:=.seq a b
abbrev bT:cA:=S L L
abbrev C(a b:cA):cA:=.cond a b
abbrev B(a:cA):cA:=.block a
abbrev J(s:List (Nat×bX))(b:List (Nat×b5))(x y:cA):cA:=.join ⟨s,b⟩ x y
abbrev aw(s:List (Nat×bX))(b:List (Nat×b5))(x:cA):cA:=.loop ⟨s,b⟩ x
abbrev cg(s:List (Nat×bX))(b:List (Nat×b5))(t:List (Nat×bX))(c:List (Nat×b5))(u:List (Nat×bX))(d:List (Nat×b5))(x y:cA):cA:=.range ⟨s,b⟩ ⟨t,c⟩ ⟨u,d⟩ x y
abbrev v2:bX:=.val t2
abbrev a2:b5:=.bg t2
abbrev v4:bX:=.val t4
abbrev v9:bX:=.val t9
abbrev a9:b5:=.bg t9
abbrev v22:bX:=.val t22
abbrev sa:bX:=.val D6
abbrev tF:bX:=.val HU
abbrev atW:b5:=.f_ uF
abbrev dS:bX:=.val eW
abbrev FC:b5:=.bg eW
abbrev v28:bX:=.val t28
abbrev B1:bX:=.val HV
abbrev qh:bX:=.val AP
abbrev FD:b5:=.f_ t32
abbrev nM:bX:=.val qO
abbrev qi:bX:=.val ob
abbrev abr:b5:=.f_ NN
abbrev abt:b5:=.f_ tJ
abbrev FE:b5:=.f_ w5
abbrev QX:b5:=.bg AO
abbrev oC:bX:=.val FM
abbrev Kj:b5:=.bg ya
abbrev sb:b5:=.f_ ya
abbrev atX:b5:=.bg vS
abbrev B2:b5:=.bg rR
abbrev atY:b5:=.f_ rR
abbrev atZ:b5:=.bg yc
abbrev abu:b5:=.f_ yc
abbrev at0:bX:=.val NP
abbrev FF:b5:=.f_ qP
abbrev abv:bX:=.val U8
abbrev B3:bX:=.val D7
abbrev abw:bX:=.val jc
abbrev w1:b5:=.bg jc
abbrev QY:bX:=.val vT
abbrev abx:bX:=.val U9
abbrev aby:bX:=.val pR
abbrev FG:b5:=.bg pR
abbrev at1:bX:=.val U_
abbrev abz:bX:=.val NR
abbrev abA:bX:=.val NS
abbrev gT:b5:=.bg qQ
abbrev zi:b5:=.f_ qQ
abbrev QZ:bX:=.val NT
abbrev kQ:bX:=.val o0
abbrev at2:bX:=.val Ve
abbrev abB:b5:=.f_ NO
abbrev Q0:b5:=.bg AM
abbrev abC:b5:=.f_ AM
abbrev at3:bX:=.val HT
abbrev abD:b5:=.bg yb
abbrev at4:b5:=.bg AN
abbrev abE:b5:=.f_ AN
abbrev at5:bX:=.val Vf
abbrev Q1:bX:=.val NV
abbrev v228:bX:=.val t228
abbrev at6:bX:=.val Vi
abbrev at7:bX:=.val Vj
abbrev aua:bX:=.val Vk
abbrev B4:bX:=.val Vl
abbrev aub:bX:=.val Vm
abbrev auc:bX:=.val Vn
abbrev Kk:bX:=.val D9
abbrev nB:List (Nat×bX):=[(6,.bc 17 0),(56,.hH [30000,30001,30002,30003,30004,30005,30006,30007,30008,30009]),(57,v2)]
abbrev nN:List (Nat×bX):=[(1,.bc 1 0)]
abbrev abF:List (Nat×bX):=[(1,.bc 1 0),(2,.bc 2 0),(3,.bc 1 0),(38,v2),(39,v2)]
abbrev abG:List (Nat×bX):=[(2,.bc 2 0),(7,.bc 22 0),(8,.bc 8 0),(9,.bc 9 0),(10,.own 10),(11,.bc 11 0),(24,v22),(25,v2),(26,v2)]
abbrev abH:List (Nat×bX):=[(2,.bc 2 0),(3,.bc 3 0),(4,.own 4),(5,.own 5),(7,QY),(8,v2),(9,v2),(23,v2),(29,QZ),(30,v2),(31,v2)]
abbrev tG:List (Nat×bX):=[(1,.bc 1 0),(3,v2)]
abbrev abI:List (Nat×bX):=[(2,.bc 2 0),(7,.bc 30 0),(10,v2),(11,v2),(46,v2),(47,v2),(52,sa),(53,v2),(54,v2),(61,v2),(62,v2)]
abbrev aud:List (Nat×bX):=[(1,.bc 1 0),(2,.bc 2 0),(3,.bc 1 0),(5,.iW 22),(38,v2),(39,v2),(60,v2),(61,v2)]
abbrev abJ:List (Nat×bX):=[(0,kQ),(1,dS),(2,v2),(3,.hg),(9,v2),(29,v28),(30,v2),(31,v2),(1000000,.aW eW)]
abbrev abK:List (Nat×bX):=[(0,kQ),(1,.own 200001),(2,qh),(3,v2),(4,.fG 100002),(16,nM),(17,v2),(18,v2)]
abbrev Q2:List (Nat×bX):=[(1,.bc 1 0),(2,.bc 2 0)]
abbrev abL:List (Nat×bX):=[(2,.bc 2 0),(3,.bc 3 0),(4,.own 4),(5,.own 5),(7,QY),(8,v2),(9,v2),(23,v2)]
abbrev abM:List (Nat×bX):=[(2,.bc 2 0),(7,.bc 30 0),(10,v2),(46,v2),(47,v2),(52,sa),(53,v2),(54,v2)]
abbrev abN:List (Nat×bX):=[(0,.hg),(2,.dU vT),(10,abA),(11,v2),(1000000,.aW (.az jc t2))]
abbrev abO:List (Nat×bX):=[(2,v2),(6,.bc 6 0),(8,.bc 8 0),(9,v4),(17,abz),(18,v2),(19,v2)]
abbrev abP:List (Nat×bX):=[(4,.bc 4 0),(5,.bc 5 0),(10,.fG 24),(28,QZ),(29,v2),(30,v2)]
abbrev abQ:List (Nat×bX):=[(2,.bc 2 0),(3,.bc 3 0),(4,.own 4),(5,.own 5),(7,QY),(23,v2)]
abbrev B5:List (Nat×bX):=[(1,.bc 1 0),(5,v2)]
abbrev abR:List (Nat×bX):=[(0,abv),(1,v2),(2,v2),(3,v2),(9,v2),(18,dS),(19,v2),(20,v2)]
abbrev abS:List (Nat×bX):=[(1,v2),(6,kQ),(8,.own 8),(9,.own 50260),(29,v2),(30,v2)]
abbrev abT:List (Nat×bX):=[(1,oC),(2,.bc 2 0),(5,v2),(6,v2),(7,v2),(8,v2),(10,v2)]
abbrev Kl:List (Nat×bX):=[(1,.bc 1 0),(3,v2),(4,v2)]
abbrev abU:List (Nat×bX):=[(1,at1),(4,.bc 4 0),(5,v4),(13,QZ),(14,v2),(15,v2)]
abbrev abV:List (Nat×bX):=[(0,kQ),(1,qh),(5,.own 50140),(6,v2),(16,v2),(17,v2)]
abbrev jD:List (Nat×b5):=[(17,.cells D8 [dS,.own 30000,.own 30001,.own 30002,.own 30003,.own 30004,.own 30005,.own 30006,.own 30007,.own 30008,.own 30009]),(30000,gT),(30001,gT),(30002,gT),(30003,gT),(30004,gT),(30005,gT),(30006,gT),(30007,gT),(30008,gT),(30009,gT),(100000,.cells rS [nM,qi,dS,nM,v2,v2,v2,v2,v2,v2,v2,qi,.own 100002]),(100002,FG)]
abbrev tH:List (Nat×b5):=[(12,zi),(17,.cells D8 [dS,.own 30000,.own 30001,.own 30002,.own 30003,.own 30004,.own 30005,.own 30006,.own 30007,.own 30008,.own 30009]),(30000,gT),(30001,gT),(30002,gT),(30003,gT),(30004,gT),(30005,gT),(30006,gT),(30007,gT),(30008,gT),(30009,gT),(100000,.cells rS [nM,qi,dS,nM,v2,v2,v2,v2,v2,v2,v2,qi,.own 100002]),(100002,FG)]
abbrev Km:List (Nat×b5):=[(1,.cells t32 [.own 17,.own 22,v2,.own 27,.own 84,.own 87,.own 90,.own 93,v2]),(2,.cells t32 [.dm,.dm,v2,.dm,.dm,.dm,.dm,.dm,v2]),(17,Q0),(22,abD),(27,QX),(84,a2),(87,atZ),(90,atX),(93,B2)]
abbrev abW:List (Nat×b5):=[(1,.cells t32 [.own 17,.own 22,v2,.own 27,dS,v28,B1,qh,v2]),(2,.cells t32 [.dm,.dm,v2,.dm,.dm,.dm,.dm,.dm,v2]),(17,Q0),(22,.gi yb (.own 50530)),(27,QX),(50530,at4)]
abbrev w2:List (Nat×b5):=[(2,FD),(28,.mp rR t2),(30,.cells t222 [v22,sa,v2,tF,dS,v28,B1,qh,v2,.dm,.fG 28])]
abbrev abX:List (Nat×b5):=[(1,.cells t32 [.own 17,.own 22,v2,.own 27,dS,v28,B1,qh,v2]),(2,.cells t32 [.dm,.dm,v2,.dm,.dm,.dm,.dm,.dm,v2]),(17,Q0),(22,abD),(27,QX)]
abbrev abY:List (Nat×b5):=[(4,a9),(5,.cells w5 [.dm,.dm,v2,.dm,.dm,.dm,.dm,.dm,v2,.dm,.dm,.dm,.dm,v2,v2,v2,v2,v2,v2,v2]),(50230,FF)]
abbrev B6:List (Nat×b5):=[(2,abt),(3,.gL t2),(4,a2),(5,a2)]
abbrev abZ:List (Nat×b5):=[(2,FD),(28,.mp rR t2),(30,.cells t222 [v22,sa,v2,tF,dS,v28,B1,qh,v2,.own 109,.fG 28]),(109,Kj)]
abbrev ab0:List (Nat×b5):=[(28,.mp rR t2),(30,.cells t222 [v22,sa,v2,tF,dS,v28,B1,qh,v2,.own 109,.fG 28]),(109,Kj)]
abbrev ab1:List (Nat×b5):=[(100000,.cells rS [nM,qi,dS,nM,v2,v2,v2,v2,v2,v2,v2,qi,.own 100002]),(100002,FG)]
abbrev nO:List (Nat×b5):=[(1,atW)]
abbrev oD:List (Nat×b5):=[(1,abt)]
abbrev ab2:List (Nat×b5):=[(2,.gL uF),(22,.cells yd [v22,sa,v2,tF,.own 61]),(61,FC)]
abbrev ra:List (Nat×b5):=[(1,FD)]
abbrev Q3:List (Nat×b5):=[(100002,.mp t2 t2),(200001,a2)]
abbrev bE:cA:=S L (C bT L)
abbrev ef:cA:=C L L
abbrev ax:cA:=S L ef
abbrev aO:cA:=S L bT
abbrev mO:cA:=S L bE
abbrev cv:cA:=S L (S ef (S (B mO) L))
abbrev ec:cA:=S L (S ef (S (B bT) L))
abbrev gV:cA:=S L (S L (S L (J Q2 abX (S L (B (aw abF abX (S L (S ef (J abF abW (B (S L (S L (S (.nZ 5 L) (S L (B (aw aud abW ec))))))) (.GZ 22 L))))))) (S L (J Q2 Km (S L (B (aw [(1,.bc 1 0),(2,.bc 2 0),(100,v2),(101,v2)] Km ec))) (J Q2 Km (S L (B (aw [(1,.bc 1 0),(2,.bc 2 0),(119,v2),(120,v2)] Km ec))) bT))))))
abbrev j7:cA:=S L (J [(0,dS),(1,v2)] [] ax (S L (J [(0,dS),(6,v228)] [] ax (S L (S L (J [(7,.own 30)] [(30,a2)] (B (aw [(7,.own 30),(8,v2)] [(30,a2)] (S ax (B L)))) bT))))))
abbrev so:cA:=S L (S L (J [(4,.fG 12)] [(12,.mp t2 jc)] (S L (B (aw [(4,.fG 12),(13,qi),(14,v2),(15,v2)] [(12,.mp t2 jc)] (S L (S ef (S (B (S L (S mO L))) L)))))) (S L (J [(9,.own 9)] [(9,w1)] (S L (B (aw [(4,.fG 12),(9,.own 9),(39,dS),(40,v2),(41,v2)] [(9,w1),(12,.jk t2 jc)] ec))) bT))))
abbrev mj:cA:=S ax (S (B bE) L)
abbrev j5:cA:=S L (S bE bT)
abbrev B7:cA:=S L (S L (S bE aO))
abbrev FH:cA:=S ax (S (B mO) L)
abbrev zj:cA:=B (S L (S L ax))
abbrev tI:cA:=S L aO
abbrev ve:cA:=S L tI
abbrev B8:cA:=S ax (S (B L) L)
abbrev Q4:cA:=S (S L (B (S L (C bT bE)))) bT
abbrev ab3:cA:=S L (J [] [] (S L (B (aw [(0,dS),(3,v2)] [] mj))) bT)
abbrev zk:cA:=B (S L ax)
abbrev ab4:cA:=S L (B (aw [(0,dS),(1,v2),(5,v2)] [] mj))
abbrev ab5:cA:=S L (B (aw [(1,.bc 1 0),(4,v2)] ra mj))
abbrev lf:=cJ.mk ⟨[(0,.bc 100000 0),(1,.val eW)],[(100000,.f_ qP)]⟩ ⟨[(0,.val t9)],[(100000,.f_ qP)]⟩ [none] 2
def aue:=mk atb func208 cp aO aoa
def auf:=mk aue func148 H.cp aO H.alk
def aug:=mk auf func147 H.v_ aO H.alp
def auh:=mk aug func149 H.v' j5 H.alr
def aui:=mk auh func67 H.wb (S L (S bE (J nN oD (S L (B (aw tG oD mj))) (J nN oD (S L (B (aw [(1,.bc 1 0),(4,v2)] oD mj))) (J nN oD (S L (B (aw B5 oD mj))) (J [] [] (S L (B (aw [(1,.bc 1 0),(6,v2)] oD FH))) bT)))))) H.alY
def auj:=mk aui func68 H.Il aO H.alw
def auk:=mk auj func26 H.h2 (S L (S bE (J [] [] (S L (B (aw tG oD (S ax (J tG oD (B (S L (B (aw Kl oD mj)))) L))))) bT))) H.al0
def aul:=mk auk func251 pa aO aof
def aum:=mk aul func316 uX ab3 aog
def aun:=mk aum func252 tm (S L (J nN [(1,abE)] (S L (B (aw tG [(1,abE)] mj))) bT)) aoi
def auo:=mk aun func253 p4 aO aob
def aup:=mk auo func317 Bv aO aod
def auq:=mk aup func254 r1 aO aoe
def aur:=mk auq func179 tn (S L (S bE (J nN nO (S L (B (aw tG nO FH))) (J nN nO (S L (B (aw B5 nO (S ax (J B5 nO (B (S bE (S L (B (aw [(1,.bc 1 0),(5,v2),(6,v2)] nO mj))))) L))))) (J [] [] (S L (B (aw [(1,.bc 1 0),(7,v2)] nO FH))) bT))))) aok
def aus:=mk aur func104 h2 (S L (S bE (J [] [] (S L (B (aw tG nO (S ax (J tG nO (B (S L (B (aw Kl nO FH)))) L))))) bT))) aom
def aut:=mk aus func105 cp aO apd
def auu:=mk aut func180 IY (S L (J [] [] ab4 bT)) aph
def auv:=mk auu func106 I0 j5 aps
def auw:=mk auv func107 I1 aO apt
def auy:=mk auw func48 p_ (S L (S mO (S bE (J nN ra ab5 (J nN ra (S L (B (aw B5 ra mj))) (J nN ra (S L (B (aw [(1,.bc 1 0),(6,v2)] ra mj))) (J [] [] (S L (B (aw [(1,.bc 1 0),(7,v2)] ra FH))) bT))))))) apu
def yl:=mk auy func15 aw.pj j5 aw.ar'
def auz:=mk yl func276 (k5 j0) (S L (J [] [] (S L (B (aw [(0,tF),(1,at5),(7,v2),(8,v2)] [] cv))) bT)) (s7 j0)
def auA:=mk auz func206 (je j0) aO (s8 j0)
def auB:=jU auA [] func207 (wF j0) 1 aO (E3 j0)
def auC:=l4 auB [(207,1)] func144 (jB j0) aO (E4 j0)
def auD:=mk auC func145 cp aO aov
def auE:=mk auD func266 yP aO aox
def auF:=mk auE func267 pa aO aow
def auG:=mk auF func265 IP aO aoE
def auH:=mk auG func292 (k5 bq) (S L (J [] [] (S L (B (aw [(0,dS),(1,abx),(7,v2),(8,v2)] [] cv))) bT)) (s7 bq)
def auI:=mk auH func227 (je bq) aO (s8 bq)
def auJ:=jU auI [] func331 (wF bq) 1 aO (E3 bq)
def auK:=l4 auJ [(331,1)] func269 (jB bq) aO (E4 bq)
def auL:=mk auK func270 uX ab3 aoA
def auM:=l4 auL [] func268 tm aO aoF
def auN:=mk auM func372 (k5 q1) (S L (J [] [] (S L (B (aw [(0,at3),(1,aua),(7,v2),(8,v2)] [] cv))) bT)) (s7 q1)
def auO:=mk auN func332 (je q1) aO (s8 q1)
def auP:=jU auO [] func333 (wF q1) 1 aO (E3 q1)
def auQ:=l4 auP [(333,1)] func272 (jB q1) aO (E4 q1)
def auR:=jU auQ [] func271 By 1 aO aoG
def auS:=mk auR func64 p4 aO aoy
def auT:=mk auS func65 r1 aO aoz
def auU:=jU auT [] func273 Bz 1 aO aoH
def auV:=mk auU func373 (k5 kO) (S L (J [] [] (S L (B (aw [(0,v22),(1,aub),(7,v2),(8,v2)] [] cv))) bT)) (s7 kO)
def auW:=mk auV func334 (je kO) aO (s8 kO)
def auX:=jU auW [] func335 (wF kO) 1 aO (E3 kO)
def auY:=l4 auX [(335,1)] func274 (jB kO) aO (E4 kO)
def auZ:=mk auY func374 (k5 k8) (S L (J [] [] (S L (B (aw [(0,sa),(1,auc),(7,v2),(8,v2)] [] cv))) bT)) (s7 k8)
def au0:=mk auZ func336 (je k8) aO (s8 k8)
def au1:=jU au0 [] func337 (wF k8) 1 aO (E3 k8)
def au2:=l4 au1 [(337,1)] func275 (jB k8) aO (E4 k8)
def au3:=l4 au2 [(271,1),(273,1)] func205 tn (S L (S L ve)) aoI
def au4:=mk au3 func141 h2 (S L (S bE (S L (J [] [] (S L (B (aw [(3,.fG 12),(14,tF),(15,v2),(16,v2)] [(12,.mp rR t2)] (S L (S ef (S (B (S L (S L (S mO L)))) L)))))) bT)))) aoM
def au5:=mk au4 func164 cp aO apc
def au6:=mk au5 func220 r5 aO ape
def au7:=mk au6 func221 IX (S L (J [] [] (S L (B (aw [(0,dS),(1,abx),(7,dS),(8,v2),(9,v2)] [] cv))) bT)) apg
def au8:=jU au7 [] func222 E8 1 aO apk (hc:=λx h=>by obtain⟨w,p,ar,_⟩:=h;exact sW ⟨⟨trivial,rT (congrArg (λo=>o.1) ar)⟩,rT (congrArg (λo=>o.2) ar)⟩)
def au9:=jU au8 [(222,1)] func219 E9 1 aO apl (hc:=λx h=>by obtain⟨_,w,ar,_⟩:=h;exact sW ⟨trivial,rT ar⟩)
def au_:=mk au9 func224 r5 aO apf
def au':=l4 au_ [] func223 E_ aO apm
def ava:=jU au' [] func225 E' 1 aO apn (hc:=λx h=>by obtain⟨w,ar,_⟩:=h;exact sW ⟨trivial,rT ar⟩)
def avb:=mk ava func226 Fa aO apo
def avc:=mk avb func293 (k5 nx) (S L (J [] [] (S L (B (aw [(0,v28),(1,at6),(7,v2),(8,v2)] [] cv))) bT)) (s7 nx)
def avd:=mk avc func228 (je nx) aO (s8 nx)
def ave:=mk avd func294 (k5 mM) (S L (J [] [] (S L (B (aw [(0,B1),(1,at2),(7,v2),(8,v2)] [] cv))) bT)) (s7 mM)
def avf:=mk ave func229 (je mM) aO (s8 mM)
def avg:=mk avf func295 (k5 p8) (S L (J [] [] (S L (B (aw [(0,qh),(1,at7),(7,v2),(8,v2)] [] cv))) bT)) (s7 p8)
def avh:=mk avg func230 (je p8) aO (s8 p8)
def avi:=l4 avh [(219,1),(225,1)] func171 PS (S L (S L (S L ve))) apq
def Q5:=mk avi func100 p_ (S L (S mO (S bE bT))) apr
def ab6:cJ:=⟨⟨[(0,.dm),(1,.val NU)],[]⟩,⟨[(0,.own 50000)],[(50000,.bg t2)]⟩,[none],2,H.A4⟩
theorem avj:cQ Tryz.prog dB 213 ab6:=dY Q5 [] trivial func213 (S L (S (S L (B (cg [(2,.bc 2 0)] [(2,.cells eW [.own 50000]),(50000,a2)] [(2,.bc 100002 0),(7,v2)] [(100002,.cells eW [.own 150000]),(150000,a2)] [] [(100002,.cells eW [.own 150000]),(150000,a2)] L (B L)))) bT)) H.alS
def ab7:cJ:=⟨⟨[(0,.val NU)],[]⟩,⟨[(0,.own 50040)],[(50040,.bg t2)]⟩,[none],1,H.A4⟩
theorem avk:cQ Tryz.prog dB 160 ab7:=dY Q5 [(213,.e9 ab6)] ⟨avj,trivial⟩ func160 aO H.alT
def Q6:=pV Q5 mG [(160,.e9 ab7),(161,.e9 QQ)] ⟨avk,aa6,trivial⟩ func86 H.s9 ve H.alU
def ab8:cJ:=⟨⟨[(0,.hg),(1,.dU HX),(1000000,.aW t2)],[]⟩,⟨[(1000000,.aW t2)],[]⟩,[],2,H.ON⟩
theorem avl:cQ Tryz.prog dB 277 ab8:=dY (S:=H.ON) Q6 [] trivial func277 (S L (B (aw [(0,.hg),(5,.j8 5),(1000000,.aW t2)] [(5,.cq t2 jc)] (S L (S ef zk))))) (λx=>A.le_refl _)
theorem avm:xa Tryz.prog 277 ⟨[HX],t2,H.jX⟩:=NJ (c:=ab8) avl mG (λx l L=>(l,x.getD [],(l,L,[],false),())) rfl (by decide) (by simp[gh])
 (λx l L i ah=>by
  obtain⟨T,aU⟩:=ah;obtain⟨m,hm,_⟩:=aU;subst hm;by_cases aT:i=0
  ·subst aT;exact .inr (.inr (.inl ⟨rfl,rfl⟩))
  ·by_cases E:i=1
   ·subst E;exact .inr (.inl ⟨by decide,by decide,_,_,rfl,rfl⟩)
   by_cases U:i=b4
   ·subst U;exact .inr (.inr (.inr ⟨rfl,rfl⟩))
   ·refine .inl ?_;exact (if_neg aT).trans ((if_neg E).trans (if_neg U)))
 rfl (λbl=>⟨_,_,_,_,rfl⟩) (λx l ah=>by
  obtain⟨T,aU⟩:=ah;obtain⟨m,hm,_⟩:=aU;subst hm;have h:=H.amS l m;refine⟨h.1,λbl f' dE e3 p fj=>?_⟩;have e:aG.aW bl.1.1 t2 bl.1.2.1 bl.1.2.2.1 bl.1.2.2.2=.aW dE t2 e3 p false:=fj;injection e with ax aO cv ec gV
  rw[<-ec];exact h.2 bl f' gV)
def avn:=pV Q6 (Q6.u [] [(277,⟨[HX],t2,H.jX⟩)] ⟨avm,trivial⟩) [] trivial func210 H.yr aO H.alX
def avo:=mk avn func154 H.A' so H.al8
def avp:=mk avo func85 H.cp aO H.alm
def avq:=mk avp func209 (H.k5 H.hq) (S L (J [] [] (S L (B (aw [(0,qi),(1,Q1),(7,v2),(8,v2)] [] cv))) bT)) H.alx
def avr:=mk avq func151 (H.je H.hq) aO H.aly
def avt:=mk avr func231 H.v_ (S L (J nN [(1,abr)] (S L (B (aw [(1,.bc 1 0),(13,.own 13),(14,v2),(15,v2)] [(1,abr),(13,a2)] cv))) bT)) H.alq
def avu:=mk avt func76 H.v8 aO H.alo
def avv:=mk avu func233 H.v' tI H.als
def avw:=jU avv [] func232 H.Et 1 aO H.alu
def avx:=mk avw func234 H.A1 aO H.alv
def avy:=l4 avx [(232,1)] func172 H.wb (S L (S bE (J nN oD (S L (B (aw [(1,.bc 1 0),(38,nM),(39,v2),(40,v2)] oD cv))) (J nN oD (S L (B (aw [(1,.bc 1 0),(57,nM),(58,v2),(59,v2)] oD cv))) tI)))) H.alZ
def avz:=mk avy func101 H.h2 (S L (S bE (S mO bT))) H.al_
def avA:=mk avz func46 aw.pj j5 aw.ar2
def Q7:=pV avA mG [(256,.e9 aa8)] ⟨ata,trivial⟩ func184 H.Jr (S L (S L (J [(0,B4),(3,v2)] [] (S L (B (aw [(0,B4),(3,v2),(9,B4),(10,v2),(11,v2)] [] (S L (S ef (J [(0,B4),(3,v2),(9,B4),(10,v2),(11,v2)] [] zj L)))))) (S L (J [(6,.own 50240)] [(50240,w1)] (S L (B (aw [(6,.own 50240),(25,B4),(26,v2),(27,v2)] [(50240,w1)] ec))) bT))))) H.aq0
def ab9:cJ:=⟨⟨[(0,.val D7)],[]⟩,⟨[(0,.own 50240)],[(50240,.bg t3)]⟩,[none],1,H.Js⟩
theorem avB:cQ Tryz.prog dB 185 ab9:=dY Q7 [(257,.e9 aa7)] ⟨as',trivial⟩ func185 (S L (S L (J [(0,B3),(3,v2)] [] (S L (B (aw [(0,B3),(3,v2),(9,B3),(10,v2),(11,v2)] [] (S L (S ef (J [(0,B3),(3,v2),(9,B3),(10,v2),(11,v2)] [] zj L)))))) (S L (J [(6,.own 50240)] [(50240,a2)] (S L (B (aw [(6,.own 50240),(25,B3),(26,v2),(27,v2)] [(50240,a2)] ec))) bT))))) H.aq1
def ab_:cJ:=⟨⟨[(0,.own 200001)],[(200001,.bg t3)]⟩,⟨[(0,.sub 200001)],[(200001,.bg t3)]⟩,[none],1,H.Ju⟩
theorem avC:cQ Tryz.prog dB 186 ab_:=dY Q7 [] trivial func186 (S L (S bE (J [(0,.own 200001)] [(200001,a2)] (S L (B (aw [(0,.own 200001),(3,v2)] [(200001,a2)] (S ax (J [(0,.own 200001),(3,v2)] [(200001,a2)] (B (S L (C (S L (J [(0,.own 200001),(3,v2)] [(200001,a2)] (S L (B (aw [(0,.own 200001),(3,v2),(4,.sub 200001),(5,v2)] [(200001,a2)] (S ax (J [(0,.own 200001),(3,v2),(4,.sub 200001),(5,v2)] [(200001,a2)] (B bE) L))))) aO)) L))) L))))) bT))) H.aq7
def avD:=mk Q7 func187 H.Fm j5 H.ard
def vf:=pV avD mG [(161,.e9 QQ),(185,.e9 ab9),(186,.e9 ab_)] ⟨aa6,avB,avC,trivial⟩ func117 H.BO (S L (S mO (S L (S L (S mO (S L (S bE (S L B7)))))))) H.arf
def avE:cJ:=⟨⟨[(0,.val t22)],[]⟩,⟨[(0,.own 60)],[(60,.bg AM)]⟩,[none],1,aw.q9⟩
theorem avF:cQ Tryz.prog dB 188 avE:=dY vf [] trivial func188 j5 aw.wT
abbrev Q8:e2:=.kI (hI.kI (aw.fP kO).du)
theorem ab':e2.hC Tryz.prog dB 188 Q8:=zg (sh:=(aw.fP kO).sh) avF (λx h=>⟨h,λbl f'=>by have h:bl=_:=f';subst h;exact (A.gQ).symm⟩)
def avG:cJ:=⟨⟨[(0,.val D6)],[]⟩,⟨[(0,.own 60)],[(60,.bg yb)]⟩,[none],1,aw.q9⟩
theorem avH:cQ Tryz.prog dB 189 avG:=dY vf [] trivial func189 j5 aw.wT
abbrev Q9:e2:=.kI (hI.kI (aw.fP k8).du)
theorem aca:e2.hC Tryz.prog dB 189 Q9:=zg (sh:=(aw.fP k8).sh) avH (λx h=>⟨h,λbl f'=>by have h:bl=_:=f';subst h;exact (A.gQ).symm⟩)
def avI:cJ:=⟨⟨[(0,.val HU)],[]⟩,⟨[(0,.own 60)],[(60,.bg AO)]⟩,[none],1,aw.q9⟩
theorem avJ:cQ Tryz.prog dB 190 avI:=dY vf [] trivial func190 j5 aw.wT
abbrev Q_:e2:=.kI (hI.kI (aw.fP j0).du)
theorem acb:e2.hC Tryz.prog dB 190 Q_:=zg (sh:=(aw.fP j0).sh) avJ (λx h=>⟨h,λbl f'=>by have h:bl=_:=f';subst h;exact (A.gQ).symm⟩)
def Q':cJ:=⟨⟨[(0,.val HT)],[]⟩,⟨[(0,.own 60)],[(60,.bg AN)]⟩,[none],1,aw.q9⟩
theorem acd:cQ Tryz.prog dB 191 Q':=dY vf [] trivial func191 j5 aw.wT
def ace:cJ:=⟨⟨[(0,.val eW)],[]⟩,⟨[(0,.own 60)],[(60,.bg t3)]⟩,[none],1,aw.JM⟩
theorem acf:cQ Tryz.prog dB 192 ace:=dY vf [] trivial func192 j5 aw.arG
abbrev Ra:e2:=.kI (hI.kI H.o8.du)
theorem acg:e2.hC Tryz.prog dB 192 Ra:=zg (sh:=H.o8.sh) acf (λx h=>⟨h,λbl f'=>by have h:bl=_:=f';subst h;exact (A.gQ).symm⟩)
def avK:cJ:=⟨⟨[(0,.val t28)],[]⟩,⟨[(0,.own 60)],[(60,.bg yc)]⟩,[none],1,aw.q9⟩
theorem avL:cQ Tryz.prog dB 193 avK:=dY vf [] trivial func193 j5 aw.wT
abbrev Rb:e2:=.kI (hI.kI (aw.fP nx).du)
theorem ach:e2.hC Tryz.prog dB 193 Rb:=zg (sh:=(aw.fP nx).sh) avL (λx h=>⟨h,λbl f'=>by have h:bl=_:=f';subst h;exact (A.gQ).symm⟩)
def avM:cJ:=⟨⟨[(0,.val HV)],[]⟩,⟨[(0,.own 60)],[(60,.bg vS)]⟩,[none],1,aw.q9⟩
theorem avN:cQ Tryz.prog dB 194 avM:=dY vf [] trivial func194 j5 aw.wT
abbrev Kn:e2:=.kI (hI.kI (aw.fP mM).du)
theorem Rc:e2.hC Tryz.prog dB 194 Kn:=zg (sh:=(aw.fP mM).sh) avN (λx h=>⟨h,λbl f'=>by have h:bl=_:=f';subst h;exact (A.gQ).symm⟩)
def avO:cJ:=⟨⟨[(0,.val AP)],[]⟩,⟨[(0,.own 60)],[(60,.bg rR)]⟩,[none],1,aw.q9⟩
theorem avP:cQ Tryz.prog dB 195 avO:=dY vf [] trivial func195 j5 aw.wT
abbrev Re:e2:=.kI (hI.kI (aw.fP p8).du)
theorem aci:e2.hC Tryz.prog dB 195 Re:=zg (sh:=(aw.fP p8).sh) avP (λx h=>⟨h,λbl f'=>by have h:bl=_:=f';subst h;exact (A.gQ).symm⟩)
def acj:=pV vf mG [(188,Q8),(189,Q9),(190,Q_),(191,.e9 Q'),(192,Ra),(193,Rb),(194,Kn),(195,Re)] ⟨ab',aca,acb,acd,acg,ach,Rc,aci,trivial⟩ func118 aw.JP gV aw.arK
def ack:cJ:=⟨⟨[(0,.val w5)],[]⟩,⟨[(0,.bc 17 0)],[(17,.f_ qP)]⟩,[none],1,aw.uP⟩
theorem avQ:cQ Tryz.prog dB 57 ack:=dY acj [] trivial func57 tI aw.O'
def FI:=mk acj func58 aw.JV aO aw.arX
def Ko:cJ:=⟨⟨[(0,.bc 100000 0),(1,.val ob),(2,.val eW)],[(100000,.f_ qP)]⟩,⟨[(0,.val t9)],[(100000,.f_ qP)]⟩,[none],3,aw.BT⟩
theorem Rf:cQ Tryz.prog dB 196 Ko:=dY FI [] trivial func196 B7 aw.ars
def Rg:cJ:=lf (aw.fv 5 aw.Qs)
theorem avR:cQ Tryz.prog dB 119 Rg:=dY FI [(196,.e9 Ko)] ⟨Rf,trivial⟩ func119 aO aw.art
def avS:cJ:=lf (aw.fv 4 aw.Qt)
theorem avT:cQ Tryz.prog dB 120 avS:=dY FI [(196,.e9 Ko)] ⟨Rf,trivial⟩ func120 aO aw.aru
def avU:cJ:=lf (aw.fv 1 aw.Qu)
theorem avV:cQ Tryz.prog dB 121 avU:=dY FI [(196,.e9 Ko)] ⟨Rf,trivial⟩ func121 aO aw.Pa
def avW:=mk FI func339 H.Im aO H.alB
def avX:=mk avW func280 H.Io (S L (S L (S L (S (S L (C (S bE bT) L)) (S bE (S bE (S bE bT))))))) H.alC
def avY:=mk avX func279 H.l8 aO H.alD
def avZ:=mk avY func211 IN (S L (J [] [] (S L (B (aw [(0,dS),(1,v2),(7,v2),(8,v2)] [] cv))) bT)) aoC
def av0:=mk avZ func157 o7 aO aoD
def FJ:=jU av0 [] func156 H.Bj 1 aO H.Pa
abbrev zl:=AR (ajC FJ) [(156,1)] []
def acm:cJ:=⟨⟨[(0,.val ob)],[]⟩,⟨[(0,.own 9),(1,.val t4)],[(9,.bg jc)]⟩,[none,none],1,H.Iv⟩
theorem av1:cQ Tryz.prog zl 154 acm:=dY FJ [] trivial func154 so H.al9
def acn:cJ:=⟨⟨[(0,.own 200001),(1,.val NV)],[(200001,.bg jc)]⟩,⟨[(0,.sub 200001)],[(200001,.bg jc)]⟩,[none],2,H.Ix⟩
theorem av2:cQ Tryz.prog zl 155 acn:=dY FJ [] trivial func155 (S L (S L (S bE (J [(0,.own 200001),(5,v2)] [(200001,w1)] (S L (B (aw [(0,.own 200001),(1,Q1),(5,v2),(6,v2)] [(200001,w1)] (S ax (J [(0,.own 200001),(1,Q1),(5,v2),(6,v2)] [(200001,w1)] (B mO) L))))) aO)))) H.al'
def av3:=mk FJ func192 H.o8 j5 H.alz
def av4:=mk av3 func291 H.OR (S L (J [(0,v228),(2,v2)] [] bE (J [(0,v228),(2,v2)] [] bE (J [(0,v228),(2,v2)] [] bE bT)))) H.alE
def B9:=mk av4 func215 H.OS (S L (S (C bT L) bT)) (H.alF (λ_=>A.fail))
def aco:cJ:=⟨⟨[(0,.own 200001),(1,.val t2),(2,.val t2),(3,.val D9)],[(200001,.bg qQ)]⟩,⟨[],[(200001,.bg qQ)]⟩,[],4,H.Iq⟩
theorem av5:cQ Tryz.prog zl 375 aco:=dY B9 [] trivial func375 (S L (B (aw [(0,.own 200001),(1,v2),(2,v2),(3,Kk),(8,v2)] [(200001,gT)] (S ax (J [(0,.own 200001),(1,v2),(2,v2),(3,Kk),(8,v2)] [(200001,gT)] (B (S L (B (aw [(0,.own 200001),(1,v2),(2,v2),(3,Kk),(8,v2),(9,v2)] [(200001,gT)] B8)))) L))))) H.alO
def acp:cJ:=⟨⟨[(0,.own 200001),(1,.val t2),(2,.val t2),(3,.val t2),(4,.val D9)],[(200001,.bg qQ)]⟩,⟨[],[(200001,.bg qQ)]⟩,[],5,H.Is⟩
theorem av6:cQ Tryz.prog zl 338 acp:=dY B9 [(375,.e9 aco)] ⟨av5,trivial⟩ func338 (S L (S L (B (aw [(0,.own 200001),(1,v2),(2,v2),(3,v2),(4,Kk),(10,v4),(11,v4)] [(200001,gT)] (B (S L (S bE L))))))) H.alP
def acq:cJ:=⟨⟨[(0,.own 200001),(1,.val D9)],[(200001,.bg qQ)]⟩,⟨[],[(200001,.bg qQ)]⟩,[],2,H.A3⟩
theorem av7:cQ Tryz.prog zl 278 acq:=dY B9 [(338,.e9 acp)] ⟨av6,trivial⟩ func278 bT H.alR
def acr:cJ:=⟨⟨[(0,.bc 100000 0),(1,.val eW)],[(100000,.cells rS [.val qO,.val ob,.val eW,.val qO,.val t2,.val t2,.val t2,.val t2,.val t2,.val t2,.val t2,.val ob,.own 100002]),(100002,.bg pR)]⟩,⟨[(0,.val pR),(1,.val t4)],[(100000,.cells rS [.val qO,.val ob,.val eW,.val qO,.val t2,.val t2,.val t2,.val t2,.val t2,.val t2,.val t2,.val ob,.own 100002]),(100002,.bg pR)]⟩,[none,none],2,H.uP⟩
theorem av8:cQ Tryz.prog zl 212 acr:=dY B9 [(278,.e9 acq)] ⟨av7,trivial⟩ func212 (S L (J [(0,.bc 100000 0),(1,dS),(6,.bc 17 0)] [(17,.cells D8 [dS,.own 30000,.own 30001,.own 30002,.own 30003,.own 30004,.own 30005,.own 30006,.own 30007,.own 30008,.own 30009]),(100000,.cells rS [nM,qi,dS,nM,v2,v2,v2,v2,v2,v2,v2,qi,.own 100002]),(100002,FG),(30000,gT),(30001,gT),(30002,gT),(30003,gT),(30004,gT),(30005,gT),(30006,gT),(30007,gT),(30008,gT),(30009,gT)] L (J [(6,.bc 17 0)] jD (S L (B (aw [(1,dS),(6,.bc 17 0),(21,qi),(22,v2),(23,v2)] jD (S L (S ef (J [(1,dS),(6,.bc 17 0),(21,qi),(22,v2),(23,v2)] jD (B (S L (.split 8 4 10 L))) L)))))) (J [(6,.bc 17 0)] jD (S L (B (.n5 (.num 57 0 (S L (S ef (J nB jD (B (S L (S L (S L (B (aw [(6,.bc 17 0),(10,.own 30000),(56,.hH [30000,30001,30002,30003,30004,30005,30006,30007,30008,30009]),(57,v2),(62,.own 30000),(63,v2),(64,v2)] jD (S L (S ef (S (B (S L (S L (J [(6,.bc 17 0),(10,.own 30000),(11,v2),(12,.bc 12 0),(13,v2),(56,.hH [30000,30001,30002,30003,30004,30005,30006,30007,30008,30009]),(57,v2),(62,.own 30000),(63,v2),(64,v2)] tH ax bE)))) L))))))))) L)))) (.n5 (.num 57 1 (S L (S ef (J nB jD (B (S L (S L (S L (B (aw [(6,.bc 17 0),(10,.own 30001),(56,.hH [30000,30001,30002,30003,30004,30005,30006,30007,30008,30009]),(57,v2),(62,.own 30001),(63,v2),(64,v2)] jD (S L (S ef (S (B (S L (S L (J [(6,.bc 17 0),(10,.own 30001),(11,v2),(12,.bc 12 0),(13,v2),(56,.hH [30000,30001,30002,30003,30004,30005,30006,30007,30008,30009]),(57,v2),(62,.own 30001),(63,v2),(64,v2)] tH ax bE)))) L))))))))) L)))) (.n5 (.num 57 2 (S L (S ef (J nB jD (B (S L (S L (S L (B (aw [(6,.bc 17 0),(10,.own 30002),(56,.hH [30000,30001,30002,30003,30004,30005,30006,30007,30008,30009]),(57,v2),(62,.own 30002),(63,v2),(64,v2)] jD (S L (S ef (S (B (S L (S L (J [(6,.bc 17 0),(10,.own 30002),(11,v2),(12,.bc 12 0),(13,v2),(56,.hH [30000,30001,30002,30003,30004,30005,30006,30007,30008,30009]),(57,v2),(62,.own 30002),(63,v2),(64,v2)] tH ax bE)))) L))))))))) L)))) (.n5 (.num 57 3 (S L (S ef (J nB jD (B (S L (S L (S L (B (aw [(6,.bc 17 0),(10,.own 30003),(56,.hH [30000,30001,30002,30003,30004,30005,30006,30007,30008,30009]),(57,v2),(62,.own 30003),(63,v2),(64,v2)] jD (S L (S ef (S (B (S L (S L (J [(6,.bc 17 0),(10,.own 30003),(11,v2),(12,.bc 12 0),(13,v2),(56,.hH [30000,30001,30002,30003,30004,30005,30006,30007,30008,30009]),(57,v2),(62,.own 30003),(63,v2),(64,v2)] tH ax bE)))) L))))))))) L)))) (.n5 (.num 57 4 (S L (S ef (J nB jD (B (S L (S L (S L (B (aw [(6,.bc 17 0),(10,.own 30004),(56,.hH [30000,30001,30002,30003,30004,30005,30006,30007,30008,30009]),(57,v2),(62,.own 30004),(63,v2),(64,v2)] jD (S L (S ef (S (B (S L (S L (J [(6,.bc 17 0),(10,.own 30004),(11,v2),(12,.bc 12 0),(13,v2),(56,.hH [30000,30001,30002,30003,30004,30005,30006,30007,30008,30009]),(57,v2),(62,.own 30004),(63,v2),(64,v2)] tH ax bE)))) L))))))))) L)))) (.n5 (.num 57 5 (S L (S ef (J nB jD (B (S L (S L (S L (B (aw [(6,.bc 17 0),(10,.own 30005),(56,.hH [30000,30001,30002,30003,30004,30005,30006,30007,30008,30009]),(57,v2),(62,.own 30005),(63,v2),(64,v2)] jD (S L (S ef (S (B (S L (S L (J [(6,.bc 17 0),(10,.own 30005),(11,v2),(12,.bc 12 0),(13,v2),(56,.hH [30000,30001,30002,30003,30004,30005,30006,30007,30008,30009]),(57,v2),(62,.own 30005),(63,v2),(64,v2)] tH ax bE)))) L))))))))) L)))) (.n5 (.num 57 6 (S L (S ef (J nB jD (B (S L (S L (S L (B (aw [(6,.bc 17 0),(10,.own 30006),(56,.hH [30000,30001,30002,30003,30004,30005,30006,30007,30008,30009]),(57,v2),(62,.own 30006),(63,v2),(64,v2)] jD (S L (S ef (S (B (S L (S L (J [(6,.bc 17 0),(10,.own 30006),(11,v2),(12,.bc 12 0),(13,v2),(56,.hH [30000,30001,30002,30003,30004,30005,30006,30007,30008,30009]),(57,v2),(62,.own 30006),(63,v2),(64,v2)] tH ax bE)))) L))))))))) L)))) (.n5 (.num 57 7 (S L (S ef (J nB jD (B (S L (S L (S L (B (aw [(6,.bc 17 0),(10,.own 30007),(56,.hH [30000,30001,30002,30003,30004,30005,30006,30007,30008,30009]),(57,v2),(62,.own 30007),(63,v2),(64,v2)] jD (S L (S ef (S (B (S L (S L (J [(6,.bc 17 0),(10,.own 30007),(11,v2),(12,.bc 12 0),(13,v2),(56,.hH [30000,30001,30002,30003,30004,30005,30006,30007,30008,30009]),(57,v2),(62,.own 30007),(63,v2),(64,v2)] tH ax bE)))) L))))))))) L)))) (.n5 (.num 57 8 (S L (S ef (J nB jD (B (S L (S L (S L (B (aw [(6,.bc 17 0),(10,.own 30008),(56,.hH [30000,30001,30002,30003,30004,30005,30006,30007,30008,30009]),(57,v2),(62,.own 30008),(63,v2),(64,v2)] jD (S L (S ef (S (B (S L (S L (J [(6,.bc 17 0),(10,.own 30008),(11,v2),(12,.bc 12 0),(13,v2),(56,.hH [30000,30001,30002,30003,30004,30005,30006,30007,30008,30009]),(57,v2),(62,.own 30008),(63,v2),(64,v2)] tH ax bE)))) L))))))))) L)))) (.n5 (.num 57 9 (S L (S ef (J nB jD (B (S L (S L (S L (B (aw [(6,.bc 17 0),(10,.own 30009),(56,.hH [30000,30001,30002,30003,30004,30005,30006,30007,30008,30009]),(57,v2),(62,.own 30009),(63,v2),(64,v2)] jD (S L (S ef (S (B (S L (S L (J [(6,.bc 17 0),(10,.own 30009),(11,v2),(12,.bc 12 0),(13,v2),(56,.hH [30000,30001,30002,30003,30004,30005,30006,30007,30008,30009]),(57,v2),(62,.own 30009),(63,v2),(64,v2)] tH ax bE)))) L))))))))) L)))) (.n5 (.num 57 10 (S L (S ef L))) L))))))))))))) bT)))) H.O'
def Rh(f:Nat):cJ:=⟨⟨[(0,.bc 100000 0),(1,.val eW)],[(100000,.cells rS [.val qO,.val ob,.val eW,.val qO,.val t2,.val t2,.val t2,.val t2,.val t2,.val t2,.val t2,.val ob,.own 100002]),(100002,.bg pR)]⟩,⟨[],[(100000,.cells rS [.val qO,.val ob,.val eW,.val qO,.val t2,.val t2,.val t2,.val t2,.val t2,.val t2,.val t2,.val ob,.own 100002]),(100002,.bg pR)]⟩,[],2,H.yE f⟩
theorem acs:∀f,cQ Tryz.prog zl 158 (Rh f)
 |0=>NY func158 H.amI
 |f+1=>dY B9 [(158,.e9 (Rh f)),(212,.e9 acr)] ⟨acs f,av8,trivial⟩ func158 (S L (S (S L (C (J [] ab1 (S L ax) L) L)) (S L (B (aw [(0,.bc 100000 0),(1,dS),(4,v2),(7,v2)] ab1 B8))))) (H.amL f)
def av9:=pV B9 (FJ.u [(156,1)] [] trivial) [(154,.e9 acm),(155,.e9 acn),(158,.e9 (Rh 5))] ⟨av1,av2,acs 5,trivial⟩ func74 H.wk (S L (S mO (S L (S L (S L (J [(7,.bc 15 0)] [(15,.cells rS [nM,qi,dS,nM,v2,v2,v2,v2,v2,v2,v2,.sub 50200,.own 30000]),(50200,w1),(30000,FG)] bE j5)))))) H.amP
def av_:=mk av9 func77 H.Bk (S L (J [(4,.bc 4 0),(5,v4)] [(4,sb)] (S L (B (aw abU [(4,sb)] (S L (S ef (J abU [(4,sb)] (B (S L (S L (B (S L (C L ax)))))) L)))))) bT)) H.amQ
def awa:=jU av_ [] func152 H.Bo 1 aO H.am_
def awb:=jU awa [(152,1)] func150 H.Pk 1 aO H.am' (hc:=λx h=>by obtain⟨_,f,ar,_⟩:=h;exact sW ⟨trivial,rT ar⟩)
def Ri:=mk awb func89 H.wh (S L (S L (J [(7,v2)] [] (S L (B (aw [(1,v2),(2,v2),(7,v2),(14,nM),(15,v2),(16,v2)] [] ec))) bT))) H.ami
def acu:cJ:=⟨⟨[(0,.hg),(1,.dU pR),(2,.dU vT),(1000000,.aW (.az jc t2))],[]⟩,⟨[(1000000,.aW (.az jc t2))],[]⟩,[],3,(H.Ig H.wh.sh)⟩
theorem awc:cQ Tryz.prog dB 159 acu:=dY (S:=(H.Ig H.wh.sh)) Ri [] trivial func159 (S L (B (aw abN [] (S L (S ef (J abN [] (B (S L (S L (B (aw [(0,.hg),(2,.dU vT),(5,abz),(6,v2),(10,abA),(11,v2),(1000000,.aW (.az jc t2))] [] (S ax (S (B ax) L))))))) L)))))) (λx=>A.le_refl _)
theorem awd:xa Tryz.prog 159 ⟨[pR,vT],(.az jc t2),H.tk⟩:=NJ (c:=acu) awc mG (λx l L=>(l,x.1.getD none,x.2.getD none,(l,L,[],false),())) rfl (by decide) (by simp[gh])
 (λx l L i ah=>by
  obtain⟨T,aU⟩:=ah;obtain⟨t,b,E,U,an,_⟩:=aU;obtain⟨xm,xl⟩:=x;change xm=some (some t) at E;change xl=some (some b) at U;subst E;subst U;by_cases aT:i=0
  ·subst aT;exact .inr (.inr (.inl ⟨rfl,rfl⟩))
  ·by_cases E:i=1
   ·subst E;exact .inr (.inl ⟨by decide,by decide,_,_,rfl,rfl⟩)
   by_cases ag:i=2
   ·subst ag;exact .inr (.inl ⟨by decide,by decide,_,_,rfl,rfl⟩)
   by_cases U:i=b4
   ·subst U;exact .inr (.inr (.inr ⟨rfl,rfl⟩))
   ·refine .inl ?_;exact (if_neg aT).trans ((if_neg E).trans ((if_neg ag).trans (if_neg U))))
 rfl (λbl=>⟨_,_,_,_,rfl⟩) (λx l ah=>by
  obtain⟨T,aU⟩:=ah;obtain⟨t,b,E,U,an,_⟩:=aU;obtain⟨xm,xl⟩:=x;change xm=some (some t) at E;change xl=some (some b) at U;subst E;subst U;have h:=H.amV l t b an;refine⟨h.1,λbl f' dE e3 p fj=>?_⟩;have e:aG.aW bl.1.1 (.az jc t2) bl.1.2.1 bl.1.2.2.1 bl.1.2.2.2=.aW dE (.az jc t2) e3 p false:=fj;injection e with ax aO cv ec gV
  rw[<-ec];exact h.2 bl f' gV)
def awe:=pV Ri (Ri.u [] [(159,⟨[pR,vT],(.az jc t2),H.tk⟩)] ⟨awd,trivial⟩) [] trivial func79 H.Bl aO H.amZ
def awf:=jU awe [] func153 H.Pl 1 (S L (S (S L (B (cg [(2,.dU t2),(3,.dU NQ),(5,.bc 5 0),(6,.bc 6 0)] [(5,.cells t2 [v2]),(6,.cells t4 [v4])] [(2,.dU t2),(3,.dU NQ),(5,.bc 100005 0),(6,.bc 100006 0),(12,abw),(13,v2)] [(100005,.cells t2 [v2]),(100006,.cells t4 [v4])] [] [(100005,.cells t2 [v2]),(100006,.cells t4 [v4])] bT (B bE)))) bT)) H.ana (hc:=λx h=>by obtain⟨_,_,_,_,rfl,_⟩:=h;exact sW ⟨⟨⟨trivial,rfl⟩,rfl⟩,rfl⟩)
def awg:=l4 awf [(150,1),(153,1)] func70 H.Bp (S L (S L (S bE j5))) H.anb
def awh:=mk awg func71 H.yH aO H.anc
def awi:=l4 awh [] func34 H.yy aO H.ane
def awj:=mk awi func199 aw.y' (S L (S bE (S L (J [(3,.own 3)] [(3,a9)] (S L (B (aw [(3,.own 3),(9,dS),(10,v2),(11,v2)] [(3,a9)] ec))) bT)))) aw.aro
def awk:=mk awj func198 aw.q8 (S L Q4) aw.arp
def acv:=mk awk func197 aw.za aO aw.arq
def awl:cJ:=lf (aw.fv 1 aw.Jz)
theorem awm:cQ Tryz.prog dB 122 awl:=dY acv [] trivial func122 aO aw.arv
def awn:=mk acv func73 H.wi j5 H.amj
def awo:=jU awn [] func72 H.yI 1 aO H.anf
def acw:=l4 awo [(72,1)] func35 H.yz aO H.anh
def awp:cJ:=lf (aw.fv 1 aw.JA)
theorem awq:cQ Tryz.prog dB 123 awp:=dY acw [] trivial func123 aO aw.arw
def awr:=jU acw [] func75 H.Pm 1 aO H.ani
def aws:=jU awr [] func78 H.Pn 1 (S L (S L (S (S L (B (cg [(2,.dU t2),(3,.dU tJ),(7,.bc 7 0)] [(7,.cells t2 [v2])] [(2,.dU t2),(3,.dU tJ),(7,.bc 100007 0),(13,abw),(14,v2)] [(100007,.cells t2 [v2])] [] [(100007,.cells t2 [v2])] bT (B ax)))) bT))) H.anj (hc:=λx h=>by obtain⟨_,_,_,_,rfl,_⟩:=h;exact sW ⟨⟨⟨trivial,rfl⟩,rfl⟩,rfl⟩)
def acx:=l4 aws [(75,1),(78,1)] func36 H.yA B7 H.anm
def awt:cJ:=lf (aw.fv 1 aw.JB)
theorem awu:cQ Tryz.prog dB 124 awt:=dY acx [] trivial func124 aO aw.arx
def awv:=mk acx func81 H.yp aO H.aln
def aww:=jU awv [] func80 H.Bq 1 aO H.Yj
def awx:=mk aww func83 H.yJ (S L (S L (S L (J [(6,.bc 6 0),(8,.bc 8 0),(9,v4)] [(6,zi),(8,zi)] (S L (B (aw abO [(6,zi),(8,zi)] (S L (S ef (J abO [(6,zi),(8,zi)] zk L)))))) bT)))) H.anp
def awy:=jU awx [] func82 H.Pr 1 (S L (S L (J [(6,v2)] [] (S L (B (aw [(0,aby),(1,.dU t2),(2,.dU tJ),(6,v2),(10,v2)] [] (S L (S ef (J [(0,aby),(1,.dU t2),(2,.dU tJ),(6,v2),(10,v2)] [] zj L)))))) bT))) H.ans (hc:=λx h=>by obtain⟨_,_,_,rfl,_⟩:=h;exact sW ⟨⟨trivial,rfl⟩,rfl⟩)
def acy:=l4 awy [(80,1),(82,1)] func37 H.yB B7 H.anu
def awz:cJ:=lf (aw.fv 1 aw.JC)
theorem awA:cQ Tryz.prog dB 125 awz:=dY acy [] trivial func125 aO aw.ary
def Rj:=jU acy [] func84 H.Pu 1 aO H.anz (hc:=λx h=>by obtain⟨a,b,ar⟩:=h;exact sW ⟨⟨trivial,rT (congrArg (λo=>o.1) ar)⟩,rT (congrArg (λo=>o.2) ar)⟩)
def acz:cJ:=⟨⟨[(0,.hg),(1,.dU HW),(1000000,.aW t2)],[]⟩,⟨[(1000000,.aW t2)],[]⟩,[],2,H.OM⟩
theorem awB:cQ Tryz.prog dB 162 acz:=dY (S:=H.OM) Rj [] trivial func162 (S L (B (aw [(0,.hg),(5,.j8 5),(1000000,.aW t2)] [(5,.cq t2 t2)] (S L (S ef zk))))) (λx=>A.le_refl _)
theorem awC:xa Tryz.prog 162 ⟨[HW],t2,H.jX⟩:=NJ (c:=acz) awB mG (λx l L=>(l,x.getD [],(l,L,[],false),())) rfl (by decide) (by simp[gh])
 (λx l L i ah=>by
  obtain⟨T,aU⟩:=ah;obtain⟨m,hm,_⟩:=aU;subst hm;by_cases aT:i=0
  ·subst aT;exact .inr (.inr (.inl ⟨rfl,rfl⟩))
  ·by_cases E:i=1
   ·subst E;exact .inr (.inl ⟨by decide,by decide,_,_,rfl,rfl⟩)
   by_cases U:i=b4
   ·subst U;exact .inr (.inr (.inr ⟨rfl,rfl⟩))
   ·refine .inl ?_;exact (if_neg aT).trans ((if_neg E).trans (if_neg U)))
 rfl (λbl=>⟨_,_,_,_,rfl⟩) (λx l ah=>by
  obtain⟨T,aU⟩:=ah;obtain⟨m,hm,_⟩:=aU;subst hm;have h:=H.amR l m;refine⟨h.1,λbl f' dE e3 p fj=>?_⟩;have e:aG.aW bl.1.1 t2 bl.1.2.1 bl.1.2.2.1 bl.1.2.2.2=.aW dE t2 e3 p false:=fj;injection e with ax aO cv ec gV
  rw[<-ec];exact h.2 bl f' gV)
def awD:=pV Rj (Rj.u [] [(162,⟨[HW],t2,H.jX⟩)] ⟨awC,trivial⟩) [] trivial func87 H.It aO H.alW
def acA:=l4 awD [(84,1)] func38 H.yC (S L (S L (S bE (S L (J [(10,.fG 24)] [(24,.mp t2 t2)] (S L (B (aw abP [(4,.gL t2),(5,.gL t2),(24,.mp t2 t2)] (S L (S ef (J abP [(4,.gL t2),(5,.gL t2),(24,.mp t2 t2)] zj L)))))) bT))))) H.anA
def awE:cJ:=lf (aw.fv 2 aw.JD)
theorem awF:cQ Tryz.prog dB 126 awE:=dY acA [] trivial func126 (S L (S L (S bE (S bE bT)))) aw.arz
def awG:=jU acA [] func88 H.Bq 1 aO H.anr
def acB:=l4 awG [(88,1)] func39 H.yD (S L (S L (S bE (J [(4,.own 4),(5,.own 5)] [(4,a2),(5,a2)] (S L (B (aw abQ B6 (S L (S ef (J abQ B6 (B (S L (S L (J abL B6 (S L (B (aw abH B6 (S L (S ef (J abH B6 zj L)))))) (J abL B6 ax ax))))) L)))))) bT)))) H.anF
def awH:cJ:=lf (aw.fv 1 aw.JE)
theorem awI:cQ Tryz.prog dB 127 awH:=dY acB [] trivial func127 (S L j5) aw.arA
def awJ:=mk acB func143 E1 tI aoO
def awK:=jU awJ [] func142 yQ 1 aO aoP (hc:=λx h=>by obtain⟨i,w,n,ar,_⟩:=h;exact sW ⟨⟨⟨trivial,rT (congrArg (λo=>o.1) ar)⟩,rT (congrArg (λo=>o.2.1) ar)⟩,rT (congrArg (λo=>o.2.2) ar)⟩)
def awL:=l4 awK [(142,1)] func63 BA (S L (S mO (S bE (S L (J [(7,.bc 22 0)] [(22,.cells yd [v22,sa,v2,tF,.own 61]),(61,FC)] (S L (B (aw [(2,.bc 2 0),(7,.bc 22 0),(24,v22),(25,v2),(26,v2)] ab2 (S L (S ef (J [(2,.bc 2 0),(7,.bc 22 0),(24,v22),(25,v2),(26,v2)] ab2 (B (S L (S L (J [(2,.bc 2 0),(7,.bc 22 0),(10,.own 10),(24,v22),(25,v2),(26,v2)] [(2,.gL uF),(10,a2),(22,.cells yd [v22,sa,v2,tF,.own 61]),(61,FC)] (S L (B (aw abG [(2,.gL uF),(8,.gL t2),(9,abC),(10,a2),(11,.cells t2 [v2]),(22,.cells yd [v22,sa,v2,tF,.own 61]),(61,FC)] (S ax (J abG [(2,.gL uF),(8,.gL t2),(9,abC),(10,a2),(11,.gL t2),(22,.cells yd [v22,sa,v2,tF,.own 61]),(61,FC)] zk (S bT L)))))) (S bE L))))) L)))))) bT))))) aoU
def Ej:=mk awL func24 yO B7 ao2
def B_:cJ:=⟨⟨[(0,.val t32)],[]⟩,⟨[(0,.val t22),(1,.val D6),(2,.val t2),(3,.own 28),(4,.own 11),(5,.own 16),(6,.own 20),(7,.own 24),(8,.val t2)],[(28,.bg AO),(11,.bg t2),(16,.bg yc),(20,.bg vS),(24,.bg rR)]⟩,[some 9],1,aw.wU⟩
theorem FK:cQ Tryz.prog dB 118 B_:=dY Ej [(188,Q8),(189,Q9),(190,Q_),(191,.e9 Q'),(192,Ra),(193,Rb),(194,Kn),(195,Re)] ⟨ab',aca,acb,acd,acg,ach,Rc,aci,trivial⟩ func118 gV aw.arJ
def awM:cJ:=lf (aw.fv 4 aw.y6)
theorem awN:cQ Tryz.prog dB 128 awM:=dY Ej [(118,.e9 B_)] ⟨FK,trivial⟩ func128 (S L (S L (S L (S L (S bE (S mO aO)))))) aw.arN
def awO:=mk Ej func146 IL (S L Q4) aoV
def awP:=mk awO func66 IU (S L (S L (J [(0,abv),(1,v2),(9,v2)] [] (S L (B (aw abR [] (S L (S ef (J abR [] zk L)))))) bT))) ao0
def rW:=mk awP func23 u1 (S L j5) ao4
def awQ:cJ:=lf (aw.fv 3 aw.JF)
theorem awR:cQ Tryz.prog dB 129 awQ:=dY rW [] trivial func129 (S L j5) aw.arB
def FL:cJ:=⟨⟨[(0,.bc 100000 0),(1,.val t32)],[(100000,.f_ qP)]⟩,⟨[(0,.val t9)],[(100000,.f_ qP)]⟩,[none],2,aw.wV⟩
theorem Kp:cQ Tryz.prog dB 200 FL:=dY rW [] trivial func200 (S L (S bE aO)) aw.arL
def awS:cJ:=lf (aw.fv 2 aw.y7)
theorem awT:cQ Tryz.prog dB 130 awS:=dY rW [(118,.e9 B_),(200,.e9 FL)] ⟨FK,Kp,trivial⟩ func130 B7 aw.arO
def awU:cJ:=lf (aw.fv 3 aw.Qv)
theorem awV:cQ Tryz.prog dB 131 awU:=dY rW [(118,.e9 B_),(200,.e9 FL)] ⟨FK,Kp,trivial⟩ func131 ve aw.arP
def awW:cJ:=lf (aw.fv 4 aw.Qw)
theorem awX:cQ Tryz.prog dB 132 awW:=dY rW [(118,.e9 B_),(200,.e9 FL)] ⟨FK,Kp,trivial⟩ func132 ve aw.arQ
def awY:cJ:=lf (aw.fv 5 aw.Qx)
theorem awZ:cQ Tryz.prog dB 133 awY:=dY rW [(118,.e9 B_),(200,.e9 FL)] ⟨FK,Kp,trivial⟩ func133 ve aw.arR
def acC:cJ:=⟨⟨[(0,.own 200001),(1,.val t3),(2,.val t3)],[(200001,.bg vS)]⟩,⟨[(0,.sub 200001)],[(200001,.bg vS)]⟩,[none],3,(aw.JN aw.JR)⟩
theorem aw0:cQ Tryz.prog dB 201 acC:=dY rW [] trivial func201 (S L (S L (S bE ve))) (aw.arH aw.JR)
def aw1:cJ:=lf (aw.fv 1 aw.y8)
theorem aw2:cQ Tryz.prog dB 134 aw1:=dY rW [(194,Kn),(201,.e9 acC)] ⟨Rc,aw0,trivial⟩ func134 (S L (S bE (S .G0 bT))) aw.arS
def aw3:=mk rW func217 tp (S L (S L (S L (S L (S L (S L (S L (S L ve)))))))) apw
def aw4:=mk aw3 func165 tp (S L (S (C aO L) aO)) (apy (λ_=>A.fail))
def aw5:=mk aw4 func163 I5 (S L (J [(0,nM),(1,v2)] [] ax (S L (J [(0,nM),(6,v228)] [] ax (S L (S L (J [(7,.own 30)] [(30,Kj)] (B (aw [(7,.own 30),(8,v2)] [(30,Kj)] (S ax (B L)))) bT))))))) apG
def aw6:=mk aw5 func90 BF (S L (S mO (S bE (S L (J [(2,.bc 2 0),(7,.bc 30 0)] w2 (S L (C mO L)) (J [(2,.bc 2 0),(7,.bc 30 0)] w2 (S L (B (aw [(2,.bc 2 0),(7,.bc 30 0),(46,v2),(47,v2)] w2 (S L (S ef (J [(2,.bc 2 0),(7,.bc 30 0),(46,v2),(47,v2)] w2 (B (S L (S L (B (aw abM w2 (S L (S ef (J abM w2 (B (S L (S L (B (aw abI w2 (S L (S ef (J abI w2 zj L)))))))) L)))))))) L)))))) (J [(2,.bc 2 0),(7,.bc 30 0)] abZ (S L (B (aw [(2,.bc 2 0),(7,.bc 30 0),(92,dS),(93,v2),(94,v2)] abZ ec))) (J [(7,.bc 30 0)] ab0 (S L (B (aw [(7,.bc 30 0),(114,qh),(115,v2),(116,v2)] ab0 ec))) bT)))))))) apU
def acD:=mk aw6 func91 PU aO apJ
def acE:cJ:=⟨⟨[(0,.val eW),(1,.val t3)],[]⟩,⟨[(0,.own 30)],[(30,.bg t3)]⟩,[none],2,wG⟩
theorem aw7:cQ Tryz.prog dB 92 acE:=dY acD [] trivial func92 j7 ZL
def aw8:=mk acD func168 wH (S L (S (B (S L (C bT (S L (C bT bE))))) bT)) apL
def acF:=mk aw8 func96 Ja (S L (S L (J [(6,.own 6)] [(6,B2)] (S L (B (aw [(0,kQ),(6,.own 6),(14,dS),(15,v2),(16,v2)] [(6,B2)] (S L (S ef (J [(0,kQ),(6,.own 6),(14,dS),(15,v2),(16,v2)] [(6,B2)] (B (S L (S ax (S L (S L (J [(0,kQ),(6,.own 6),(10,.bc 10 0),(11,v2),(14,dS),(15,v2),(16,v2)] [(6,B2),(10,abu)] (S L (B (S L (C bT ax)))) (S bE (S L (B (aw [(0,kQ),(6,.own 6),(10,.bc 10 0),(11,v2),(14,dS),(15,v2),(16,v2),(58,dS),(59,v2),(60,v2)] [(6,B2),(10,abu)] ec)))))))))) L)))))) bT))) ap6
def acG:cJ:=⟨⟨[(0,.val eW),(1,.val t2)],[]⟩,⟨[(0,.own 30)],[(30,.bg t2)]⟩,[none],2,wG⟩
theorem aw9:cQ Tryz.prog dB 92 acG:=dY acF [] trivial func92 j7 ZL
def acH:=mk acF func169 BK aO aqf
def Rk(f:Nat):cJ:=⟨⟨[(0,.val o0),(1,.own 200001),(2,.val AP),(3,.val t2),(4,.fG 100002)],[(100002,.mp t2 t2),(200001,.bg t2)]⟩,⟨[(0,.val t4)],[(100002,.mp t2 t2),(200001,.bg t2)]⟩,[none],5,u5 f⟩
theorem acI:∀f,cQ Tryz.prog dB 170 (Rk f)
 |0=>NY func170 aqo
 |f+1=>dY acH [(170,.e9 (Rk f))] ⟨acI f,trivial⟩ func170 (S L (J [] Q3 (S L (B (aw abK Q3 (S L (S ef (J abK Q3 (B (S L (S ax (S L (S L (C aO L)))))) L)))))) bT)) (aqn f)
def aw_:=pV acH mG [(92,.e9 acG),(170,.e9 (Rk 201))] ⟨aw9,acI 201,trivial⟩ func98 Je (S L (S L (S L (J [(6,v2)] [] (S L (B (aw abV [(50140,a2)] (S L (S ef (J abV [(50140,a2)] zk L)))))) bT)))) aqq
def aw':=mk aw_ func93 wP tI aqr
def acJ:=pV aw' mG [(92,.e9 acE)] ⟨aw7,trivial⟩ func40 y3 (S L (S L (S bE (S L (S L (J [(8,.own 8)] [(8,a2)] (S L (B (aw abS [(8,a2),(50260,a2)] (S L (S ef (J abS [(8,a2),(50260,a2)] zj L)))))) bT)))))) aqM
def axa:cJ:=lf (aw.fv 1 aw.JG)
theorem axb:cQ Tryz.prog dB 135 axa:=dY acJ [] trivial func135 tI aw.arC
def axc:=mk acJ func181 PV aO apK
def axd:=mk axc func108 I6 (S L (J [(1,dS),(2,.bc 2 0)] [(2,FD)] (S L (B (aw [(1,dS),(2,.bc 2 0),(7,dS),(8,v2),(9,v2)] [(2,FD)] cv))) bT)) apM
def axe:=mk axd func109 tu (S L (J [(4,v2)] [] (S L (B (aw [(0,kQ),(4,v2),(7,dS),(8,v2),(9,v2)] [] (S L (S ef (J [(0,kQ),(4,v2),(7,dS),(8,v2),(9,v2)] [] zk L)))))) bT)) ap8
def acK:=mk axe func49 Jk (S L (S L (S bE (S bE bT)))) aqO
def axf:cJ:=lf (aw.fv 0 aw.Qy)
theorem axg:cQ Tryz.prog dB 136 axf:=dY acK [(192,.e9 ace)] ⟨acf,trivial⟩ func136 (S L (S L (J [(0,.bc 100000 0),(5,.own 50100)] [(50100,a2),(100000,FF)] (S L (B (aw [(0,.bc 100000 0),(5,.own 50100),(12,v2),(13,v2)] [(50100,a2),(100000,FF)] ec))) aO))) aw.arD
def Rl:=mk acK func92 I3 j7 apF
def Kq(f:Nat):cJ:=⟨⟨[(0,.val o0),(1,.val eW),(2,.val t2),(3,.hg),(1000000,.aW eW)],[]⟩,⟨[(0,.val t4),(1000000,.aW eW)],[]⟩,[none],4,r8 f⟩
theorem Rm:∀f,cQ Tryz.prog dB 167 (Kq f)
 |0=>NY func167 aqB
 |f+1=>dY Rl [(167,.e9 (Kq f))] ⟨Rm f,trivial⟩ func167 (S L (S L (S bE (J [(0,kQ),(1,dS),(2,v2),(3,.hg),(9,v2),(1000000,.aW eW)] [] (S L (B (aw abJ [] (S L (S ef (J abJ [] (B (S L (S ax bE))) L)))))) bT)))) (aqA f)
def acL:cJ:=⟨⟨[(0,.val o0),(1,.hg),(1000000,.aW eW)],[]⟩,⟨[(1000000,.aW eW)],[]⟩,[],2,(Ib (r8 10))⟩
theorem axh:cQ Tryz.prog dB 218 acL:=dY (S:=(Ib (r8 10))) Rl [(167,.e9 (Kq 10))] ⟨Rm 10,trivial⟩ func218 L (λx=>A.le_refl _)
def Kr:Ag:=⟨o0,eW,y0,Jg⟩
theorem axi:Dx Tryz.prog 218 Kr:=UX (c:=acL) axh mG (ic:=Kr) (λx l L=>(x,l,(l,L,[],false),())) rfl (by decide) (by simp[Kr])
 (λx l L i=>by
  by_cases aT:i=0
  ·subst aT;exact .inr (.inl ⟨by decide,rfl⟩)
  ·by_cases E:i=1
   ·subst E;exact .inr (.inr (.inl ⟨rfl,rfl⟩))
   ·by_cases U:i=b4
    ·subst U;exact .inr (.inr (.inr ⟨rfl,rfl⟩))
    ·refine .inl ?_;exact (if_neg aT).trans ((if_neg E).trans (if_neg U)))
 rfl (λbl=>⟨_,_,_,_,rfl⟩) (λx l an=>by
  obtain⟨s,aD,ae⟩:=an;subst aD;have h:=aqC s ae l;refine⟨h.1,λbl f' dE e3 n fj=>?_⟩;have e:aG.aW bl.1.1 eW bl.1.2.1 bl.1.2.2.1 bl.1.2.2.2=.aW dE eW e3 n false:=fj;injection e with ax aO cv ec gV
  exact ec.symm.trans ((h.2 bl f').2.2 gV))
def axj:=pV Rl mG [(218,.cq Kr)] ⟨axi,trivial⟩ func166 Qk (S L (S L (S (S L (B (cg [(1,.bc 1 0),(3,.bc 3 0)] [(1,.cells o0 [kQ]),(3,.cells eW [dS])] [(1,.bc 100001 0),(3,.bc 100003 0),(15,dS)] [(100001,.cells o0 [kQ]),(100003,.cells eW [dS])] [] [(100001,.cells o0 [kQ]),(100003,.cells eW [dS])] L (B ax)))) bT))) aqH
def axk:=mk axj func94 Qm (S L j5) aqI
def Rn:=mk axk func41 y1 aO aqJ
def axl:cJ:=lf (aw.fv 0 aw.JH)
theorem axm:cQ Tryz.prog dB 137 axl:=dY Rn [] trivial func137 tI aw.arE
def acM:cJ:=⟨⟨[(0,.val o0),(1,.hg),(1000000,.aW eW)],[]⟩,⟨[(1000000,.aW eW)],[]⟩,[],2,(Ic (r8 10))⟩
theorem axn:cQ Tryz.prog dB 95 acM:=dY (S:=(Ic (r8 10))) Rn [(167,.e9 (Kq 10))] ⟨Rm 10,trivial⟩ func95 L (λx=>A.le_refl _)
def Ks:Ag:=⟨o0,eW,y0,Qh⟩
theorem axo:Dx Tryz.prog 95 Ks:=UX (c:=acM) axn mG (ic:=Ks) (λx l L=>(x,l,(l,L,[],false),())) rfl (by decide) (by simp[Ks])
 (λx l L i=>by
  by_cases aT:i=0
  ·subst aT;exact .inr (.inl ⟨by decide,rfl⟩)
  ·by_cases E:i=1
   ·subst E;exact .inr (.inr (.inl ⟨rfl,rfl⟩))
   ·by_cases U:i=b4
    ·subst U;exact .inr (.inr (.inr ⟨rfl,rfl⟩))
    ·refine .inl ?_;exact (if_neg aT).trans ((if_neg E).trans (if_neg U)))
 rfl (λbl=>⟨_,_,_,_,rfl⟩) (λx l an=>by
  obtain⟨s,aD,ae⟩:=an;subst aD;have h:=aqD s ae l;refine⟨h.1,λbl f' dE e3 n fj=>?_⟩;have e:aG.aW bl.1.1 eW bl.1.2.1 bl.1.2.2.1 bl.1.2.2.2=.aW dE eW e3 n false:=fj;injection e with ax aO cv ec gV
  exact ec.symm.trans ((h.2 bl f').2.2 gV))
def axp:=mk Rn func97 Qa (S L (J [] [] (S L (B (aw [(0,kQ),(9,qh),(10,v2),(11,v2)] [] (S L (S ef (J [(0,kQ),(9,qh),(10,v2),(11,v2)] [] (B (S L (S L (J [(0,kQ),(7,v4),(9,qh),(10,v2),(11,v2)] [] (S L (B (aw [(0,kQ),(6,.bc 6 0),(7,v4),(9,qh),(10,v2),(11,v2),(20,v2),(21,v2)] [(6,atY)] ec))) bE)))) L)))))) bT)) aqh
def Ro:=pV axp mG [(95,.cq Ks)] ⟨axo,trivial⟩ func42 y2 (S L (S L (S bE (S L (S (S L (B (cg [(4,.bc 4 0),(6,.bc 6 0)] [(4,.cells o0 [kQ]),(6,.cells t2 [v2])] [(4,.bc 100004 0),(6,.bc 100006 0),(21,dS)] [(100004,.cells o0 [kQ]),(100006,.cells t2 [v2])] [] [(100004,.cells o0 [kQ]),(100006,.cells t2 [v2])] L (B (S L (S ax (S L ax))))))) (S bE bT)))))) aqK
def axq:cJ:=lf (aw.fv 0 aw.JI)
theorem axr:cQ Tryz.prog dB 138 axq:=dY Ro [] trivial func138 tI aw.arF
theorem axs:∀ k∈[119,120,121,122,123,124,125,126,127,128,129,130,131,132,133,134,135,136,137,138],cQ Tryz.prog dB k {Rg with sh:=aw.Fw k}:=FB.mem (l:=[119,120,121,122,123,124,125,126,127,128,129,130,131,132,133,134,135,136,137,138]) ⟨avR,avT,avV,awm,awq,awu,awA,awF,awI,awN,awR,awT,awV,awX,awZ,aw2,axb,axg,axm,axr,trivial⟩
def acN:cJ:=⟨⟨[(0,.bc 100000 0),(1,.val NP),(2,.val t9)],[(100000,.f_ qP)]⟩,⟨[(0,.val t9)],[(100000,.f_ qP)]⟩,[none],3,aw.JX⟩
theorem axt:cQ Tryz.prog dB 59 acN:=dY Ro [(999999,.GJ Rg aw.Fw [119,120,121,122,123,124,125,126,127,128,129,130,131,132,133,134,135,136,137,138])] ⟨axs,trivial⟩ func59 (S L (S L (S L (S mO (S L (J [(0,.bc 100000 0),(8,.bc 8 0),(11,.own 48)] [(8,abB),(48,a2),(100000,FF)] (S L (B (aw [(0,.bc 100000 0),(8,.bc 8 0),(11,.own 48),(50,oC),(51,v2),(52,v2)] [(8,abB),(48,a2),(100000,FF)] (S L (S ef (S (B (S L (S L (S bE L)))) L)))))) bT)))))) aw.ar0
def OD:=pV Ro mG [(57,.e9 ack),(59,.e9 acN)] ⟨avQ,axt,trivial⟩ func20 aw.va (S L (S mO (S bE (S L (J [(4,.own 4),(5,.bc 5 0),(8,.bc 50230 0)] abY (S L (B (aw [(4,.own 4),(5,.bc 5 0),(8,.bc 50230 0),(9,at0),(25,oC),(26,v2),(27,v2)] abY ec))) bT))))) aw.ar7
def axu:=mk OD func110 wu (S L (S bE (J nN nO (S L (B (aw tG nO (S ax (J tG nO (B (S bE (S L (B (aw Kl nO mj))))) L))))) (S bE (J nN nO (S L (B (aw B5 nO mj))) bT))))) ao'
def axv:=mk axu func50 Jl (S L (S bE (J nN ra (S L (B (aw tG ra mj))) (J nN ra ab5 (S bE (S L (J B5 ra (S L (B (aw [(1,.bc 1 0),(5,v2),(6,v2)] ra B8))) bT))))))) aqR
def axw:=mk axv func51 H.wu (S L (S bE (S bE (S L (J [(3,v2)] [] (S L (B (aw Kl oD B8))) bT))))) H.anH
def axx:=mk axw func111 aw.J1 (S L (S L (J [(3,.own 5)] [(5,a9)] (S L (B (aw [(0,v9),(3,.own 5),(4,v2)] [(5,a9)] (S ax (J [(0,v9),(3,.own 5),(4,v2)] [(5,a9)] (B ax) L))))) bT))) aw.asc
def axy:=mk axx func112 aw.J0 (S L (S bE (S L (J [(3,v2)] [] (S L (B (aw [(0,v9),(3,v2),(4,v2)] [] (S ax (S (B (S bE L)) L))))) bT)))) aw.asb
def axz:=mk axy func113 aw.J2 (S L ve) aw.ase
def axA:=mk axz func52 aw.J4 (S L (S L (J [(3,.own 3),(5,oC)] [(3,a2)] (S L (B (aw [(3,.own 3),(5,oC),(6,v2)] [(3,a2)] (S ax (S (B (S L (S bE L))) L))))) (S L (J [] [] (S L (B (aw [(3,.own 3),(5,oC),(8,oC),(9,dS),(10,dS),(11,v2)] [(3,a2)] mj))) bT))))) aw.asf
def s4:=mk axA func14 aw.J6 (S L (S bE (S L (J [(1,oC),(2,.bc 2 0),(5,v2),(6,v2),(7,v2),(8,v2)] [(2,FE)] (S L (B (aw [(1,oC),(2,.bc 2 0),(5,v2),(6,v2),(7,v2),(8,v2),(9,v2)] [(2,FE)] B8))) (J [(2,.bc 2 0),(5,v2),(6,v2),(7,v2),(8,v2)] [(2,FE)] (S L (B (aw abT [(2,FE)] (S ax (J abT [(2,FE)] (B (S bE (S L (B (S L (C L (S L (C L (S L (C bT ax)))))))))) L))))) bT))))) aw.asl
def axB:=mk s4 func28 aw.Fz aO aw.asm
def axC:=mk axB func30 aw.ze (S L (S bE (J [] [] (S L (B (aw [(0,oC),(1,oC),(5,v2)] [] mj))) bT))) aw.asi
def axD:=mk axC func183 PQ aO apa
def axE:=mk axD func115 Jm aO aqS
def axF:=mk axE func54 aw.JY aO aw.ar9
def axG:=mk axF func29 aw.FA tI aw.asr
def axH:=mk axG func45 aw.BX (S L (S bE (S L (J [(3,v9)] [] (B (aw [(0,v2),(3,v9)] [] (S ax (B bT)))) bT)))) aw.atd
def axI:=mk axH func33 aw.qg (S L (J [(0,v9)] [] (S L (B (aw [(0,v9),(1,dS),(5,v2)] [] B8))) bT)) aw.atf
def axJ:=mk axI func99 aw.J_ (S L (S L (J [(3,v9)] [] (S L (B (aw [(0,dS),(3,v9),(4,v2)] [] (S ax (S (B (J [(0,dS),(3,v9),(4,v2)] [] ax L)) L))))) (S bE bT)))) aw.atn
def axK:=mk axJ func43 aw.oB (S L (J [(0,dS),(1,v2)] [] ab4 Q4)) aw.ato
def axL:=mk axK func44 aw.BZ aO aw.atp
theorem ac3:h6 Tryz.prog 7 (.az w5 (.az FM Kv)) t4 (λx=>PD aw.pj.sh aw.va.sh u1.sh aw.Fz.sh aw.FA.sh aw.ze.sh aw.qg.sh H.yy.sh H.yz.sh H.yA.sh H.yB.sh H.yC.sh H.yD.sh y3.sh y1.sh y2.sh aw.oB.sh aw.BZ.sh x):=H5 axL mG (sp:=[]) trivial func7 (ann:=(S L (S bE (S L (S L (S bE (S L (S L (S L (S L (S L (S L (S L (S L (S L (S L (S bE (S L (J [(1,oC),(8,oC),(11,.bc 11 0),(12,v2),(13,.bc 13 0),(14,v2),(15,.bc 15 0),(16,v2),(17,.bc 17 0),(18,v2),(19,dS),(20,v2),(24,v2),(25,v2),(26,dS),(27,v2),(28,v2),(29,v2),(30,v2),(31,v2),(32,v9),(33,v9)] [(11,sb),(13,sb),(15,sb),(17,sb)] ax (J [(1,oC),(8,oC),(11,.bc 11 0),(12,v2),(13,.bc 13 0),(14,v2),(15,.bc 15 0),(16,v2),(17,.bc 17 0),(18,v2),(19,dS),(20,v2),(26,dS),(27,v2),(28,v2),(29,v2),(30,v2),(31,v2),(32,v9),(33,v9)] [(11,sb),(13,sb),(15,sb),(17,sb)] ax aO)))))))))))))))))))) (λx=>A.le_refl _) (by kernel_rfl) λx=>by kernel_rfl
end
end Go.Fer.oE
namespace Go.Fer.oE
open Go Go.Proofs
theorem ac0{H:Type}{enc:TypeId×Value->H}{a:Assume}{C:Checked}{os:Os}{f:FuncId}{fn:Func}{s:ChangeSpec}{conds:List PathCond}{apart GH handsOn again:Bool}{X:World->Array Value->Prop}
  (iN:∀ (w w':World) (args:Array Value),w.heap=w'.heap->X w args->X w' args)
  (own:ownKnob C.prog.godebug=none) (started:os.Started) (axM:C.prog.inits.idxOf? f=none) (tK:C.prog.funcs[f]?=some fn)
  (witness:∃ (w:World) (tape:Tape) (i:Input),w.os=os/\(w.forCall tape i).Shaped C.prog/\i.vars=[]/\Input.okWide C.prog (w.forCall tape i) .any w.heap.size f i/\
   ((s.pre enc C.prog fn conds apart (w.forCall tape i).memory i.args/\X (w.forCall tape i).memory i.args)/\sizedMet enc C.prog fn (OpenSpec.ofChange s) apart (w.forCall tape i).memory i.args)/\a.holds C.prog (lone (Frame.enter C.prog f i.args .normal) [] (w.forCall tape i)))
  (axN:∀ (aw:World) (base:Nat) (args:Array Value) (bh gs:List (DataW H)) (before:List MemPlace),(∀ (j:Nat) t v,fn.params[j]?=some t->args[j]?=some v->Value.okWide C.prog aw .any base t v)->
   DataW.Whole enc C.prog fn.params.toList s.vars apart aw args.toList bh gs before->
   aw.ShapedOpen C.prog->X aw args->
   Calls C.prog f args aw λe qK=>∃ v,e=.returned v/\s.post enc C.prog fn apart GH handsOn again aw args v qK) :
  ReturnsInHanded a C os f .any (λw args=>(s.pre enc C.prog fn conds apart w args/\X w args)/\sizedMet enc C.prog fn (OpenSpec.ofChange s) apart w args) (s.post enc C.prog fn apart GH handsOn again):=by
 refine returnsInHanded_of_calls own started axM witness ?_;intro w tape i _ nP _ cK gO aze;obtain⟨_,_,_,axO,axP,_,_,_,_,x'⟩:=cK;have e:axO=fn:=Option.some.inj (axP.symm.trans tK);subst e;obtain⟨⟨⟨bh,gs,before,hw,hc⟩,ah⟩,bj⟩:=gO;have Dn:=DataW.Whole.of_heap (w':=w.forCall tape i) (by rfl) hw;refine (axN (w.forCall tape i) w.heap.size i.args bh gs before x' Dn nP (iN (w.forCall tape i).memory (w.forCall tape i) i.args rfl ah)).mono λe qK ⟨v,he,an⟩=>?_;subst he;exact ChangeSpec.post_blind an
theorem Ku{P:Program}{w:World}:∀ {l:List (String×DataW Unit)} {ps:List MemPlace},DataW.LaidVars P w l ps->∀ n d,(n,d)∈l->∃ g t cs ch p,P.globalNamed n=some g/\(P.globals[g]?).map (·.type)=some t/\w.var? P n=some cs/\DataW.trod (λ_=>()) P w 0 (λ_=>true) false ch t cs.toList=some (d,p)
 | [],_,_,_,_,hm=>by cases hm
 | (iZ,vk)::r,ps,h,n,d,hm=>by
  obtain⟨g,t,cs,ch,p,q,E,U,ag,a6,bM,_⟩:=h;rcases List.mem_cons.1 hm with e | e
  ·cases e;exact⟨g,t,cs,ch,p,E,U,ag,a6⟩
  ·exact Ku bM n d e
theorem acZ{P:Program}{w:World}{n:String}{g:Nat}{t:TypeId}{d:DataW Unit}{ch:Nat}{cs:Array Value}{p:List MemPlace}(aB:P.globalNamed n=some g)(ae:w.var? P n=some cs)(hu:∃ ms,P.underlying t=some (.interface ms))
  (h:DataW.trod (λ_=>()) P w 0 (λ_=>true) false ch t cs.toList=some (d,p)):∃ v,w.cell? ⟨g,0,none⟩=some v/\(v=.nilIface\/∃ lI ml,v=.iface lI ml):=by
 obtain⟨ms,hu⟩:=hu;have hc:w.cell? ⟨g,0,none⟩=cs[0]?:=by
  unfold World.var? at ae;rw[aB]at ae;simp only[Option.bind_some]at ae;cases af:w.heap[g]? with
  | none=>rw[af]at ae;cases ae
  | some o=>
   rw[af]at ae;cases o with
   | cells a T tb=>cases ae;simp[World.cell?,af]
   | _=>cases ae
 have aL:cs[0]?=cs.toList[0]?:=by simp
 rw[hc,aL];generalize cs.toList=l at h;cases ch with
 | zero=>simp[DataW.trod]at h
 | succ ch=>
  match l with
  | []=>simp[DataW.trod,hu]at h
  | [.nilIface]=>exact⟨_,rfl,.inl rfl⟩
  | [.iface u v]=>exact⟨_,rfl,.inr ⟨u,v,rfl⟩⟩
  | _::_::_=>simp[DataW.trod,hu]at h
  | [x]=>cases x<;>first | exact⟨_,rfl,.inl rfl⟩ | exact⟨_,rfl,.inr ⟨_,_,rfl⟩⟩ | (simp[DataW.trod,hu]at h;done)
theorem axQ:((List.range 8).all λb=>(((begin Tryz.prog (λ_ _=>0) default).world.heap[b]?).bind Obj.row?).isSome)=true:=by kernel_rfl
theorem ac5{aw : World}(h : aw.ShapedOpen Tryz.prog)(E : ∃ v, aw.cell? ⟨1, 0, none⟩ = some v /\ (v = .nilIface \/ ∃ lI ml, v = .iface lI ml))(U : ∃ v, aw.cell? ⟨2, 0, none⟩ = some v /\ (v = .nilIface \/ ∃ lI ml, v = .iface lI ml))(aL : Lib.TabIs Tryz.prog aw "internal/strconv.uint64pow10" .u64 Lib.pow10Tab) : nR Tryz.prog (qN aw) aw := λb W => by
 have iU:b<8:=Nat.lt_of_lt_of_le W (of_decide_eq_true (by kernel_rfl));refine⟨?_,?_⟩
 ·have M:=List.all_eq_true.1 axQ b (List.mem_range.2 iU);obtain⟨⟨zero,t⟩,bj⟩:=Option.isSome_iff_exists.1 M;obtain⟨cs,cT,_⟩:=h.1 b zero t W bj;exact (Array.getElem?_eq_some_iff.1 cT).1
 ·match b,W,iU with
  | 0,W,_=>exact cell_of_shapedOpen_int (t:=3) (zero:=#[.int .i64 0]) h W (by kernel_rfl) rfl (by kernel_rfl) (by kernel_rfl) Tryz.underlying3
  | 1,_,_=>exact E
  | 2,_,_=>exact U
  | 3,_,_=>trivial
  | 4,_,_=>trivial
  | 5,_,_=>
   show ∀ i,aw.cell? ⟨5,i,none⟩=if i<20 then some (.int .u64 (10 ^ i)) else none
   unfold Lib.TabIs World.var? at aL;rw[show Tryz.prog.globalNamed "internal/strconv.uint64pow10" = some 5 by kernel_rfl]at aL;change (match aw.heap[5]? with | some (.cells cs _ _)=>some cs | _=>none)=_ at aL;intro i;cases af:aw.heap[5]? with
   | none=>rw[af]at aL;cases aL
   | some o=>
    rw[af]at aL;cases o with
    | cells cs T tb=>
     simp only[Option.some.injEq]at aL;simp only[World.cell?,af,aL];simp only[Option.isSome_none,Bool.false_eq_true,if_false,List.getElem?_toArray,List.getElem?_map,Lib.pow10Tab];split
     ·rename_i BW;rw[List.getElem?_range BW];simp
     ·rename_i BW;rw[List.getElem?_eq_none (by simp;omega)];rfl
    | _=>cases aL
  | 6,_,_=>trivial
  | 7,_,_=>trivial
end Go.Fer.oE
