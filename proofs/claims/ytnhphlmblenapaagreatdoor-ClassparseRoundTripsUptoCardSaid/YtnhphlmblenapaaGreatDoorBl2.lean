import Derived.Shelf.SlicesE.Clone
import Derived.Shelf.SlicesG.Clone
import Derived.Shelf.Strings.OnBuilder
import Derived.Shelf.LaysM
import Derived.Shelf.Strconv.Itoa3
import Derived.Shelf.LaysC
import Derived.Shelf.Strconv.ParseIntPublic10
import Derived.Shelf.Strings.Count
import Derived.Shelf.Small.Strs
import Derived.Shelf.Small.Utf8
import Derived.Shelf.Strings.Prefix
import Derived.Shelf.Strings.Runes
import Derived.Shelf.Strings.Repeat
import Derived.Test.YtnhphlmblenapaaGreatDoorChecked
import Derived.Test.YtnhphlmblenapaaGreatDoorBl0
set_option linter.unusedVariables false
set_option linter.unusedSimpArgs false
set_option linter.unusedSectionVars false
set_option maxRecDepth 100000
set_option maxHeartbeats 2000000
open List renaming getElem_cons_zero->TU
namespace Go.Proofs.YtnhphlmblenapaaGreatDoor
open Go.Shelf
def Tryz.lays156_ren:Go.Shelf.Ren:=⟨fun|156=>244|165=>157|166=>109|169=>56|240=>154|241=>209|276=>205|277=>238|n=>n,fun|31=>52|9=>9|3=>3|4=>4|0=>0|20=>20|72=>89|76=>141|70=>86|37=>87|75=>140|127=>145|164=>202|5=>5|80=>96|n=>n,fun|n=>n⟩
theorem Tryz.lays156:Go.Proofs.Lays.n156 Tryz.prog Tryz.lays156_ren:={
 mixed:=by kernel_rfl
 f156:=Tryz.func244.trans (congrArg some (by kernel_rfl))
 f165:=Tryz.func157.trans (congrArg some (by kernel_rfl))
 f166:=Tryz.func109.trans (congrArg some (by kernel_rfl))
 f169:=Tryz.func56.trans (congrArg some (by kernel_rfl))
 f240:=Tryz.func154.trans (congrArg some (by kernel_rfl))
 f241:=Tryz.func209.trans (congrArg some (by kernel_rfl))
 f276:=Tryz.func205.trans (congrArg some (by kernel_rfl))
 f277:=Tryz.func238.trans (congrArg some (by kernel_rfl))
 t0:=Tryz.underlying0
 a0:=Tryz.isAgg0
 z0:=Tryz.sizeOf0
 v0:=Tryz.zeroValue0
 t3:=Tryz.underlying3
 a3:=Tryz.isAgg3
 z3:=Tryz.sizeOf3
 v3:=Tryz.zeroValue3
 t4:=Tryz.underlying4
 a4:=Tryz.isAgg4
 z4:=Tryz.sizeOf4
 v4:=Tryz.zeroValue4
 t9:=Tryz.underlying9
 a9:=Tryz.isAgg9
 z9:=Tryz.sizeOf9
 v9:=Tryz.zeroValue9
 t20:=Tryz.underlying20
 a20:=Tryz.isAgg20
 z20:=Tryz.sizeOf20
 v20:=Tryz.zeroValue20
 t31:=Tryz.underlying52
 a31:=Tryz.isAgg52
 z31:=Tryz.sizeOf52
 v31:=Tryz.zeroValue52
 t37:=Tryz.underlying87
 a37:=Tryz.isAgg87
 z37:=Tryz.sizeOf87
 v37:=Tryz.zeroValue87
 t70:=Tryz.underlying86
 a70:=Tryz.isAgg86
 z70:=Tryz.sizeOf86
 v70:=Tryz.zeroValue86
 t72:=Tryz.underlying89
 a72:=Tryz.isAgg89
 z72:=Tryz.sizeOf89
 v72:=Tryz.zeroValue89
 t75:=Tryz.underlying140
 a75:=Tryz.isAgg140
 z75:=Tryz.sizeOf140
 v75:=Tryz.zeroValue140
 t76:=Tryz.underlying141
 a76:=Tryz.isAgg141
 z76:=Tryz.sizeOf141
 v76:=Tryz.zeroValue141
 t127:=Tryz.underlying145
 a127:=Tryz.isAgg145
 z127:=Tryz.sizeOf145
 v127:=Tryz.zeroValue145
 t164:=Tryz.underlying202
 a164:=Tryz.isAgg202
 z164:=Tryz.sizeOf202
 v164:=Tryz.zeroValue202}
theorem Tryz.Builder_Extra_156:Builder.Extra Tryz.prog Tryz.lays156_ren:={
 sizeBuilder:=by kernel_rfl
 liesBuilder:=by kernel_rfl
 t5:=Tryz.underlying5
 a5:=Tryz.isAgg5
 z5:=Tryz.sizeOf5
 v5:=Tryz.zeroValue5
 infoByte:=by kernel_rfl
 cellsByte:=by kernel_rfl
 sizeByte:=by kernel_rfl
 neB5:=by decide}
open Go.RowKit in
theorem Tryz.strings_Join_none(a:Option Addr)(c:Nat)(sep:ByteArray)(w:World):
 Calls Tryz.prog 244 #[.slice a 0 c,.string sep] w fun e w'=>e=.returned (.string ⟨#[]⟩)/\w'=w:=Any.strings_Join_none Tryz.lays156 Tryz.Builder_Extra_156 a c sep w
open Go.RowKit in
theorem Tryz.strings_Join(bk o c:Nat)(xs:List ByteArray)(sep:ByteArray)(w:World)(hcells:∀(j:Nat) x,xs[j]? = some x->w.cell? ⟨bk,o+j,none⟩=some (.string x))(hbk:bk<w.heap.size)(hN:xs.length≤140737488355328)(hcap:xs.length≤c)(hlen:(Lib.join (xs.map (·.data.toList)) sep.data.toList).length≤140737488355328):
 Calls Tryz.prog 244 #[.slice (some ⟨bk,o,none⟩) xs.length c,.string sep] w fun e w'=>e=.returned (.string ⟨(Lib.join (xs.map (·.data.toList)) sep.data.toList).toArray⟩)/\Below w.heap.size w w':=Any.strings_Join Tryz.lays156 Tryz.Builder_Extra_156 bk o c xs sep w hcells hbk hN hcap hlen
def Tryz.lays119_ren:Go.Shelf.Ren:=⟨fun|119=>249|n=>n,fun|21=>21|4=>4|n=>n,fun|n=>n⟩
theorem Tryz.lays119:Go.Proofs.Lays.n119 Tryz.prog Tryz.lays119_ren:={
 mixed:=by kernel_rfl
 f119:=Tryz.func249.trans (congrArg some (by kernel_rfl))
 t4:=Tryz.underlying4
 a4:=Tryz.isAgg4
 z4:=Tryz.sizeOf4
 v4:=Tryz.zeroValue4
 t21:=Tryz.underlying21
 a21:=Tryz.isAgg21
 z21:=Tryz.sizeOf21
 v21:=Tryz.zeroValue21}
theorem Tryz.utf8_ValidRune(r:Int)(w:World):
 Calls Tryz.prog 249 #[.int .i32 r] w fun e w'=>e=.returned (.bool (Lib.validRune r))/\w'=w:=Any.utf8_ValidRune Tryz.lays119 r w
def Tryz.lays137_ren:Go.Shelf.Ren:=⟨fun|137=>248|217=>278|266=>305|n=>n,fun|9=>9|5=>5|3=>3|n=>n,fun|n=>n⟩
theorem Tryz.lays137:Go.Proofs.Lays.n137 Tryz.prog Tryz.lays137_ren:={
 mixed:=by kernel_rfl
 f137:=Tryz.func248.trans (congrArg some (by kernel_rfl))
 f217:=Tryz.func278.trans (congrArg some (by kernel_rfl))
 f266:=Tryz.func305.trans (congrArg some (by kernel_rfl))
 t3:=Tryz.underlying3
 a3:=Tryz.isAgg3
 z3:=Tryz.sizeOf3
 v3:=Tryz.zeroValue3
 t5:=Tryz.underlying5
 a5:=Tryz.isAgg5
 z5:=Tryz.sizeOf5
 v5:=Tryz.zeroValue5
 t9:=Tryz.underlying9
 a9:=Tryz.isAgg9
 z9:=Tryz.sizeOf9
 v9:=Tryz.zeroValue9}
open Go.RowKit in
theorem Tryz.strings_IndexByte(s:ByteArray)(c:Int)(w:World):
 Calls Tryz.prog 248 #[.string s,.int .u8 c] w fun e w'=>e=.returned (.int .i64 (Lib.indexByte s.data.toList c.toNat.toUInt8))/\w'=w:=Any.strings_IndexByte Tryz.lays137 s c w
def Tryz.laysM171_ren:Go.Shelf.Ren:=⟨fun|171=>159|243=>210|246=>239|283=>267|284=>268|285=>269|286=>270|129=>297|317=>296|318=>298|319=>299|320=>300|337=>317|338=>318|n=>n,fun|3=>3|9=>9|2=>2|4=>4|171=>251|0=>0|53=>207|37=>87|5=>5|173=>254|212=>271|51=>204|20=>20|213=>272|46=>178|232=>290|233=>291|n=>n,fun|17=>3|18=>6|19=>7|n=>n⟩
theorem Tryz.laysM171:Go.Proofs.LaysM.n171 Tryz.prog Tryz.laysM171_ren:={
 mixed:=by kernel_rfl
 f129:=Tryz.func297.trans (congrArg some (by kernel_rfl))
 f171:=Tryz.func159.trans (congrArg some (by kernel_rfl))
 f243:=Tryz.func210.trans (congrArg some (by kernel_rfl))
 f246:=Tryz.func239.trans (congrArg some (by kernel_rfl))
 f283:=Tryz.func267.trans (congrArg some (by kernel_rfl))
 f284:=Tryz.func268.trans (congrArg some (by kernel_rfl))
 f285:=Tryz.func269.trans (congrArg some (by kernel_rfl))
 f286:=Tryz.func270.trans (congrArg some (by kernel_rfl))
 f317:=Tryz.func296.trans (congrArg some (by kernel_rfl))
 f318:=Tryz.func298.trans (congrArg some (by kernel_rfl))
 f319:=Tryz.func299.trans (congrArg some (by kernel_rfl))
 f320:=Tryz.func300.trans (congrArg some (by kernel_rfl))
 f337:=Tryz.func317.trans (congrArg some (by kernel_rfl))
 f338:=Tryz.func318.trans (congrArg some (by kernel_rfl))
 t0:=Tryz.underlying0
 a0:=Tryz.isAgg0
 z0:=Tryz.sizeOf0
 v0:=Tryz.zeroValue0
 t2:=Tryz.underlying2
 a2:=Tryz.isAgg2
 z2:=Tryz.sizeOf2
 v2:=Tryz.zeroValue2
 t3:=Tryz.underlying3
 a3:=Tryz.isAgg3
 z3:=Tryz.sizeOf3
 v3:=Tryz.zeroValue3
 t4:=Tryz.underlying4
 a4:=Tryz.isAgg4
 z4:=Tryz.sizeOf4
 v4:=Tryz.zeroValue4
 t5:=Tryz.underlying5
 a5:=Tryz.isAgg5
 z5:=Tryz.sizeOf5
 v5:=Tryz.zeroValue5
 t9:=Tryz.underlying9
 a9:=Tryz.isAgg9
 z9:=Tryz.sizeOf9
 v9:=Tryz.zeroValue9
 t20:=Tryz.underlying20
 a20:=Tryz.isAgg20
 z20:=Tryz.sizeOf20
 v20:=Tryz.zeroValue20
 t37:=Tryz.underlying87
 a37:=Tryz.isAgg87
 z37:=Tryz.sizeOf87
 v37:=Tryz.zeroValue87
 t46:=Tryz.underlying178
 a46:=Tryz.isAgg178
 z46:=Tryz.sizeOf178
 v46:=Tryz.zeroValue178
 t51:=Tryz.underlying204
 a51:=Tryz.isAgg204
 z51:=Tryz.sizeOf204
 v51:=Tryz.zeroValue204
 t53:=Tryz.underlying207
 a53:=Tryz.isAgg207
 z53:=Tryz.sizeOf207
 v53:=Tryz.zeroValue207
 t171:=Tryz.underlying251
 a171:=Tryz.isAgg251
 z171:=Tryz.sizeOf251
 v171:=Tryz.zeroValue251
 t173:=Tryz.underlying254
 a173:=Tryz.isAgg254
 z173:=Tryz.sizeOf254
 v173:=Tryz.zeroValue254
 t212:=Tryz.underlying271
 a212:=Tryz.isAgg271
 z212:=Tryz.sizeOf271
 v212:=Tryz.zeroValue271
 t213:=Tryz.underlying272
 a213:=Tryz.isAgg272
 z213:=Tryz.sizeOf272
 t232:=Tryz.underlying290
 a232:=Tryz.isAgg290
 z232:=Tryz.sizeOf290
 v232:=Tryz.zeroValue290
 t233:=Tryz.underlying291
 a233:=Tryz.isAgg291
 z233:=Tryz.sizeOf291
 v233:=Tryz.zeroValue291
 g17:=by kernel_rfl
 g18:=by kernel_rfl
 g19:=by kernel_rfl
 i0:=by kernel_rfl
 i2:=by kernel_rfl
 i3:=by kernel_rfl
 i4:=by kernel_rfl
 i5:=by kernel_rfl
 i9:=by kernel_rfl
 i20:=by kernel_rfl
 i37:=by kernel_rfl
 i46:=by kernel_rfl
 i51:=by kernel_rfl
 i53:=by kernel_rfl
 i171:=by kernel_rfl
 i173:=by kernel_rfl
 i212:=by kernel_rfl
 i232:=by kernel_rfl
 i233:=by kernel_rfl
 m17:=by kernel_rfl
 m18:=by kernel_rfl
 m19:=by kernel_rfl}
open Go.RowKit Go.Sort Go.Lib in
theorem Tryz.strconv_Itoa(n:Int)(h0 : -9223372036854775808≤n)(h1:n≤9223372036854775807)(w:World)(htab:Lib.TabIs Tryz.prog w "internal/strconv.uint64pow10" .u64 Lib.pow10Tab):
 Calls Tryz.prog 159 #[.int .i64 n] w fun e w'=>e=.returned (.string ⟨(Lib.itoa n).toArray⟩)/\∃k os,w'=grow (w.drewN k) os:=Any.strconv_Itoa Tryz.laysM171 n h0 h1 w htab
def Tryz.laysC174_ren:Go.Shelf.Ren:=⟨fun|174=>220|247=>252|245=>253|287=>279|279=>280|280=>281|281=>282|282=>283|321=>306|322=>307|316=>308|171=>159|205=>309|243=>210|246=>239|283=>267|284=>268|285=>269|286=>270|129=>297|317=>296|318=>298|319=>299|320=>300|337=>317|338=>318|n=>n,fun|9=>9|3=>3|2=>2|75=>140|85=>216|4=>4|167=>261|5=>5|53=>207|175=>262|46=>178|168=>264|37=>87|0=>0|210=>278|21=>21|127=>145|145=>285|143=>283|171=>251|173=>254|212=>271|51=>204|20=>20|213=>272|232=>290|233=>291|80=>96|n=>n,fun|15=>4|16=>5|17=>3|18=>6|19=>7|n=>n⟩
theorem Tryz.laysC174:Go.Proofs.LaysC.n174 Tryz.prog Tryz.laysC174_ren:={
 mixed:=by kernel_rfl
 f129:=Tryz.func297.trans (congrArg some (by kernel_rfl))
 f171:=Tryz.func159.trans (congrArg some (by kernel_rfl))
 f174:=Tryz.func220.trans (congrArg some (by kernel_rfl))
 f205:=Tryz.func309.trans (congrArg some (by kernel_rfl))
 f243:=Tryz.func210.trans (congrArg some (by kernel_rfl))
 f245:=Tryz.func253.trans (congrArg some (by kernel_rfl))
 f246:=Tryz.func239.trans (congrArg some (by kernel_rfl))
 f247:=Tryz.func252.trans (congrArg some (by kernel_rfl))
 f279:=Tryz.func280.trans (congrArg some (by kernel_rfl))
 f280:=Tryz.func281.trans (congrArg some (by kernel_rfl))
 f281:=Tryz.func282.trans (congrArg some (by kernel_rfl))
 f282:=Tryz.func283.trans (congrArg some (by kernel_rfl))
 f283:=Tryz.func267.trans (congrArg some (by kernel_rfl))
 f284:=Tryz.func268.trans (congrArg some (by kernel_rfl))
 f285:=Tryz.func269.trans (congrArg some (by kernel_rfl))
 f286:=Tryz.func270.trans (congrArg some (by kernel_rfl))
 f287:=Tryz.func279.trans (congrArg some (by kernel_rfl))
 f316:=Tryz.func308.trans (congrArg some (by kernel_rfl))
 f317:=Tryz.func296.trans (congrArg some (by kernel_rfl))
 f318:=Tryz.func298.trans (congrArg some (by kernel_rfl))
 f319:=Tryz.func299.trans (congrArg some (by kernel_rfl))
 f320:=Tryz.func300.trans (congrArg some (by kernel_rfl))
 f321:=Tryz.func306.trans (congrArg some (by kernel_rfl))
 f322:=Tryz.func307.trans (congrArg some (by kernel_rfl))
 f337:=Tryz.func317.trans (congrArg some (by kernel_rfl))
 f338:=Tryz.func318.trans (congrArg some (by kernel_rfl))
 t0:=Tryz.underlying0
 a0:=Tryz.isAgg0
 z0:=Tryz.sizeOf0
 v0:=Tryz.zeroValue0
 t2:=Tryz.underlying2
 a2:=Tryz.isAgg2
 z2:=Tryz.sizeOf2
 v2:=Tryz.zeroValue2
 t3:=Tryz.underlying3
 a3:=Tryz.isAgg3
 z3:=Tryz.sizeOf3
 v3:=Tryz.zeroValue3
 t4:=Tryz.underlying4
 a4:=Tryz.isAgg4
 z4:=Tryz.sizeOf4
 v4:=Tryz.zeroValue4
 t5:=Tryz.underlying5
 a5:=Tryz.isAgg5
 z5:=Tryz.sizeOf5
 v5:=Tryz.zeroValue5
 t9:=Tryz.underlying9
 a9:=Tryz.isAgg9
 z9:=Tryz.sizeOf9
 v9:=Tryz.zeroValue9
 t20:=Tryz.underlying20
 a20:=Tryz.isAgg20
 z20:=Tryz.sizeOf20
 v20:=Tryz.zeroValue20
 t21:=Tryz.underlying21
 a21:=Tryz.isAgg21
 z21:=Tryz.sizeOf21
 v21:=Tryz.zeroValue21
 t37:=Tryz.underlying87
 a37:=Tryz.isAgg87
 z37:=Tryz.sizeOf87
 v37:=Tryz.zeroValue87
 t46:=Tryz.underlying178
 a46:=Tryz.isAgg178
 z46:=Tryz.sizeOf178
 v46:=Tryz.zeroValue178
 t51:=Tryz.underlying204
 a51:=Tryz.isAgg204
 z51:=Tryz.sizeOf204
 v51:=Tryz.zeroValue204
 t53:=Tryz.underlying207
 a53:=Tryz.isAgg207
 z53:=Tryz.sizeOf207
 v53:=Tryz.zeroValue207
 t75:=Tryz.underlying140
 a75:=Tryz.isAgg140
 z75:=Tryz.sizeOf140
 v75:=Tryz.zeroValue140
 t85:=Tryz.underlying216
 a85:=Tryz.isAgg216
 z85:=Tryz.sizeOf216
 v85:=Tryz.zeroValue216
 t127:=Tryz.underlying145
 a127:=Tryz.isAgg145
 z127:=Tryz.sizeOf145
 v127:=Tryz.zeroValue145
 t143:=Tryz.underlying283
 a143:=Tryz.isAgg283
 z143:=Tryz.sizeOf283
 v143:=Tryz.zeroValue283
 t145:=Tryz.underlying285
 a145:=Tryz.isAgg285
 z145:=Tryz.sizeOf285
 v145:=Tryz.zeroValue285
 t167:=Tryz.underlying261
 a167:=Tryz.isAgg261
 z167:=Tryz.sizeOf261
 v167:=Tryz.zeroValue261
 t168:=Tryz.underlying264
 a168:=Tryz.isAgg264
 z168:=Tryz.sizeOf264
 v168:=Tryz.zeroValue264
 t171:=Tryz.underlying251
 a171:=Tryz.isAgg251
 z171:=Tryz.sizeOf251
 v171:=Tryz.zeroValue251
 t173:=Tryz.underlying254
 a173:=Tryz.isAgg254
 z173:=Tryz.sizeOf254
 v173:=Tryz.zeroValue254
 t175:=Tryz.underlying262
 a175:=Tryz.isAgg262
 z175:=Tryz.sizeOf262
 v175:=Tryz.zeroValue262
 t210:=Tryz.underlying278
 a210:=Tryz.isAgg278
 z210:=Tryz.sizeOf278
 v210:=Tryz.zeroValue278
 t212:=Tryz.underlying271
 a212:=Tryz.isAgg271
 z212:=Tryz.sizeOf271
 v212:=Tryz.zeroValue271
 t213:=Tryz.underlying272
 a213:=Tryz.isAgg272
 z213:=Tryz.sizeOf272
 t232:=Tryz.underlying290
 a232:=Tryz.isAgg290
 z232:=Tryz.sizeOf290
 v232:=Tryz.zeroValue290
 t233:=Tryz.underlying291
 a233:=Tryz.isAgg291
 z233:=Tryz.sizeOf291
 v233:=Tryz.zeroValue291
 g15:=by kernel_rfl
 g16:=by kernel_rfl
 g17:=by kernel_rfl
 g18:=by kernel_rfl
 g19:=by kernel_rfl
 t80:=Tryz.underlying96
 a80:=Tryz.isAgg96
 z80:=Tryz.sizeOf96
 v80:=Tryz.zeroValue96
 i0:=by kernel_rfl
 i2:=by kernel_rfl
 i3:=by kernel_rfl
 i4:=by kernel_rfl
 i5:=by kernel_rfl
 i9:=by kernel_rfl
 i20:=by kernel_rfl
 i21:=by kernel_rfl
 i37:=by kernel_rfl
 i46:=by kernel_rfl
 i51:=by kernel_rfl
 i53:=by kernel_rfl
 i75:=by kernel_rfl
 i80:=by kernel_rfl
 i85:=by kernel_rfl
 i127:=by kernel_rfl
 i143:=by kernel_rfl
 i145:=by kernel_rfl
 i167:=by kernel_rfl
 i168:=by kernel_rfl
 i171:=by kernel_rfl
 i173:=by kernel_rfl
 i175:=by kernel_rfl
 i210:=by kernel_rfl
 i212:=by kernel_rfl
 i232:=by kernel_rfl
 i233:=by kernel_rfl
 m15:=by kernel_rfl
 m16:=by kernel_rfl
 m17:=by kernel_rfl
 m18:=by kernel_rfl
 m19:=by kernel_rfl
 c0:=by kernel_rfl
 c2:=by kernel_rfl
 c3:=by kernel_rfl
 c4:=by kernel_rfl
 c5:=by kernel_rfl
 c9:=by kernel_rfl
 c20:=by kernel_rfl
 c21:=by kernel_rfl
 c37:=by kernel_rfl
 c46:=by kernel_rfl
 c51:=by kernel_rfl
 c53:=by kernel_rfl
 c75:=by kernel_rfl
 c80:=by kernel_rfl
 c85:=by kernel_rfl
 c127:=by kernel_rfl
 c143:=by kernel_rfl
 c145:=by kernel_rfl
 c167:=by kernel_rfl
 c168:=by kernel_rfl
 c171:=by kernel_rfl
 c173:=by kernel_rfl
 c175:=by kernel_rfl
 c210:=by kernel_rfl
 c212:=by kernel_rfl
 c213:=by kernel_rfl
 c232:=by kernel_rfl
 c233:=by kernel_rfl}
open Go.RowKit in
theorem Tryz.strconv_ParseInt_10_at64_ok(s:ByteArray)(hmax:s.size≤9223372036854775806)(v:Int)(h:Lib.parseIntB 64 s.data.toList=.ok v)(w:World):
 Calls Tryz.prog 220 #[.string s,.int .i64 10,.int .i64 64] w fun e w'=>e=.returned (.tuple #[.int .i64 v,.nilIface])/\(w'=w\/∃t,w'=Lib.bytesWorld w 5 t):=Any.strconv_ParseInt_10_at64_ok Tryz.laysC174 s hmax v h w
open Go.RowKit in
theorem Tryz.strconv_ParseInt_10_at64_range(s:ByteArray)(hlim:s.size≤281474976710656)(h:Lib.parseIntB 64 s.data.toList=.range)(ev:Value)(w:World)(hv:w.cell? ⟨5,0,none⟩=some ev)(hev:ev=.nilIface\/∃te pe,ev=.iface te pe):
 Calls Tryz.prog 220 #[.string s,.int .i64 10,.int .i64 64] w fun e w'=>∃N,e=.returned (.tuple #[.int .i64 (Lib.intSat 64 s.data.toList),.iface 264 (.pointer (some ⟨N,0,none⟩))])/\w.heap.size≤N/\w'.heap[N]? = some (.cells #[.string ⟨#[80,97,114,115,101,73,110,116]⟩,.string s,ev] 278 (0,0))/\Below w.heap.size w w':=Any.strconv_ParseInt_10_at64_range Tryz.laysC174 s hlim h ev w hv hev
def Tryz.lays138_ren:Go.Shelf.Ren:=⟨fun|138=>218|195=>245|218=>246|143=>247|219=>277|217=>278|225=>251|224=>250|267=>304|266=>305|314=>319|n=>n,fun|9=>9|3=>3|4=>4|5=>5|0=>0|46=>178|146=>205|51=>204|n=>n,fun|1=>2|n=>n⟩
theorem Tryz.lays138:Go.Proofs.Lays.n138 Tryz.prog Tryz.lays138_ren:={
 mixed:=by kernel_rfl
 f138:=Tryz.func218.trans (congrArg some (by kernel_rfl))
 f143:=Tryz.func247.trans (congrArg some (by kernel_rfl))
 f195:=Tryz.func245.trans (congrArg some (by kernel_rfl))
 f217:=Tryz.func278.trans (congrArg some (by kernel_rfl))
 f218:=Tryz.func246.trans (congrArg some (by kernel_rfl))
 f219:=Tryz.func277.trans (congrArg some (by kernel_rfl))
 f224:=Tryz.func250.trans (congrArg some (by kernel_rfl))
 f225:=Tryz.func251.trans (congrArg some (by kernel_rfl))
 f266:=Tryz.func305.trans (congrArg some (by kernel_rfl))
 f267:=Tryz.func304.trans (congrArg some (by kernel_rfl))
 f314:=Tryz.func319.trans (congrArg some (by kernel_rfl))
 t0:=Tryz.underlying0
 a0:=Tryz.isAgg0
 z0:=Tryz.sizeOf0
 v0:=Tryz.zeroValue0
 t3:=Tryz.underlying3
 a3:=Tryz.isAgg3
 z3:=Tryz.sizeOf3
 v3:=Tryz.zeroValue3
 t4:=Tryz.underlying4
 a4:=Tryz.isAgg4
 z4:=Tryz.sizeOf4
 v4:=Tryz.zeroValue4
 t5:=Tryz.underlying5
 a5:=Tryz.isAgg5
 z5:=Tryz.sizeOf5
 v5:=Tryz.zeroValue5
 t9:=Tryz.underlying9
 a9:=Tryz.isAgg9
 z9:=Tryz.sizeOf9
 v9:=Tryz.zeroValue9
 t46:=Tryz.underlying178
 a46:=Tryz.isAgg178
 z46:=Tryz.sizeOf178
 v46:=Tryz.zeroValue178
 t51:=Tryz.underlying204
 a51:=Tryz.isAgg204
 z51:=Tryz.sizeOf204
 v51:=Tryz.zeroValue204
 t146:=Tryz.underlying205
 a146:=Tryz.isAgg205
 z146:=Tryz.sizeOf205
 v146:=Tryz.zeroValue205
 g1:=by kernel_rfl}
open Go.RowKit Go.Lib in
theorem Tryz.strings_Count_one(s:ByteArray)(c:UInt8)(w:World):
 Calls Tryz.prog 218 #[.string s,.string ⟨#[c]⟩] w fun e w'=>e=.returned (.int .i64 (Lib.countByte s.data.toList c))/\w'=w:=Any.strings_Count_one Tryz.lays138 s c w
def Tryz.lays99_ren:Go.Shelf.Ren:=⟨fun|99=>156|206=>208|n=>n,fun|9=>9|4=>4|3=>3|n=>n,fun|n=>n⟩
theorem Tryz.lays99:Go.Proofs.Lays.n99 Tryz.prog Tryz.lays99_ren:={
 mixed:=by kernel_rfl
 f99:=Tryz.func156.trans (congrArg some (by kernel_rfl))
 f206:=Tryz.func208.trans (congrArg some (by kernel_rfl))
 t3:=Tryz.underlying3
 a3:=Tryz.isAgg3
 z3:=Tryz.sizeOf3
 v3:=Tryz.zeroValue3
 t4:=Tryz.underlying4
 a4:=Tryz.isAgg4
 z4:=Tryz.sizeOf4
 v4:=Tryz.zeroValue4
 t9:=Tryz.underlying9
 a9:=Tryz.isAgg9
 z9:=Tryz.sizeOf9
 v9:=Tryz.zeroValue9}
open Go.RowKit Go.Lib in
theorem Tryz.strings_HasPrefix(s p:ByteArray)(w:World):
 Calls Tryz.prog 156 #[.string s,.string p] w fun e w'=>e=.returned (.bool (Lib.hasPrefix s.data.toList p.data.toList))/\w'=w:=Any.strings_HasPrefix Tryz.lays99 s p w
def Tryz.lays151_ren:Go.Shelf.Ren:=⟨fun|151=>169|152=>219|137=>248|119=>249|224=>250|225=>251|217=>278|266=>305|n=>n,fun|9=>9|21=>21|4=>4|3=>3|5=>5|0=>0|46=>178|n=>n,fun|n=>n⟩
theorem Tryz.lays151:Go.Proofs.Lays.n151 Tryz.prog Tryz.lays151_ren:={
 mixed:=by kernel_rfl
 f119:=Tryz.func249.trans (congrArg some (by kernel_rfl))
 f137:=Tryz.func248.trans (congrArg some (by kernel_rfl))
 f151:=Tryz.func169.trans (congrArg some (by kernel_rfl))
 f152:=Tryz.func219.trans (congrArg some (by kernel_rfl))
 f217:=Tryz.func278.trans (congrArg some (by kernel_rfl))
 f224:=Tryz.func250.trans (congrArg some (by kernel_rfl))
 f225:=Tryz.func251.trans (congrArg some (by kernel_rfl))
 f266:=Tryz.func305.trans (congrArg some (by kernel_rfl))
 t0:=Tryz.underlying0
 a0:=Tryz.isAgg0
 z0:=Tryz.sizeOf0
 v0:=Tryz.zeroValue0
 t3:=Tryz.underlying3
 a3:=Tryz.isAgg3
 z3:=Tryz.sizeOf3
 v3:=Tryz.zeroValue3
 t4:=Tryz.underlying4
 a4:=Tryz.isAgg4
 z4:=Tryz.sizeOf4
 v4:=Tryz.zeroValue4
 t5:=Tryz.underlying5
 a5:=Tryz.isAgg5
 z5:=Tryz.sizeOf5
 v5:=Tryz.zeroValue5
 t9:=Tryz.underlying9
 a9:=Tryz.isAgg9
 z9:=Tryz.sizeOf9
 v9:=Tryz.zeroValue9
 t21:=Tryz.underlying21
 a21:=Tryz.isAgg21
 z21:=Tryz.sizeOf21
 v21:=Tryz.zeroValue21
 t46:=Tryz.underlying178
 a46:=Tryz.isAgg178
 z46:=Tryz.sizeOf178
 v46:=Tryz.zeroValue178}
open Go.RowKit Go.Lib in
theorem Tryz.strings_ContainsRune_ascii(s:ByteArray)(r:Int)(w:World)(h0:0≤r)(h1:r<128):
 Calls Tryz.prog 169 #[.string s,.int .i32 r] w fun e w'=>e=.returned (.bool (decide (0≤Lib.indexByte s.data.toList r.toNat.toUInt8)))/\w'=w:=Any.strings_ContainsRune_ascii Tryz.lays151 s r w h0 h1
def Tryz.lays105_ren:Go.Shelf.Ren:=⟨fun|105=>110|212=>155|99=>156|165=>157|166=>109|170=>158|169=>56|263=>206|264=>207|206=>208|240=>154|241=>209|276=>205|277=>238|n=>n,fun|9=>9|3=>3|4=>4|20=>20|0=>0|46=>178|109=>179|5=>5|72=>89|76=>141|51=>204|146=>205|53=>207|148=>208|70=>86|37=>87|75=>140|127=>145|164=>202|80=>96|n=>n,fun|n=>n⟩
theorem Tryz.lays105:Go.Proofs.Lays.n105 Tryz.prog Tryz.lays105_ren:={
 mixed:=by kernel_rfl
 f99:=Tryz.func156.trans (congrArg some (by kernel_rfl))
 f105:=Tryz.func110.trans (congrArg some (by kernel_rfl))
 f165:=Tryz.func157.trans (congrArg some (by kernel_rfl))
 f166:=Tryz.func109.trans (congrArg some (by kernel_rfl))
 f169:=Tryz.func56.trans (congrArg some (by kernel_rfl))
 f170:=Tryz.func158.trans (congrArg some (by kernel_rfl))
 f206:=Tryz.func208.trans (congrArg some (by kernel_rfl))
 f212:=Tryz.func155.trans (congrArg some (by kernel_rfl))
 f240:=Tryz.func154.trans (congrArg some (by kernel_rfl))
 f241:=Tryz.func209.trans (congrArg some (by kernel_rfl))
 f263:=Tryz.func206.trans (congrArg some (by kernel_rfl))
 f264:=Tryz.func207.trans (congrArg some (by kernel_rfl))
 f276:=Tryz.func205.trans (congrArg some (by kernel_rfl))
 f277:=Tryz.func238.trans (congrArg some (by kernel_rfl))
 t0:=Tryz.underlying0
 a0:=Tryz.isAgg0
 z0:=Tryz.sizeOf0
 v0:=Tryz.zeroValue0
 t3:=Tryz.underlying3
 a3:=Tryz.isAgg3
 z3:=Tryz.sizeOf3
 v3:=Tryz.zeroValue3
 t4:=Tryz.underlying4
 a4:=Tryz.isAgg4
 z4:=Tryz.sizeOf4
 v4:=Tryz.zeroValue4
 t5:=Tryz.underlying5
 a5:=Tryz.isAgg5
 z5:=Tryz.sizeOf5
 v5:=Tryz.zeroValue5
 t9:=Tryz.underlying9
 a9:=Tryz.isAgg9
 z9:=Tryz.sizeOf9
 v9:=Tryz.zeroValue9
 t20:=Tryz.underlying20
 a20:=Tryz.isAgg20
 z20:=Tryz.sizeOf20
 v20:=Tryz.zeroValue20
 t37:=Tryz.underlying87
 a37:=Tryz.isAgg87
 z37:=Tryz.sizeOf87
 v37:=Tryz.zeroValue87
 t46:=Tryz.underlying178
 a46:=Tryz.isAgg178
 z46:=Tryz.sizeOf178
 v46:=Tryz.zeroValue178
 t51:=Tryz.underlying204
 a51:=Tryz.isAgg204
 z51:=Tryz.sizeOf204
 v51:=Tryz.zeroValue204
 t53:=Tryz.underlying207
 a53:=Tryz.isAgg207
 z53:=Tryz.sizeOf207
 v53:=Tryz.zeroValue207
 t70:=Tryz.underlying86
 a70:=Tryz.isAgg86
 z70:=Tryz.sizeOf86
 v70:=Tryz.zeroValue86
 t72:=Tryz.underlying89
 a72:=Tryz.isAgg89
 z72:=Tryz.sizeOf89
 v72:=Tryz.zeroValue89
 t75:=Tryz.underlying140
 a75:=Tryz.isAgg140
 z75:=Tryz.sizeOf140
 v75:=Tryz.zeroValue140
 t76:=Tryz.underlying141
 a76:=Tryz.isAgg141
 z76:=Tryz.sizeOf141
 v76:=Tryz.zeroValue141
 t109:=Tryz.underlying179
 a109:=Tryz.isAgg179
 z109:=Tryz.sizeOf179
 v109:=Tryz.zeroValue179
 t127:=Tryz.underlying145
 a127:=Tryz.isAgg145
 z127:=Tryz.sizeOf145
 v127:=Tryz.zeroValue145
 t146:=Tryz.underlying205
 a146:=Tryz.isAgg205
 z146:=Tryz.sizeOf205
 v146:=Tryz.zeroValue205
 t148:=Tryz.underlying208
 a148:=Tryz.isAgg208
 z148:=Tryz.sizeOf208
 v148:=Tryz.zeroValue208
 t164:=Tryz.underlying202
 a164:=Tryz.isAgg202
 z164:=Tryz.sizeOf202
 v164:=Tryz.zeroValue202}
theorem Tryz.Builder_Extra_105:Builder.Extra Tryz.prog Tryz.lays105_ren:={
 sizeBuilder:=by kernel_rfl
 liesBuilder:=by kernel_rfl
 t5:=Tryz.underlying5
 a5:=Tryz.isAgg5
 z5:=Tryz.sizeOf5
 v5:=Tryz.zeroValue5
 infoByte:=by kernel_rfl
 cellsByte:=by kernel_rfl
 sizeByte:=by kernel_rfl
 neB5:=by decide}
open Go.RowKit Go.Lib in
theorem Tryz.strings_Repeat(s:ByteArray)(c:Nat)(w:World)(hc:c≤9223372036854775807)(hlen:s.size*c≤140737488355328):
 Calls Tryz.prog 110 #[.string s,.int .i64 c] w fun e w'=>e=.returned (.string ⟨(Lib.repeatL s.data.toList c).toArray⟩)/\Below w.heap.size w w':=Any.strings_Repeat Tryz.lays105 Tryz.Builder_Extra_105 s c w hc hlen
open Go.Shelf
def Tryz.cloneSA_ren:Go.Shelf.Ren:=⟨fun|41=>123|n=>n,fun|22=>52|23=>9|4=>4|n=>n,fun|n=>n⟩
theorem Tryz.cloneSA:Go.Proofs.SlLaysE0.n41 Tryz.prog Tryz.cloneSA_ren:={
 mixed:=by kernel_rfl
 f41:=⟨Tryz.f123.name,by decide,Tryz.func123.trans (congrArg some (by kernel_rfl))⟩
 t4:=Tryz.underlying4
 a4:=Tryz.isAgg4
 z4:=Tryz.sizeOf4
 v4:=Tryz.zeroValue4
 t22:=Tryz.underlying52
 a22:=Tryz.isAgg52
 z22:=Tryz.sizeOf52
 v22:=Tryz.zeroValue52}
def Tryz.cloneZA_ren:Go.Shelf.Ren:=⟨fun|42=>123|n=>n,fun|25=>52|26=>9|4=>4|n=>n,fun|n=>n⟩
theorem Tryz.cloneZA:Go.Proofs.SlLaysN.n42 Tryz.prog Tryz.cloneZA_ren:={
 mixed:=by kernel_rfl
 f42:=⟨Tryz.f123.name,by decide,Tryz.func123.trans (congrArg some (by kernel_rfl))⟩
 t4:=Tryz.underlying4
 a4:=Tryz.isAgg4
 z4:=Tryz.sizeOf4
 v4:=Tryz.zeroValue4
 t25:=Tryz.underlying52
 a25:=Tryz.isAgg52
 z25:=Tryz.sizeOf52
 v25:=Tryz.zeroValue52
 t26:=Tryz.underlying9
 a26:=Tryz.isAgg9
 z26:=Tryz.sizeOf9
 v26:=Tryz.zeroValue9
 i26:=by kernel_rfl}
end Go.Proofs.YtnhphlmblenapaaGreatDoor
namespace Go.Proofs.YtnhphlmblenapaaGreatDoor
open Go.RowKit
abbrev PT:TypeId:=91
abbrev U8:TypeId:=5
theorem D5:∃i0,Tryz.prog.info? U8=some i0/\i0.zero=some (.int .u8 0)/\i0.size=1/\i0.bytes=1:=by
 have h:(Tryz.prog.info? U8).map (fun i=>(i.zero,i.size,i.bytes))=some (some (.int .u8 0),1,1):=by kernel_rfl
 cases hi:Tryz.prog.info? U8 with
 | none=>rw[hi]at h;cases h
 | some i0=>rw[hi]at h;simp only[Option.map_some,Option.some.injEq,Prod.mk.injEq]at h;exact⟨i0,rfl,h.1,h.2.1,h.2.2⟩
theorem yw:∃j,Tryz.prog.info? 89=some j/\j.size=2:=by
 have h:(Tryz.prog.info? 89).map (·.size)=some 2:=by kernel_rfl
 exact Option.map_eq_some_iff.1 h
theorem Ey:liesAt Tryz.prog Tryz.prog.depth PT (3/Tryz.prog.cellsOf PT) 0 89 1=true:=by kernel_rfl
theorem JZ(b:Nat)(w:World)(h0:w.cell? ⟨b,0,none⟩=some (.pointer (some ⟨b,0,none⟩))):
 Calls Tryz.prog 154 #[.pointer (some ⟨b,0,none⟩)] w fun e w'=>e=.returned (.tuple #[])/\w'=w:=by
 obtain⟨j,hj,-⟩:=yw;go_enter Tryz.func154,Tryz.ntmps154;go_wp2;rw[Lib.run_neq_ptr_same w _ Tryz.underlying86 hj];go_wp2;go_end0;exact⟨rfl,rfl⟩
theorem MY(b:Nat)(w:World)(h0:w.cell? ⟨b,0,none⟩=some (.pointer none))(hsh:w.shape? b=some (PT,3))(hfz:w.frozen? ⟨b,0,none⟩=false):
 Calls Tryz.prog 154 #[.pointer (some ⟨b,0,none⟩)] w fun e w'=>e=.returned (.tuple #[])/\w'=w.setCell ⟨b,0,none⟩ (.pointer (some ⟨b,0,none⟩)):=by
 obtain⟨j,hj,hjs⟩:=yw;go_enter Tryz.func154,Tryz.ntmps154;go_wp2;rw[Lib.run_to_unsafe w ⟨b,0,none⟩ Tryz.underlying86 Tryz.underlying202 hj (by rw[hjs];decide) hsh (show(0:Nat)<3 by decide)];simp only[Result.andThen];rw[Oper.upon_value];go_wp2;rw[run_callFunc_extern Tryz.func205 (by kernel_rfl) (by kernel_rfl) (by kernel_rfl) (e:=Extern.AbiNoEscape.same) (by kernel_rfl)];rw[Lib.run_noEscape];simp only[Result.andThen];rw[Oper.upon_value];go_wp2;rw[Lib.run_from_unsafe w ⟨b,0,none⟩ Tryz.underlying202 Tryz.underlying86 hj hsh Ey];simp only[Result.andThen];rw[Oper.upon_value];go_wp2;go_end0;exact⟨rfl,rfl⟩
theorem JR(b:Nat)(T:TypeId)(p0 v d0:Value)(w:World)(hb:w.heap[b]? = some (.cells #[p0,v,d0] T (0,0)))(hp:p0=.pointer (some ⟨b,0,none⟩)\/p0=.pointer none/\T=PT):
 Calls Tryz.prog 154 #[.pointer (some ⟨b,0,none⟩)] w fun e w'=>e=.returned (.tuple #[])/\w'.heap[b]? = some (.cells #[.pointer (some ⟨b,0,none⟩),v,d0] T (0,0))/\
  (∀c,c≠b->w'.heap[c]? = w.heap[c]?)/\w'.heap.size=w.heap.size/\w'.os=w.os/\w'.tape=w.tape/\w'.output=w.output:=by
 rcases hp with rfl|⟨rfl,rfl⟩
 .refine(JZ b w (by simp[World.cell?,hb])).mono ?_;rintro e w' ⟨rfl,rfl⟩;exact⟨rfl,hb,fun _ _=>rfl,rfl,rfl,rfl,rfl⟩
 .refine(MY b w (by simp[World.cell?,hb]) (by simp[World.shape?,hb]) (by simp[World.frozen?,hb])).mono ?_;rintro e w' ⟨rfl,rfl⟩;obtain⟨h1,h2,h3,h4⟩:=Bb w b 0 (.pointer (some ⟨b,0,none⟩));exact⟨rfl,Ld w b 0 _ hb,fun c hc=>rI w b 0 _ hc,h1,h2,h3,h4⟩
structure Wrote(w w':World)(b:Nat)(T:TypeId)(v v' d0:Value)(n:Nat)(xs:List Value):Prop where
 blk:w'.heap[b]? = some (.cells #[.pointer (some ⟨b,0,none⟩),v',d0] T (0,0))
 row:w'.ownsRow 0 U8 1 v' n xs
 other:∀c,c<w.heap.size->c≠b->v'.ownBlock≠some c->w'.heap[c]? = w.heap[c]?
 place:v'.ownBlock=none\/v'.ownBlock=v.ownBlock\/v'.ownBlock=some w.heap.size
 size:w.heap.size≤w'.heap.size
 os:w'.os=w.os
 tape:w'.tape=w.tape
 output:w'.output=w.output
theorem LW(b:Nat)(T:TypeId)(p0 v d0:Value)(n:Nat)(xs:List Value)(s:ByteArray)(w:World)(hb:w.heap[b]? = some (.cells #[p0,v,d0] T (0,0)))(hp:p0=.pointer (some ⟨b,0,none⟩)\/p0=.pointer none/\T=PT)
 (hown:w.ownsRow 0 U8 1 v n xs)(hne:v.ownBlock≠some b)(hlen:n+s.size≤140737488355328):
 Calls Tryz.prog 109 #[.pointer (some ⟨b,0,none⟩),.string s] w fun e w'=>e=.returned (.tuple #[.int .i64 s.size,.nilIface])/\∃v',Wrote w w' b T v v' d0 (n+s.size) (xs++Lib.strCells s):=by
 obtain⟨i0,hi,hz0,hz1,hz2⟩:=D5;have hlt:b<w.heap.size:=(Array.getElem?_eq_some_iff.1 hb).1;go_enter Tryz.func109,Tryz.ntmps109;go_wp2_with (go_at_call 154;refine(JR b T p0 v d0 _ hb hp).mono ?_);rintro e w1 ⟨rfl,hb1,ho1,hs1,hr1,hr2,hr3⟩;have hown1:w1.ownsRow 0 U8 1 v n xs:=⟨hown.1,hown.2.imp id fun⟨g,cap,cur,e1,e2,e3,e4⟩=>⟨g,cap,cur,e1,e2,by rw[ho1 g (fun e=>hne (by rw[e1,<-e];rfl))];exact e3,e4⟩⟩
 have c0:w1.cell? ⟨b,0,none⟩=some (.pointer (some ⟨b,0,none⟩)):=by rw[Lib.cell_of_heap hb1];rfl
 have c1:w1.cell? ⟨b,1,none⟩=some v:=by rw[Lib.cell_of_heap hb1];rfl
 go_wp2_with (at_builtin;refine tB rfl _ _ 87 9 rfl U8 i0 Tryz.underlying87 Tryz.underlying9 hi hz0 hz1 hz2 v n xs rfl hown1 s rfl hlen ?_);intro v' w2 hown' hoth hplace hz1' hz2' hz3' hz4';have hrest:=And.intro hz1' (And.intro hz2' (And.intro hz3' hz4'))
 have hnb:v'.ownBlock≠some b:=by
  rcases hplace with h|h|h
  .rw[h];exact fun e=>by cases e
  .rw[h];exact hne
  .rw[h];intro e;cases e;omega
 have hb2:w2.heap[b]? = some (.cells #[.pointer (some ⟨b,0,none⟩),v,d0] T (0,0)):=by rw[hoth b (by omega) hnb];exact hb1
 have d0':w2.cell? ⟨b,0,none⟩=some (.pointer (some ⟨b,0,none⟩)):=by rw[Lib.cell_of_heap hb2];rfl
 have d1:w2.cell? ⟨b,1,none⟩=some v:=by rw[Lib.cell_of_heap hb2];rfl
 have f1:w2.frozen? ⟨b,1,none⟩=false:=Lib.frozen_of_heap hb2 1
 obtain⟨ao,n',cap,rfl⟩:∃ao n' cap,v'=.slice ao n' cap:=by
  rcases hown'.2 with⟨hv,_⟩|⟨g,cap,cur,hv,_⟩
  .exact⟨_,_,_,hv⟩
  .exact⟨_,_,_,hv⟩
 go_wp2;go_ret2;obtain⟨q1,q2,q3,q4⟩:=Bb w2 b 1 (.slice ao n' cap);refine⟨rfl,.slice ao n' cap,Ld w2 b 1 _ hb2,⟨hown'.1,hown'.2.imp id fun⟨g,cap,cur,e1,e2,e3,e4⟩=>⟨g,cap,cur,e1,e2,by rw[rI _ _ _ _ (fun e=>hnb (by rw[e1,<-e];rfl))];exact e3,e4⟩⟩,fun c hc hcb hcv=>?_,?_,?_,?_,?_,?_⟩
 .rw[rI _ _ _ _ hcb,hoth c (by omega) hcv,ho1 c hcb]
 .first|exact hplace|(rw[<-hs1];exact hplace)
 .rw[q1];omega
 .rw[q2,hrest.2.1]<;>first|rfl|exact hr1
 .rw[q3,hrest.2.2.1]<;>first|rfl|exact hr2
 .rw[q4,hrest.2.2.2]<;>first|rfl|exact hr3
theorem Fp(b g cap:Nat)(l:List UInt8)(w:World)(hown:w.ownsRow 0 U8 1 (.slice (some ⟨g,0,none⟩) l.length cap) l.length (Lib.byteCells l))(c1:w.drew.cell? ⟨b,1,none⟩=some (.slice (some ⟨g,0,none⟩) l.length cap))(h0:l≠[]):
 Calls Tryz.prog 56 #[.pointer (some ⟨b,0,none⟩)] w fun e w'=>e=.returned (.string ⟨l.toArray⟩)/\w'=w.drew.freeze ⟨g,0,none⟩ l.length:=by
 have hl0:l.length≠0:=by simpa using h0
 obtain⟨cur,hg,hnc,hcm,hcs⟩:∃cur,w.heap[g]? = some (.cells cur U8 (0,0))/\l.length≤cap/\cap≤maxLen/\cur.size=cap*1:=by
  rcases hown.2 with⟨e,-⟩|⟨g',cap',cur,e,r1,r2,r3,r4,r5,-⟩
  .cases e
  .cases e;exact⟨cur,r2,r3,r4,r5⟩
 have hcb:Tryz.prog.cellsOf U8=1:=by kernel_rfl
 have hSD:(Builtin.unsafeSliceData_ #[87] 145 #[.slice (some ⟨g,0,none⟩) l.length cap]).run Tryz.prog w.drew=.ok (.pointer (some ⟨g,0,none⟩)) w.drew:=
  Lib.run_unsafeSliceData_row _ _ _ _ _ _ (by omega)
 have hUS:(Builtin.unsafeString_ #[145,3] 9 #[.pointer (some ⟨g,0,none⟩),.int .i64 l.length]).run Tryz.prog w.drew=.ok (.string ⟨l.toArray⟩) (w.drew.freeze ⟨g,0,none⟩ l.length):=by
  refine Lib.run_unsafeString_row w.drew 145 3 9 U8 Tryz.underlying145 hcb g cur.size (by have hg':w.drew.heap[g]? = some (.cells cur U8 (0,0)):=hg;simp[World.shape?,hg']) l h0 (by omega) (by unfold maxLen at hcm;omega) ?_;intro j x hx;have:=hown.cells (g:=g) rfl j (.int .u8 x.toNat) (by simp[Lib.byteCells,hx]);exact this
 clear hown hg;go_enter Tryz.func56,Tryz.ntmps56;go_wp2;go_region;all_goals (go_wp2;go_ret;exact⟨rfl,rfl⟩)
theorem GN(b:Nat)(w:World)(c1:w.drew.cell? ⟨b,1,none⟩=some (.slice none 0 0)):
 Calls Tryz.prog 56 #[.pointer (some ⟨b,0,none⟩)] w fun e w'=>e=.returned (.string ⟨#[]⟩)/\w'=w.drew:=by
 have hUS:∀(W:World) (q:Option Addr),(Builtin.unsafeString_ #[145,3] 9 #[.pointer q,.int .i64 0]).run Tryz.prog W=.ok (.string .empty) W:=fun W q=>Lib.run_unsafeString_none W _ _ _ q;have hSD:(Builtin.unsafeSliceData_ #[87] 145 #[.slice none 0 0]).run Tryz.prog w.drew=.ok (.pointer none) w.drew:=rfl;go_enter Tryz.func56,Tryz.ntmps56;go_wp2;go_region;all_goals (go_wp2;go_ret;exact⟨rfl,rfl⟩)
abbrev ac(n:Int):D:=.lit (.int .i64 n)
abbrev ab(s:ByteArray):D:=.lit (.string s)
def dy(l:List ByteArray):D:=.sl (l.map fun s=>[ab s])
section
variable {M : am} {w : World}
theorem lu{bm:List Nat}(hM:M.hold w){l:List ByteArray}{v:Value}(h:Rep M bm (.d (dy l)) v):fB w l v:=by
 cases h with
 | d h=>
 unfold dy at h;generalize hrs:(l.map fun s=>[ab s])=rows at h;have hlen:rows.length=l.length:=by rw[<-hrs];simp
 cases h with
 | sl _ k p cap val hk hd hf hc hm=>
 rw[hlen];refine⟨p,cap,rfl,by omega,hm,fun i s hi=>?_⟩;have hil:=(List.getElem?_eq_some_iff.1 hi).1;have hir:i<rows.length:=by omega
 obtain⟨b,off,rfl,h6⟩:=hf i hir;have hri:rows[i]=[ab s]:=by subst hrs;simp[(List.getElem?_eq_some_iff.1 hi).2]
 have hk1:k=1:=by rw[<-hk _ (List.getElem_mem hir),hri];rfl
 subst hk1;refine⟨b,off,rfl,?_⟩;have h7:=h6 0 (by omega);have h8:=hd i 0 hir (by rw[hri];simp);simp only[hri,TU,ab]at h8;generalize hv:val i 0=u at h7 h8;cases h8 with|lit _ _=>
 have:=hM _ _ _ h7;simpa using this
theorem rp(hG:G.cells M)(hM:M.hold w):pH w:=by
 obtain⟨val,h1,h2⟩:=hG 0 [dy em] (by rfl);have h3:=h2 0 (by simp);have h4:=h1 0 (by simp);simp only[TU]at h3;exact⟨val 0,hM _ _ _ h4,lu (bm:=[]) hM (.d h3)⟩
end
theorem FC{f:FuncId}{fn:Func}{args:List V}{u:Value}{σ:LLV}(hf:Tryz.prog.funcs[f]? = some fn)(hn:(fn.name == "runtime.NumGoroutine")=false)(hb:fn.body.isNone=false)(hu:cV u)
 (h:∀(M:am) (bm:List Nat) (pr:Nat->Prop) (w:World) (vs:List Value),G.glob M pr w->M.hold w->vs.length=args.length->(∀i (h:i<args.length) (h':i<vs.length),Rep M bm args[i] vs[i])->Calls Tryz.prog f vs.toArray w fun e w'=>e=.returned u/\Ext w w'):
 Fun G f args σ (aP (.d (.lit u)) σ):=by
 refine⟨bH (P:=Tryz.prog) hf hn hb,fun M bm tk pr w vs hG hI ht hl hr=>(h M bm pr w vs hG hI.facts hl hr).mono fun e w' ⟨he,hx⟩=>?_⟩;obtain⟨h1,h2⟩:=hI.ext hx;refine⟨M,bm,tk,σ,.ret (.d (.lit u)),⟨rfl,rfl⟩,h1,h2,fun v e=>?_,fun v e=>by cases e⟩;cases e;exact⟨u,he,.d (.lit u hu),fun _ _ _ e=>by cases e⟩
theorem rt{f:FuncId}{fn:Func}{a:V}{u:Value}{σ:LLV}(hf:Tryz.prog.funcs[f]? = some fn)(hn:(fn.name == "runtime.NumGoroutine")=false)(hb:fn.body.isNone=false)(hu:cV u)
 (h:∀(M:am) (bm:List Nat) (pr:Nat->Prop) (w:World) (v:Value),G.glob M pr w->M.hold w->Rep M bm a v->Calls Tryz.prog f #[v] w fun e w'=>e=.returned u/\Ext w w'):Fun G f [a] σ (aP (.d (.lit u)) σ):=
 FC hf hn hb hu fun M bm pr w vs hG hM hl hr=>match vs,hl with
  | [v],_=>h M bm pr w v hG hM (hr 0 (by simp) (by simp))
theorem rz{f:FuncId}{fn:Func}{a b:V}{u:Value}{σ:LLV}(hf:Tryz.prog.funcs[f]? = some fn)(hn:(fn.name == "runtime.NumGoroutine")=false)(hb:fn.body.isNone=false)(hu:cV u)
 (h:∀(M:am) (bm:List Nat) (pr:Nat->Prop) (w:World) (v v':Value),G.glob M pr w->M.hold w->Rep M bm a v->Rep M bm b v'->Calls Tryz.prog f #[v,v'] w fun e w'=>e=.returned u/\Ext w w'):Fun G f [a,b] σ (aP (.d (.lit u)) σ):=
 FC hf hn hb hu fun M bm pr w vs hG hM hl hr=>match vs,hl with
  | [v,v'],_=>h M bm pr w v v' hG hM (hr 0 (by simp) (by simp)) (hr 1 (by simp) (by simp))
def Ba(w w':World):am:=fun b o=>if w.heap.size≤b then w'.cell? ⟨b,o,none⟩else none
theorem sV{f:FuncId}{fn:Func}{args:List V}{x:V}{σ:LLV}(hf:Tryz.prog.funcs[f]? = some fn)(hn:(fn.name == "runtime.NumGoroutine")=false)(hb:fn.body.isNone=false)(hx:∀T k rows,x≠.own T k rows)
 (h:∀(M:am) (bm:List Nat) (pr:Nat->Prop) (w:World) (vs:List Value),G.glob M pr w->M.hold w->vs.length=args.length->(∀i (h:i<args.length) (h':i<vs.length),Rep M bm args[i] vs[i])->
   Calls Tryz.prog f vs.toArray w fun e w'=>∃u,e=.returned u/\Ext w w'/\Rep (Ba w w') [] x u):Fun G f args σ (aP x σ):=by
 refine⟨bH (P:=Tryz.prog) hf hn hb,fun M bm tk pr w vs hG hI ht hl hr=>(h M bm pr w vs hG hI.facts hl hr).mono fun e w' ⟨u,he,hx',hu⟩=>?_⟩;have hlt:∀b,b<w.heap.size->∀o,(if w.heap.size≤b then w'.cell? ⟨b,o,none⟩else M b o)=M b o:=fun b hb o=>if_neg (by omega)
 have hle:M.le fun b o=>if w.heap.size≤b then w'.cell? ⟨b,o,none⟩else M b o:=fun b o x hm=>by
  have hb:=hI.facts.lt hm;show(if w.heap.size≤b then w'.cell? ⟨b,o,none⟩else M b o)=some x;rw[hlt b hb o];exact hm
 obtain⟨h1,h2⟩:=hI.grow (M':=fun b o=>if w.heap.size≤b then w'.cell? ⟨b,o,none⟩else M b o) hx' hle (fun b o x hm=>by
  by_cases hb:w.heap.size≤b
  .simpa only[if_pos hb]using hm
  .simp only[if_neg hb]at hm;exact hx'.cell (hI.facts b o x hm)) hlt
 refine⟨_,bm,tk,σ,.ret x,⟨rfl,rfl⟩,h1,h2,fun v e=>?_,fun v e=>by cases e⟩;cases e;refine⟨u,he,hu.mono (fun b o x hm=>?_) (fun i b h=>by simp at h),fun T k rows e=>absurd e (hx T k rows)⟩;unfold Ba at hm;split at hm
 .rename_i hb;simp only[if_pos hb];exact hm
 .cases hm
end Go.Proofs.YtnhphlmblenapaaGreatDoor
namespace Go.Proofs.YtnhphlmblenapaaGreatDoor
open Go.RowKit
def pgc(i:Nat)(t:Option (List UInt8))(k:Int):List V:=match t with|none=>tyc PT k|some t=>pgu U8 i t k
def pge(i:Nat)(t:Option (List UInt8))(k:Int):List V:=match t with|none=>tyc PT k|some _=>[.ptr i 0,.junk,.d (.lit (.int .i64 k))]
theorem AU{M:am}{bm:List Nat}{σ:LLV}{tk:bA}{pr:Nat->Prop}{w:World}(hI:Inv M bm σ tk pr w){i b:Nat}{k:Int}{T:TypeId}(hb0:bm[i]? = some b)(hs:σ[i]? = some (tyc T k)):
 cV (.int .i64 k)/\w.heap[b]? = some (.cells #[.pointer none,.slice none 0 0,.int .i64 k] T (0,0)):=by
 rcases hI.box i b _ hb0 hs with⟨vs,T',h1,h2,h3⟩|⟨st,kv,es,clock,e0,-⟩|⟨T',q,e0,hf,h1⟩
 .have h4:=h3 0 (by simp[tyc]) (by simp[tyc]at h2;omega);have h5:=h4.1.rep;simp only[tyc,TU]at h5
  obtain⟨vs',hv⟩:∃vs',vs[0]'(by simp[tyc]at h2;omega)=.tuple vs':=by
   generalize vs[0]'(by simp[tyc]at h2;omega)=u at h5;cases h5;exact⟨_,rfl⟩
  have h6:=h4.2;rw[hv]at h6;cases h6
 .simp[tyc]at e0
 .simp only[tyc,List.cons.injEq,V.tup.injEq,V.d.injEq,D.lit.injEq,Value.int.injEq,and_true,true_and,Int.natCast_inj]at e0;obtain⟨rfl,rfl⟩:=e0;exact⟨hf,h1⟩
theorem Km{M:am}{bm:List Nat}{σ:LLV}{tk:bA}{pr:Nat->Prop}{w:World}(hI:Inv M bm σ tk pr w){i b:Nat}{k:Int}{t:Option (List UInt8)}(hb0:bm[i]? = some b)(hs:σ[i]? = some (pgc i t k)):
 ∃T p0 v,w.heap[b]? = some (.cells #[p0,v,.int .i64 k] T (0,0))/\(p0=.pointer (some ⟨b,0,none⟩)\/p0=.pointer none/\T=PT)/\cV (.int .i64 k)/\w.ownsRow 0 U8 1 v (t.getD []).length (lc (t.getD []))/\v.ownBlock≠some b/\
  ((v=.slice none 0 0/\(t.getD []).length=0)\/∃g,tk (some i) 1=some g/\v.ownBlock=some g/\∀o x,M g o=some x->o<(t.getD []).length):=by
 cases t with
 | none=>
  obtain⟨hf,h1⟩:=AU hI hb0 hs;exact⟨PT,_,_,h1,.inr ⟨rfl,rfl⟩,hf,World.ownsRow_nil _ _ _ _,(fun e=>by cases e),.inl ⟨rfl,rfl⟩⟩
 | some t=>
  obtain⟨T,v,h1,h2,h3,h4,h5⟩:=hI.pgu_mem hb0 hs;exact⟨T,_,v,h1,.inl rfl,h2,h3,h4,h5⟩
theorem Fi(i:Nat)(t:Option (List UInt8))(k:Int)(s:ByteArray)(hl:(t.getD []).length+s.size≤140737488355328)(σ:LLV)(hs:σ[i]? = some (pgc i t k)):
 Fun G 109 [.ptr i 0,.d (ab s)] σ (fun o σ'=>o=.ret (.tup [.d (ac s.size),.d (.lit .nilIface)])/\σ'=σ.set i (pgc i (some (t.getD []++s.data.toList)) k)):=by
 refine⟨bH (P:=Tryz.prog) Tryz.func109 (by kernel_rfl) (by kernel_rfl),fun M bm tk pr w vs hG hI ht hl2 hr=>?_⟩
 match vs,hl2 with
 | [v0,v1],_=>
 have r0:Rep M bm (.ptr i 0) v0:=hr 0 (by simp) (by simp);have r1:Rep M bm (.d (ab s)) v1:=hr 1 (by simp) (by simp);clear hr;obtain⟨b,hb0,rfl⟩:∃b,bm[i]? = some b/\v0=.pointer (some ⟨b,0,none⟩):=by cases r0 with|ptr h=>exact⟨_,h,rfl⟩
 obtain⟨rfl,hsm⟩:=Rep.str_inv r1;obtain⟨T,p0,v,h1,h2,h3,h4,h5,h6⟩:=Km hI hb0 hs;refine(LW b T p0 v (.int .i64 k) (t.getD []).length (lc (t.getD [])) s w h1 h2 h4 h5 hl).mono ?_;rintro e w' ⟨rfl,v',hW⟩;have hlen:(t.getD []++s.data.toList).length=(t.getD []).length+s.size:=by rw[List.length_append];rfl
 have hcell:lc (t.getD []++s.data.toList)=lc (t.getD [])++Lib.strCells s:=by rw[Ej];exact List.map_append
 have hcl:(lc (t.getD [])).length=(t.getD []).length:=List.length_map ..;obtain⟨M',tk',g1,g2⟩:=Inv.rewr (t:=t.getD []++s.data.toList) hI hb0 (List.getElem?_eq_some_iff.1 hs).1 h3 h6 h4 (by rw[hlen];omega) (by rw[hcell,List.take_left' hcl]) hW.blk (by rw[hlen,hcell];exact hW.row) hW.other (hW.place.imp id (Or.imp id fun h=>⟨_,h,Nat.le_refl _⟩)) hW.size hW.os hW.tape hW.output;refine⟨M',bm,tk',_,.ret (.tup [.d (ac s.size),.d (.lit .nilIface)]),⟨rfl,rfl⟩,g1,g2,fun x e=>?_,fun x e=>by cases e⟩;cases e;have hm:maxLen=9223372036854775807:=rfl;refine⟨_,rfl,.tup rfl fun j hj hj'=>?_,fun _ _ _ e=>by cases e⟩
 match j,hj with
 | 0,_=>exact .d (.lit _ ⟨by show(-9223372036854775808:Int)≤_;omega,by show _≤(9223372036854775807:Int);omega⟩)
 | 1,_=>exact .d (.lit _ trivial)
theorem yO(i:Nat)(t:Option (List UInt8))(k:Int)(hne:t≠some [])(hl:(t.getD []).length≤140737488355328)(σ:LLV)(hs:σ[i]? = some (pgc i t k)):
 Fun G 56 [.ptr i 0] σ (fun o σ'=>o=.ret (.d (ab ⟨(t.getD []).toArray⟩))/\σ'=σ.set i (pge i t k)):=by
 refine⟨bH (P:=Tryz.prog) Tryz.func56 (by kernel_rfl) (by kernel_rfl),fun M bm tk pr w vs hG hI ht hl2 hr=>?_⟩
 match vs,hl2 with
 | [v0],_=>
 have r0:Rep M bm (.ptr i 0) v0:=hr 0 (by simp) (by simp);clear hr;obtain⟨b,hb0,rfl⟩:∃b,bm[i]? = some b/\v0=.pointer (some ⟨b,0,none⟩):=by cases r0 with|ptr h=>exact⟨_,h,rfl⟩
 have hm:maxLen=9223372036854775807:=rfl;cases t with
 | none=>
  obtain⟨hf,h1⟩:=AU hI hb0 hs;refine(GN b w (by have:w.drew.heap[b]? = _:=h1;rw[Lib.cell_of_heap this];rfl)).mono ?_;rintro e w' ⟨rfl,rfl⟩;obtain⟨g1,g2⟩:=hI.setr;refine⟨M,bm,tk,σ,.ret (.d (ab ⟨#[]⟩)),⟨rfl,?_⟩,g1,g2,fun x e=>?_,fun x e=>by cases e⟩
  .apply List.ext_getElem?;intro j;by_cases e:j=i
   .subst e;rw[List.getElem?_set_self (List.getElem?_eq_some_iff.1 hs).1,hs];rfl
   .rw[List.getElem?_set_ne (Ne.symm e)]
  .cases e;exact⟨_,rfl,.d (.lit _ (by show(0:Nat)≤_;omega)),fun _ _ _ e=>by cases e⟩
 | some t=>
  have ht0:t≠[]:=fun e=>hne (by rw[e]);obtain⟨T,v,h1,h2,h3,h4,h5⟩:=hI.pgu_mem hb0 hs
  obtain⟨g,cap,rfl⟩:∃g cap,v=.slice (some ⟨g,0,none⟩) t.length cap:=by
   rcases h3.2 with⟨-,hz⟩|⟨g,cap,cur,hv,-⟩
   .exact absurd (List.eq_nil_of_length_eq_zero hz) ht0
   .exact⟨g,cap,hv⟩
  have htk:tk (some i) 1=some g:=by
   rcases h5 with⟨e,-⟩|⟨g',e1,e2,-⟩
   .cases e
   .cases e2;exact e1
  refine(Fp b g cap t w h3 (by have:w.drew.heap[b]? = _:=h1;rw[Lib.cell_of_heap this];rfl) ht0).mono ?_;rintro e w' ⟨rfl,rfl⟩
  obtain⟨cur,hgc⟩:∃cur,w.heap[g]? = some (.cells cur U8 (0,0)):=by
   rcases h3.2 with⟨e,-⟩|⟨g',cap',cur,e,r1,r2,-⟩
   .cases e
   .cases e;exact⟨cur,r2⟩
  obtain⟨k1,k2,k3⟩:=Ee w.drew g t.length;obtain⟨g1,g2⟩:=hI.lose hs (w':=w.drew.freeze ⟨g,0,none⟩ t.length) (fun c _ hc=>k1 c fun e=>hc (by rw[e];exact htk)) k2 (by rw[k3.1];exact Nat.le_refl _) k3.2.1 k3.2.2.1 k3.2.2.2;refine⟨M,bm,tk,_,.ret (.d (ab ⟨t.toArray⟩)),⟨rfl,rfl⟩,g1,g2,fun x e=>?_,fun x e=>by cases e⟩;cases e;exact⟨_,rfl,.d (.lit _ (by show t.length≤_;simp only[Option.getD_some]at hl;omega)),fun _ _ _ e=>by cases e⟩
end Go.Proofs.YtnhphlmblenapaaGreatDoor
