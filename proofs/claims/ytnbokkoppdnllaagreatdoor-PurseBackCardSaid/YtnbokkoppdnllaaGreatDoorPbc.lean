/- Parts of the proof of the seat's statements (ShelfT4, CodeSpec, TcB, TcE, TcR, TcR2, TcI, TcX, UpR, ShaSpec, TkSpec2, TkSpec3, JnSpec, DkSpec, DkLaw, DkLaw4, JnLaw, PuSpec, PuLaw, PuLaw2, UpH, UpI, UpA, TkP0, HPv, UpB, UpD, UpP, UpE, UpF, PuWf, HPy, UpG, UpK): lemmas about the given translation and plain laws. No condition of their own. -/
import Derived.Test.YtnbokkoppdnllaaGreatDoorPbb
import Derived.Shelf.Strings.Builder1
import Derived.Shelf.Small.Strs
import Derived.Shelf.Small.Wraps
import Derived.Shelf.Strings.BuilderF
import Derived.Shelf.Strings.BuilderK
import Derived.Shelf.Strconv.Atoi
import Derived.Shelf.Strconv.Itoa0
import Derived.Shelf.Strconv.Itoa1
import Derived.Shelf.LaysM
import Derived.Shelf.Strconv.Itoa2
import Derived.Shelf.Strconv.Itoa3
import Derived.Shelf.Strconv.AtoiErrFast
import Derived.Shelf.Strconv.ParseIntEmpty
import Derived.Shelf.Strconv.AtoiFail
import Derived.Shelf.Strconv.Clone
import Derived.Shelf.Strconv.SyntaxError
import Derived.Shelf.LaysC
import Derived.Shelf.Strconv.ToError
import Derived.Shelf.Strconv.AtoiErr
import Derived.Shelf.Strconv.ErrVar
import Derived.Shelf.Strconv.Lower
import Derived.Shelf.Strconv.ParseUint10
import Derived.Shelf.Strconv.ParseUint10Empty
import Derived.Shelf.Strconv.ParseUint10Any
import Derived.Shelf.Strconv.ParseInt10
import Derived.Shelf.Strconv.AtoiLong
import Derived.Shelf.Strconv.AtoiInnerAll
import Derived.Shelf.Strconv.RangeError
import Derived.Shelf.Strconv.ToErrorRange
import Derived.Shelf.Strconv.AtoiAll
import Derived.Shelf.Strconv.ErrVarAll
import Derived.Shelf.Strings.Search1
import Derived.Shelf.Strings.Prefix
import Derived.Shelf.Bits.Mul64
import Derived.Test.YtnbokkoppdnllaaGreatDoorProg
import Derived.Test.YtnbokkoppdnllaaGreatDoorRows
import Derived.Lib.ItoaNum
import Derived.Lib.AtoiAllCases
import Derived.Lib.Builder
import Derived.Lib.AppendStr
import Derived.Lib.AppendIntMem
import Derived.Laws.StructEq
set_option linter.all false
set_option maxRecDepth 100000
namespace Go.Proofs
abbrev tabName:String:=(YtnbokkoppdnllaaGreatDoor.Rows.purseBackRow.laid.map (fun x=>x.1)).getD 2 default
open Go.Shelf
def Tryz.lays169_ren:Go.Shelf.Ren:=⟨fun | 169=>160 | n=>n,fun | 70=>235 | 9=>9 | 0=>0 | 72=>237 | 37=>202 | 127=>271 | 3=>3 | 5=>5 | n=>n,fun | n=>n⟩
theorem Tryz.lays169:Go.Proofs.Lays.n169 Tryz.prog Tryz.lays169_ren:={
 mixed:=by kernel_rfl
 f169:=Tryz.func160.trans (congrArg some (by kernel_rfl))
 t0:=Tryz.underlying0
 a0:=Tryz.isAgg0
 z0:=Tryz.sizeOf0
 v0:=Tryz.zeroValue0
 t3:=Tryz.underlying3
 a3:=Tryz.isAgg3
 z3:=Tryz.sizeOf3
 v3:=Tryz.zeroValue3
 t9:=Tryz.underlying9
 a9:=Tryz.isAgg9
 z9:=Tryz.sizeOf9
 v9:=Tryz.zeroValue9
 t37:=Tryz.underlying202
 a37:=Tryz.isAgg202
 z37:=Tryz.sizeOf202
 v37:=Tryz.zeroValue202
 t70:=Tryz.underlying235
 a70:=Tryz.isAgg235
 z70:=Tryz.sizeOf235
 v70:=Tryz.zeroValue235
 t72:=Tryz.underlying237
 a72:=Tryz.isAgg237
 z72:=Tryz.sizeOf237
 v72:=Tryz.zeroValue237
 t127:=Tryz.underlying271
 a127:=Tryz.isAgg271
 z127:=Tryz.sizeOf271
 v127:=Tryz.zeroValue271 }
theorem Tryz.Builder_Extra_169:Builder.Extra Tryz.prog Tryz.lays169_ren:={
 sizeBuilder:=by kernel_rfl
 liesBuilder:=by kernel_rfl
 t5:=Tryz.underlying5
 a5:=Tryz.isAgg5
 z5:=Tryz.sizeOf5
 v5:=Tryz.zeroValue5
 infoByte:=by kernel_rfl
 cellsByte:=by kernel_rfl
 sizeByte:=by kernel_rfl
 neB5:=by decide }
open Go.RowKit in
theorem Tryz.Builder_String_any (B b:Nat) (l:List UInt8) (w:World) (h:Lib.IsBuilder 237 5 B b (Lib.byteCells l) w) (hBw:B ≤ w.heap.size) :
  Calls Tryz.prog 160 #[.pointer (some ⟨b,0,none⟩)] w fun e w'=>e = .returned (.string ⟨l.toArray⟩) ∧ Below B w w':=Any.Builder_String_any Tryz.lays169 Tryz.Builder_Extra_169 B b l w h hBw
def Tryz.lays137_ren:Go.Shelf.Ren:=⟨fun | 137=>162 | 217=>201 | 266=>225 | n=>n,fun | 9=>9 | 5=>5 | 3=>3 | n=>n,fun | n=>n⟩
theorem Tryz.lays137:Go.Proofs.Lays.n137 Tryz.prog Tryz.lays137_ren:={
 mixed:=by kernel_rfl
 f137:=Tryz.func162.trans (congrArg some (by kernel_rfl))
 f217:=Tryz.func201.trans (congrArg some (by kernel_rfl))
 f266:=Tryz.func225.trans (congrArg some (by kernel_rfl))
 t3:=Tryz.underlying3
 a3:=Tryz.isAgg3
 z3:=Tryz.sizeOf3
 v3:=Tryz.zeroValue3
 t5:=Tryz.underlying5
 a5:=Tryz.isAgg5
 z5:=Tryz.sizeOf5
 v5:=Tryz.zeroValue5
 t9:=Tryz.underlying9
 a9:=Tryz.isAgg9
 z9:=Tryz.sizeOf9
 v9:=Tryz.zeroValue9 }
open Go.RowKit in
theorem Tryz.strings_IndexByte (s:ByteArray) (c:Int) (w:World) :
  Calls Tryz.prog 162 #[.string s,.int .u8 c] w fun e w'=>e = .returned (.int .i64 (Lib.indexByte s.data.toList c.toNat.toUInt8)) ∧ w' = w:=Any.strings_IndexByte Tryz.lays137 s c w
def Tryz.lays103_ren:Go.Shelf.Ren:=⟨fun | 103=>131 | 210=>171 | 206=>207 | n=>n,fun | 9=>9 | 4=>4 | 24=>214 | 3=>3 | n=>n,fun | n=>n⟩
theorem Tryz.lays103:Go.Proofs.Lays.n103 Tryz.prog Tryz.lays103_ren:={
 mixed:=by kernel_rfl
 f103:=Tryz.func131.trans (congrArg some (by kernel_rfl))
 f206:=Tryz.func207.trans (congrArg some (by kernel_rfl))
 f210:=Tryz.func171.trans (congrArg some (by kernel_rfl))
 t3:=Tryz.underlying3
 a3:=Tryz.isAgg3
 z3:=Tryz.sizeOf3
 v3:=Tryz.zeroValue3
 t4:=Tryz.underlying4
 a4:=Tryz.isAgg4
 z4:=Tryz.sizeOf4
 v4:=Tryz.zeroValue4
 t9:=Tryz.underlying9
 a9:=Tryz.isAgg9
 z9:=Tryz.sizeOf9
 v9:=Tryz.zeroValue9
 t24:=Tryz.underlying214
 a24:=Tryz.isAgg214
 z24:=Tryz.sizeOf214
 v24:=Tryz.zeroValue214 }
open Go.RowKit in
theorem Tryz.strings_CutPrefix (s p:ByteArray) (w:World) :
  Calls Tryz.prog 131 #[.string s,.string p] w fun e w'=>e = .returned (.tuple #[.string ⟨(Lib.trimPrefix s.data.toList p.data.toList).toArray⟩,.bool (Lib.hasPrefix s.data.toList p.data.toList)]) ∧ w' = w:=Any.strings_CutPrefix Tryz.lays103 s p w
def Tryz.laysM171_ren:Go.Shelf.Ren:=⟨fun | 171=>113 | 243=>161 | 246=>200 | 283=>221 | 284=>222 | 285=>223 | 286=>224 | 129=>197 | 317=>237 | 318=>238 | 319=>239 | 320=>240 | 337=>246 | 338=>231 | n=>n,fun | 3=>3 | 9=>9 | 2=>2 | 4=>4 | 171=>295 | 0=>0 | 53=>249 | 37=>202 | 5=>5 | 173=>297 | 212=>311 | 51=>255 | 20=>20 | 213=>312 | 46=>231 | 232=>323 | 233=>318 | n=>n,fun | 17=>0 | 18=>7 | 19=>4 | n=>n⟩
theorem Tryz.laysM171:Go.Proofs.LaysM.n171 Tryz.prog Tryz.laysM171_ren:={
 mixed:=by kernel_rfl
 f129:=Tryz.func197.trans (congrArg some (by kernel_rfl))
 f171:=Tryz.func113.trans (congrArg some (by kernel_rfl))
 f243:=Tryz.func161.trans (congrArg some (by kernel_rfl))
 f246:=Tryz.func200.trans (congrArg some (by kernel_rfl))
 f283:=Tryz.func221.trans (congrArg some (by kernel_rfl))
 f284:=Tryz.func222.trans (congrArg some (by kernel_rfl))
 f285:=Tryz.func223.trans (congrArg some (by kernel_rfl))
 f286:=Tryz.func224.trans (congrArg some (by kernel_rfl))
 f317:=Tryz.func237.trans (congrArg some (by kernel_rfl))
 f318:=Tryz.func238.trans (congrArg some (by kernel_rfl))
 f319:=Tryz.func239.trans (congrArg some (by kernel_rfl))
 f320:=Tryz.func240.trans (congrArg some (by kernel_rfl))
 f337:=Tryz.func246.trans (congrArg some (by kernel_rfl))
 f338:=Tryz.func231.trans (congrArg some (by kernel_rfl))
 t0:=Tryz.underlying0
 a0:=Tryz.isAgg0
 z0:=Tryz.sizeOf0
 v0:=Tryz.zeroValue0
 t2:=Tryz.underlying2
 a2:=Tryz.isAgg2
 z2:=Tryz.sizeOf2
 v2:=Tryz.zeroValue2
 t3:=Tryz.underlying3
 a3:=Tryz.isAgg3
 z3:=Tryz.sizeOf3
 v3:=Tryz.zeroValue3
 t4:=Tryz.underlying4
 a4:=Tryz.isAgg4
 z4:=Tryz.sizeOf4
 v4:=Tryz.zeroValue4
 t5:=Tryz.underlying5
 a5:=Tryz.isAgg5
 z5:=Tryz.sizeOf5
 v5:=Tryz.zeroValue5
 t9:=Tryz.underlying9
 a9:=Tryz.isAgg9
 z9:=Tryz.sizeOf9
 v9:=Tryz.zeroValue9
 t20:=Tryz.underlying20
 a20:=Tryz.isAgg20
 z20:=Tryz.sizeOf20
 v20:=Tryz.zeroValue20
 t37:=Tryz.underlying202
 a37:=Tryz.isAgg202
 z37:=Tryz.sizeOf202
 v37:=Tryz.zeroValue202
 t46:=Tryz.underlying231
 a46:=Tryz.isAgg231
 z46:=Tryz.sizeOf231
 v46:=Tryz.zeroValue231
 t51:=Tryz.underlying255
 a51:=Tryz.isAgg255
 z51:=Tryz.sizeOf255
 v51:=Tryz.zeroValue255
 t53:=Tryz.underlying249
 a53:=Tryz.isAgg249
 z53:=Tryz.sizeOf249
 v53:=Tryz.zeroValue249
 t171:=Tryz.underlying295
 a171:=Tryz.isAgg295
 z171:=Tryz.sizeOf295
 v171:=Tryz.zeroValue295
 t173:=Tryz.underlying297
 a173:=Tryz.isAgg297
 z173:=Tryz.sizeOf297
 v173:=Tryz.zeroValue297
 t212:=Tryz.underlying311
 a212:=Tryz.isAgg311
 z212:=Tryz.sizeOf311
 v212:=Tryz.zeroValue311
 t213:=Tryz.underlying312
 a213:=Tryz.isAgg312
 z213:=Tryz.sizeOf312
 t232:=Tryz.underlying323
 a232:=Tryz.isAgg323
 z232:=Tryz.sizeOf323
 v232:=Tryz.zeroValue323
 t233:=Tryz.underlying318
 a233:=Tryz.isAgg318
 z233:=Tryz.sizeOf318
 v233:=Tryz.zeroValue318
 g17:=by kernel_rfl
 g18:=by kernel_rfl
 g19:=by kernel_rfl
 i0:=by kernel_rfl
 i2:=by kernel_rfl
 i3:=by kernel_rfl
 i4:=by kernel_rfl
 i5:=by kernel_rfl
 i9:=by kernel_rfl
 i20:=by kernel_rfl
 i37:=by kernel_rfl
 i46:=by kernel_rfl
 i51:=by kernel_rfl
 i53:=by kernel_rfl
 i171:=by kernel_rfl
 i173:=by kernel_rfl
 i212:=by kernel_rfl
 i232:=by kernel_rfl
 i233:=by kernel_rfl
 m17:=by kernel_rfl
 m18:=by kernel_rfl
 m19:=by kernel_rfl }
open Go.RowKit Go.Sort Go.Lib in
theorem Tryz.strconv_Itoa (n:Int) (h0:-9223372036854775808 ≤ n) (h1:n ≤ 9223372036854775807) (w:World) (htab:Lib.TabIs Tryz.prog w tabName .u64 Lib.pow10Tab) :
  Calls Tryz.prog 113 #[.int .i64 n] w fun e w'=>e = .returned (.string ⟨(Lib.itoa n).toArray⟩) ∧ ∃ k os,w' = grow (w.drewN k) os:=Any.strconv_Itoa Tryz.laysM171 n h0 h1 w htab
def Tryz.laysC172_ren:Go.Shelf.Ren:=⟨fun | 172=>163 | 244=>202 | 245=>203 | 247=>226 | 279=>227 | 280=>228 | 281=>229 | 282=>230 | 287=>241 | 316=>242 | 171=>113 | 205=>243 | 321=>247 | 322=>248 | 243=>161 | 246=>200 | 283=>221 | 284=>222 | 285=>223 | 286=>224 | 129=>197 | 317=>237 | 318=>238 | 319=>239 | 320=>240 | 337=>246 | 338=>231 | n=>n,fun | 9=>9 | 3=>3 | 75=>239 | 76=>240 | 4=>4 | 5=>5 | 167=>299 | 37=>202 | 0=>0 | 85=>300 | 2=>2 | 168=>302 | 53=>249 | 175=>313 | 46=>231 | 210=>316 | 127=>271 | 145=>322 | 143=>320 | 21=>21 | 171=>295 | 173=>297 | 212=>311 | 51=>255 | 20=>20 | 213=>312 | 232=>323 | 233=>318 | 80=>101 | n=>n,fun | 15=>2 | 16=>3 | 17=>0 | 18=>7 | 19=>4 | n=>n⟩
theorem Tryz.laysC172:Go.Proofs.LaysC.n172 Tryz.prog Tryz.laysC172_ren:={
 mixed:=by kernel_rfl
 f129:=Tryz.func197.trans (congrArg some (by kernel_rfl))
 f171:=Tryz.func113.trans (congrArg some (by kernel_rfl))
 f172:=Tryz.func163.trans (congrArg some (by kernel_rfl))
 f205:=Tryz.func243.trans (congrArg some (by kernel_rfl))
 f243:=Tryz.func161.trans (congrArg some (by kernel_rfl))
 f244:=Tryz.func202.trans (congrArg some (by kernel_rfl))
 f245:=Tryz.func203.trans (congrArg some (by kernel_rfl))
 f246:=Tryz.func200.trans (congrArg some (by kernel_rfl))
 f247:=Tryz.func226.trans (congrArg some (by kernel_rfl))
 f279:=Tryz.func227.trans (congrArg some (by kernel_rfl))
 f280:=Tryz.func228.trans (congrArg some (by kernel_rfl))
 f281:=Tryz.func229.trans (congrArg some (by kernel_rfl))
 f282:=Tryz.func230.trans (congrArg some (by kernel_rfl))
 f283:=Tryz.func221.trans (congrArg some (by kernel_rfl))
 f284:=Tryz.func222.trans (congrArg some (by kernel_rfl))
 f285:=Tryz.func223.trans (congrArg some (by kernel_rfl))
 f286:=Tryz.func224.trans (congrArg some (by kernel_rfl))
 f287:=Tryz.func241.trans (congrArg some (by kernel_rfl))
 f316:=Tryz.func242.trans (congrArg some (by kernel_rfl))
 f317:=Tryz.func237.trans (congrArg some (by kernel_rfl))
 f318:=Tryz.func238.trans (congrArg some (by kernel_rfl))
 f319:=Tryz.func239.trans (congrArg some (by kernel_rfl))
 f320:=Tryz.func240.trans (congrArg some (by kernel_rfl))
 f321:=Tryz.func247.trans (congrArg some (by kernel_rfl))
 f322:=Tryz.func248.trans (congrArg some (by kernel_rfl))
 f337:=Tryz.func246.trans (congrArg some (by kernel_rfl))
 f338:=Tryz.func231.trans (congrArg some (by kernel_rfl))
 t0:=Tryz.underlying0
 a0:=Tryz.isAgg0
 z0:=Tryz.sizeOf0
 v0:=Tryz.zeroValue0
 t2:=Tryz.underlying2
 a2:=Tryz.isAgg2
 z2:=Tryz.sizeOf2
 v2:=Tryz.zeroValue2
 t3:=Tryz.underlying3
 a3:=Tryz.isAgg3
 z3:=Tryz.sizeOf3
 v3:=Tryz.zeroValue3
 t4:=Tryz.underlying4
 a4:=Tryz.isAgg4
 z4:=Tryz.sizeOf4
 v4:=Tryz.zeroValue4
 t5:=Tryz.underlying5
 a5:=Tryz.isAgg5
 z5:=Tryz.sizeOf5
 v5:=Tryz.zeroValue5
 t9:=Tryz.underlying9
 a9:=Tryz.isAgg9
 z9:=Tryz.sizeOf9
 v9:=Tryz.zeroValue9
 t20:=Tryz.underlying20
 a20:=Tryz.isAgg20
 z20:=Tryz.sizeOf20
 v20:=Tryz.zeroValue20
 t21:=Tryz.underlying21
 a21:=Tryz.isAgg21
 z21:=Tryz.sizeOf21
 v21:=Tryz.zeroValue21
 t37:=Tryz.underlying202
 a37:=Tryz.isAgg202
 z37:=Tryz.sizeOf202
 v37:=Tryz.zeroValue202
 t46:=Tryz.underlying231
 a46:=Tryz.isAgg231
 z46:=Tryz.sizeOf231
 v46:=Tryz.zeroValue231
 t51:=Tryz.underlying255
 a51:=Tryz.isAgg255
 z51:=Tryz.sizeOf255
 v51:=Tryz.zeroValue255
 t53:=Tryz.underlying249
 a53:=Tryz.isAgg249
 z53:=Tryz.sizeOf249
 v53:=Tryz.zeroValue249
 t75:=Tryz.underlying239
 a75:=Tryz.isAgg239
 z75:=Tryz.sizeOf239
 v75:=Tryz.zeroValue239
 t76:=Tryz.underlying240
 a76:=Tryz.isAgg240
 z76:=Tryz.sizeOf240
 v76:=Tryz.zeroValue240
 t85:=Tryz.underlying300
 a85:=Tryz.isAgg300
 z85:=Tryz.sizeOf300
 v85:=Tryz.zeroValue300
 t127:=Tryz.underlying271
 a127:=Tryz.isAgg271
 z127:=Tryz.sizeOf271
 v127:=Tryz.zeroValue271
 t143:=Tryz.underlying320
 a143:=Tryz.isAgg320
 z143:=Tryz.sizeOf320
 v143:=Tryz.zeroValue320
 t145:=Tryz.underlying322
 a145:=Tryz.isAgg322
 z145:=Tryz.sizeOf322
 v145:=Tryz.zeroValue322
 t167:=Tryz.underlying299
 a167:=Tryz.isAgg299
 z167:=Tryz.sizeOf299
 v167:=Tryz.zeroValue299
 t168:=Tryz.underlying302
 a168:=Tryz.isAgg302
 z168:=Tryz.sizeOf302
 v168:=Tryz.zeroValue302
 t171:=Tryz.underlying295
 a171:=Tryz.isAgg295
 z171:=Tryz.sizeOf295
 v171:=Tryz.zeroValue295
 t173:=Tryz.underlying297
 a173:=Tryz.isAgg297
 z173:=Tryz.sizeOf297
 v173:=Tryz.zeroValue297
 t175:=Tryz.underlying313
 a175:=Tryz.isAgg313
 z175:=Tryz.sizeOf313
 v175:=Tryz.zeroValue313
 t210:=Tryz.underlying316
 a210:=Tryz.isAgg316
 z210:=Tryz.sizeOf316
 v210:=Tryz.zeroValue316
 t212:=Tryz.underlying311
 a212:=Tryz.isAgg311
 z212:=Tryz.sizeOf311
 v212:=Tryz.zeroValue311
 t213:=Tryz.underlying312
 a213:=Tryz.isAgg312
 z213:=Tryz.sizeOf312
 t232:=Tryz.underlying323
 a232:=Tryz.isAgg323
 z232:=Tryz.sizeOf323
 v232:=Tryz.zeroValue323
 t233:=Tryz.underlying318
 a233:=Tryz.isAgg318
 z233:=Tryz.sizeOf318
 v233:=Tryz.zeroValue318
 g15:=by kernel_rfl
 g16:=by kernel_rfl
 g17:=by kernel_rfl
 g18:=by kernel_rfl
 g19:=by kernel_rfl
 t80:=Tryz.underlying101
 a80:=Tryz.isAgg101
 z80:=Tryz.sizeOf101
 v80:=Tryz.zeroValue101
 i0:=by kernel_rfl
 i2:=by kernel_rfl
 i3:=by kernel_rfl
 i4:=by kernel_rfl
 i5:=by kernel_rfl
 i9:=by kernel_rfl
 i20:=by kernel_rfl
 i21:=by kernel_rfl
 i37:=by kernel_rfl
 i46:=by kernel_rfl
 i51:=by kernel_rfl
 i53:=by kernel_rfl
 i75:=by kernel_rfl
 i76:=by kernel_rfl
 i80:=by kernel_rfl
 i85:=by kernel_rfl
 i127:=by kernel_rfl
 i143:=by kernel_rfl
 i145:=by kernel_rfl
 i167:=by kernel_rfl
 i168:=by kernel_rfl
 i171:=by kernel_rfl
 i173:=by kernel_rfl
 i175:=by kernel_rfl
 i210:=by kernel_rfl
 i212:=by kernel_rfl
 i232:=by kernel_rfl
 i233:=by kernel_rfl
 m15:=by kernel_rfl
 m16:=by kernel_rfl
 m17:=by kernel_rfl
 m18:=by kernel_rfl
 m19:=by kernel_rfl
 c0:=by kernel_rfl
 c2:=by kernel_rfl
 c3:=by kernel_rfl
 c4:=by kernel_rfl
 c5:=by kernel_rfl
 c9:=by kernel_rfl
 c20:=by kernel_rfl
 c21:=by kernel_rfl
 c37:=by kernel_rfl
 c46:=by kernel_rfl
 c51:=by kernel_rfl
 c53:=by kernel_rfl
 c75:=by kernel_rfl
 c76:=by kernel_rfl
 c80:=by kernel_rfl
 c85:=by kernel_rfl
 c127:=by kernel_rfl
 c143:=by kernel_rfl
 c145:=by kernel_rfl
 c167:=by kernel_rfl
 c168:=by kernel_rfl
 c171:=by kernel_rfl
 c173:=by kernel_rfl
 c175:=by kernel_rfl
 c210:=by kernel_rfl
 c212:=by kernel_rfl
 c213:=by kernel_rfl
 c232:=by kernel_rfl
 c233:=by kernel_rfl }
open Go.RowKit in
theorem Tryz.strconv_Atoi_ok (s:ByteArray) (hmax:s.size ≤ 9223372036854775806) (v:Int) (h:Lib.atoiAll s.data.toList = .ok v) (w:World) :
  Calls Tryz.prog 163 #[.string s] w fun e w'=>e = .returned (.tuple #[.int .i64 v,.nilIface]) ∧ (w' = w ∨ ∃ t,w' = Lib.bytesWorld w 5 t):=Any.strconv_Atoi_ok Tryz.laysC172 s hmax v h w
open Go.RowKit in
theorem Tryz.strconv_Atoi_syntax (s:ByteArray) (hlim:s.size ≤ 281474976710656) (h:Lib.atoiAll s.data.toList = .«syntax») (ev:Value) (w:World) (hv:w.cell? ⟨2,0,none⟩ = some ev) (hev:ev = .nilIface ∨ ∃ te pe,ev = .iface te pe) :
  Calls Tryz.prog 163 #[.string s] w fun e w'=>∃ N,e = .returned (.tuple #[.int .i64 (0),.iface 302 (.pointer (some ⟨N,0,none⟩))]) ∧ w.heap.size ≤ N ∧ w'.heap[N]? = some (.cells #[.string ⟨#[65,116,111,105]⟩,.string s,ev] 316 (0,0)) ∧ Below w.heap.size w w':=Any.strconv_Atoi_syntax Tryz.laysC172 s hlim h ev w hv hev
open Go.RowKit in
theorem Tryz.strconv_Atoi_range (s:ByteArray) (hlim:s.size ≤ 281474976710656) (h:Lib.atoiAll s.data.toList = .range) (ev:Value) (w:World) (hv:w.cell? ⟨3,0,none⟩ = some ev) (hev:ev = .nilIface ∨ ∃ te pe,ev = .iface te pe) :
  Calls Tryz.prog 163 #[.string s] w fun e w'=>∃ N,e = .returned (.tuple #[.int .i64 (Lib.atoiSat s.data.toList),.iface 302 (.pointer (some ⟨N,0,none⟩))]) ∧ w.heap.size ≤ N ∧ w'.heap[N]? = some (.cells #[.string ⟨#[65,116,111,105]⟩,.string s,ev] 316 (0,0)) ∧ Below w.heap.size w w':=Any.strconv_Atoi_range Tryz.laysC172 s hlim h ev w hv hev
end Go.Proofs
namespace CodeSpec
open Go.Lib
abbrev Bytes:=List UInt8
def InR (n:Int):Prop:=-9223372036854775808 ≤ n ∧ n ≤ 9223372036854775807
def encInt (n:Int):Bytes:=itoa n ++ [59]
def encNum (n:Int):Bytes:=if n < 0 then [] else encInt n
def encText (s:Bytes):Bytes:=itoa s.length ++ 58 :: (s ++ [44])
def encList (l:List Bytes):Bytes:=itoa l.length ++ 91 :: (l.flatten ++ [93])
def encNums (l:List Int):Bytes:=encList (l.map encInt)
def canon (l:Bytes):Option Int:=match atoiAll l with
 | .ok v=>if itoa v = l then some v else none
 | _=>none
structure Rd where
 rest:Bytes
 bad:Bool
def failed:Rd:=⟨[],true⟩
def rdNumber (r:Rd) (e:UInt8) (least:Int):Int × Rd:=
 if ((r.rest.take 21).takeWhile (· != e)).length < (r.rest.take 21).length then
  match canon ((r.rest.take 21).takeWhile (· != e)) with
  | some n=>if n < least then (0,failed) else (n,⟨r.rest.drop (((r.rest.take 21).takeWhile (· != e)).length + 1),r.bad⟩)
  | none=>(0,failed)
 else (0,failed)
def rdClose (r:Rd) (c:UInt8):Rd:=match r.rest with
 | []=>failed
 | x :: t=>if x = c then ⟨t,r.bad⟩ else failed
def rdNum (r:Rd):Int × Rd:=rdNumber r 59 0
def rdInt (r:Rd):Int × Rd:=rdNumber r 59 (-9223372036854775808)
def rdText (r:Rd):Bytes × Rd:=
 if ((rdNumber r 58 0).2.rest.length:Int) < (rdNumber r 58 0).1 then ([],failed)
 else if (rdClose ⟨(rdNumber r 58 0).2.rest.drop (rdNumber r 58 0).1.toNat,(rdNumber r 58 0).2.bad⟩ 44).bad then ([],rdClose ⟨(rdNumber r 58 0).2.rest.drop (rdNumber r 58 0).1.toNat,(rdNumber r 58 0).2.bad⟩ 44)
 else ((rdNumber r 58 0).2.rest.take (rdNumber r 58 0).1.toNat,rdClose ⟨(rdNumber r 58 0).2.rest.drop (rdNumber r 58 0).1.toNat,(rdNumber r 58 0).2.bad⟩ 44)
def itemsGo {α:Type} (one:Rd → α × Rd):Nat → Rd → List α × Rd
 | 0,r=>([],r)
 | n + 1,r=>if r.bad then ([],r) else ((one r).1 :: (itemsGo one n (one r).2).1,(itemsGo one n (one r).2).2)
def rdItems {α:Type} (one:Rd → α × Rd) (r:Rd):List α × Rd:=
 if (rdClose (itemsGo one (rdNumber r 91 0).1.toNat (rdNumber r 91 0).2).2 93).bad then ([],rdClose (itemsGo one (rdNumber r 91 0).1.toNat (rdNumber r 91 0).2).2 93)
 else ((itemsGo one (rdNumber r 91 0).1.toNat (rdNumber r 91 0).2).1,rdClose (itemsGo one (rdNumber r 91 0).1.toNat (rdNumber r 91 0).2).2 93)
def rdNums:Rd → List Int × Rd:=rdItems rdInt
theorem digit_toNat (d:Nat) (h:d < 10):(UInt8.ofNat (48 + d)).toNat = 48 + d:=by
 rw [UInt8.toNat_ofNat']; omega
theorem decDigits_digit (u:Nat):∀ c ∈ decDigits u,48 ≤ c.toNat ∧ c.toNat ≤ 57:=by
 induction u using Nat.strongRecOn with
 | ind u ih=>
  rw [decDigits]
  split
  ·rename_i h
   intro c hc
   simp only [List.mem_singleton] at hc
   subst hc
   rw [digit_toNat u h]; omega
  ·rename_i h
   intro c hc
   rcases List.mem_append.1 hc with hc | hc
   ·exact ih (u / 10) (by omega) c hc
   ·simp only [List.mem_singleton] at hc
    subst hc
    rw [digit_toNat _ (by omega)]; omega
theorem decDigits_ne (u:Nat):decDigits u ≠ []:=by
 rw [decDigits]
 split <;> simp
theorem decDigits_len (u:Nat) (k:Nat) (hk:1 ≤ k) (h:u < 10 ^ k):(decDigits u).length ≤ k:=by
 induction k generalizing u with
 | zero=>omega
 | succ k ih=>
  rw [decDigits]
  split
  ·simp
  ·rename_i h10
   have hk1:1 ≤ k:=by
    rcases Nat.eq_zero_or_pos k with rfl | h0
    ·simp at h; omega
    ·exact h0
   have:=ih (u / 10) hk1 (by rw [Nat.pow_succ] at h; omega)
   simp only [List.length_append,List.length_singleton]
   omega
theorem parse_append (l m:Bytes) (acc:Nat):parseUint10 acc (l ++ m) = match parseUint10 acc l with | .ok u=>parseUint10 u m | .range=>.range | .syntax=>.syntax:=by
 induction l generalizing acc with
 | nil=>rfl
 | cons c l ih=>
  simp only [List.cons_append,parseUint10]
  by_cases h1:48 ≤ c.toNat ∧ c.toNat ≤ 57
  ·by_cases h2:1844674407370955162 ≤ acc
   ·simp only [if_pos h1,if_pos h2]
   ·by_cases h3:18446744073709551616 ≤ acc * 10 + (c.toNat - 48)
    ·simp only [if_pos h1,if_neg h2,if_pos h3]
    ·simp only [if_pos h1,if_neg h2,if_neg h3]
     exact ih _
  ·simp only [if_neg h1]
theorem parse_dec (u:Nat) (h:u < 18446744073709551616):parseUint10 0 (decDigits u) = .ok u:=by
 induction u using Nat.strongRecOn with
 | ind u ih=>
  rw [decDigits]
  split
  ·rename_i h10
   simp only [parseUint10,digit_toNat u h10]
   rw [if_pos (by omega),if_neg (by omega),if_neg (by omega)]
   congr 1; omega
  ·rename_i h10
   rw [parse_append,ih (u / 10) (by omega) (by omega)]
   simp only [parseUint10,digit_toNat (u % 10) (by omega)]
   rw [if_pos (by omega),if_neg (by omega),if_neg (by omega)]
   congr 1; omega
theorem atoi_itoa (n:Int) (h:InR n):atoiAll (itoa n) = .ok n:=by
 obtain ⟨h1,h2⟩:=h
 unfold itoa
 split
 ·rename_i hn
  rw [atoiAll_minus]
  have hp:parseMag (decDigits n.natAbs) = .ok n.natAbs:=by
   unfold parseMag
   rw [if_neg (decDigits_ne _),parse_dec _ (by omega)]
  rw [hp]
  simp only [signed]
  rw [if_neg (by omega)]
  congr 1; omega
 ·rename_i hn
  obtain ⟨c,r,hc⟩:∃ c r,decDigits n.toNat = c :: r:=by
   cases hd:decDigits n.toNat with
   | nil=>exact absurd hd (decDigits_ne _)
   | cons c r=>exact ⟨c,r,rfl⟩
  have hcd:=decDigits_digit n.toNat c (by rw [hc]; simp)
  rw [hc,atoiAll_plain c r (by omega) (by omega),← hc]
  have hp:parseMag (decDigits n.toNat) = .ok n.toNat:=by
   unfold parseMag
   rw [if_neg (decDigits_ne _),parse_dec _ (by omega)]
  rw [hp]
  simp only [signless]
  rw [if_neg (by omega)]
  congr 1; omega
theorem canon_itoa (n:Int) (h:InR n):canon (itoa n) = some n:=by
 unfold canon
 rw [atoi_itoa n h]
 simp
theorem canon_some (l:Bytes) (n:Int) (h:canon l = some n):l = itoa n ∧ InR n:=by
 unfold canon at h
 split at h
 ·rename_i v hv
  split at h
  ·rename_i he
   cases h
   exact ⟨he.symm,atoiAll_bounds hv⟩
  ·cases h
 ·cases h
theorem itoa_len (n:Int) (h:InR n):(itoa n).length ≤ 20:=by
 obtain ⟨h1,h2⟩:=h
 unfold itoa
 split
 ·have:=decDigits_len n.natAbs 19 (by omega) (by omega)
  simp; omega
 ·have:=decDigits_len n.toNat 19 (by omega) (by omega)
  omega
theorem itoa_byte (n:Int):∀ c ∈ itoa n,c.toNat = 45 ∨ (48 ≤ c.toNat ∧ c.toNat ≤ 57):=by
 intro c hc
 unfold itoa at hc
 split at hc
 ·rcases List.mem_cons.1 hc with rfl | hc
  ·left; rfl
  ·right; exact decDigits_digit _ c hc
 ·right; exact decDigits_digit _ c hc
theorem itoa_ne (n:Int):itoa n ≠ []:=by
 unfold itoa
 split
 ·simp
 ·exact decDigits_ne _
theorem takeWhile_num (n:Int) (hn:InR n) (e:UInt8) (he:58 ≤ e.toNat) (t:Bytes):((itoa n ++ e :: t).take 21).takeWhile (· != e) = itoa n ∧ (itoa n).length < ((itoa n ++ e :: t).take 21).length:=by
 have hl:=itoa_len n hn
 have h1:(itoa n ++ e :: t).take 21 = itoa n ++ (e :: t).take (21 - (itoa n).length):=by
  rw [List.take_append,List.take_of_length_le (by omega)]
 obtain ⟨k,hk⟩:∃ k,21 - (itoa n).length = k + 1:=⟨20 - (itoa n).length,by omega⟩
 rw [hk,List.take_succ_cons] at h1
 rw [h1]
 refine ⟨?_,by simp⟩
 rw [List.takeWhile_append_of_pos]
 ·simp
 ·intro c hc
  have:=itoa_byte n c hc
  simp only [bne_iff_ne,ne_eq]
  rintro rfl
  omega
theorem rdNumber_enc (n:Int) (hn:InR n) (e:UInt8) (he:58 ≤ e.toNat) (least:Int) (hl:least ≤ n) (t:Bytes) (b:Bool):rdNumber ⟨itoa n ++ e :: t,b⟩ e least = (n,⟨t,b⟩):=by
 obtain ⟨h1,h2⟩:=takeWhile_num n hn e he t
 unfold rdNumber
 simp only [h1]
 rw [if_pos h2,canon_itoa n hn]
 simp only
 rw [if_neg (by omega)]
 have:(itoa n ++ e :: t).drop ((itoa n).length + 1) = t:=by
  rw [← List.drop_drop,List.drop_left]; rfl
 rw [this]
theorem rdNumber_some (r:Rd) (e:UInt8) (least:Int):rdNumber r e least = (0,failed) ∨ ∃ n t,rdNumber r e least = (n,⟨t,r.bad⟩) ∧ r.rest = itoa n ++ e :: t ∧ InR n ∧ least ≤ n:=by
 unfold rdNumber
 split
 ·rename_i hlt
  split
  ·rename_i n hc
   split
   ·exact .inl rfl
   ·rename_i hle
    obtain ⟨h1,h2⟩:=canon_some _ _ hc
    refine .inr ⟨n,_,rfl,?_,h2,by omega⟩
    generalize hp:(r.rest.take 21).takeWhile (· != e) = p at *
    have hpre:r.rest.take 21 = p ++ (r.rest.take 21).drop p.length:=by
     have:=List.takeWhile_append_dropWhile (p:=(· != e)) (l:=r.rest.take 21)
     rw [hp] at this
     conv=>lhs; rw [← this]
     congr 1
     conv=>rhs; rw [← this]
     rw [List.drop_left]
    have hdw:(r.rest.take 21).dropWhile (· != e) = (r.rest.take 21).drop p.length:=by
     have:=List.takeWhile_append_dropWhile (p:=(· != e)) (l:=r.rest.take 21)
     rw [hp] at this
     conv=>rhs; rw [← this]
     rw [List.drop_left]
    have hpl:p.length < r.rest.length:=by
     have:=List.length_take_le 21 r.rest
     rw [List.length_take] at hlt
     omega
    have hhead:∃ t',(r.rest.take 21).drop p.length = e :: t':=by
     cases hd:(r.rest.take 21).drop p.length with
     | nil=>rw [List.drop_eq_nil_iff] at hd; omega
     | cons x t'=>
      rw [hd] at hdw
      have:=List.head_dropWhile_not (· != e) (l:=r.rest.take 21) (by rw [hdw]; simp)
      simp only [hdw,List.head_cons] at this
      have hx:x = e:=by simpa using this
      exact ⟨t',by rw [hx]⟩
    obtain ⟨t',ht'⟩:=hhead
    have hget:r.rest[p.length]? = some e:=by
     have h3:(r.rest.take 21)[p.length]? = some e:=by
      have:=congrArg (fun l=>l[0]?) ht'
      simpa using this
     rw [List.getElem?_take] at h3
     split at h3
     ·exact h3
     ·cases h3
    have htk:r.rest.take p.length = p:=by
     have h4:=congrArg (List.take p.length) hpre
     rw [List.take_left,List.take_take,Nat.min_eq_left (by rw [List.length_take] at hlt; omega)] at h4
     exact h4
    have hsplit:r.rest = r.rest.take p.length ++ r.rest.drop p.length:=(List.take_append_drop _ _).symm
    have hdrop:r.rest.drop p.length = e :: r.rest.drop (p.length + 1):=by
     rw [List.drop_eq_getElem_cons hpl]
     congr 1
     rw [List.getElem?_eq_getElem hpl] at hget
     simpa using hget
    rw [htk,hdrop] at hsplit
    rw [← h1]
    exact hsplit
  ·exact .inl rfl
 ·exact .inl rfl
def Rd.ok (r:Rd):Prop:=r.bad = true → r.rest = []
theorem Rd.ok_failed:failed.ok:=fun _=>rfl
theorem Rd.ok_good {t:Bytes}:Rd.ok ⟨t,false⟩:=fun h=>by cases h
theorem Rd.eq_failed {r:Rd} (h:r.ok) (hb:r.bad = true):r = failed:=by
 cases r with
 | mk rest bad=>
  have:=h hb
  simp only at hb this
  subst hb; subst this; rfl
theorem rdNumber_failed (e:UInt8) (least:Int):rdNumber failed e least = (0,failed):=by
 rcases rdNumber_some failed e least with h | ⟨n,t,_,h,_⟩
 ·exact h
 ·simp [failed] at h
theorem rdNumber_ok (r:Rd) (h:r.ok) (e:UInt8) (least:Int):(rdNumber r e least).2.ok:=by
 rcases rdNumber_some r e least with h1 | ⟨n,t,h1,h2,_⟩
 ·rw [h1]; exact Rd.ok_failed
 ·rw [h1]
  intro hb
  have:=h hb
  rw [this] at h2
  simp at h2
theorem rdClose_some (r:Rd) (c:UInt8):rdClose r c = failed ∨ ∃ t,r.rest = c :: t ∧ rdClose r c = ⟨t,r.bad⟩:=by
 unfold rdClose
 split
 ·exact .inl rfl
 ·rename_i x t hx
  split
  ·rename_i hc
   subst hc
   exact .inr ⟨t,hx,rfl⟩
  ·exact .inl rfl
theorem rdClose_cons (c:UInt8) (t:Bytes) (b:Bool):rdClose ⟨c :: t,b⟩ c = ⟨t,b⟩:=by simp [rdClose]
theorem rdClose_failed (c:UInt8):rdClose failed c = failed:=rfl
theorem rdText_failed:rdText failed = ([],failed):=by
 unfold rdText
 rw [rdNumber_failed]
 simp [failed,rdClose]
theorem rdText_some (r:Rd) (hr:r.ok):rdText r = ([],failed) ∨ ∃ s t,rdText r = (s,⟨t,false⟩) ∧ r = ⟨encText s ++ t,false⟩ ∧ (s.length:Int) ≤ 9223372036854775807:=by
 rcases hb:r.bad with _ | _
 ·rcases rdNumber_some r 58 0 with h1 | ⟨n,t,h1,h2,h3,h4⟩
  ·left
   unfold rdText
   rw [h1]
   simp [failed,rdClose]
  ·rw [hb] at h1
   unfold rdText
   rw [h1]
   dsimp only
   split
   ·left; rfl
   ·rename_i hlt
    rcases rdClose_some ⟨t.drop n.toNat,false⟩ 44 with h5 | ⟨t',h5,h6⟩
    ·left; rw [h5]; rfl
    ·right
     rw [h6]
     simp only at h5
     refine ⟨t.take n.toNat,t',rfl,?_,?_⟩
     ·have hl:(t.take n.toNat).length = n.toNat:=by rw [List.length_take]; omega
      have hn:((t.take n.toNat).length:Int) = n:=by rw [hl]; omega
      obtain ⟨rest,bad⟩:=r
      simp only at hb h2
      subst hb
      rw [h2]
      unfold encText
      rw [hn]
      congr 1
      conv=>lhs; rw [← List.take_append_drop n.toNat t,h5]
      simp
     ·have:=h3.2
      rw [List.length_take]; omega
 ·left
  rw [Rd.eq_failed hr hb]
  exact rdText_failed
theorem rdText_enc (s t:Bytes) (hs:(s.length:Int) ≤ 9223372036854775807):rdText ⟨encText s ++ t,false⟩ = (s,⟨t,false⟩):=by
 have h:=rdNumber_enc s.length ⟨by omega,hs⟩ 58 (by decide) 0 (by omega) (s ++ 44 :: t) false
 have e:encText s ++ t = itoa s.length ++ 58 :: (s ++ 44 :: t):=by simp [encText]
 unfold rdText
 rw [e,h]
 dsimp only
 rw [if_neg (by simp; omega)]
 have h1:(s ++ 44 :: t).drop ((s.length:Int)).toNat = 44 :: t:=by simp
 have h2:(s ++ 44 :: t).take ((s.length:Int)).toNat = s:=by simp
 rw [h1,h2,rdClose_cons]
 rfl
theorem rdNum_some (r:Rd) (hr:r.ok):rdNum r = (0,failed) ∨ ∃ n t,rdNum r = (n,⟨t,false⟩) ∧ r = ⟨encInt n ++ t,false⟩ ∧ InR n ∧ 0 ≤ n:=by
 rcases rdNumber_some r 59 0 with h1 | ⟨n,t,h1,h2,h3,h4⟩
 ·exact .inl h1
 ·rcases hb:r.bad with _ | _
  ·right
   rw [hb] at h1
   obtain ⟨rest,bad⟩:=r
   simp only at hb h2
   subst hb
   exact ⟨n,t,h1,by rw [h2]; simp [encInt],h3,h4⟩
  ·rw [hr hb] at h2; simp at h2
theorem rdInt_some (r:Rd) (hr:r.ok):rdInt r = (0,failed) ∨ ∃ n t,rdInt r = (n,⟨t,false⟩) ∧ r = ⟨encInt n ++ t,false⟩ ∧ InR n:=by
 rcases rdNumber_some r 59 (-9223372036854775808) with h1 | ⟨n,t,h1,h2,h3,h4⟩
 ·exact .inl h1
 ·rcases hb:r.bad with _ | _
  ·right
   rw [hb] at h1
   obtain ⟨rest,bad⟩:=r
   simp only at hb h2
   subst hb
   exact ⟨n,t,h1,by rw [h2]; simp [encInt],h3⟩
  ·rw [hr hb] at h2; simp at h2
theorem rdInt_enc (n:Int) (hn:InR n) (t:Bytes):rdInt ⟨encInt n ++ t,false⟩ = (n,⟨t,false⟩):=by
 have:=rdNumber_enc n hn 59 (by decide) (-9223372036854775808) hn.1 t false
 simpa [rdInt,encInt] using this
theorem rdNum_enc (n:Int) (hn:InR n) (h0:0 ≤ n) (t:Bytes):rdNum ⟨encNum n ++ t,false⟩ = (n,⟨t,false⟩):=by
 have:=rdNumber_enc n hn 59 (by decide) 0 h0 t false
 have h1:¬ n < 0:=by omega
 simpa [rdNum,encNum,encInt,h1] using this
theorem itemsGo_some {α:Type} (one:Rd → α × Rd) (enc:α → Bytes) (P:α → Prop) (hone:∀ r:Rd,r.ok → (one r).2 = failed ∨ ∃ v t,one r = (v,⟨t,false⟩) ∧ r = ⟨enc v ++ t,false⟩ ∧ P v):∀ (n:Nat) (r:Rd),r.ok →
  (itemsGo one n r).2 = failed ∨ ∃ vs t,itemsGo one n r = (vs,⟨t,r.bad⟩) ∧ vs.length = n ∧ r.rest = (vs.map enc).flatten ++ t ∧ ∀ v ∈ vs,P v
 | 0,r,_=>.inr ⟨[],r.rest,rfl,rfl,by simp,by simp⟩
 | n + 1,r,hr=>by
  unfold itemsGo
  split
  ·rename_i hb
   left
   exact Rd.eq_failed hr hb
  ·rename_i hb
   have hb:r.bad = false:=by simpa using hb
   rcases hone r hr with h1 | ⟨v,t,h1,h2,h3⟩
   ·left
    rw [h1]
    have:∀ n,(itemsGo one n failed).2 = failed:=by
     intro n
     cases n with
     | zero=>rfl
     | succ n=>rfl
    exact this n
   ·rw [h1]
    have hok:Rd.ok ⟨t,false⟩:=Rd.ok_good
    rcases itemsGo_some one enc P hone n _ hok with h4 | ⟨vs,t',h4,h5,h6,h7⟩
    ·left; exact h4
    ·right
     rw [h4]
     refine ⟨v :: vs,t',by rw [hb],by simp [h5],?_,?_⟩
     ·rw [h2]
      simp only at h6
      simp [h6]
     ·intro x hx
      rcases List.mem_cons.1 hx with rfl | hx
      ·exact h3
      ·exact h7 x hx
theorem rdItems_some {α:Type} (one:Rd → α × Rd) (enc:α → Bytes) (P:α → Prop) (hone:∀ r:Rd,r.ok → (one r).2 = failed ∨ ∃ v t,one r = (v,⟨t,false⟩) ∧ r = ⟨enc v ++ t,false⟩ ∧ P v) (r:Rd) (hr:r.ok) :
  rdItems one r = ([],failed) ∨ ∃ vs t,rdItems one r = (vs,⟨t,false⟩) ∧ r = ⟨encList (vs.map enc) ++ t,false⟩ ∧ (vs.length:Int) ≤ 9223372036854775807 ∧ ∀ v ∈ vs,P v:=by
 have hf:∀ {q:Rd},q = failed → (if (rdClose q 93).bad = true then (([]:List α),rdClose q 93) else ((itemsGo one (rdNumber r 91 0).1.toNat (rdNumber r 91 0).2).1,rdClose q 93)) = ([],failed):=by
  rintro q rfl
  rw [rdClose_failed]; rfl
 rcases rdNumber_some r 91 0 with h1 | ⟨n,t,h1,h2,h3,h4⟩
 ·left
  unfold rdItems
  exact hf (by rw [h1]; rfl)
 ·rcases hb:r.bad with _ | _
  ·rw [hb] at h1
   rcases itemsGo_some one enc P hone n.toNat ⟨t,false⟩ Rd.ok_good with h5 | ⟨vs,t',h5,h6,h7,h8⟩
   ·left
    unfold rdItems
    exact hf (by rw [h1]; exact h5)
   ·unfold rdItems
    rw [h1]
    dsimp only
    rw [h5]
    dsimp only
    rcases rdClose_some ⟨t',false⟩ 93 with h9 | ⟨t'',h9,h10⟩
    ·left; rw [h9]; rfl
    ·right
     rw [h10]
     refine ⟨vs,t'',rfl,?_,by have:=h3.2; omega,h8⟩
     have hn:(vs.length:Int) = n:=by omega
     obtain ⟨rest,bad⟩:=r
     simp only at hb h2 h7 h9
     subst hb
     rw [h2,h7,h9]
     simp [encList,hn]
  ·rw [hr hb] at h2; simp at h2
theorem itemsGo_enc {α:Type} (one:Rd → α × Rd) (enc:α → Bytes) (vs:List α) (t:Bytes) (h:∀ v ∈ vs,∀ t,one ⟨enc v ++ t,false⟩ = (v,⟨t,false⟩)):itemsGo one vs.length ⟨(vs.map enc).flatten ++ t,false⟩ = (vs,⟨t,false⟩):=by
 induction vs with
 | nil=>rfl
 | cons v vs ih=>
  have h1:=h v (by simp) ((vs.map enc).flatten ++ t)
  have h2:=ih (fun x hx=>h x (by simp [hx]))
  have e:((v :: vs).map enc).flatten ++ t = enc v ++ ((vs.map enc).flatten ++ t):=by simp
  rw [e,List.length_cons]
  unfold itemsGo
  rw [if_neg (by simp),h1]
  dsimp only
  rw [h2]
theorem rdItems_enc {α:Type} (one:Rd → α × Rd) (enc:α → Bytes) (vs:List α) (t:Bytes) (hl:(vs.length:Int) ≤ 9223372036854775807) (h:∀ v ∈ vs,∀ t,one ⟨enc v ++ t,false⟩ = (v,⟨t,false⟩)):rdItems one ⟨encList (vs.map enc) ++ t,false⟩ = (vs,⟨t,false⟩):=by
 have h1:=rdNumber_enc vs.length ⟨by omega,hl⟩ 91 (by decide) 0 (by omega) ((vs.map enc).flatten ++ 93 :: t) false
 have e:encList (vs.map enc) ++ t = itoa vs.length ++ 91 :: ((vs.map enc).flatten ++ 93 :: t):=by simp [encList]
 have h2:=itemsGo_enc one enc vs (93 :: t) h
 have h3:((vs.length:Int)).toNat = vs.length:=by simp
 unfold rdItems
 rw [e,h1]
 dsimp only
 rw [h3,h2]
 dsimp only
 rw [rdClose_cons]
 rfl
theorem rdNums_enc (vs:List Int) (t:Bytes) (hl:(vs.length:Int) ≤ 9223372036854775807) (h:∀ v ∈ vs,InR v):rdNums ⟨encNums vs ++ t,false⟩ = (vs,⟨t,false⟩):=
 rdItems_enc rdInt encInt vs t hl (fun v hv t=>rdInt_enc v (h v hv) t)
theorem rdNums_some (r:Rd) (hr:r.ok):rdNums r = ([],failed) ∨ ∃ vs t,rdNums r = (vs,⟨t,false⟩) ∧ r = ⟨encNums vs ++ t,false⟩ ∧ (vs.length:Int) ≤ 9223372036854775807 ∧ ∀ v ∈ vs,InR v:=
 rdItems_some rdInt encInt InR (fun r hr=>by
  rcases rdInt_some r hr with h | ⟨n,t,h1,h2,h3⟩
  ·left; rw [h]
  ·right; exact ⟨n,t,h1,h2,h3⟩) r hr
end CodeSpec
namespace Go.Proofs.Cd
open Go Go.Sh Go.RowKit Go.Lib CodeSpec
theorem ba_extract (l:List UInt8) (i j:Nat):(⟨l.toArray⟩:ByteArray).extract i j = ⟨((l.take j).drop i).toArray⟩:=by
 apply ByteArray.ext
 rw [← Array.toList_inj,ByteArray.data_extract,Array.toList_extract,List.extract_eq_take_drop]
 simp [List.drop_take]
theorem ba_inj (a b:List UInt8):((⟨a.toArray⟩:ByteArray) = ⟨b.toArray⟩) = (a = b):=by
 simp
theorem ba_of (s:ByteArray):s = ⟨s.data.toList.toArray⟩:=by
 cases s; rfl
theorem ba_byteAt (l:List UInt8) (k:Nat):byteAt ⟨l.toArray⟩ k = l.getD k 0:=by
 simp [byteAt]
attribute [go_sem] ba_size ba_append ba_extract ba_byteAt ba_inj
theorem K_eq {K:VK} {w:World} {a b:Value} (h:K a w) (e:b = a):K b w:=by rw [e]; exact h
theorem call_of_calls {f:FuncId} {args:Array Value} {w:World} {v:Value} {Q:WK} {K:VK} (h:Calls Tryz.prog f args w fun e w'=>e = .returned v ∧ Q w') (k:∀ w',Q w' → K v w'):callM Tryz.prog f args K w:=
 Calls.mono h (fun _ w' ⟨he,hq⟩=>⟨v,he,k w' hq⟩)
structure Laid (w:World):Prop where
 tab:TabIs Tryz.prog w tabName .u64 pow10Tab
 size:8 ≤ w.heap.size
structure LaidE (w:World):Prop extends Laid w where
 syn:∃ te pe,w.cell? ⟨2,0,none⟩ = some (.iface te pe)
 ran:∃ te pe,w.cell? ⟨3,0,none⟩ = some (.iface te pe)
theorem gTab:Tryz.prog.globalNamed tabName = some 0:=by kernel_rfl
theorem Laid.keep {w w':World} (h:Laid w) (hb:∀ k,k < 8 → w'.heap[k]? = w.heap[k]?) (hs:w.heap.size ≤ w'.heap.size):Laid w':=by
 refine ⟨?_,Nat.le_trans h.size hs⟩
 have h1:=h.tab
 unfold TabIs World.var? at h1 ⊢
 rw [gTab] at h1 ⊢
 simp only [Option.bind_some] at h1 ⊢
 rw [hb _ (by omega)]
 exact h1
theorem Laid.below {w w':World} (h:Laid w) {B:Nat} (hb:Below B w w') (hB:8 ≤ B):Laid w':=h.keep (fun k hk=>hb.block k (by omega)) hb.size
theorem Laid.grown {w w':World} (h:Laid w) {b:Nat} (hg:w.grownBy w' (some b)) (hb:8 ≤ b):Laid w':=h.keep (fun k hk=>hg.block k (by have:=h.size; omega) (by simp; omega)) hg.size
theorem LaidE.keep {w w':World} (h:LaidE w) (hb:∀ k,k < 8 → w'.heap[k]? = w.heap[k]?) (hs:w.heap.size ≤ w'.heap.size):LaidE w':=by
 have hc:∀ k,k < 8 → w'.cell? ⟨k,0,none⟩ = w.cell? ⟨k,0,none⟩:=fun k hk=>World.cell?_of_block (w:=w) (hb k hk)
 refine ⟨h.toLaid.keep hb hs,?_,?_⟩
 ·rw [hc _ (by omega)]; exact h.syn
 ·rw [hc _ (by omega)]; exact h.ran
theorem LaidE.below {w w':World} (h:LaidE w) {B:Nat} (hb:Below B w w') (hB:8 ≤ B):LaidE w':=h.keep (fun k hk=>hb.block k (by omega)) hb.size
theorem LaidE.grown {w w':World} (h:LaidE w) {b:Nat} (hg:w.grownBy w' (some b)) (hb:8 ≤ b):LaidE w':=h.keep (fun k hk=>hg.block k (by have:=h.toLaid.size; omega) (by simp; omega)) hg.size
theorem grown_of_below {w w':World} (h:Below w.heap.size w w') (b:Option Nat):w.grownBy w' b:=⟨h.os,h.tape,h.output,h.size,fun k hk _=>h.block k hk⟩
theorem below_of_grown {B:Nat} {w w':World} {row:Option Nat} (h:w.grownBy w' row) (hB:B ≤ w.heap.size) (hr:∀ k,row = some k → B ≤ k):Below B w w':=
 (Below.refl B w).grown h hB hr
theorem itoa_ok (n:Int) (hn:InR n) {K:VK} {w:World} (hl:Laid w) (k:∀ w',Below w.heap.size w w' → K (.string ⟨(itoa n).toArray⟩) w'):callM Tryz.prog 113 #[.int .i64 n] K w:=by
 refine call_of_calls (Tryz.strconv_Itoa n hn.1 hn.2 w hl.tab) ?_
 rintro w' ⟨d,os,rfl⟩
 exact k _ (below_grow _ _ (rL) _ _)
theorem below_bytesWorld (w:World) (T:TypeId) (t:ByteArray):Below w.heap.size w (bytesWorld w T t):=
 ⟨rfl,rfl,rfl,by rw [bytesWorld_size]; omega,fun k hk=>bytesWorld_at_old w T t k hk⟩
theorem atoi_ok (s:List UInt8) (hs:s.length ≤ 281474976710656) {K:VK} {w:World} (hl:LaidE w)
  (k1:∀ n w',atoiAll s = .ok n → Below w.heap.size w w' → K (.tuple #[.int .i64 n,.nilIface]) w')
  (k2:∀ v te pe w',(∀ n,atoiAll s ≠ .ok n) → Below w.heap.size w w' → K (.tuple #[.int .i64 v,.iface te pe]) w'):callM Tryz.prog 163 #[.string ⟨s.toArray⟩] K w:=by
 cases h:atoiAll s with
 | ok n=>
  refine call_of_calls (Tryz.strconv_Atoi_ok ⟨s.toArray⟩ (by rw [ba_size]; omega) n (by rw [ba_list]; exact h) w) ?_
  rintro w' (rfl | ⟨t,rfl⟩)
  ·exact k1 n _ h (Below.refl _ _)
  ·exact k1 n _ h (below_bytesWorld _ _ _)
 | «syntax»=>
  obtain ⟨te,pe,he⟩:=hl.syn
  refine Calls.mono (Tryz.strconv_Atoi_syntax ⟨s.toArray⟩ (by rw [ba_size]; omega) (by rw [ba_list]; exact h) _ w he (.inr ⟨_,_,rfl⟩)) ?_
  rintro e w' ⟨N,rfl,_,_,hb⟩
  exact ⟨_,rfl,k2 _ _ _ _ (fun n e=>by rw [h] at e; cases e) hb⟩
 | range=>
  obtain ⟨te,pe,he⟩:=hl.ran
  refine Calls.mono (Tryz.strconv_Atoi_range ⟨s.toArray⟩ (by rw [ba_size]; omega) (by rw [ba_list]; exact h) _ w he (.inr ⟨_,_,rfl⟩)) ?_
  rintro e w' ⟨N,rfl,_,_,hb⟩
  exact ⟨_,rfl,k2 _ _ _ _ (fun n e=>by rw [h] at e; cases e) hb⟩
theorem indexByte_ok (s:List UInt8) (c:UInt8) {K:VK} {w:World} (h:K (.int .i64 (indexByte s c)) w):callM Tryz.prog 162 #[.string ⟨s.toArray⟩,.int .u8 c.toNat] K w:=by
 refine call_of_calls (Tryz.strings_IndexByte ⟨s.toArray⟩ c.toNat w) ?_
 rintro w' rfl
 have:((c.toNat:Int)).toNat.toUInt8 = c:=by simp
 rw [ba_list,this]
 exact h
theorem cutPrefix_ok (s p:List UInt8) {K:VK} {w:World} (h:K (.tuple #[.string ⟨(trimPrefix s p).toArray⟩,.bool (hasPrefix s p)]) w):callM Tryz.prog 131 #[.string ⟨s.toArray⟩,.string ⟨p.toArray⟩] K w:=by
 refine call_of_calls (Tryz.strings_CutPrefix ⟨s.toArray⟩ ⟨p.toArray⟩ w) ?_
 rintro w' rfl
 exact h
theorem infoB:Tryz.prog.info? 237 = some Tryz.t237:=by kernel_rfl
theorem sizeB:Tryz.t237.size = 2:=by kernel_rfl
theorem liesB (b:Nat):liesAt Tryz.prog Tryz.prog.depth 237 (2 / Tryz.prog.cellsOf 237) (⟨b,0,none⟩:Addr).off 237 1 = true:=by kernel_rfl
theorem runNE (x:Value) (w:World):(callFunc 220 #[x]).run Tryz.prog w = .ok (.value x) w:=by kernel_rfl
theorem extNE {x:Value} {K:VK} {w:World} (k:K x w):extM Tryz.prog 220 #[x] K w:=by
 unfold extM opM
 rw [runNE]
 exact k
theorem copyCheck_nil (B b:Nat) (bs:List Value) (w:World) (h:BuilderAt 237 5 B b (.pointer none) bs w) {K:VK}
  (k:K (.tuple #[]) (w.setCell ⟨b,0,none⟩ (.pointer (some ⟨b,0,none⟩)))):callM Tryz.prog 199 #[.pointer (some ⟨b,0,none⟩)] K w:=by
 apply sh_199_ok
 unfold sh_199
 have hc:=h.cell0
 have hf:=h.frozen0
 have hv1:(convert 235 293 (.pointer (some ⟨b,0,none⟩))).run Tryz.prog w = .ok (.pointer (some ⟨b,0,none⟩)) w:=
  run_to_unsafe (P:=Tryz.prog) (w:=w) (a:=⟨b,0,none⟩) Tryz.underlying235 Tryz.underlying293 (t:=237) (j:=Tryz.t237) infoB (by rw [sizeB]; omega) h.shape (by show (0:Nat) < 2; omega)
 have hv2:(convert 293 235 (.pointer (some ⟨b,0,none⟩))).run Tryz.prog w = .ok (.pointer (some ⟨b,0,none⟩)) w:=
  run_from_unsafe (P:=Tryz.prog) (w:=w) (a:=⟨b,0,none⟩) Tryz.underlying293 Tryz.underlying235 (u:=237) (j:=Tryz.t237) infoB h.shape (liesB b)
 repeat (any_goals (first
 | (with_reducible refine extNE ?_)
 | (with_reducible refine yL ?_)
 | ((with_reducible refine oG fun X Y=>?_); simp [go_sem,oM_eqc,eqGuard,hc,hf,hv1,hv2]; apply Y; clear Y X)))
 exact k
theorem copyCheck_self (B b:Nat) (bs:List Value) (w:World) (h:BuilderAt 237 5 B b (.pointer (some ⟨b,0,none⟩)) bs w) {K:VK}
  (k:K (.tuple #[]) w):callM Tryz.prog 199 #[.pointer (some ⟨b,0,none⟩)] K w:=by
 apply sh_199_ok
 unfold sh_199
 have hc:=h.cell0
 have hf:=h.frozen0
 have hn:=run_neq_ptr_same (P:=Tryz.prog) (w:=w) (tp:=235) (te:=237) (j:=Tryz.t237) (a:=⟨b,0,none⟩) Tryz.underlying235 infoB
 repeat (any_goals (first
 | (with_reducible refine yM ?_)
 | ((with_reducible refine oG fun X Y=>?_); simp [go_sem,oM_eqc,oM_net,eqGuard,hc,hf,hn]; apply Y; clear Y X)))
 exact k
theorem copyCheck_ok (B b:Nat) (bs:List Value) (w:World) (h:IsBuilder 237 5 B b bs w) {K:VK}
  (k:∀ w',BuilderAt 237 5 B b (.pointer (some ⟨b,0,none⟩)) bs w' → w.grownBy w' (some b) → w'.heap.size = w.heap.size → K (.tuple #[]) w'):callM Tryz.prog 199 #[.pointer (some ⟨b,0,none⟩)] K w:=by
 rcases h with h | h
 ·refine copyCheck_nil B b bs w h (k _ (h.used _) ⟨rfl,rfl,rfl,by simp [World.setCell],fun i _ hi=>Below.heap_setCell _ _ _ _ (fun e=>hi (by simp [e]))⟩ (by simp [World.setCell]))
 ·exact copyCheck_self B b bs w h (k _ h ⟨rfl,rfl,rfl,rL,fun _ _ _=>rfl⟩ rfl)
theorem ownsRow_slice {w:World} {B:Nat} {e:TypeId} {sz:Nat} {v:Value} {n:Nat} {xs:List Value} (h:w.ownsRow B e sz v n xs):∃ a m c,v = .slice a m c:=by
 rcases h.2 with ⟨h,_⟩ | ⟨g,cap,cur,h,_⟩
 ·exact ⟨_,_,_,h⟩
 ·exact ⟨_,_,_,h⟩
theorem builderString_ok (B b:Nat) (l:List UInt8) (w:World) (h:IsBuilder 237 5 B b (Lib.byteCells l) w) (hBw:B ≤ w.heap.size) {K:VK} (k:∀ w',Below B w w' → K (.string ⟨l.toArray⟩) w'):callM Tryz.prog 160 #[.pointer (some ⟨b,0,none⟩)] K w:=
 call_of_calls (Tryz.Builder_String_any B b l w h hBw) k
theorem writeString_ok (B b:Nat) (l s:List UInt8) (w:World) (h:IsBuilder 237 5 B b (Lib.byteCells l) w) (hlen:l.length + s.length ≤ 140737488355328) (hBw:B ≤ w.heap.size) {K:VK}
  (k:∀ w',IsBuilder 237 5 B b (Lib.byteCells (l ++ s)) w' → Below B w w' → K (.tuple #[.int .i64 s.length,.nilIface]) w'):callM Tryz.prog 159 #[.pointer (some ⟨b,0,none⟩),.string ⟨s.toArray⟩] K w:=by
 apply sh_159_ok
 unfold sh_159
 refine copyCheck_ok B b _ w h ?_
 intro w1 h1 hg1 hs1
 obtain ⟨hB,v,hb,hown,hne⟩:=h1
 have hc1:w1.cell? ⟨b,1,none⟩ = some v:=by simp [World.cell?,hb]
 have hbl:Below B w w1:=below_of_grown hg1 hBw (fun k hk=>by cases hk; exact hB)
 have hbl5:(Lib.byteCells l).length = l.length:=by simp [Lib.byteCells]
 repeat (any_goals ((with_reducible refine oG fun X Y=>?_); simp [go_sem,hc1]; apply Y; clear Y X))
 obtain ⟨v',w2,hrun,ho,hg,_⟩:=run_append_own_string (P:=Tryz.prog) w1 B 202 9 202 5 Tryz.t5 Tryz.underlying202 Tryz.underlying9 (by kernel_rfl) (by kernel_rfl) (by kernel_rfl) (by kernel_rfl) v (Lib.byteCells l).length (Lib.byteCells l) hown ⟨s.toArray⟩ (by unfold maxLen; rw [ba_size]; omega) (by rw [ba_size]; omega) (by omega)
 rw [oM_value (S:=Builtin.append_ #[202,9] 202 #[v,.string ⟨s.toArray⟩]) (by simp [xop,execOp,evalL,evE,resolve,invoke,builtin]),hrun,ok_iff]
 have hb2:w2.heap[b]? = some (.cells #[.pointer (some ⟨b,0,none⟩),v] 237 (0,0)):=by
  rw [hg.block b (by have:=(Array.getElem?_eq_some_iff.1 hb).1; exact this) (fun e=>hne e.symm)]
  exact hb
 have hc2:w2.cell? ⟨b,1,none⟩ = some v:=by simp [World.cell?,hb2]
 have hf2:w2.frozen? ⟨b,1,none⟩ = false:=by simp [World.frozen?,hb2]
 have ho':w2.ownsRow B 5 1 v' (Lib.byteCells (l ++ s)).length (Lib.byteCells (l ++ s)):=by
  have e:Lib.byteCells l ++ strCells ⟨s.toArray⟩ = Lib.byteCells (l ++ s):=by simp [Lib.byteCells,strCells]
  have e2:(Lib.byteCells l).length + (⟨s.toArray⟩:ByteArray).size = (Lib.byteCells (l ++ s)).length:=by rw [ba_size]; simp [Lib.byteCells]
  rw [e,e2] at ho
  exact ho
 have hput:=BuilderAt.put (p:=.pointer (some ⟨b,0,none⟩)) hB hb2 ho' (by decide)
 have hbl2:Below B w w2:=hbl.trans (below_of_grown hg (by omega) (fun k hk=>(hown.lt k hk).1))
 obtain ⟨av,nv,cv,rfl⟩:=ownsRow_slice ho
 repeat (any_goals ((with_reducible refine oG fun X Y=>?_); simp [go_sem,hc2,hf2]; apply Y; clear Y X))
 exact k _ (.inr hput) (hbl2.setCell hB _)
end Go.Proofs.Cd
namespace Go.Proofs.Cd
open Go Go.Sh Go.RowKit Go.Lib CodeSpec
def intV (n:Int):Value:=.int .i64 n
def strV (s:List UInt8):Value:=.string ⟨s.toArray⟩
def RowOf {α:Type} (mk:α → Value) (w:World) (v:Value) (l:List α):Prop:=
 ∃ ad c,v = .slice ad l.length c ∧ (l = [] ∨ ∃ b o,ad = some ⟨b,o,none⟩ ∧ b < w.heap.size ∧ ∀ (i:Nat) (h:i < l.length),w.cell? ⟨b,o + i,none⟩ = some (mk l[i]))
theorem RowOf.below {α:Type} {mk:α → Value} {w w':World} {v:Value} {l:List α} (h:RowOf mk w v l) (hb:Below w.heap.size w w'):RowOf mk w' v l:=by
 obtain ⟨ad,c,rfl,h⟩:=h
 refine ⟨ad,c,rfl,h.imp id ?_⟩
 rintro ⟨b,o,rfl,hlt,hc⟩
 exact ⟨b,o,rfl,lL hlt hb.size,fun i hi=>by rw [hb.cell hlt]; exact hc i hi⟩
theorem RowOf.nil {α:Type} (mk:α → Value) (w:World) (ad:Option Addr) (c:Nat):RowOf mk w (.slice ad 0 c) []:=⟨ad,c,rfl,.inl rfl⟩
theorem addr_add (b o k:Nat):(⟨b,o,none⟩:Addr).add k = ⟨b,o + k,none⟩:=by
 unfold Addr.add
 split
 ·rename_i h0; rw [h0]; simp
 ·rfl
theorem RowOf.of_owns {α:Type} {mk:α → Value} {w:World} {B:Nat} {e:TypeId} {v:Value} {l:List α} (h:w.ownsRow B e 1 v l.length (l.map mk)):RowOf mk w v l:=by
 rcases h.2 with ⟨rfl,h0⟩ | ⟨g,cap,cur,rfl,hb,hg,hn,hm,hcs,ht⟩
 ·obtain rfl:l = []:=List.eq_nil_of_length_eq_zero h0
  exact RowOf.nil _ _ _ _
 ·refine ⟨_,cap,rfl,.inr ⟨g,0,rfl,(Array.getElem?_eq_some_iff.1 hg).1,fun i hi=>?_⟩⟩
  have:(l.map mk)[i]? = some (mk l[i]):=by simp [hi]
  rw [← ht,List.getElem?_take_of_lt (by omega)] at this
  unfold World.cell?
  rw [hg]
  simpa using this
theorem idx22 {b o n c k:Nat} (hk:k < n) (w:World):(Instr.indexAt 22 (.slice (some ⟨b,o,none⟩) n c) (.int .i64 k)).run Tryz.prog w = .ok (.pointer (some ⟨b,o + k,none⟩)) w:=by
 rw [run_indexAt_slice (h:=by kernel_rfl),if_pos (by omega)]
 have hs:(sizeOf (Tryz.prog.elem 22)).run Tryz.prog w = .ok 1 w:=by kernel_rfl
 rw [hs]
 simp only [Result.andThen,Int.toNat_natCast,addr_add,Nat.mul_one]
theorem encInt_len (n:Int) (h:InR n):(encInt n).length ≤ 21:=by
 have:=itoa_len n h
 simp [encInt]; omega
theorem pInt_ok (n:Int) (hn:InR n) {K:VK} {w:World} (hl:Laid w) (k:∀ w',Below w.heap.size w w' → K (.string ⟨(encInt n).toArray⟩) w'):callM Tryz.prog 63 #[.int .i64 n] K w:=by
 apply sh_63_ok
 unfold sh_63
 refine itoa_ok n hn hl ?_
 intro w1 hb
 have:=itoa_len n hn
 repeat (any_goals ((with_reducible refine oG fun X Y=>?_); simp [go_sem]; refine And.intro (by omega) (Y _ _ ?_); clear Y X))
 exact K_eq (k _ hb) (by simp [encInt])
theorem encText_len (s:List UInt8) (hs:(s.length:Int) ≤ 9223372036854775807):(encText s).length ≤ s.length + 22:=by
 have:=itoa_len s.length ⟨by omega,hs⟩
 simp [encText]; omega
theorem flat_snoc {α:Type} (enc:α → List UInt8) (xs:List α) (k:Nat) (h:k < xs.length):((xs.take (k + 1)).map enc).flatten = ((xs.take k).map enc).flatten ++ enc xs[k]:=by
 rw [List.take_add_one,gE h]
 simp only [Option.toList_some,List.map_append,List.map_cons,List.map_nil,List.flatten_append,List.flatten_cons,List.flatten_nil,List.append_nil]
theorem flat_le {α:Type} (enc:α → List UInt8) (xs:List α) (k:Nat):((xs.take k).map enc).flatten.length ≤ (xs.map enc).flatten.length:=by
 conv=>rhs; rw [← List.take_append_drop k xs]
 rw [List.map_append,List.flatten_append,List.length_append]
 omega
theorem IsBuilder.below {T e:TypeId} {B b:Nat} {bs:List Value} {w w':World} (h:IsBuilder T e B b bs w) (hb:Below w.heap.size w w'):IsBuilder T e B b bs w':=by
 have key:∀ p,BuilderAt T e B b p bs w → BuilderAt T e B b p bs w':=by
  rintro p ⟨hB,v,hh,hown,hne⟩
  have hlt:=(Array.getElem?_eq_some_iff.1 hh).1
  refine ⟨hB,v,by rw [hb.block _ hlt]; exact hh,?_,hne⟩
  exact hown.kept (grown_of_below hb none) (by
   rcases hown.2 with ⟨rfl,_⟩ | ⟨g,cap,cur,rfl,_⟩
   ·left; rfl
   ·right; simp [Value.ownBlock])
 exact h.imp (key _) (key _)
theorem encodedNum_ok (xs:List (Int)) (v:Value) {K:VK} {w:World} (hl:Laid w) (hrow:RowOf intV w v xs) (hx:∀ x ∈ xs,InR x) (hlen:(encList (xs.map encInt)).length < 2^40)
  (k:∀ w',Below w.heap.size w w' → K (.string ⟨(encList (xs.map encInt)).toArray⟩) w'):callM Tryz.prog 112 #[v,.func (.func 63) #[] #[]] K w:=by
 apply sh_112_ok
 unfold sh_112
 have hsz:(encList (xs.map encInt)).length = (itoa (xs.length:Nat)).length + 1 + ((xs.map encInt).flatten).length + 1:=by simp [encList]; omega
 have hxl:xs.length ≤ (xs.map encInt).flatten.length:=by
  rw [List.length_flatten]
  clear hrow hlen hsz k
  induction xs with
  | nil=>simp
  | cons x xs ih=>
   have:=ih (fun y hy=>hx y (List.mem_cons_of_mem _ hy))
   have h1:1 ≤ (encInt x).length:=by simp [encInt]; try omega
   simp only [List.length_cons,List.map_cons,List.sum_cons]
   omega
 have hin:InR (xs.length:Nat):=⟨by omega,by omega⟩
 have hil:=itoa_len _ hin
 obtain ⟨ad,c,rfl,hcell⟩:=hrow
 have hl0:Laid (w.alloc (.cells #[.pointer none,.slice none 0 0] 237)):=hl.below ((Below.refl _ _).alloc (rL) _) hl.size
 repeat (any_goals ((with_reducible refine oG fun X Y=>?_); simp [go_sem]; apply Y; clear Y X))
 refine itoa_ok _ hin hl0 (fun w1 hb1=>?_)
 have hb1':Below w.heap.size w w1:=((Below.refl _ _).alloc (rL) _).trans (hb1.mono (by simp))
 have hB1:=IsBuilder.below (fresh_isBuilder 237 5 w) hb1
 have hz1:=hb1'.size
 repeat (any_goals ((with_reducible refine oG fun X Y=>?_); simp [go_sem]; refine And.intro (by omega) (Y _ _ ?_); clear Y X))
 refine writeString_ok w.heap.size _ [] _ _ hB1 (by simp; omega) (by omega) ?_
 intro w2 hB2 hb2
 have hb2':=hb1'.trans hb2
 repeat (any_goals ((with_reducible refine oG fun X Y=>?_); simp [go_sem]; apply Y; clear Y X))
 refine ⟨fun l w'=>∃ (x:Value) (k:Nat),l = [x,.int .i64 k] ∧ k ≤ xs.length ∧ IsBuilder 237 5 w.heap.size w.heap.size (Lib.byteCells (itoa (xs.length:Nat) ++ 91 :: ((xs.take k).map encInt).flatten)) w' ∧ Below w.heap.size w w',fun l _=>xs.length - (match l with | [_,.int _ n]=>n.toNat | _=>0),⟨_,0,rfl,by omega,by simpa using hB2,hb2'⟩,?_⟩
 rintro _ _ w3 ⟨x,j,rfl,hj,hB3,hb3⟩
 have hz3:=hb3.size
 simp only [List.getD_cons_zero,List.getD_cons_succ]
 have hfl:=flat_le encInt xs j
 by_cases hlt:j < xs.length
 ·rcases hcell with rfl | ⟨b,o,rfl,hbw,hcells⟩
  ·simp at hlt
  have hc:=hcells j hlt
  rw [← hb3.cell hbw] at hc
  simp only [intV] at hc
  have hix:=idx22 (b:=b) (o:=o) (c:=c) hlt w3
  have hl3:Laid w3:=hl.below hb3 hl.size
  have hP:=hx xs[j] (List.getElem_mem hlt)
  have hfl1:=flat_le encInt xs (j + 1)
  rw [flat_snoc _ _ _ hlt,List.length_append] at hfl1
  repeat (any_goals (first
  | (rw [kI,oM_indexAddr,hix,rM_ok])
  | (with_reducible refine yN ?_)
  | ((with_reducible refine oG fun X Y=>?_); simp [go_sem,hc]; apply Y; clear Y X)))
  refine oM_callv1 (by kernel_rfl) ?_
  refine pInt_ok _ hP hl3 ?_
  intro w4 hb4
  have hz4:=hb4.size
  have hB4:IsBuilder 237 5 w.heap.size w.heap.size (Lib.byteCells (itoa (xs.length:Nat) ++ 91 :: ((xs.take j).map encInt).flatten)) w4:=IsBuilder.below hB3 hb4
  refine writeString_ok w.heap.size _ _ _ _ hB4 (by simp only [List.length_append,List.length_cons]; omega) (by omega) ?_
  intro w5 hB5 hb5
  repeat (any_goals ((with_reducible refine oG fun X Y=>?_); simp [go_sem]; (try simp (disch:=omega) only [wrapI64,wrapU8,wrapU32,wrapU64]); apply Y; clear Y X))
  refine ⟨⟨_,j + 1,rfl,hlt,?_,(hb3.trans (hb4.mono hz3)).trans hb5⟩,by simp; omega⟩
  rw [flat_snoc _ _ _ hlt]
  simpa using hB5
 ·obtain rfl:j = xs.length:=by omega
  rw [List.take_length] at hB3 hfl
  obtain ⟨F,hF⟩:∃ F,F = (xs.map encInt).flatten:=⟨_,rfl⟩
  rw [← hF] at hB3 hfl hsz
  repeat (any_goals (first
  | (with_reducible refine yM ?_)
  | ((with_reducible refine oG fun X Y=>?_); simp [go_sem]; apply Y; clear Y X)))
  refine builderString_ok _ _ _ _ hB3 (by omega) ?_
  intro w4 hb4
  repeat (any_goals ((with_reducible refine oG fun X Y=>?_); simp [go_sem]; refine And.intro (by omega) (Y _ _ ?_); clear Y X))
  exact K_eq (k _ (hb3.trans hb4)) (by simp [encList,hF])
theorem pNums_ok (xs:List (Int)) (v:Value) {K:VK} {w:World} (hl:Laid w) (hrow:RowOf intV w v xs) (hx:∀ x ∈ xs,InR x) (hlen:(encList (xs.map encInt)).length < 2^40)
  (k:∀ w',Below w.heap.size w w' → K (.string ⟨(encList (xs.map encInt)).toArray⟩) w'):callM Tryz.prog 61 #[v] K w:=by
 apply sh_61_ok
 unfold sh_61
 skip
 exact encodedNum_ok xs v hl hrow hx hlen k
end Go.Proofs.Cd
namespace Go.Proofs.Cd
open Go Go.Sh Go.RowKit Go.Lib CodeSpec
def IsRd (w:World) (b:Nat) (r:Rd):Prop:=w.heap[b]? = some (.cells #[.string ⟨r.rest.toArray⟩,.bool r.bad] 191 (0,0))
theorem IsRd.c0 {w:World} {b:Nat} {r:Rd} (h:IsRd w b r):w.cell? ⟨b,0,none⟩ = some (.string ⟨r.rest.toArray⟩):=by
 unfold IsRd at h; simp [World.cell?,h]
theorem IsRd.c1 {w:World} {b:Nat} {r:Rd} (h:IsRd w b r):w.cell? ⟨b,1,none⟩ = some (.bool r.bad):=by
 unfold IsRd at h; simp [World.cell?,h]
theorem IsRd.fz {w:World} {b:Nat} {r:Rd} (h:IsRd w b r) (i:Nat):w.frozen? ⟨b,i,none⟩ = false:=by
 unfold IsRd at h; simp [World.frozen?,h]
theorem IsRd.lt {w:World} {b:Nat} {r:Rd} (h:IsRd w b r):b < w.heap.size:=(Array.getElem?_eq_some_iff.1 h).1
theorem heap_set {w:World} {b i:Nat} {cs:Array Value} {T:TypeId} {f:Nat × Nat} (h:w.heap[b]? = some (.cells cs T f)) (u:Value):(w.setCell ⟨b,i,none⟩ u).heap[b]? = some (.cells (cs.setIfInBounds i u) T f):=by
 simp [World.setCell,Array.getElem?_modify,h]
theorem IsRd.set0 {w:World} {b:Nat} {r:Rd} (h:IsRd w b r) (l:List UInt8):IsRd (w.setCell ⟨b,0,none⟩ (.string ⟨l.toArray⟩)) b ⟨l,r.bad⟩:=by
 unfold IsRd at h ⊢
 rw [heap_set h]; rfl
theorem IsRd.set1 {w:World} {b:Nat} {r:Rd} (h:IsRd w b r) (t:Bool):IsRd (w.setCell ⟨b,1,none⟩ (.bool t)) b ⟨r.rest,t⟩:=by
 unfold IsRd at h ⊢
 rw [heap_set h]; rfl
theorem IsRd.below {w w':World} {b:Nat} {r:Rd} (h:IsRd w b r) {B:Nat} (hb:Below B w w') (hB:b < B):IsRd w' b r:=by
 unfold IsRd at h ⊢
 rw [hb.block _ hB]; exact h
theorem IsRd.drew {w:World} {b:Nat} {r:Rd} (h:IsRd w b r):IsRd w.drew b r:=h
theorem grown_set (w:World) (b i:Nat) (u:Value):w.grownBy (w.setCell ⟨b,i,none⟩ u) (some b):=
 ⟨rfl,rfl,rfl,by simp [World.setCell],fun k _ hk=>Below.heap_setCell _ _ _ _ (fun e=>hk (by simp [e]))⟩
theorem grown_drew (w:World) (b:Option Nat):w.grownBy w.drew b:=⟨rfl,rfl,rfl,rL,fun _ _ _=>rfl⟩
theorem fail_ok (b:Nat) (r:Rd) {K:VK} {w:World} (hr:IsRd w b r) (k:∀ w',IsRd w' b failed → w.grownBy w' (some b) → K (.tuple #[]) w'):callM Tryz.prog 115 #[.pointer (some ⟨b,0,none⟩)] K w:=by
 apply sh_115_ok
 unfold sh_115
 have h0:=hr.c0
 have f0:=hr.fz 0
 have hr1:=hr.set0 []
 have f1:=hr1.fz 1
 have h1:=hr1.c1
 repeat (any_goals ((with_reducible refine oG fun X Y=>?_); simp [go_sem,h0,f0,h1,f1]; apply Y; clear Y X))
 exact k _ (hr1.set1 true) (grownBy_trans (grown_set _ _ _ _) (grown_set _ _ _ _))
theorem close_ok (b:Nat) (r:Rd) (c:UInt8) {K:VK} {w:World} (hr:IsRd w b r) (k:∀ w',IsRd w' b (rdClose r c) → w.grownBy w' (some b) → K (.tuple #[]) w'):callM Tryz.prog 116 #[.pointer (some ⟨b,0,none⟩),.string ⟨#[c]⟩] K w:=by
 apply sh_116_ok
 unfold sh_116
 have h0:=hr.c0
 have f0:=hr.fz 0
 repeat (any_goals (first
 | (with_reducible refine cutPrefix_ok r.rest [c] ?_)
 | (with_reducible ((refine idCond ?_); refine yV (fun hg=>?_) fun hg=>?_))
 | ((with_reducible refine oG fun X Y=>?_); simp [go_sem,h0,f0]; apply Y; clear Y X)))
 ·skip
  obtain ⟨t,ht⟩:∃ t,r.rest = c :: t:=by
   unfold hasPrefix at hg
   rw [List.isPrefixOf_iff_prefix] at hg
   obtain ⟨t,ht⟩:=hg
   exact ⟨t,by rw [← ht]; rfl⟩
  have e:trimPrefix r.rest [c] = t:=by simp [trimPrefix,hasPrefix,ht]
  refine k _ ?_ (grown_set _ _ _ _)
  have:=hr.set0 t
  rw [e]
  have e2:rdClose r c = ⟨t,r.bad⟩:=by simp [rdClose,ht]
  rw [e2]
  exact this
 ·skip
  refine fail_ok b _ (hr.set0 _) ?_
  intro w1 hr1 hg1
  refine k w1 ?_ (grownBy_trans (grown_set _ _ _ _) hg1)
  have e2:rdClose r c = failed:=by
   rcases rdClose_some r c with h | ⟨t,h,_⟩
   ·exact h
   ·rw [h] at hg; simp [hasPrefix] at hg
  rw [e2]
  exact hr1
theorem indexByte_take (l:List UInt8) (c:UInt8):indexByte l c = if (l.takeWhile (· != c)).length < l.length then ((l.takeWhile (· != c)).length:Int) else -1:=by
 induction l with
 | nil=>rfl
 | cons x l ih=>
  unfold indexByte
  by_cases hx:x = c
  ·subst hx; simp
  ·have h1:(x == c) = false:=by simp [hx]
   have tw:(x :: l).takeWhile (· != c) = x :: l.takeWhile (· != c):=by simp [hx]
   rw [tw,List.length_cons,List.length_cons,h1,if_neg (by simp)]
   by_cases hlt:(l.takeWhile (· != c)).length < l.length
   ·rw [if_pos hlt] at ih
    have e:(indexByte l c == -1) = false:=by
     rw [ih,beq_eq_false_iff_ne]
     omega
    rw [e,if_neg (by simp),ih,if_pos (by omega)]
    omega
   ·rw [if_neg hlt] at ih
    rw [ih,if_pos (by simp),if_neg (by omega)]
theorem take_twl (l:List UInt8) (c:UInt8):l.take (l.takeWhile (· != c)).length = l.takeWhile (· != c):=by
 exact (List.prefix_iff_eq_take.1 (List.takeWhile_prefix _)).symm
set_option maxHeartbeats 1600000 in
theorem number_ok (b:Nat) (r:Rd) (e:UInt8) (least:Int) {K:VK} {w:World} (hl:LaidE w) (hlen:r.rest.length < 2^60) (hr:IsRd w b r) (k:∀ w',IsRd w' b (rdNumber r e least).2 → w.grownBy w' (some b) → K (.int .i64 (rdNumber r e least).1) w'):callM Tryz.prog 114 #[.pointer (some ⟨b,0,none⟩),.int .u8 e.toNat,.int .i64 least] K w:=by
 apply sh_114_ok
 unfold sh_114
 refine quietM_one ?_
 have hr1:IsRd { w with drawn:=w.drawn + 1 } b r:=hr
 have hl1:LaidE { w with drawn:=w.drawn + 1 }:=hl.keep (fun _ _=>rfl) (rL)
 have hg1:w.grownBy { w with drawn:=w.drawn + 1 } (some b):=grown_drew _ _
 generalize { w with drawn:=w.drawn + 1 } = w1 at *
 have h0:=hr1.c0
 have hmin:(min (r.rest.length:Int) 21).toNat = min r.rest.length 21:=by omega
 obtain ⟨q,hq⟩:∃ q,q = r.rest.take 21:=⟨_,rfl⟩
 obtain ⟨p,hp⟩:∃ p,p = q.takeWhile (· != e):=⟨_,rfl⟩
 have htk:r.rest.take (min r.rest.length 21) = q:=by
  rw [hq,List.take_eq_take_iff]; omega
 have hix:=indexByte_take q e
 rw [← hp] at hix
 have hple:p.length ≤ q.length:=by rw [hp]; exact (List.takeWhile_prefix _).length_le
 have hpl21:q.length ≤ 21:=by rw [hq]; exact List.length_take_le ..
 have hpr:q.length ≤ r.rest.length:=by rw [hq,List.length_take]; omega
 have hnum:rdNumber r e least = if p.length < q.length then (match canon p with | some n=>if n < least then (0,failed) else (n,⟨r.rest.drop (p.length + 1),r.bad⟩) | none=>(0,failed)) else (0,failed):=by rw [hp,hq]; rfl
 have hsl:q.take p.length = p:=by rw [hp]; exact take_twl _ _
 have fin:∀ w2,Below w1.heap.size w1 w2 → rdNumber r e least = (0,failed) → callM Tryz.prog 115 #[.pointer (some ⟨b,0,none⟩)] (fun _ w=>K (.int .i64 0) w) w2:=by
  intro w2 hb2 hn
  refine fail_ok b _ (hr1.below hb2 hr1.lt) ?_
  intro w3 hr3 hg3
  have:=k w3 (by rw [hn]; exact hr3) (grownBy_trans hg1 (grownBy_trans (grown_of_below hb2 _) hg3))
  rw [hn] at this
  exact this
 clear hp hq
 repeat (any_goals (first
 | (with_reducible first|refine And.intro (Eq.refl (α:=World) _) ?_|refine forall_one ?_)
 | ((with_reducible refine idOQ ?_); first|(with_reducible refine oQ_nil ?_)|((with_reducible refine oQ_one ?_ ?_); exact ⟨_,rfl⟩))
 | ((with_reducible refine oG fun X Y=>?_); simp [go_sem,h0,hmin,htk]; (first|refine Y _ _ ?_|refine And.intro (by omega) (Y _ _ ?_)); clear Y X)))
 refine indexByte_ok _ e ?_
 rw [hix]
 by_cases hlt:p.length < q.length
 ·rw [if_pos hlt] at hnum ⊢
  repeat (any_goals (first
  | (with_reducible refine yO ?_)
  | ((with_reducible refine oG fun X Y=>?_); simp [go_sem,hsl]; (first|refine Y _ _ ?_|refine And.intro (by omega) (Y _ _ ?_)); clear Y X)))
  refine atoi_ok p (by omega) hl1 (fun n w2 hn hb2=>?_) (fun v te pe w2 hn hb2=>?_)
  ·have hinr:=atoiAll_bounds hn
   have hcan:canon p = if itoa n = p then some n else none:=by unfold canon; rw [hn]
   repeat (any_goals ((with_reducible refine oG fun X Y=>?_); simp [go_sem]; apply Y; clear Y X))
   refine ⟨fun w'=>Below w2.heap.size w2 w',⟨rfl,rfl,rfl,rL,fun _ _=>rfl⟩,?_⟩
   repeat (any_goals (first
   | (with_reducible first|refine pureQ_in ?_|((refine idGdQ ?_); refine gdQ_conv fun _=>?_)|refine zC ?_)
   | ((with_reducible refine idOQ ?_); (with_reducible refine oQ_of ⟨_,rfl⟩ (fun W0 hW0=>by (refine oG (fun X Y=>?_)); simp [go_sem,oM_nec,eqGuard]; (first | exact Y _ _ ⟨rfl,rfl⟩ | exact ⟨by omega,Y _ _ ⟨rfl,rfl⟩⟩)) ?_))))
   refine callQ_of (C:=fun w0=>Below w2.heap.size w2 w0) (v:=.string ⟨(itoa n).toArray⟩) (fun w3 hw3=>itoa_ok n hinr (hl1.toLaid.below (hb2.trans (hw3.mono hb2.size)) hl1.size) (fun w4 hb4=>⟨rfl,hw3.trans (hb4.mono hw3.size)⟩)) ?_
   repeat (any_goals (first
   | (with_reducible first|refine pureQ_in ?_|((refine idGdQ ?_); refine gdQ_conv fun _=>?_)|((refine idGd ?_); first|refine zC ?_|((refine idGdN ?_); first|refine zO ?_|refine zP ?_|refine zQ (fun hg=>?_) fun hg=>?_)))
   | ((with_reducible refine idOQ ?_); first|(with_reducible first|refine wB ?_|refine wE ?_|refine wF ?_)|(with_reducible refine oQ_of ⟨_,rfl⟩ (fun W0 hW0=>by (refine oG (fun X Y=>?_)); simp [go_sem,hsl]; (first | exact Y _ _ ⟨rfl,rfl⟩ | exact ⟨by omega,Y _ _ ⟨rfl,rfl⟩⟩)) ?_))))
   ·rw [hcan,if_pos hg] at hnum
    intro w3 hw3
    have hb3:Below w1.heap.size w1 w3:=hb2.trans (hw3.mono hb2.size)
    have hr3:=hr1.below hb3 hr1.lt
    have h3:=hr3.c0
    have f3:=hr3.fz 0
    simp only at hnum
    by_cases hle:n < least
    ·rw [if_pos hle] at hnum
     repeat (any_goals (first
     | (with_reducible refine fin _ hb3 hnum)
     | (with_reducible refine yN ?_)))
    ·rw [if_neg hle] at hnum
     repeat (any_goals (first
     | (with_reducible refine yO ?_)
     | ((with_reducible refine oG fun X Y=>?_); simp [go_sem,h3,f3]; (try simp (disch:=omega) only [wrapI64,wrapU8,wrapU32,wrapU64]); (first|refine Y _ _ ?_|refine And.intro (by omega) (Y _ _ ?_)); clear Y X)))
     have:=k _ (by rw [hnum]; exact hr3.set0 _) (grownBy_trans hg1 (grownBy_trans (grown_of_below hb3 _) (grown_set _ _ _ _)))
     rw [hnum] at this
     exact this
   ·rw [hcan,if_neg hg] at hnum
    simp only at hnum
    intro w3 hw3
    repeat (any_goals (first
    | (with_reducible refine fin _ (hb2.trans (hw3.mono hb2.size)) hnum)
    | (with_reducible refine yL ?_)))
  ·have hcan:canon p = none:=by
    unfold canon
    cases hc:atoiAll p with
    | ok n=>exact absurd hc (hn n)
    | «syntax»=>rfl
    | range=>rfl
   rw [hcan] at hnum
   simp only at hnum
   repeat (any_goals ((with_reducible refine oG fun X Y=>?_); simp [go_sem]; apply Y; clear Y X))
   refine quietM_one ?_
   repeat (any_goals (first
   | (with_reducible first|((refine idGdQ ?_); refine gdQ_conv fun _=>?_)|refine And.intro (Eq.refl (α:=World) _) ?_|refine forall_one ?_|refine zD ?_|refine yL ?_)
   | ((with_reducible refine idOQ ?_); first|(with_reducible refine wA ?_)|((with_reducible refine oQ_one ?_ ?_); exact ⟨_,rfl⟩))
   | ((with_reducible refine oG fun X Y=>?_); simp [go_sem,oM_nec,eqGuard]; apply Y; clear Y X)))
   exact fin _ hb2.drew hnum
 ·rw [if_neg hlt] at hnum ⊢
  repeat (any_goals (first
  | (with_reducible refine fin _ (Below.refl _ _) hnum)
  | (with_reducible refine yL ?_)
  | ((with_reducible refine oG fun X Y=>?_); simp [go_sem]; apply Y; clear Y X)))
end Go.Proofs.Cd
namespace Go.Proofs.Cd
open Go Go.Sh Go.RowKit Go.Lib CodeSpec
theorem rest_le (r:Rd) (e:UInt8) (least:Int):(rdNumber r e least).2.rest.length ≤ r.rest.length:=by
 rcases rdNumber_some r e least with h | ⟨n,t,h,h2,_⟩
 ·rw [h]; simp [failed]
 ·rw [h,h2]; simp; omega
theorem rint_ok (b:Nat) (r:Rd) {K:VK} {w:World} (hl:LaidE w) (hlen:r.rest.length < 2^60) (hr:IsRd w b r) (k:∀ w',IsRd w' b (rdInt r).2 → w.grownBy w' (some b) → K (.int .i64 (rdInt r).1) w'):callM Tryz.prog 111 #[.pointer (some ⟨b,0,none⟩)] K w:=by
 apply sh_111_ok
 unfold sh_111
 exact number_ok b r 59 (-9223372036854775808) hl hlen hr k
theorem open_ok (s:List UInt8) {K:VK} {w:World} (k:∀ w',IsRd w' w.heap.size ⟨s,false⟩ → Below w.heap.size w w' → K (.pointer (some ⟨w.heap.size,0,none⟩)) w'):callM Tryz.prog 57 #[.string ⟨s.toArray⟩] K w:=by
 apply sh_57_ok
 unfold sh_57
 repeat (any_goals ((with_reducible refine oG fun X Y=>?_); simp [go_sem]; apply Y; clear Y X))
 exact k _ (by unfold IsRd; exact heap_alloc_new _ _) ((Below.refl _ _).alloc (rL) _)
def rdDone (r:Rd):Bool:=!r.bad && decide (r.rest = [])
theorem done_ok (b:Nat) (r:Rd) {K:VK} {w:World} (hr:IsRd w b r) (k:K (.bool (rdDone r)) w):callM Tryz.prog 59 #[.pointer (some ⟨b,0,none⟩)] K w:=by
 apply sh_59_ok
 unfold sh_59
 have h0:=hr.c0
 have h1:=hr.c1
 repeat (any_goals (first
 | (with_reducible first|refine pureM_in ?_|((refine idGd ?_); first|refine zV ?_|refine zW ?_|refine zX (fun hg=>?_) fun hg=>?_)|((refine idPick ?_); first|refine yJ ?_|refine yK ?_))
 | ((with_reducible refine oG fun X Y=>?_); simp [go_sem,h0,h1]; apply Y; clear Y X)))
 ·exact K_eq k (by unfold rdDone; rw [hg]; simp)
 ·exact K_eq k (by unfold rdDone; rw [hg]; simp)
end Go.Proofs.Cd
namespace Go.Proofs.Cd
open Go Go.Sh Go.RowKit Go.Lib CodeSpec
theorem grown_own {w w2 w3:World} {b B:Nat} {e:TypeId} {sz n:Nat} {v:Value} {xs:List Value} (h:w.grownBy w2 (some b)) (hown:w2.ownsRow B e sz v n xs) (hB:w.heap.size ≤ B) (hg:w2.grownBy w3 v.ownBlock):w.grownBy w3 (some b):=
 ⟨hg.os.trans h.os,hg.tape.trans h.tape,hg.output.trans h.output,Nat.le_trans h.size hg.size,fun i hi hne=>
  (hg.block i (lL hi h.size) (fun e=>by have:=(hown.lt i e.symm).1; omega)).trans (h.block i hi hne)⟩
theorem IsRd.own {w2 w3:World} {b B:Nat} {e:TypeId} {sz n:Nat} {v:Value} {xs:List Value} {r:Rd} (h:IsRd w2 b r) (hown:w2.ownsRow B e sz v n xs) (hB:b < B) (hg:w2.grownBy w3 v.ownBlock):IsRd w3 b r:=by
 have hlt:=h.lt
 unfold IsRd at h ⊢
 rw [hg.block b hlt (fun e=>by have:=(hown.lt b e.symm).1; omega)]
 exact h
theorem owns_rd {w2 w3:World} {b B:Nat} {e:TypeId} {sz n:Nat} {v:Value} {xs:List Value} (hown:w2.ownsRow B e sz v n xs) (hB:b < B) (hg:w2.grownBy w3 (some b)):w3.ownsRow B e sz v n xs:=
 hown.kept hg (by
  cases ho:v.ownBlock with
  | none=>left; rfl
  | some g=>right; intro e; cases e; have:=(hown.lt b ho).1; omega)
theorem itemsGo_stop {α:Type} (one:Rd → α × Rd) (n:Nat) (r:Rd) (h:n = 0 ∨ r.bad = true):itemsGo one n r = ([],r):=by
 rcases h with rfl | h
 ·rfl
 ·cases n with
  | zero=>rfl
  | succ n=>unfold itemsGo; rw [if_pos h]
theorem itemsGo_step {α:Type} (one:Rd → α × Rd) (n:Nat) (r:Rd) (h:r.bad = false):itemsGo one (n + 1) r = ((one r).1 :: (itemsGo one n (one r).2).1,(itemsGo one n (one r).2).2):=by
 conv=>lhs; unfold itemsGo
 rw [if_neg (by simp [h])]
theorem rdNum_less (r:Rd) (hr:r.ok) (_hb:r.bad = false):(rdInt r).2 = failed ∨ (rdInt r).2.rest.length < r.rest.length ∧ (rdInt r).2.bad = false:=by
 rcases rdInt_some r hr with h | ⟨v,t,h,h2,_⟩
 ·left; rw [h]
 ·right
  rw [h,h2]
  simp [encInt]
  try omega
set_option maxHeartbeats 1600000 in
theorem itemsNum_ok (b:Nat) (r:Rd) {K:VK} {w:World} (hl:LaidE w) (hb6:8 ≤ b) (hlen:r.rest.length < 2^40) (hok:r.ok) (hr:IsRd w b r)
  (k:∀ v w',IsRd w' b (rdNums r).2 → w.grownBy w' (some b) → w'.ownsRow w.heap.size 3 1 v (rdNums r).1.length ((rdNums r).1.map intV) → K v w'):callM Tryz.prog 109 #[.pointer (some ⟨b,0,none⟩)] K w:=by
 apply sh_109_ok
 unfold sh_109
 repeat (any_goals ((with_reducible refine oG fun X Y=>?_); simp [go_sem]; apply Y; clear Y X))
 apply sh_158_ok
 unfold sh_158
 refine number_ok b r 91 0 hl (by omega) hr ?_
 intro w1 hr1 hg1
 have hle:=rest_le r 91 0
 have hok1:=rdNumber_ok r hok 91 0
 have hnum:rdNums r = if (rdClose (itemsGo rdInt (rdNumber r 91 0).1.toNat (rdNumber r 91 0).2).2 93).bad then ([],rdClose (itemsGo rdInt (rdNumber r 91 0).1.toNat (rdNumber r 91 0).2).2 93)
  else ((itemsGo rdInt (rdNumber r 91 0).1.toNat (rdNumber r 91 0).2).1,rdClose (itemsGo rdInt (rdNumber r 91 0).1.toNat (rdNumber r 91 0).2).2 93):=rfl
 have hnr:InR (rdNumber r 91 0).1:=by
  rcases rdNumber_some r 91 0 with h | ⟨n,t,h,_,h3,_⟩
  ·rw [h]; exact ⟨by simp,by simp⟩
  ·rw [h]; exact h3
 generalize (rdNumber r 91 0).2 = r1 at *
 generalize (rdNumber r 91 0).1 = n at *
 have hbw:=hr.lt
 obtain ⟨hn1,hn2⟩:=hnr
 refine ⟨fun l w'=>∃ (v:Value) (j:Int) (r':Rd) (xs:List (Int)),l = [v,.int .i64 j] ∧ -9223372036854775808 ≤ j ∧ j ≤ 9223372036854775807 ∧ IsRd w' b r' ∧ r'.ok ∧ w.grownBy w' (some b) ∧ w'.ownsRow w.heap.size 3 1 v xs.length (xs.map intV) ∧
  itemsGo rdInt n.toNat r1 = (xs ++ (itemsGo rdInt j.toNat r').1,(itemsGo rdInt j.toNat r').2) ∧ (xs.length + r'.rest.length ≤ r1.rest.length + 1) ∧ (r'.bad = false → xs.length + r'.rest.length ≤ r1.rest.length),fun l _=>(match l with | [_,.int _ n]=>n.toNat | _=>0),
  ⟨_,n,r1,[],rfl,hn1,hn2,hr1,hok1,hg1,World.ownsRow_nil _ _ _ _,by simp,(by simp only [List.length_nil]; omega),by simp⟩,?_⟩
 rintro _ _ w2 ⟨v,j,r',xs,rfl,hj1,hj2,hr2,hok2,hg2,hown,hgo,hlx,hlx2⟩
 simp only [List.getD_cons_zero,List.getD_cons_succ]
 have h2:=hr2.c1
 have hl2:=hl.grown hg2 hb6
 by_cases hrun:0 < j ∧ r'.bad = false
 ·obtain ⟨hj,hbad⟩:=hrun
  rw [hbad] at h2
  have hlx2:=hlx2 hbad
  repeat (any_goals (first
  | (with_reducible first|refine pureM_in ?_|((refine idGd ?_); ((refine idGdD ?_); refine zF ?_))|refine yD ?_|refine yL ?_)
  | ((with_reducible refine oG fun X Y=>?_); simp [go_sem,h2]; apply Y; clear Y X)))
  refine oM_callv0 (by kernel_rfl) ?_
  refine rint_ok b r' hl2 (by omega) hr2 ?_
  intro w3 hr3 hg3
  have hown3:=owns_rd hown hbw hg3
  have hg03:=grownBy_trans hg2 hg3
  have hz3:=hg03.size
  have hless:=rdNum_less r' hok2 hbad
  obtain ⟨j',hj'⟩:∃ j':Nat,j.toNat = j' + 1:=⟨j.toNat - 1,by omega⟩
  have hjj:(j - 1).toNat = j':=by omega
  rw [hj',itemsGo_step _ _ _ hbad] at hgo
  have hok3:(rdInt r').2.ok:=by
   rcases hless with h | ⟨_,h⟩
   ·rw [h]; exact Rd.ok_failed
   ·intro e; rw [h] at e; cases e
  have hby:(xs.length + 1) * Tryz.t3.bytes ≤ 140737488355328:=by
   have:Tryz.t3.bytes = 8:=by kernel_rfl
   rw [this]
   omega
  repeat (any_goals ((with_reducible refine oG fun X Y=>?_); simp [go_sem]; apply Y; clear Y X))
  refine oM_append_new (base:=w.heap.size) (n:=xs.length) (xs:=xs.map intV) (i:=Tryz.t3) (z:=.int .i64 0) (cs:=#[intV (rdInt r').1]) Tryz.underlying22 (by kernel_rfl) (by kernel_rfl) rfl rfl (by simp) (by simp [Value.oneCell',intV]) hown3 (by omega) (by unfold maxLen; omega) hby ?_
  intro v' w4 ho4 hg4
  repeat (any_goals ((with_reducible refine oG fun X Y=>?_); simp [go_sem]; (try simp (disch:=omega) only [wrapI64,wrapU8,wrapU32,wrapU64]); apply Y; clear Y X))
  refine ⟨⟨v',j - 1,(rdInt r').2,xs ++ [(rdInt r').1],rfl,by omega,by omega,hr3.own hown3 hbw hg4,hok3,grown_own hg03 hown3 (rL) hg4,by simpa using ho4,?_,?_,?_⟩,by simp; omega⟩
  ·rw [hjj,hgo]; simp
  ·rcases hless with h | ⟨h,_⟩
   ·rw [h,List.length_append]; simp [failed]; omega
   ·rw [List.length_append]; simp; omega
  ·intro hb
   rcases hless with h | ⟨h,_⟩
   ·rw [h] at hb; cases hb
   ·rw [List.length_append]; simp; omega
 ·have hstop:=itemsGo_stop rdInt j.toNat r' (by
   cases hb:r'.bad with
   | true=>right; rfl
   | false=>left; have:¬ 0 < j:=fun h=>hrun ⟨h,hb⟩; omega)
  rw [hstop,List.append_nil] at hgo
  rw [hgo] at hnum
  have rest:callM Tryz.prog 116 #[.pointer (some ⟨b,0,none⟩),.string ⟨#[93]⟩] (fun v26_16 w=>
    oM Tryz.prog (Go.Op.nilCheck (.tmp 0)) 0 [.pointer (some ⟨b,0,none⟩)] (fun v28_17 w=>
    oM Tryz.prog (Go.Op.fieldAddr 191 (.tmp 0) 1) 0 [v28_17] (fun v29_18 w=>
    oM Tryz.prog (Go.Op.load 4 (.tmp 0)) 4 [v29_18] (fun v30_19 w=>
    condM v30_19 (K (.slice none 0 0) w) (K v w)) w) w) w) w2:=by
   refine close_ok b r' 93 hr2 ?_
   intro w3 hr3 hg3
   have h3:=hr3.c1
   have hg03:=grownBy_trans hg2 hg3
   cases hbad:(rdClose r' 93).bad with
   | true=>
    rw [hbad] at hnum h3
    rw [if_pos rfl] at hnum
    repeat (any_goals (first
    | (with_reducible refine yL ?_)
    | ((with_reducible refine oG fun X Y=>?_); simp [go_sem,h3]; apply Y; clear Y X)))
    exact k _ w3 (by rw [hnum]; exact hr3) hg03 (by rw [hnum]; exact World.ownsRow_nil _ _ _ _)
   | false=>
    rw [hbad] at hnum h3
    rw [if_neg (by simp)] at hnum
    repeat (any_goals (first
    | (with_reducible refine yM ?_)
    | ((with_reducible refine oG fun X Y=>?_); simp [go_sem,h3]; apply Y; clear Y X)))
    exact k _ w3 (by rw [hnum]; exact hr3) hg03 (by rw [hnum]; exact owns_rd hown hbw hg3)
  by_cases hj:0 < j
  ·have hbad:r'.bad = true:=by
    cases hb:r'.bad with
    | true=>rfl
    | false=>exact absurd ⟨hj,hb⟩ hrun
   rw [hbad] at h2
   repeat (any_goals (first
   | (with_reducible exact rest)
   | (with_reducible first|refine pureM_in ?_|((refine idGd ?_); ((refine idGdD ?_); refine zF ?_))|refine yD ?_|refine yM ?_)
   | ((with_reducible refine oG fun X Y=>?_); simp [go_sem,h2]; apply Y; clear Y X)))
  ·repeat (any_goals (first
   | (with_reducible exact rest)
   | (with_reducible first|((refine idGd ?_); ((refine idGdD ?_); refine zG ?_))|refine yE ?_|refine yM ?_)
   | ((with_reducible refine oG fun X Y=>?_); simp [go_sem]; apply Y; clear Y X)))
end Go.Proofs.Cd
namespace Go.Proofs.Cd
open Go Go.Sh Go.RowKit Go.Lib CodeSpec
theorem pNum_ok (n:Int) (hn:InR n) {K:VK} {w:World} (hl:Laid w) (k:∀ w',Below w.heap.size w w' → K (.string ⟨(encNum n).toArray⟩) w'):callM Tryz.prog 62 #[.int .i64 n] K w:=by
 apply sh_62_ok
 unfold sh_62
 repeat (any_goals (first
 | (with_reducible ((refine idCond ?_); refine yP (fun hg=>?_) fun hg=>?_))
 | ((with_reducible refine oG fun X Y=>?_); simp [go_sem]; apply Y; clear Y X)))
 ·exact K_eq (k _ (Below.refl _ _)) (by simp [encNum,hg])
 ·refine pInt_ok n hn hl ?_
  intro w1 hb
  exact K_eq (k _ hb) (by simp [encNum,hg])
theorem pText_ok (s:List UInt8) (hs:s.length < 2^60) {K:VK} {w:World} (hl:Laid w) (k:∀ w',Below w.heap.size w w' → K (.string ⟨(encText s).toArray⟩) w'):callM Tryz.prog 64 #[.string ⟨s.toArray⟩] K w:=by
 apply sh_64_ok
 unfold sh_64
 have hin:InR (s.length:Nat):=⟨by omega,by omega⟩
 have hi:=itoa_len _ hin
 repeat (any_goals ((with_reducible refine oG fun X Y=>?_); simp [go_sem]; apply Y; clear Y X))
 refine itoa_ok _ hin hl (fun w1 hb1=>?_)
 repeat (any_goals ((with_reducible refine oG fun X Y=>?_); simp [go_sem]; refine And.intro (by omega) (Y _ _ ?_); clear Y X))
 exact K_eq (k _ hb1) (by simp [encText])
theorem rnum_ok (b:Nat) (r:Rd) {K:VK} {w:World} (hl:LaidE w) (hlen:r.rest.length < 2^60) (hr:IsRd w b r) (k:∀ w',IsRd w' b (rdNum r).2 → w.grownBy w' (some b) → K (.int .i64 (rdNum r).1) w'):callM Tryz.prog 66 #[.pointer (some ⟨b,0,none⟩)] K w:=by
 apply sh_66_ok
 unfold sh_66
 exact number_ok b r 59 0 hl hlen hr k
theorem rtext_ok (b:Nat) (r:Rd) {K:VK} {w:World} (hl:LaidE w) (hlen:r.rest.length < 2^60) (hr:IsRd w b r) (k:∀ w',IsRd w' b (rdText r).2 → w.grownBy w' (some b) → K (.string ⟨(rdText r).1.toArray⟩) w'):callM Tryz.prog 67 #[.pointer (some ⟨b,0,none⟩)] K w:=by
 apply sh_67_ok
 unfold sh_67
 refine number_ok b r 58 0 hl hlen hr ?_
 intro w1 hr1 hg1
 have hle:=rest_le r 58 0
 have h0n:0 ≤ (rdNumber r 58 0).1:=by
  rcases rdNumber_some r 58 0 with h | ⟨n,t,h,_,_,h3⟩
  ·rw [h]; exact Int.le_refl 0
  ·rw [h]; exact h3
 have hnum:rdText r = if ((rdNumber r 58 0).2.rest.length:Int) < (rdNumber r 58 0).1 then ([],failed)
   else if (rdClose ⟨(rdNumber r 58 0).2.rest.drop (rdNumber r 58 0).1.toNat,(rdNumber r 58 0).2.bad⟩ 44).bad then ([],rdClose ⟨(rdNumber r 58 0).2.rest.drop (rdNumber r 58 0).1.toNat,(rdNumber r 58 0).2.bad⟩ 44)
   else ((rdNumber r 58 0).2.rest.take (rdNumber r 58 0).1.toNat,rdClose ⟨(rdNumber r 58 0).2.rest.drop (rdNumber r 58 0).1.toNat,(rdNumber r 58 0).2.bad⟩ 44):=rfl
 generalize (rdNumber r 58 0).2 = r1 at *
 generalize (rdNumber r 58 0).1 = n at *
 have h0:=hr1.c0
 have f0:=hr1.fz 0
 by_cases hlt:(r1.rest.length:Int) < n
 ·rw [if_pos hlt] at hnum
  repeat (any_goals (first
  | (with_reducible refine yN ?_)
  | ((with_reducible refine oG fun X Y=>?_); simp [go_sem,h0]; apply Y; clear Y X)))
  refine fail_ok b _ hr1 ?_
  intro w2 hr2 hg2
  exact K_eq (k w2 (by rw [hnum]; exact hr2) (grownBy_trans hg1 hg2)) (by rw [hnum])
 ·rw [if_neg hlt] at hnum
  have htl:List.take r1.rest.length r1.rest = r1.rest:=List.take_length
  repeat (any_goals (first
  | (with_reducible refine yO ?_)
  | ((with_reducible refine oG fun X Y=>?_); simp [go_sem,h0,f0,htl]; (first|refine Y _ _ ?_|refine And.intro (by omega) (Y _ _ ?_)); clear Y X)))
  refine close_ok b _ 44 (hr1.set0 _) ?_
  intro w2 hr2 hg2
  have h2:=hr2.c1
  have hg:=grownBy_trans hg1 (grownBy_trans (grown_set _ _ _ _) hg2)
  cases hbad:(rdClose ⟨r1.rest.drop n.toNat,r1.bad⟩ 44).bad with
  | true=>
   rw [hbad] at hnum h2
   rw [if_pos rfl] at hnum
   repeat (any_goals (first
   | (with_reducible refine yL ?_)
   | ((with_reducible refine oG fun X Y=>?_); simp [go_sem,h2]; apply Y; clear Y X)))
   exact K_eq (k w2 (by rw [hnum]; exact hr2) hg) (by rw [hnum])
  | false=>
   rw [hbad] at hnum h2
   rw [if_neg (by simp)] at hnum
   repeat (any_goals (first
   | (with_reducible refine yM ?_)
   | ((with_reducible refine oG fun X Y=>?_); simp [go_sem,h2]; apply Y; clear Y X)))
   exact K_eq (k w2 (by rw [hnum]; exact hr2) hg) (by rw [hnum])
end Go.Proofs.Cd
namespace Go.Proofs
open Go Go.Sh Go.RowKit FdSpec TkSpec CodeSpec
structure SRow {α:Type} (n:Nat) (At:World → Nat → Nat → α → Prop) (w:World) (v:Value) (l:List α):Prop where
 row:∃ ad c,v = .slice ad l.length c ∧ (l = [] ∨ ∃ b o,ad = some ⟨b,o,none⟩ ∧ b < w.heap.size ∧ ∀ (i:Nat) (h:i < l.length),At w b (o + i * n) l[i])
 len:l.length ≤ 9223372036854775807
def Stay {α:Type} (At:World → Nat → Nat → α → Prop):Prop:=∀ (w w':World) (b p:Nat) (x:α),At w b p x → b < w.heap.size → Bw w w' → At w' b p x
section
variable {α:Type} {n:Nat} {At:World → Nat → Nat → α → Prop} {w w':World} {v:Value} {l:List α}
theorem SRow.next (h:SRow n At w v l) (hs:Stay At) (hb:Bw w w'):SRow n At w' v l:=by
 obtain ⟨⟨ad,c,rfl,h1⟩,h2⟩:=h
 refine ⟨⟨ad,c,rfl,h1.imp id ?_⟩,h2⟩
 rintro ⟨b,o,rfl,hlt,hc⟩
 exact ⟨b,o,rfl,lL hlt hb.size,fun i hi=>hs _ _ _ _ _ (hc i hi) hlt hb⟩
theorem SRow.isSlice (h:SRow n At w v l):∃ ad c,v = .slice ad l.length c:=by
 obtain ⟨⟨ad,c,rfl,_⟩,_⟩:=h; exact ⟨ad,c,rfl⟩
theorem SRow.at {ad:Option Addr} {m c:Nat} (h:SRow n At w (.slice ad m c) l) {i:Nat} (hi:i < l.length):∃ b o,ad = some ⟨b,o,none⟩ ∧ b < w.heap.size ∧ At w b (o + i * n) l[i]:=by
 obtain ⟨⟨ad',c',hv,h1⟩,_⟩:=h
 cases hv
 rcases h1 with rfl | ⟨b,o,rfl,hlt,hc⟩
 ·simp at hi
 ·exact ⟨b,o,rfl,hlt,hc i hi⟩
end
theorem idx_row {P:Program} {K:VK} {n:Nat} (t T:TypeId) (hu:P.underlying t = some (.slice (P.elem t))) (hs:∀ w,(sizeOf (P.elem t)).run P w = .ok n w) (b o m c:Nat) (x:Int) :
  oM P (.indexAddr t (.tmp 0) (.tmp 1)) T [.slice (some ⟨b,o,none⟩) m c,.int .i64 x] = onM (0 ≤ x ∧ x < m) (.pointer (some ⟨b,o + x.toNat * n,none⟩)):=by
 funext K w
 rw [oM_indexAddr,run_indexAt_slice (h:=hu)]
 by_cases hi:0 ≤ x ∧ x < m
 ·rw [if_pos hi,hs]
  simp only [Result.andThen,add_none,rM_ok]
  exact propext ⟨fun h=>⟨hi,h⟩,fun h=>h.2⟩
 ·rw [if_neg hi]
  obtain ⟨e',w',he⟩:=halts Value P .i64 x m .index w
  rw [he]
  exact propext ⟨fun h=>h.elim,fun h=>hi h.1⟩
section
variable {K:VK} {w w' w0 W:World} {L:List (Addr × Value)}
def apart (u v:Value):Prop:=∀ i,u.ownBlock = some i → v.ownBlock ≠ some i
theorem Fr.of_below {S:Nat → Prop} {w1:World} (h:Bw w w1):Fr S w w1:=⟨h.os,h.tape,h.output,h.size,fun i hi _=>h.block i hi⟩
end
section
variable {α:Type} {n:Nat} {V:World → List Value → α → Prop} {w w':World} {v:Value} {l:List α}
theorem atOf_stay (h:VStay V):Stay (AtOf n V):=fun w w' b p x ⟨c,hc,h1,h2⟩ hlt hb=>⟨c,hc,fun j u hj=>(hb.cell hlt).trans (h1 j u hj),h _ _ _ _ h2 hb⟩
theorem ints_stay:VStay (VOne Ints):=fun w w' c x ⟨v,hc,hr⟩ hb=>⟨v,hc,hr.next hb⟩
theorem SRow.nil:SRow n (AtOf n V) w (.slice none 0 0) ([]:List α):=⟨⟨none,0,rfl,.inl rfl⟩,by simp⟩
theorem _root_.Go.Sh.GRow.srow {e:TypeId} {B:Nat} {D:Nat → Prop} (hn:0 < n) (h:GRow n e V B D w v l) (hl:l.length ≤ 9223372036854775807):SRow n (AtOf n V) w v l:=by
 obtain ⟨cs,ho,hf⟩:=h.ex
 obtain ⟨hc1,hc2⟩:=hf.here
 obtain ⟨ad,c,rfl⟩:=owns_len ho
 refine ⟨⟨ad,c,rfl,?_⟩,hl⟩
 by_cases h0:l = []
 ·exact .inl h0
 right
 obtain ⟨g,cap,cur,hv,hlt,_,_,_,_,hcell⟩:=owns_cells ho (List.length_pos_iff.2 h0)
 cases hv
 refine ⟨g,0,rfl,hlt,fun i hi=>?_⟩
 have hci:cs[i]? = some cs[i]:=gE (by omega)
 refine ⟨cs[i].1,cs[i].2,fun j u hj=>?_,hc2 i _ _ hci (gE hi)⟩
 rw [Nat.zero_add]
 refine hcell _ _ ?_
 have hj':j < n:=by have:=(gS hj).1; rw [cs[i].2] at this; exact this
 rw [flat_at (mk:=Cl.cs) (sz:=n) (fun c=>c.2) cs i j hci hj']
 exact hj
theorem _root_.Go.Sh.GRow.fp {e:TypeId} {B:Nat} {D:Nat → Prop} (hn:0 < n) (h:GRow n e V B D w v l) (hl:l.length ≤ 9223372036854775807):FP (fun i=>D i ∨ v.ownBlock = some i) w (fun w=>SRow n (AtOf n V) w v l):=by
 obtain ⟨cs,ho,hf⟩:=h.ex
 intro w' a b c d e'
 have h2:GRow n e V B D w' v l:=⟨cs,owns_keep ho (fun i hi=>e' i (.inr hi)),fun w2 a2 b2 c2 d2 e2=>hf w2 (a2.trans a) (b2.trans b) (c2.trans c) (Nat.le_trans d d2) (fun i hi=>(e2 i hi).trans (e' i (.inl hi)))⟩
 exact h2.srow hn hl
end
section
variable {K:VK} {w w' w0 W:World} {L:List (Addr × Value)}
section
variable {α:Type} {n:Nat} {V:World → List Value → α → Prop}
theorem srow_lit2 {g c:Nat} {T:TypeId} {x y:α} {xs ys:List Value} (h:Holds w g T (xs ++ ys)) (hl:xs.length = n) (hl2:ys.length = n) (hV:V w xs x) (hV2:V w ys y):SRow n (AtOf n V) w (.slice (some ⟨g,0,none⟩) 2 c) [x,y]:=by
 refine ⟨⟨_,c,rfl,.inr ⟨g,0,rfl,h.lt,fun i hi=>?_⟩⟩,by simp⟩
 match i,hi with
 | 0,_=>
  refine ⟨xs,hl,fun j u hj=>?_,hV⟩
  rw [Nat.zero_mul,Nat.zero_add,cell_of_block h]
  simp only [List.getElem?_toArray,Nat.zero_add]
  rw [List.getElem?_append_left (gS hj).1]
  exact hj
 | 1,_=>
  refine ⟨ys,hl2,fun j u hj=>?_,hV2⟩
  rw [Nat.one_mul,cell_of_block h]
  simp only [List.getElem?_toArray,Nat.zero_add]
  rw [List.getElem?_append_right (by omega)]
  rw [show n + j - xs.length = j by omega]
  exact hj
 | i + 2,h=>exact absurd h (by simp)
end
theorem _root_.Go.Proofs.SRow.one {α:Type} {R:World → Value → α → Prop} {ad:Option Addr} {m c:Nat} {l:List α} (h:SRow 1 (AtOf 1 (VOne R)) w (.slice ad m c) l) {i:Nat} (hi:i < l.length):∃ b o v,ad = some ⟨b,o,none⟩ ∧ b < w.heap.size ∧ w.cell? ⟨b,o + i,none⟩ = some v ∧ R w v l[i]:=by
 obtain ⟨b,o,rfl,hlt,cs,hc,h1,v,rfl,h2⟩:=h.at hi
 refine ⟨b,o,v,rfl,hlt,?_,h2⟩
 have:=h1 0 v rfl
 rwa [Nat.mul_one,Nat.add_zero] at this
end
end Go.Proofs
namespace ShaSpec
abbrev W:=BitVec 32
def rotr (x:W) (k:Nat):W:=x >>> k ||| x <<< (32 - k)
def ch (e f g:W):W:=g ^^^ (e &&& (f ^^^ g))
def maj (a b c:W):W:=(a &&& b) ||| (c &&& (a ||| b))
def w8 (b:UInt8):W:=BitVec.ofNat 32 b.toNat
def word (b:List UInt8) (k:Nat):W:=w8 (b.getD (4 * k) 0) <<< 24 ||| w8 (b.getD (4 * k + 1) 0) <<< 16 ||| w8 (b.getD (4 * k + 2) 0) <<< 8 ||| w8 (b.getD (4 * k + 3) 0)
def sig0 (x:W):W:=rotr x 7 ^^^ rotr x 18 ^^^ x >>> 3
def sig1 (y:W):W:=rotr y 17 ^^^ rotr y 19 ^^^ y >>> 10
def at' (l:List W) (k:Nat):W:=l.getD k 0
def nextW (b:List UInt8) (l:List W) (k:Nat):W:=
 if k < 16 then word b k else at' l (k - 16) + sig0 (at' l (k - 15)) + at' l (k - 7) + sig1 (at' l (k - 2))
def sched (b:List UInt8):Nat → List W
 | 0=>[]
 | n + 1=>sched b n ++ [nextW b (sched b n) n]
structure St where
 a:W
 b:W
 c:W
 d:W
 e:W
 f:W
 g:W
 h:W
def St.list (s:St):List W:=[s.a,s.b,s.c,s.d,s.e,s.f,s.g,s.h]
def round (s:St) (k w:W):St:=
 let t1:=s.h + (rotr s.e 6 ^^^ rotr s.e 11 ^^^ rotr s.e 25) + ch s.e s.f s.g + k + w
 ⟨t1 + (rotr s.a 2 ^^^ rotr s.a 13 ^^^ rotr s.a 22) + maj s.a s.b s.c,s.a,s.b,s.c,s.d + t1,s.e,s.f,s.g⟩
def consts:List W:=[
 0x428a2f98,0x71374491,0xb5c0fbcf,0xe9b5dba5,0x3956c25b,0x59f111f1,0x923f82a4,0xab1c5ed5,
 0xd807aa98,0x12835b01,0x243185be,0x550c7dc3,0x72be5d74,0x80deb1fe,0x9bdc06a7,0xc19bf174,
 0xe49b69c1,0xefbe4786,0x0fc19dc6,0x240ca1cc,0x2de92c6f,0x4a7484aa,0x5cb0a9dc,0x76f988da,
 0x983e5152,0xa831c66d,0xb00327c8,0xbf597fc7,0xc6e00bf3,0xd5a79147,0x06ca6351,0x14292967,
 0x27b70a85,0x2e1b2138,0x4d2c6dfc,0x53380d13,0x650a7354,0x766a0abb,0x81c2c92e,0x92722c85,
 0xa2bfe8a1,0xa81a664b,0xc24b8b70,0xc76c51a3,0xd192e819,0xd6990624,0xf40e3585,0x106aa070,
 0x19a4c116,0x1e376c08,0x2748774c,0x34b0bcb5,0x391c0cb3,0x4ed8aa4a,0x5b9cca4f,0x682e6ff3,
 0x748f82ee,0x78a5636f,0x84c87814,0x8cc70208,0x90befffa,0xa4506ceb,0xbef9a3f7,0xc67178f2]
def rounds (b:List UInt8) (s:St):Nat → St
 | 0=>s
 | n + 1=>round (rounds b s n) (at' consts n) (at' (sched b 64) n)
def mix (s:St) (b:List UInt8):St:=
 let v:=rounds b s 64
 ⟨v.a + s.a,v.b + s.b,v.c + s.c,v.d + s.d,v.e + s.e,v.f + s.f,v.g + s.g,v.h + s.h⟩
def first:St:=⟨0x6a09e667,0xbb67ae85,0x3c6ef372,0xa54ff53a,0x510e527f,0x9b05688c,0x1f83d9ab,0x5be0cd19⟩
def lenBytes (n:Nat):List UInt8:=[7,6,5,4,3,2,1,0].map fun k=>UInt8.ofNat (8 * n / 2 ^ (8 * k))
def zeros (n:Nat):Nat:=(119 - n % 64) % 64
def padded (s:List UInt8):List UInt8:=s ++ [128] ++ List.replicate (zeros s.length) 0 ++ lenBytes s.length
def blocks:Nat → St → List UInt8 → St
 | 0,s,_=>s
 | n + 1,s,b=>blocks n (mix s (b.take 64)) (b.drop 64)
def out1 (w:W):List UInt8:=[UInt8.ofNat (w.toNat / 16777216),UInt8.ofNat (w.toNat / 65536),UInt8.ofNat (w.toNat / 256),UInt8.ofNat w.toNat]
def sha (s:List UInt8):List UInt8:=((blocks ((padded s).length / 64) first (padded s)).list.map out1).flatten
end ShaSpec
namespace TkSpec
open FdSpec CodeSpec
def numStep (n:Int) (out:Int) (b:UInt8):Int:=addM n (mulM n out 256) (b.toNat:Int)
def numberM (s:List UInt8) (n:Int):Int:=if okN n then (ShaSpec.sha s).foldl (numStep n) 0 else 0
def innL (t:Tkt):List Int:=[t.mark,t.first,t.z,t.a,t.b]
def innerQ (s:Stp) (t:Tkt):Int:=numberM (encNums (innL t)) s.g.Q
def signedM (s:Stp) (key m c r:Int) (o:Off):Bool:=
 decide (genM s r = timesM s (powerG s.g key c) [o.a]) && decide (powerG s.g m r = timesM s (powerG s.g o.z c) [o.b])
end TkSpec
namespace TkSpec
open FdSpec CodeSpec
structure Lnk where
 ticket:Tkt
 spend:Spd
 terms:List UInt8
def validM (s:Stp) (key:Int) (t:Tkt):Bool:=
 formedM s t && keyM s key && !decide (innerQ s t = 0) && signedM s key t.mark (innerQ s t) t.r ⟨t.z,t.a,t.b⟩
def zB:Bld:=⟨0,0,0,[]⟩
end TkSpec
namespace JnSpec
open CodeSpec Go.Lib
def sumFrom:Nat → Bytes → Int
 | _,[]=>0
 | i,c :: t=>(c.toNat:Int) * (i + 1) + sumFrom (i + 1) t
def sumR (s:Bytes):Int:=sumFrom 0 s
def form (s:Bytes):Bytes:=encText s ++ encNum (sumR s)
def formL (l:List Bytes):Bytes:=(l.map form).flatten
def bad1 (s t:Bytes) (n:Int):Prop:=20000 < t.length ∨ n ≠ sumR t ∨ s.length < (form t).length ∨ s.take (form t).length ≠ form t
instance (s t:Bytes) (n:Int):Decidable (bad1 s t n):=by unfold bad1; infer_instance
def first (s:Bytes):Option Bytes:=if bad1 s (rdText ⟨s,false⟩).1 (rdNum (rdText ⟨s,false⟩).2).1 then none else some (rdText ⟨s,false⟩).1
def recs:Nat → Bytes → List Bytes × Nat
 | 0,_=>([],0)
 | k + 1,s=>if s = [] then ([],0) else match first s with
  | none=>([],0)
  | some t=>(t :: (recs k (s.drop (form t).length)).1,(form t).length + (recs k (s.drop (form t).length)).2)
def readJ (s:Bytes):List Bytes × Nat:=recs s.length s
theorem sumFrom_bound (s:Bytes) (i:Nat):0 ≤ sumFrom i s ∧ sumFrom i s ≤ 255 * s.length * (i + s.length):=by
 induction s generalizing i with
 | nil=>simp [sumFrom]
 | cons c t ih=>
  have h:=ih (i + 1)
  have hc:(c.toNat:Int) ≤ 255:=by have:=c.toNat_lt; omega
  have h0:(0:Int) ≤ (c.toNat:Int):=by omega
  have h1:0 ≤ (c.toNat:Int) * (i + 1):=Int.mul_nonneg h0 (by omega)
  have h2:(c.toNat:Int) * (i + 1) ≤ 255 * (i + 1):=Int.mul_le_mul_of_nonneg_right hc (by omega)
  simp only [sumFrom,List.length_cons]
  refine ⟨by omega,?_⟩
  have h3:=h.2
  have e:(255:Int) * ((t.length + 1:Nat):Int) * ((i:Int) + ((t.length + 1:Nat):Int)) = 255 * (t.length:Int) * (((i + 1:Nat):Int) + (t.length:Int)) + 255 * ((i:Int) + 1 + (t.length:Int)):=by
   push_cast
   grind
  have e2:(0:Int) ≤ t.length:=by omega
  omega
theorem sumR_bound (s:Bytes):0 ≤ sumR s ∧ sumR s ≤ 255 * s.length * s.length:=by
 have:=sumFrom_bound s 0
 simpa [sumR] using this
theorem sq_le {n m:Nat} (h:n ≤ m):(255:Int) * n * n ≤ 255 * m * m:=by
 have h1:(n:Int) ≤ m:=by omega
 have h2:(n:Int) * n ≤ (m:Int) * m:=Int.mul_le_mul h1 h1 (by omega) (by omega)
 grind
theorem sumR_InR {s:Bytes} (h:s.length ≤ 16777216):InR (sumR s) ∧ 0 ≤ sumR s:=by
 have h1:=sumR_bound s
 have h2:=sq_le h
 have:(255:Int) * (16777216:Nat) * (16777216:Nat) < 9223372036854775807:=by decide
 exact ⟨⟨by omega,by omega⟩,h1.1⟩
theorem form_pos (s:Bytes):0 < (form s).length:=by
 simp [form,encText]
 omega
theorem first_form {t:Bytes} (ht:t.length ≤ 20000) (rest:Bytes):first (form t ++ rest) = some t:=by
 have h1:form t ++ rest = encText t ++ (encNum (sumR t) ++ rest):=by simp [form]
 have h2:=rdText_enc t (encNum (sumR t) ++ rest) (by omega)
 have h3:=sumR_InR (s:=t) (by omega)
 have h4:=rdNum_enc (sumR t) h3.1 h3.2 rest
 unfold first
 rw [h1,h2]
 dsimp only
 rw [h4,← h1]
 rw [if_neg]
 unfold bad1
 rintro (h | h | h | h)
 ·omega
 ·exact h rfl
 ·simp at h; omega
 ·exact h (by simp)
theorem first_some {s t:Bytes} (h:first s = some t):t.length ≤ 20000 ∧ s = form t ++ s.drop (form t).length:=by
 unfold first at h
 split at h
 ·cases h
 ·rename_i hb
  simp only [Option.some.injEq] at h
  rw [h] at hb
  unfold bad1 at hb
  refine ⟨by omega,?_⟩
  have:s.take (form t).length = form t:=Classical.not_not.1 (fun e=>hb (.inr (.inr (.inr e))))
  conv=>lhs; rw [← List.take_append_drop (form t).length s,this]
theorem first_nil:first [] = none:=by
 cases h:first [] with
 | none=>rfl
 | some t=>
  have:=(first_some h).2
  have:=form_pos t
  have e:(form t ++ List.drop (form t).length []) = []:=(first_some h).2.symm
  simp only [List.append_eq_nil_iff] at e
  rw [e.1] at this
  simp at this
theorem recs_step {k:Nat} {s:Bytes} (hk:s.length ≤ k):recs k s = match first s with
  | none=>([],0)
  | some t=>(t :: (readJ (s.drop (form t).length)).1,(form t).length + (readJ (s.drop (form t).length)).2):=by
 induction k using Nat.strongRecOn generalizing s with
 | ind k ih=>
 cases k with
 | zero=>
  have:s = []:=List.length_eq_zero_iff.1 (by omega)
  subst this
  rw [first_nil]; rfl
 | succ k=>
  unfold recs
  split
  ·rename_i e; subst e; rw [first_nil]
  ·cases h:first s with
   | none=>rfl
   | some t=>
    dsimp only
    have hp:=form_pos t
    have h1:(s.drop (form t).length).length ≤ k:=by rw [List.length_drop]; omega
    have e1:=ih k (by omega) h1
    have e2:=ih (s.drop (form t).length).length (by omega) (s:=s.drop (form t).length) (Nat.le_refl _)
    have:recs k (s.drop (form t).length) = readJ (s.drop (form t).length):=e1.trans e2.symm
    rw [this]
theorem readJ_none {s:Bytes} (h:first s = none):readJ s = ([],0):=by
 unfold readJ; rw [recs_step (Nat.le_refl _),h]
theorem readJ_some {s t:Bytes} (h:first s = some t):readJ s = (t :: (readJ (s.drop (form t).length)).1,(form t).length + (readJ (s.drop (form t).length)).2):=by
 conv=>lhs; unfold readJ
 rw [recs_step (Nat.le_refl _),h]
theorem formL_cons (t:Bytes) (l:List Bytes):formL (t :: l) = form t ++ formL l:=by simp [formL]
theorem formL_append (l m:List Bytes):formL (l ++ m) = formL l ++ formL m:=by simp [formL]
def Few (l:List Bytes):Prop:=∀ t ∈ l,t.length ≤ 20000
theorem readJ_forms {l:List Bytes} (hl:Few l) (rest:Bytes):readJ (formL l ++ rest) = (l ++ (readJ rest).1,(formL l).length + (readJ rest).2):=by
 induction l with
 | nil=>simp [formL]
 | cons t l ih=>
  have ht:=hl t (by simp)
  have ih:=ih (fun x hx=>hl x (by simp [hx]))
  have e:formL (t :: l) ++ rest = form t ++ (formL l ++ rest):=by rw [formL_cons]; simp
  rw [e,readJ_some (first_form ht _)]
  have:(form t ++ (formL l ++ rest)).drop (form t).length = formL l ++ rest:=by simp
  rw [this,ih,formL_cons]
  simp [Nat.add_assoc]
theorem readJ_spec (s:Bytes):Few (readJ s).1 ∧ (readJ s).2 = (formL (readJ s).1).length ∧ s = formL (readJ s).1 ++ s.drop (readJ s).2 ∧ (s.drop (readJ s).2 = [] ∨ first (s.drop (readJ s).2) = none):=by
 generalize hn:s.length = n
 induction n using Nat.strongRecOn generalizing s with
 | ind n ih=>
 cases h:first s with
 | none=>
  rw [readJ_none h]
  exact ⟨fun t ht=>by simp at ht,rfl,by simp [formL],.inr (by simpa using h)⟩
 | some t=>
  have h1:=first_some h
  have hp:=form_pos t
  have hlen:=congrArg List.length h1.2
  rw [List.length_append] at hlen
  have h2:=ih (s.drop (form t).length).length (by rw [List.length_drop]; omega) (s.drop (form t).length) rfl
  rw [readJ_some h]
  dsimp only
  refine ⟨fun x hx=>?_,?_,?_,?_⟩
  ·rcases List.mem_cons.1 hx with rfl | hx
   ·exact h1.1
   ·exact h2.1 x hx
  ·rw [formL_cons,List.length_append,h2.2.1]
  ·rw [formL_cons,List.append_assoc]
   have h3:=h2.2.2.1
   rw [List.drop_drop] at h3
   conv=>lhs; rw [h1.2,h3]
  ·have h3:=h2.2.2.2
   rw [List.drop_drop] at h3
   exact h3
def Dm:Bytes → Bytes → Prop
 | _,[]=>True
 | [],_ :: _=>False
 | a :: x,b :: y=>(b = a ∨ b = 0) ∧ Dm x y
theorem Dm.refl:∀ x:Bytes,Dm x x
 | []=>trivial
 | _ :: x=>⟨.inl rfl,Dm.refl x⟩
theorem Dm.split:∀ (p:Bytes) {x y:Bytes},Dm x (p ++ y) → ∃ q x',x = q ++ x' ∧ q.length = p.length ∧ Dm q p ∧ Dm x' y
 | [],x,_,h=>⟨[],x,rfl,rfl,trivial,h⟩
 | b :: p,[],_,h=>by cases h
 | b :: p,a :: x,y,h=>by
  obtain ⟨q,x',e,l,d,r⟩:=Dm.split p h.2
  exact ⟨a :: q,x',by rw [e]; rfl,by simp [l],⟨h.1,d⟩,r⟩
theorem Dm.solid:∀ {q p:Bytes},Dm q p → q.length = p.length → (∀ c ∈ p,c ≠ 0) → q = p
 | [],[],_,_,_=>rfl
 | a :: q,[],_,l,_=>by simp at l
 | [],b :: p,h,_,_=>by cases h
 | a :: q,b :: p,h,l,hn=>by
  have:b = a:=h.1.resolve_right (hn b (by simp))
  rw [this,Dm.solid h.2 (by simpa using l) (fun c hc=>hn c (by simp [hc]))]
theorem Dm.take:∀ {x y:Bytes} (n:Nat),Dm x y → Dm x (y.take n)
 | _,[],n,_=>by simp [Dm]
 | [],_ :: _,_,h=>by cases h
 | _ :: _,_ :: _,0,_=>trivial
 | a :: x,b :: y,n + 1,h=>⟨h.1,Dm.take n h.2⟩
theorem Dm.sum_le:∀ {x y:Bytes} (i:Nat),Dm x y → x.length = y.length → sumFrom i y ≤ sumFrom i x ∧ (sumFrom i y = sumFrom i x → y = x)
 | [],[],_,_,_=>⟨by simp,fun _=>rfl⟩
 | _ :: _,[],_,_,l=>by simp at l
 | [],_ :: _,_,h,_=>by cases h
 | a :: x,b :: y,i,h,l=>by
  obtain ⟨h1,h2⟩:=Dm.sum_le (i + 1) h.2 (by simpa using l)
  simp only [sumFrom]
  have ha:(0:Int) ≤ (a.toNat:Int) * (i + 1):=Int.mul_nonneg (by omega) (by omega)
  rcases h.1 with e | e
  ·subst e
   exact ⟨by omega,fun e2=>by rw [h2 (by omega)]⟩
  ·subst e
   have z:((0:UInt8).toNat:Int) * (i + 1) = 0:=by simp
   rw [z]
   refine ⟨by omega,fun e2=>?_⟩
   have e3:(a.toNat:Int) * (i + 1) = 0:=by omega
   have e4:(a.toNat:Int) = 0:=by
    rcases Int.mul_eq_zero.1 e3 with h | h
    ·exact h
    ·omega
   have e5:a = 0:=by
    apply UInt8.toNat_inj.1
    have:(0:UInt8).toNat = 0:=rfl
    omega
   rw [h2 (by omega),e5]
theorem cut_eq {c:UInt8}:∀ {a b x y:Bytes},(∀ d ∈ a,d ≠ c) → (∀ d ∈ b,d ≠ c) → a ++ c :: x = b ++ c :: y → a = b ∧ x = y
 | [],[],_,_,_,_,h=>⟨rfl,by simpa using h⟩
 | [],d :: b,_,_,_,hb,h=>by
  simp only [List.nil_append,List.cons_append,List.cons.injEq] at h
  exact absurd h.1.symm (hb d (by simp))
 | d :: a,[],_,_,ha,_,h=>by
  simp only [List.nil_append,List.cons_append,List.cons.injEq] at h
  exact absurd h.1 (ha d (by simp))
 | d :: a,e :: b,_,_,ha,hb,h=>by
  simp only [List.cons_append,List.cons.injEq] at h
  obtain ⟨h1,h2⟩:=cut_eq (fun d hd=>ha d (by simp [hd])) (fun d hd=>hb d (by simp [hd])) h.2
  exact ⟨by rw [h.1,h1],h2⟩
theorem itoa_byte (n:Int):∀ c ∈ itoa n,c = 45 ∨ (48 ≤ c.toNat ∧ c.toNat ≤ 57):=by
 unfold itoa
 split
 ·intro c hc
  rcases List.mem_cons.1 hc with rfl | hc
  ·exact .inl rfl
  ·exact .inr (decDigits_digit _ c hc)
 ·intro c hc
  exact .inr (decDigits_digit _ c hc)
theorem itoa_ne (n:Int) (d:UInt8) (h1:d ≠ 45) (h2:¬ (48 ≤ d.toNat ∧ d.toNat ≤ 57)):∀ c ∈ itoa n,c ≠ d:=by
 intro c hc e
 subst e
 rcases itoa_byte n c hc with h | h
 ·exact h1 h
 ·exact h2 h
theorem itoa_inj {n m:Int} (hn:InR n) (hm:InR m) (h:itoa n = itoa m):n = m:=by
 have h1:=atoi_itoa n hn
 have h2:=atoi_itoa m hm
 rw [h,h2] at h1
 cases h1; rfl
theorem form_split {s:Bytes}:form s = (itoa s.length ++ [58]) ++ (s ++ (44 :: (itoa (sumR s) ++ [59]))):=by
 have:¬ sumR s < 0:=by have:=(sumR_bound s).1; omega
 simp [form,encText,encNum,encInt,this]
theorem Dm.head {n m:Int} {c:UInt8} {x y:Bytes} (hn:InR n) (hm:InR m) (hc:c ≠ 0 ∧ c ≠ 45 ∧ ¬ (48 ≤ c.toNat ∧ c.toNat ≤ 57)) (h:Dm (itoa n ++ c :: x) (itoa m ++ c :: y)):n = m ∧ Dm x y:=by
 have e:itoa m ++ c :: y = (itoa m ++ [c]) ++ y:=by simp
 rw [e] at h
 obtain ⟨q,x',e1,l,d,r⟩:=Dm.split _ h
 have hs:=d.solid l (fun b hb=>by
  rcases List.mem_append.1 hb with hb | hb
  ·exact itoa_ne m 0 (by decide) (by decide) b hb
  ·simp only [List.mem_singleton] at hb
   rw [hb]; exact hc.1)
 rw [hs,List.append_assoc] at e1
 obtain ⟨e2,e3⟩:=cut_eq (itoa_ne n c hc.2.1 hc.2.2) (itoa_ne m c hc.2.1 hc.2.2) e1
 exact ⟨itoa_inj hn hm e2,by rw [e3]; exact r⟩
theorem Dm.form {t u:Bytes} {x y:Bytes} (ht:t.length ≤ 16777216) (hu:u.length ≤ 16777216) (h:Dm (form t ++ x) (form u ++ y)):u = t ∧ Dm x y:=by
 rw [form_split,form_split] at h
 have h:Dm (itoa t.length ++ 58 :: (t ++ 44 :: (itoa (sumR t) ++ 59 :: x))) (itoa u.length ++ 58 :: (u ++ 44 :: (itoa (sumR u) ++ 59 :: y))):=by simpa using h
 obtain ⟨e1,h⟩:=Dm.head ⟨by omega,by omega⟩ ⟨by omega,by omega⟩ (by decide) h
 obtain ⟨q,x',e2,l2,d2,h⟩:=Dm.split u h
 obtain ⟨e3,e4⟩:=List.append_inj e2 (by omega)
 subst e3
 subst e4
 have h:=h.2
 obtain ⟨e5,h⟩:=Dm.head (sumR_InR ht).1 (sumR_InR hu).1 (by decide) h
 exact ⟨(d2.sum_le 0 l2).2 e5.symm,h⟩
theorem Dm.readJ {l:List Bytes} (hl:Few l) {y:Bytes} (h:Dm (formL l) y):(readJ y).1 <+: l:=by
 induction l generalizing y with
 | nil=>
  cases y with
  | nil=>rw [readJ_none first_nil]; exact List.nil_prefix
  | cons b y=>cases h
 | cons t l ih=>
  cases hf:first y with
  | none=>rw [readJ_none hf]; exact List.nil_prefix
  | some u=>
   have h1:=first_some hf
   rw [readJ_some hf]
   rw [h1.2,formL_cons] at h
   have ht:=hl t (by simp)
   obtain ⟨e,h2⟩:=Dm.form (by omega) (by omega) h
   have:=ih (fun x hx=>hl x (by simp [hx])) h2
   subst e
   exact (List.cons_prefix_cons).2 ⟨rfl,this⟩
end JnSpec
namespace DkSpec
abbrev Bs:=List UInt8
def putB (s:Bs) (at_:Nat) (t:Bs):Bs:=
 if t = [] then s else (s ++ List.replicate (at_ + t.length - s.length) 0).take at_ ++ t ++ (s ++ List.replicate (at_ + t.length - s.length) 0).drop (at_ + t.length)
structure Ab where
 F:Int → Bs × Bs
 queue:List (Int × Int)
 lost:Int
 down:Bool
 armed:Int
 keep:List Int
def setF (F:Int → Bs × Bs) (f:Int) (x:Bs × Bs):Int → Bs × Bs:=fun g=>if g = f then x else F g
def pushQ (f:Int):List (Int × Int) → List Int → List (Int × Int)
 | q,[]=>q
 | q,n :: ns=>pushQ f (if (f,n) ∈ q then q else q ++ [(f,n)]) ns
def secs (at_ len:Nat):List Int:=(List.range' (at_ / 64) ((at_ + len - 1) / 64 + 1 - at_ / 64)).map Int.ofNat
def newA:Ab:=⟨fun _=>([],[]),[],0,false,0,[]⟩
def mayA (A:Ab) (f:Int):Int:=if A.down = true then 8 else if f < 0 ∨ 16 ≤ f then 1 else 0
def addA (A:Ab) (f:Int) (at_:Nat) (s:Bs):Ab:=if s = [] then A else { A with F:=setF A.F f (putB (A.F f).1 at_ s,(A.F f).2),queue:=pushQ f A.queue (secs at_ s.length) }
def wrA (A:Ab) (f at_:Int) (s:Bs):Int × Ab:=
 if mayA A f ≠ 0 then (mayA A f,A) else if at_ < 0 then (1,A) else if 16777216 < at_ + s.length then (6,A) else (0,addA A f at_.toNat s)
def sector (s:Bs) (n:Int):Bs:=(s.drop (64 * n).toNat).take 64
def survF (keep:List Int) (F:Int → Bs × Bs) (i:Nat) (p:Int × Int):Int → Bs × Bs:=
 if keep = [] ∨ keep.getD (i % keep.length) 0 % 2 = 0 ∨ ((F p.1).1.length:Int) ≤ 64 * p.2 then F else setF F p.1 ((F p.1).1,putB (F p.1).2 (64 * p.2).toNat (sector (F p.1).1 p.2))
def survAll (keep:List Int):(Int → Bs × Bs) → Nat → List (Int × Int) → Int → Bs × Bs
 | F,_,[]=>F
 | F,i,p :: q=>survAll keep (survF keep F i p) (i + 1) q
def crashA (A:Ab) (keep:List Int):Ab:=
 if A.down = true then A else { A with F:=fun f=>((survAll keep A.F 0 A.queue f).2,(survAll keep A.F 0 A.queue f).2),queue:=[],down:=true,armed:=0 }
def endsA (A:Ab):Bool × Ab:=if A.down = true ∨ A.armed = 0 then (false,A) else (decide (A.armed = 1),{ A with armed:=A.armed - 1 })
def settleA (A:Ab) (f:Int) (s:Bs):Ab:={ A with F:=setF A.F f (s,s),queue:=A.queue.filter (fun p=>decide (p.1 ≠ f)) }
def comesA (A:Ab):Ab:=if (endsA A).1 = true then crashA (endsA A).2 (endsA A).2.keep else (endsA A).2
def writeA (A:Ab) (f at_:Int) (s:Bs):Int × Ab:=
 if (endsA A).1 = true then (8,crashA (wrA (endsA A).2 f at_ s).2 (wrA (endsA A).2 f at_ s).2.keep) else wrA (endsA A).2 f at_ s
def syncA (A:Ab) (f:Int):Int × Ab:=
 if mayA (comesA A) f ≠ 0 then (mayA (comesA A) f,comesA A) else if 0 < (comesA A).lost then (9,{ comesA A with lost:=(comesA A).lost - 1 }) else (0,settleA (comesA A) f ((comesA A).F f).1)
def truncA (A:Ab) (f n:Int):Int × Ab:=
 if mayA (comesA A) f ≠ 0 then (mayA (comesA A) f,comesA A) else if n < 0 ∨ (((comesA A).F f).1.length:Int) < n then (1,comesA A) else (0,settleA (comesA A) f (((comesA A).F f).1.take n.toNat))
def startA (A:Ab):Ab:={ A with down:=false }
def readA (A:Ab) (f at_ size:Int):Bs × Int:=
 if mayA A f ≠ 0 then ([],mayA A f) else if at_ < 0 ∨ size < 0 then ([],1) else (((A.F f).1.drop at_.toNat).take size.toNat,0)
structure WF (A:Ab):Prop where
 l0:0 ≤ A.lost
 l1:A.lost < 2 ^ 63
 a0:0 ≤ A.armed
 a1:A.armed < 2 ^ 63
 nd:A.queue.Nodup
 qr:∀ p ∈ A.queue,0 ≤ p.1 ∧ p.1 < 16 ∧ 0 ≤ p.2 ∧ p.2 < 262144
 sz:∀ f,(A.F f).1.length ≤ 16777216 ∧ (A.F f).2.length ≤ 16777216
 kr:∀ x ∈ A.keep,-2 ^ 63 ≤ x ∧ x < 2 ^ 63
 kl:A.keep.length < 2 ^ 62
theorem length_lt (l:List Nat) (n:Nat) (hn:l.Nodup) (h:∀ x ∈ l,x < n):l.length ≤ n:=by
 induction n generalizing l with
 | zero=>
  cases l with
  | nil=>simp
  | cons x l=>exact absurd (h x (List.mem_cons_self ..)) (by omega)
 | succ n ih=>
  by_cases hm:n ∈ l
  ·have:=ih (l.erase n) (hn.erase n) (fun x hx=>by
    have h1:=(hn.mem_erase_iff).1 hx
    have:=h x h1.2
    have:=h1.1
    omega)
   rw [List.length_erase_of_mem hm] at this
   omega
  ·have:=ih l hn (fun x hx=>by
    have:=h x hx
    have:x ≠ n:=fun e=>hm (e ▸ hx)
    omega)
   omega
theorem WF.ql {A:Ab} (h:WF A):A.queue.length ≤ 4194304:=by
 have hm:(A.queue.map (fun p=>(p.1 * 262144 + p.2).toNat)).Nodup:=by
  have hq:=h.qr
  have hn:=h.nd
  generalize A.queue = q at hq hn
  induction q with
  | nil=>simp
  | cons p q ih=>
   rw [List.nodup_cons] at hn
   rw [List.map_cons,List.nodup_cons]
   refine ⟨?_,ih (fun x hx=>hq x (List.mem_cons_of_mem _ hx)) hn.2⟩
   intro hm
   obtain ⟨x,hx,e⟩:=List.mem_map.1 hm
   have h1:=hq x (List.mem_cons_of_mem _ hx)
   have h2:=hq p (List.mem_cons_self ..)
   have:x = p:=by
    obtain ⟨a,b⟩:=x
    obtain ⟨c,d⟩:=p
    simp only [Prod.mk.injEq] at *
    omega
   exact hn.1 (this ▸ hx)
 have:=length_lt _ 4194304 hm (fun x hx=>by
  obtain ⟨p,hp,rfl⟩:=List.mem_map.1 hx
  have:=h.qr p hp
  omega)
 simpa using this
theorem putB_length (s:Bs) (a:Nat) (t:Bs):(putB s a t).length = if t = [] then s.length else max s.length (a + t.length):=by
 unfold putB
 split
 ·rfl
 ·simp only [List.length_append,List.length_take,List.length_drop,List.length_replicate]
  omega
theorem pushQ_mem (f:Int) (ns:List Int) (q:List (Int × Int)) (p:Int × Int):p ∈ pushQ f q ns ↔ p ∈ q ∨ (p.1 = f ∧ p.2 ∈ ns):=by
 induction ns generalizing q with
 | nil=>simp [pushQ]
 | cons n ns ih=>
  unfold pushQ
  rw [ih]
  have e:p = (f,n) ↔ p.1 = f ∧ p.2 = n:=Prod.ext_iff
  have h1:p ∈ (if (f,n) ∈ q then q else q ++ [(f,n)]) ↔ p ∈ q ∨ (p.1 = f ∧ p.2 = n):=by
   rw [← e]
   split
   ·rename_i hm
    exact ⟨.inl,fun h=>h.elim id (fun e=>e ▸ hm)⟩
   ·rw [List.mem_append,List.mem_singleton]
  rw [h1,List.mem_cons]
  grind
theorem pushQ_nodup (f:Int) (ns:List Int) (q:List (Int × Int)) (h:q.Nodup):(pushQ f q ns).Nodup:=by
 induction ns generalizing q with
 | nil=>exact h
 | cons n ns ih=>
  unfold pushQ
  apply ih
  split
  ·exact h
  ·rename_i hm
   rw [List.nodup_append]
   refine ⟨h,by simp,?_⟩
   intro a ha b hb
   simp only [List.mem_singleton] at hb
   subst hb
   rintro rfl
   exact hm ha
theorem secs_mem (a len:Nat) (n:Int) (hl:0 < len):n ∈ secs a len ↔ 0 ≤ n ∧ (a / 64:Nat) ≤ n ∧ n ≤ ((a + len - 1) / 64:Nat):=by
 unfold secs
 simp only [List.mem_map,List.mem_range'_1]
 constructor
 ·rintro ⟨k,hk,rfl⟩
  simp only [Int.ofNat_eq_natCast]
  omega
 ·rintro ⟨h0,h1,h2⟩
  refine ⟨n.toNat,by omega,?_⟩
  simp only [Int.ofNat_eq_natCast]
  omega
theorem setF_same (F:Int → Bs × Bs) (f:Int) (x:Bs × Bs):setF F f x f = x:=by simp [setF]
theorem setF_ne (F:Int → Bs × Bs) (f g:Int) (x:Bs × Bs) (h:g ≠ f):setF F f x g = F g:=by simp [setF,h]
theorem newA_wf:WF newA:=⟨by decide,by decide,by decide,by decide,by simp [newA],by simp [newA],by simp [newA],by simp [newA],by simp [newA]⟩
theorem mayA_ok {A:Ab} {f:Int} (h:mayA A f = 0):A.down = false ∧ 0 ≤ f ∧ f < 16:=by
 unfold mayA at h
 cases hd:A.down with
 | true=>rw [hd] at h; simp at h
 | false=>
  rw [hd] at h
  simp only [Bool.false_eq_true,if_false] at h
  split at h
  ·cases h
  ·exact ⟨rfl,by omega,by omega⟩
theorem addA_wf {A:Ab} (h:WF A) (f:Int) (a:Nat) (s:Bs) (hf:0 ≤ f ∧ f < 16) (hs:a + s.length ≤ 16777216):WF (addA A f a s):=by
 unfold addA
 split
 ·exact h
 ·rename_i hne
  have hl:0 < s.length:=List.length_pos_iff.2 hne
  refine ⟨h.l0,h.l1,h.a0,h.a1,pushQ_nodup f _ _ h.nd,?_,?_,h.kr,h.kl⟩
  ·intro p hp
   rcases (pushQ_mem f _ _ p).1 hp with hp | ⟨h1,h2⟩
   ·exact h.qr p hp
   ·rw [secs_mem _ _ _ hl] at h2
    omega
  ·intro g
   by_cases hg:g = f
   ·subst hg
    show (setF A.F g _ g).1.length ≤ _ ∧ (setF A.F g _ g).2.length ≤ _
    rw [setF_same,putB_length,if_neg hne]
    have:=h.sz g
    exact ⟨by show max _ _ ≤ _; omega,this.2⟩
   ·show (setF A.F f _ g).1.length ≤ _ ∧ (setF A.F f _ g).2.length ≤ _
    rw [setF_ne _ _ _ _ hg]
    exact h.sz g
theorem endsA_wf {A:Ab} (h:WF A):WF (endsA A).2:=by
 unfold endsA
 split
 ·exact h
 ·rename_i hn
  have h0:=h.a0
  have h1:=h.a1
  have:¬ A.armed = 0:=fun e=>hn (.inr e)
  exact ⟨h.l0,h.l1,by show 0 ≤ A.armed - 1; omega,by show A.armed - 1 < _; omega,h.nd,h.qr,h.sz,h.kr,h.kl⟩
theorem survF_sz (keep:List Int) (F:Int → Bs × Bs) (i:Nat) (p:Int × Int) (hp:0 ≤ p.2) (h:∀ f,(F f).1.length ≤ 16777216 ∧ (F f).2.length ≤ 16777216) (f:Int):(survF keep F i p f).1 = (F f).1 ∧ (survF keep F i p f).2.length ≤ 16777216:=by
 unfold survF
 split
 ·exact ⟨rfl,(h f).2⟩
 ·rename_i hn
  by_cases hf:f = p.1
  ·subst hf
   rw [setF_same]
   refine ⟨rfl,?_⟩
   simp only [putB_length,sector]
   have h1:=h p.1
   have:¬ ((F p.1).1.length:Int) ≤ 64 * p.2:=fun e=>hn (.inr (.inr e))
   split
   ·exact h1.2
   ·simp only [List.length_take,List.length_drop]
    omega
  ·rw [setF_ne _ _ _ _ hf]
   exact ⟨rfl,(h f).2⟩
theorem survAll_sz (keep:List Int) (q:List (Int × Int)) (F:Int → Bs × Bs) (i:Nat) (hq:∀ p ∈ q,0 ≤ p.2) (h:∀ f,(F f).1.length ≤ 16777216 ∧ (F f).2.length ≤ 16777216) (f:Int):(survAll keep F i q f).1 = (F f).1 ∧ (survAll keep F i q f).2.length ≤ 16777216:=by
 induction q generalizing F i with
 | nil=>exact ⟨rfl,(h f).2⟩
 | cons p q ih=>
  unfold survAll
  have h1:=survF_sz keep F i p (hq p (List.mem_cons_self ..)) h
  have:=ih (survF keep F i p) (i + 1) (fun x hx=>hq x (List.mem_cons_of_mem _ hx)) (fun g=>⟨by rw [(h1 g).1]; exact (h g).1,(h1 g).2⟩)
  exact ⟨by rw [this.1,(h1 f).1],this.2⟩
theorem crashA_wf {A:Ab} (h:WF A) (keep:List Int):WF (crashA A keep):=by
 unfold crashA
 split
 ·exact h
 ·refine ⟨h.l0,h.l1,Int.le_refl _,by show (0:Int) < _; omega,List.nodup_nil,fun p hp=>absurd hp (by simp),?_,h.kr,h.kl⟩
  intro f
  have:=survAll_sz keep A.queue A.F 0 (fun p hp=>(h.qr p hp).2.2.1) h.sz f
  exact ⟨this.2,this.2⟩
theorem settleA_wf {A:Ab} (h:WF A) (f:Int) (s:Bs) (hs:s.length ≤ 16777216):WF (settleA A f s):=by
 refine ⟨h.l0,h.l1,h.a0,h.a1,h.nd.filter _,fun p hp=>h.qr p (List.mem_filter.1 hp).1,?_,h.kr,h.kl⟩
 intro g
 show (setF A.F f _ g).1.length ≤ _ ∧ (setF A.F f _ g).2.length ≤ _
 by_cases hg:g = f
 ·subst hg; rw [setF_same]; exact ⟨hs,hs⟩
 ·rw [setF_ne _ _ _ _ hg]; exact h.sz g
theorem comesA_wf {A:Ab} (h:WF A):WF (comesA A):=by
 unfold comesA
 split
 ·exact crashA_wf (endsA_wf h) _
 ·exact endsA_wf h
theorem syncA_wf {A:Ab} (h:WF A) (f:Int):WF (syncA A f).2:=by
 have h1:=comesA_wf h
 unfold syncA
 split
 ·exact h1
 ·split
  ·rename_i hl
   have:=h1.l1
   exact ⟨by show 0 ≤ (comesA A).lost - 1; omega,by show (comesA A).lost - 1 < _; omega,h1.a0,h1.a1,h1.nd,h1.qr,h1.sz,h1.kr,h1.kl⟩
  ·exact settleA_wf h1 f _ (h1.sz f).1
theorem truncA_wf {A:Ab} (h:WF A) (f n:Int):WF (truncA A f n).2:=by
 have h1:=comesA_wf h
 unfold truncA
 split
 ·exact h1
 ·split
  ·exact h1
  ·refine settleA_wf h1 f _ ?_
   have:=(h1.sz f).1
   simp only [List.length_take]
   omega
theorem startA_wf {A:Ab} (h:WF A):WF (startA A):=⟨h.l0,h.l1,h.a0,h.a1,h.nd,h.qr,h.sz,h.kr,h.kl⟩
end DkSpec
namespace DkSpec
def Firm (f:Int) (s:Bs) (A:Ab):Prop:=A.F f = (s,s) ∧ ∀ p ∈ A.queue,p.1 ≠ f
theorem survF_ne (keep:List Int) (F:Int → Bs × Bs) (i:Nat) (p:Int × Int) (f:Int) (h:p.1 ≠ f):survF keep F i p f = F f:=by
 unfold survF
 split
 ·rfl
 ·exact setF_ne _ _ _ _ (Ne.symm h)
theorem survAll_ne (keep:List Int) (q:List (Int × Int)) (F:Int → Bs × Bs) (i:Nat) (f:Int) (h:∀ p ∈ q,p.1 ≠ f):survAll keep F i q f = F f:=by
 induction q generalizing F i with
 | nil=>rfl
 | cons p q ih=>
  unfold survAll
  rw [ih _ _ (fun r hr=>h r (List.mem_cons_of_mem _ hr)),survF_ne _ _ _ _ _ (h p (List.mem_cons_self ..))]
variable {f:Int} {s:Bs} {A:Ab}
theorem Firm.ends (h:Firm f s A):Firm f s (endsA A).2:=by
 unfold endsA
 split
 ·exact h
 ·exact h
theorem Firm.crash (h:Firm f s A) (keep:List Int):Firm f s (crashA A keep):=by
 unfold crashA
 split
 ·exact h
 ·refine ⟨?_,fun p hp=>absurd hp (by simp)⟩
  show ((survAll keep A.F 0 A.queue f).2,(survAll keep A.F 0 A.queue f).2) = _
  rw [survAll_ne _ _ _ _ _ h.2,h.1]
theorem Firm.comes (h:Firm f s A):Firm f s (comesA A):=by
 unfold comesA
 split
 ·exact h.ends.crash _
 ·exact h.ends
theorem Firm.wr (h:Firm f s A) (g at_:Int) (t:Bs) (hg:g ≠ f):Firm f s (wrA A g at_ t).2:=by
 unfold wrA
 repeat' split
 ·exact h
 ·exact h
 ·exact h
 ·unfold addA
  split
  ·exact h
  ·refine ⟨?_,?_⟩
   ·show setF A.F g _ f = _
    rw [setF_ne _ _ _ _ (Ne.symm hg)]; exact h.1
   ·intro p hp
    rcases (pushQ_mem g _ _ p).1 hp with hp | ⟨h1,_⟩
    ·exact h.2 p hp
    ·rw [h1]; exact hg
theorem Firm.settle (h:Firm f s A) (g:Int) (t:Bs) (hg:g ≠ f):Firm f s (settleA A g t):=by
 refine ⟨?_,fun p hp=>h.2 p (List.mem_filter.1 hp).1⟩
 show setF A.F g _ f = _
 rw [setF_ne _ _ _ _ (Ne.symm hg)]; exact h.1
theorem Firm.write (h:Firm f s A) (g at_:Int) (t:Bs) (hg:g ≠ f):Firm f s (writeA A g at_ t).2:=by
 unfold writeA
 split
 ·exact (h.ends.wr g at_ t hg).crash _
 ·exact h.ends.wr g at_ t hg
theorem Firm.sync (h:Firm f s A) (g:Int) (hg:g ≠ f):Firm f s (syncA A g).2:=by
 have h1:=h.comes
 unfold syncA
 repeat' split
 ·exact h1
 ·exact h1
 ·exact h1.settle g _ hg
theorem endsA_same (A:Ab):(endsA A).2.F = A.F ∧ (endsA A).2.down = A.down ∧ (endsA A).2.queue = A.queue ∧ (endsA A).2.lost = A.lost ∧ (endsA A).2.keep = A.keep:=by
 unfold endsA
 split
 ·exact ⟨rfl,rfl,rfl,rfl,rfl⟩
 ·exact ⟨rfl,rfl,rfl,rfl,rfl⟩
theorem crashA_down (A:Ab) (keep:List Int):(crashA A keep).down = true:=by
 unfold crashA
 split
 ·assumption
 ·rfl
theorem comesA_up {A:Ab} (h:(comesA A).down = false):comesA A = (endsA A).2 ∧ (endsA A).1 = false:=by
 unfold comesA at h ⊢
 cases he:(endsA A).1 with
 | true=>rw [he] at h; simp [crashA_down] at h
 | false=>simp
theorem take_all (s:Bs) (h:s.length ≤ 16777216):((s.drop (0:Int).toNat).take (16777216:Int).toNat) = s:=by
 simp only [Int.toNat_zero,List.drop_zero]
 exact List.take_of_length_le (by omega)
theorem readA_all {A:Ab} (h:WF A) {f:Int} (hm:mayA A f = 0):readA A f 0 16777216 = ((A.F f).1,0):=by
 unfold readA
 rw [if_neg (by omega),if_neg (by omega),take_all _ (h.sz f).1]
theorem mayA_up {A:Ab} {f:Int} (h:A.down = false) (hf:0 ≤ f ∧ f < 16):mayA A f = 0:=by
 unfold mayA
 rw [h]
 simp only [Bool.false_eq_true,if_false]
 rw [if_neg (by omega)]
theorem sync_ok {A:Ab} (hw:WF A) {f:Int} (h:(syncA A f).1 = 0):0 ≤ f ∧ f < 16 ∧ (syncA A f).2.down = false ∧ Firm f (A.F f).1 (syncA A f).2 ∧ readA A f 0 16777216 = ((A.F f).1,0) ∧ readA (syncA A f).2 f 0 16777216 = ((A.F f).1,0):=by
 have hwf:=syncA_wf hw f
 unfold syncA at h hwf ⊢
 by_cases hm:mayA (comesA A) f ≠ 0
 ·rw [if_pos hm] at h
  exact absurd h hm
 ·rw [if_neg hm] at h hwf ⊢
  have hm0:=Decidable.not_not.1 hm
  have h1:=mayA_ok hm0
  have h2:=(comesA_up h1.1).1
  have h3:=endsA_same A
  by_cases hl:0 < (comesA A).lost
  ·rw [if_pos hl] at h; cases h
  ·rw [if_neg hl] at h hwf ⊢
   have hF:(comesA A).F = A.F:=by rw [h2]; exact h3.1
   have hd:A.down = false:=by
    have:=h1.1
    rw [h2,h3.2.1] at this
    exact this
   have hds:(settleA (comesA A) f ((comesA A).F f).1).down = false:=h1.1
   have hfi:Firm f (A.F f).1 (settleA (comesA A) f ((comesA A).F f).1):=by
    refine ⟨?_,?_⟩
    ·show setF (comesA A).F f _ f = _
     rw [setF_same,hF]
    ·intro p hp
     have:=(List.mem_filter.1 hp).2
     simpa using this
   refine ⟨h1.2.1,h1.2.2,hds,hfi,readA_all hw (mayA_up hd h1.2),?_⟩
   show readA (settleA (comesA A) f ((comesA A).F f).1) f 0 16777216 = _
   rw [readA_all hwf (mayA_up hds h1.2),hfi.1]
end DkSpec
namespace DkSpec
theorem getD_take_drop (s:Bs) (a n j:Nat):((s.drop a).take n).getD j 0 = if j < n then s.getD (a + j) 0 else 0:=by
 simp only [List.getD_eq_getElem?_getD]
 split
 ·rename_i h
  rw [List.getElem?_take_of_lt h,List.getElem?_drop]
 ·rename_i h
  rw [List.getElem?_eq_none (by simp only [List.length_take]; omega)]
  rfl
theorem putB_getD (s t:Bs) (a j:Nat):(putB s a t).getD j 0 = if a ≤ j ∧ j < a + t.length then t.getD (j - a) 0 else s.getD j 0:=by
 unfold putB
 by_cases ht:t = []
 ·subst ht
  rw [if_pos rfl,if_neg (by simp)]
 ·rw [if_neg ht]
  have hl:(s ++ List.replicate (a + t.length - s.length) 0).length ≥ a + t.length:=by simp; omega
  generalize hp:s ++ List.replicate (a + t.length - s.length) (0:UInt8) = p at *
  have hpj:p.getD j 0 = s.getD j 0:=by
   rw [← hp]
   simp only [List.getD_eq_getElem?_getD]
   by_cases hj:j < s.length
   ·rw [List.getElem?_append_left hj]
   ·rw [List.getElem?_append_right (by omega),List.getElem?_eq_none (l:=s) (by omega)]
    by_cases h2:j - s.length < a + t.length - s.length
    ·rw [List.getElem?_replicate_of_lt h2]; rfl
    ·rw [List.getElem?_eq_none (by simp; omega)]
  have hta:(p.take a).length = a:=by simp; omega
  have ht2:(p.take a ++ t).length = a + t.length:=by simp; omega
  rw [← hpj]
  simp only [List.getD_eq_getElem?_getD]
  by_cases h1:j < a
  ·rw [if_neg (by omega),List.getElem?_append_left (by rw [ht2]; omega),List.getElem?_append_left (by rw [hta]; exact h1),List.getElem?_take_of_lt h1]
  ·by_cases h2:j < a + t.length
   ·rw [if_pos ⟨by omega,h2⟩,List.getElem?_append_left (by rw [ht2]; exact h2),List.getElem?_append_right (by rw [hta]; omega),hta]
   ·rw [if_neg (by omega),List.getElem?_append_right (by rw [ht2]; omega),ht2,List.getElem?_drop]
    congr 2
    omega
def GoodF (x:Bs × Bs) (f:Int) (q:List (Int × Int)):Prop:=x.2.length ≤ x.1.length ∧ (∀ j:Nat,j < x.1.length → (f,((j / 64:Nat):Int)) ∉ q → x.1.getD j 0 = x.2.getD j 0) ∧
 (x.2.length < x.1.length → (f,(((x.1.length - 1) / 64:Nat):Int)) ∈ q)
def Good (A:Ab):Prop:=∀ f,GoodF (A.F f) f A.queue
theorem good_eq {A:Ab} {f:Int} {s:Bs} (h:A.F f = (s,s)):GoodF (A.F f) f A.queue:=by
 rw [h]
 exact ⟨Nat.le_refl _,fun _ _ _=>rfl,fun h=>absurd h (Nat.lt_irrefl _)⟩
theorem good_same {A B:Ab} (h:Good A) (hF:B.F = A.F) (hq:B.queue = A.queue):Good B:=by
 intro f; rw [hF,hq]; exact h f
theorem Good.ends {A:Ab} (h:Good A):Good (endsA A).2:=good_same h (endsA_same A).1 (endsA_same A).2.2.1
theorem Good.crash {A:Ab} (h:Good A) (keep:List Int):Good (crashA A keep):=by
 unfold crashA
 split
 ·exact h
 ·intro f
  exact good_eq rfl
theorem Good.comes {A:Ab} (h:Good A):Good (comesA A):=by
 unfold comesA
 split
 ·exact h.ends.crash _
 ·exact h.ends
theorem Good.settle {A:Ab} (h:Good A) (g:Int) (s:Bs):Good (settleA A g s):=by
 intro f
 by_cases hf:f = g
 ·subst hf
  exact good_eq (s:=s) (setF_same _ _ _)
 ·have hF:(settleA A g s).F f = A.F f:=setF_ne _ _ _ _ hf
  rw [hF]
  obtain ⟨h1,h2,h3⟩:=h f
  have hm:∀ n,(f,n) ∈ (settleA A g s).queue ↔ (f,n) ∈ A.queue:=by
   intro n
   show (f,n) ∈ A.queue.filter _ ↔ _
   rw [List.mem_filter]
   simp [hf]
  exact ⟨h1,fun j hj hn=>h2 j hj (fun hc=>hn ((hm _).2 hc)),fun hl=>(hm _).2 (h3 hl)⟩
theorem Good.add {A:Ab} (h:Good A) (g:Int) (a:Nat) (s:Bs):Good (addA A g a s):=by
 unfold addA
 split
 ·exact h
 ·rename_i hs
  have hl:0 < s.length:=List.length_pos_iff.2 hs
  intro f
  obtain ⟨h1,h2,h3⟩:=h f
  have hmem:∀ n,(f,n) ∈ pushQ g A.queue (secs a s.length) ↔ (f,n) ∈ A.queue ∨ (f = g ∧ n ∈ secs a s.length):=fun n=>pushQ_mem g _ _ (f,n)
  by_cases hf:f = g
  ·subst hf
   have hF:setF A.F f (putB (A.F f).1 a s,(A.F f).2) f = (putB (A.F f).1 a s,(A.F f).2):=setF_same _ _ _
   show GoodF (setF A.F f _ f) f (pushQ _ _ _)
   rw [hF]
   unfold GoodF
   simp only
   have hpl:=putB_length (A.F f).1 a s
   rw [if_neg hs] at hpl
   refine ⟨by omega,?_,?_⟩
   ·intro j hj hn
    rw [hmem] at hn
    have hn1:(f,((j / 64:Nat):Int)) ∉ A.queue:=fun hc=>hn (.inl hc)
    have hn2:¬ (a ≤ j ∧ j < a + s.length):=by
     intro hc
     refine hn (.inr ⟨rfl,(secs_mem _ _ _ hl).2 ?_⟩)
     omega
    rw [putB_getD,if_neg hn2]
    by_cases hj2:j < (A.F f).1.length
    ·exact h2 j hj2 hn1
    ·simp only [List.getD_eq_getElem?_getD]
     rw [List.getElem?_eq_none (by omega),List.getElem?_eq_none (by omega)]
   ·intro hlt
    rw [hmem]
    by_cases hgrow:(putB (A.F f).1 a s).length = (A.F f).1.length
    ·rw [hgrow] at hlt ⊢
     exact .inl (h3 hlt)
    ·refine .inr ⟨rfl,(secs_mem _ _ _ hl).2 ?_⟩
     have:(putB (A.F f).1 a s).length = a + s.length:=by omega
     rw [this]
     omega
  ·have hF:setF A.F g (putB (A.F g).1 a s,(A.F g).2) f = A.F f:=setF_ne _ _ _ _ hf
   show GoodF (setF A.F g _ f) f (pushQ _ _ _)
   rw [hF]
   exact ⟨h1,fun j hj hn=>h2 j hj (fun hc=>hn ((hmem _).2 (.inl hc))),fun hlt=>(hmem _).2 (.inl (h3 hlt))⟩
theorem Good.wr {A:Ab} (h:Good A) (f at_:Int) (s:Bs):Good (wrA A f at_ s).2:=by
 unfold wrA
 repeat' split
 ·exact h
 ·exact h
 ·exact h
 ·exact h.add _ _ _
theorem Good.write {A:Ab} (h:Good A) (f at_:Int) (s:Bs):Good (writeA A f at_ s).2:=by
 unfold writeA
 split
 ·exact (h.ends.wr f at_ s).crash _
 ·exact h.ends.wr f at_ s
theorem Good.sync {A:Ab} (h:Good A) (f:Int):Good (syncA A f).2:=by
 have h1:=h.comes
 unfold syncA
 repeat' split
 ·exact h1
 ·exact good_same h1 rfl rfl
 ·exact h1.settle _ _
def putAll (now:Bs) (r:Bs):List Nat → Bs
 | []=>r
 | n :: ns=>putAll now (putB r (64 * n) (sector now n)) ns
theorem sector_len (now:Bs) (n:Nat):(sector now n).length = min 64 (now.length - 64 * n):=by
 unfold sector
 simp only [List.length_take,List.length_drop]
 omega
theorem sector_getD (now:Bs) (n j:Nat) (h:j < 64):(sector now n).getD j 0 = now.getD (64 * n + j) 0:=by
 unfold sector
 rw [getD_take_drop,if_pos h]
 congr 1
def survL (keep:List Int) (now:Bs) (f:Int):Nat → List (Int × Int) → List Nat
 | _,[]=>[]
 | i,p :: q=>if p.1 = f ∧ ¬ (keep = [] ∨ keep.getD (i % keep.length) 0 % 2 = 0 ∨ (now.length:Int) ≤ 64 * p.2) then p.2.toNat :: survL keep now f (i + 1) q else survL keep now f (i + 1) q
theorem survAll_putAll (keep:List Int) (q:List (Int × Int)) (F:Int → Bs × Bs) (i:Nat) (f:Int) (hq:∀ p ∈ q,0 ≤ p.2):(survAll keep F i q f).2 = putAll (F f).1 (F f).2 (survL keep (F f).1 f i q):=by
 induction q generalizing F i with
 | nil=>rfl
 | cons p q ih=>
  unfold survAll survL
  rw [ih _ _ (fun r hr=>hq r (List.mem_cons_of_mem _ hr))]
  have hp:=hq p (List.mem_cons_self ..)
  by_cases hf:p.1 = f
  ·subst hf
   by_cases hc:keep = [] ∨ keep.getD (i % keep.length) 0 % 2 = 0 ∨ ((F p.1).1.length:Int) ≤ 64 * p.2
   ·have:survF keep F i p = F:=by unfold survF; rw [if_pos hc]
    rw [this,if_neg (fun h=>h.2 hc)]
   ·have hs:survF keep F i p = setF F p.1 ((F p.1).1,putB (F p.1).2 (64 * p.2).toNat (sector (F p.1).1 p.2)):=by unfold survF; rw [if_neg hc]
    rw [hs,setF_same,if_pos ⟨rfl,hc⟩]
    obtain ⟨m,hm⟩:=Int.eq_ofNat_of_zero_le hp
    rw [hm]
    simp only [Int.toNat_natCast,putAll]
    rw [show (64 * (m:Int)).toNat = 64 * m by omega]
  ·rw [if_neg (fun h=>hf h.1)]
   have:=survF_ne keep F i p f hf
   rw [this]
end DkSpec
namespace JnSpec
open CodeSpec DkSpec
theorem Dm.iff:∀ {x y:Bytes},Dm x y ↔ y.length ≤ x.length ∧ ∀ i:Nat,y.getD i 0 = x.getD i 0 ∨ y.getD i 0 = 0
 | x,[]=>by simp [Dm]
 | [],b :: y=>by simp [Dm]
 | a :: x,b :: y=>by
  unfold Dm
  rw [Dm.iff (x:=x) (y:=y)]
  constructor
  ·rintro ⟨h1,h2,h3⟩
   refine ⟨by simp only [List.length_cons]; omega,fun i=>?_⟩
   cases i with
   | zero=>simpa using h1
   | succ i=>simpa using h3 i
  ·rintro ⟨h1,h2⟩
   refine ⟨by simpa using h2 0,by simpa using h1,fun i=>by simpa using h2 (i + 1)⟩
theorem pre_iff:∀ {p z:Bytes},p <+: z ↔ p.length ≤ z.length ∧ ∀ i:Nat,i < p.length → z.getD i 0 = p.getD i 0
 | [],z=>by simp
 | a :: p,[]=>by simp
 | a :: p,b :: z=>by
  rw [List.cons_prefix_cons,pre_iff (p:=p) (z:=z)]
  constructor
  ·rintro ⟨h1,h2,h3⟩
   refine ⟨by simp only [List.length_cons]; omega,fun i hi=>?_⟩
   cases i with
   | zero=>simpa using h1.symm
   | succ i=>simpa using h3 i (by simpa using hi)
  ·rintro ⟨h1,h2⟩
   refine ⟨by simpa using (h2 0 (by simp)).symm,by simpa using h1,fun i hi=>by simpa using h2 (i + 1) (by simpa using hi)⟩
def Ok (all sure:List Bs) (z:Bs):Prop:=Dm (formL all) z ∧ formL sure <+: z
variable {all sure:List Bs} {f:Int} {A:Ab}
theorem Ok.put {x y:Bs} (hx:Ok all sure x) (hy:Ok all sure y) (n:Nat):Ok all sure (putB y (64 * n) (sector x n)):=by
 have hl:=sector_len x n
 have hp:=putB_length y (64 * n) (sector x n)
 obtain ⟨x1,x2⟩:=hx
 obtain ⟨y1,y2⟩:=hy
 rw [Dm.iff] at x1 y1
 rw [pre_iff] at x2 y2
 have hle:(putB y (64 * n) (sector x n)).length ≤ max y.length x.length ∧ y.length ≤ (putB y (64 * n) (sector x n)).length:=by
  split at hp
  ·omega
  ·rename_i hne
   have:=List.length_pos_iff.2 hne
   omega
 have hg:∀ i,(putB y (64 * n) (sector x n)).getD i 0 = y.getD i 0 ∨ (i < x.length ∧ (putB y (64 * n) (sector x n)).getD i 0 = x.getD i 0):=fun i=>by
  rw [putB_getD]
  split
  ·rename_i h
   right
   rw [sector_getD _ _ _ (by omega)]
   have e:64 * n + (i - 64 * n) = i:=by omega
   rw [e]
   exact ⟨by omega,rfl⟩
  ·exact .inl rfl
 constructor
 ·rw [Dm.iff]
  refine ⟨by omega,fun i=>?_⟩
  rcases hg i with h | ⟨_,h⟩ <;> rw [h]
  ·exact y1.2 i
  ·exact x1.2 i
 ·rw [pre_iff]
  refine ⟨by omega,fun i hi=>?_⟩
  rcases hg i with h | ⟨_,h⟩ <;> rw [h]
  ·exact y2.2 i hi
  ·exact x2.2 i hi
theorem Ok.putAll {x:Bs} (hx:Ok all sure x):∀ (ns:List Nat) {y:Bs},Ok all sure y → Ok all sure (putAll x y ns)
 | [],_,hy=>hy
 | n :: ns,_,hy=>Ok.putAll hx ns (hx.put hy n)
structure GoodJ (f:Int) (A:Ab) (all sure:List Bs):Prop where
 wf:WF A
 few:Few all
 sub:sure <+: all
 x:Ok all sure (A.F f).1
 y:Ok all sure (A.F f).2
theorem Few.sub {l m:List Bs} (h:Few m) (hs:l <+: m):Few l:=fun t ht=>h t (hs.subset ht)
theorem GoodJ.same (h:GoodJ f A all sure) {B:Ab} (hw:WF B) (hF:B.F f = A.F f):GoodJ f B all sure:=⟨hw,h.few,h.sub,by rw [hF]; exact h.x,by rw [hF]; exact h.y⟩
theorem GoodJ.crash (h:GoodJ f A all sure) (keep:List Int):GoodJ f (crashA A keep) all sure:=by
 have hw:=crashA_wf h.wf keep
 unfold crashA at hw ⊢
 split
 ·exact h
 ·have:Ok all sure (survAll keep A.F 0 A.queue f).2:=by
   rw [survAll_putAll keep A.queue A.F 0 f (fun p hp=>(h.wf.qr p hp).2.2.1)]
   exact h.x.putAll _ h.y
  rename_i hd
  rw [if_neg hd] at hw
  exact ⟨hw,h.few,h.sub,this,this⟩
theorem GoodJ.ends (h:GoodJ f A all sure):GoodJ f (endsA A).2 all sure:=h.same (endsA_wf h.wf) (by rw [(endsA_same A).1])
theorem GoodJ.comes (h:GoodJ f A all sure):GoodJ f (comesA A) all sure:=by
 unfold comesA
 split
 ·exact h.ends.crash _
 ·exact h.ends
theorem GoodJ.settle (h:GoodJ f A all sure) {s:Bs} (hs:Ok all sure s) (hl:s.length ≤ 16777216):GoodJ f (settleA A f s) all sure:=by
 have e:(settleA A f s).F f = (s,s):=setF_same _ _ _
 exact ⟨settleA_wf h.wf f s hl,h.few,h.sub,by rw [e]; exact hs,by rw [e]; exact hs⟩
theorem GoodJ.sync (h:GoodJ f A all sure):GoodJ f (syncA A f).2 all sure:=by
 have h1:=h.comes
 have hw:=syncA_wf h.wf f
 unfold syncA at hw ⊢
 split
 ·exact h1
 ·rename_i hm
  rw [if_neg hm] at hw
  split
  ·rename_i hl
   rw [if_pos hl] at hw
   exact h1.same hw rfl
  ·exact h1.settle h1.x (h1.wf.sz f).1
theorem Ok.more {z:Bs} (h:Ok all sure z) (t:Bs):Ok (all ++ [t]) sure z:=by
 refine ⟨?_,h.2⟩
 have h1:=h.1
 rw [Dm.iff] at h1 ⊢
 rw [formL_append,List.length_append]
 refine ⟨by omega,fun i=>?_⟩
 by_cases hi:i < (formL all).length
 ·have:(formL all ++ formL [t]).getD i 0 = (formL all).getD i 0:=by
   simp only [List.getD_eq_getElem?_getD]
   rw [List.getElem?_append_left hi]
  rw [this]; exact h1.2 i
 ·right
  simp only [List.getD_eq_getElem?_getD]
  rw [List.getElem?_eq_none (by omega)]
  rfl
theorem GoodJ.more (h:GoodJ f A all sure) {t:Bs} (ht:t.length ≤ 20000):GoodJ f A (all ++ [t]) sure:=
 ⟨h.wf,fun x hx=>by
  rcases List.mem_append.1 hx with hx | hx
  ·exact h.few x hx
  ·simp only [List.mem_singleton] at hx
   rw [hx]; exact ht,h.sub.trans (List.prefix_append _ _),h.x.more t,h.y.more t⟩
theorem Ok.own {l sure:List Bs} (hs:sure <+: l):Ok l sure (formL l):=by
 refine ⟨Dm.refl _,?_⟩
 obtain ⟨m,rfl⟩:=hs
 rw [formL_append]
 exact List.prefix_append _ _
structure Jn where
 recs:List Bs
 bytes:Nat
 broken:Bool
def openB (B:Ab) (f:Int) (r:Bs × Int):Option Jn × Int × Ab:=
 if r.2 ≠ 0 then (none,r.2,B)
 else if (readJ r.1).2 < r.1.length then
  if (truncA B f (readJ r.1).2).1 ≠ 0 then (none,(truncA B f (readJ r.1).2).1,(truncA B f (readJ r.1).2).2)
  else (some ⟨(readJ r.1).1,(readJ r.1).2,false⟩,0,(truncA B f (readJ r.1).2).2)
 else (some ⟨(readJ r.1).1,(readJ r.1).2,false⟩,0,B)
def openJ (A:Ab) (f:Int):Option Jn × Int × Ab:=
 if f < 0 ∨ 15 < f then (none,1,A)
 else if (syncA A f).1 ≠ 0 then (none,(syncA A f).1,(syncA A f).2)
 else openB (syncA A f).2 f (readA (syncA A f).2 f 0 (((syncA A f).2.F f).1.length:Nat))
def appendJ (A:Ab) (f:Int) (j:Jn) (t:Bs):Int × Ab × Jn:=
 if j.broken = true then (7,A,j)
 else if 20000 < t.length then (3,A,j)
 else if 1048576 < j.bytes + (form t).length then (6,A,j)
 else if (writeA A f j.bytes (form t)).1 ≠ 0 then ((writeA A f j.bytes (form t)).1,(writeA A f j.bytes (form t)).2,{ j with broken:=true })
 else (0,(writeA A f j.bytes (form t)).2,⟨j.recs ++ [t],j.bytes + (form t).length,false⟩)
def syncJ (A:Ab) (f:Int) (j:Jn):Int × Ab × Jn:=
 if j.broken = true then (7,A,j) else ((syncA A f).1,(syncA A f).2,{ j with broken:=decide ((syncA A f).1 ≠ 0) })
theorem mayA_val (A:Ab) {f:Int} (hf:0 ≤ f ∧ f ≤ 15):mayA A f = 0 ∨ mayA A f = 8:=by
 unfold mayA
 split
 ·exact .inr rfl
 ·rw [if_neg (by omega)]; exact .inl rfl
theorem sync_val (A:Ab) {f:Int} (hf:0 ≤ f ∧ f ≤ 15):(syncA A f).1 = 0 ∨ (syncA A f).1 = 8 ∨ (syncA A f).1 = 9:=by
 unfold syncA
 split
 ·rcases mayA_val (comesA A) hf with h | h
  ·exact .inl h
  ·exact .inr (.inl h)
 ·split
  ·exact .inr (.inr rfl)
  ·exact .inl rfl
theorem read_all {A:Ab} (hd:A.down = false) {f:Int} (hf:0 ≤ f ∧ f ≤ 15):readA A f 0 (((A.F f).1.length:Nat):Int) = ((A.F f).1,0):=by
 unfold readA
 rw [if_neg (by rw [mayA_up hd (by omega)]; simp),if_neg (by omega)]
 simp
theorem trunc_val {A:Ab} {f:Int} {n:Nat} (hf:0 ≤ f ∧ f ≤ 15) (hn:n ≤ (A.F f).1.length) :
  ((truncA A f n).1 = 8 ∧ (truncA A f n).2 = comesA A) ∨ ((truncA A f n).1 = 0 ∧ A.down = false ∧ (truncA A f n).2 = settleA (endsA A).2 f ((A.F f).1.take n)):=by
 unfold truncA
 split
 ·rename_i hm
  rcases mayA_val (comesA A) hf with h | h
  ·exact absurd h hm
  ·exact .inl ⟨h,rfl⟩
 ·rename_i hm
  have h1:=mayA_ok (Decidable.not_not.1 hm)
  have h2:=(comesA_up h1.1).1
  have h3:=endsA_same A
  have hF:(comesA A).F = A.F:=by rw [h2]; exact h3.1
  rw [hF,if_neg (by omega)]
  refine .inr ⟨rfl,?_,?_⟩
  ·have:=h1.1
   rw [h2,h3.2.1] at this
   exact this
  ·rw [h2]; simp
structure Live (f:Int) (A:Ab) (j:Jn) (all sure:List Bs):Prop where
 good:GoodJ f A all sure
 recs:all = j.recs
 pre:sure <+: j.recs
 x:(A.F f).1 = formL j.recs
 bytes:j.bytes = (formL j.recs).length
 up:A.down = false
theorem open_spec (hg:GoodJ f A all sure) (hf:0 ≤ f ∧ f ≤ 15) :
  GoodJ f (openJ A f).2.2 all sure ∧
  (((openJ A f).1 = none ∧ ((openJ A f).2.1 = 8 ∨ (openJ A f).2.1 = 9)) ∨
   ∃ j,(openJ A f).1 = some j ∧ (openJ A f).2.1 = 0 ∧ j.broken = false ∧ j.recs <+: all ∧ sure <+: j.recs ∧ Live f (openJ A f).2.2 j j.recs j.recs):=by
 have hs:=hg.sync
 unfold openJ
 rw [if_neg (by omega)]
 by_cases he:(syncA A f).1 = 0
 ·rw [if_neg (by simp [he])]
  obtain ⟨_,_,hd,hfi,_,_⟩:=sync_ok hg.wf he
  rw [read_all hd hf]
  generalize (syncA A f).2 = B at *
  have hF:=hfi.1
  rw [hF]
  have hx:=hs.x
  rw [hF] at hx
  dsimp only at hx ⊢
  generalize hxx:(A.F f).1 = x at *
  have hgs:∀ {C:Ab},WF C → C.F f = (formL (readJ x).1,formL (readJ x).1) → C.down = false → Live f C ⟨(readJ x).1,(readJ x).2,false⟩ (readJ x).1 (readJ x).1:=fun {C} hw e hd=>
   ⟨⟨hw,(readJ_spec x).1,List.prefix_refl _,by rw [e]; exact Ok.own (List.prefix_refl _),by rw [e]; exact Ok.own (List.prefix_refl _)⟩,rfl,List.prefix_refl _,by rw [e],(readJ_spec x).2.1,hd⟩
  have hp1:(readJ x).1 <+: all:=Dm.readJ hs.few hx.1
  have hp2:sure <+: (readJ x).1:=by
   obtain ⟨z,hz⟩:=hx.2
   rw [← hz,readJ_forms (hs.few.sub hs.sub) z]
   exact List.prefix_append _ _
  obtain ⟨r1,r2,r3,r4⟩:=readJ_spec x
  unfold openB
  rw [if_neg (by simp)]
  dsimp only
  by_cases hlt:(readJ x).2 < x.length
  ·rw [if_pos hlt]
   have ht:=trunc_val (A:=B) (n:=(readJ x).2) hf (by rw [hF]; exact Nat.le_of_lt hlt)
   have htw:=truncA_wf hs.wf f (readJ x).2
   rcases ht with ⟨t1,t2⟩ | ⟨t1,_,t2⟩
   ·rw [if_pos (by rw [t1]; decide)]
    refine ⟨?_,.inl ⟨rfl,.inl t1⟩⟩
    dsimp only
    rw [t2]
    exact hs.comes
   ·rw [if_neg (by rw [t1]; simp)]
    dsimp only
    have e:(truncA B f ((readJ x).2:Nat)).2.F f = (formL (readJ x).1,formL (readJ x).1):=by
     have e1:x.take (readJ x).2 = formL (readJ x).1:=by
      have h5:(formL (readJ x).1 ++ x.drop (readJ x).2).take (formL (readJ x).1).length = formL (readJ x).1:=List.take_left
      rw [← r3,← r2] at h5
      exact h5
     rw [t2,hF,e1]
     exact setF_same _ _ _
    have hd2:(truncA B f ((readJ x).2:Nat)).2.down = false:=by
     rw [t2]
     show (endsA B).2.down = false
     rw [(endsA_same B).2.1]; exact hd
    have hl:=hgs htw e hd2
    refine ⟨⟨htw,hs.few,hs.sub,?_,?_⟩,.inr ⟨_,rfl,rfl,rfl,hp1,hp2,hl⟩⟩
    all_goals
     rw [e]
     refine ⟨?_,?_⟩
     ·obtain ⟨m,hm⟩:=hp1
      rw [← hm,formL_append,Dm.iff]
      refine ⟨by simp,fun i=>?_⟩
      by_cases hi:i < (formL (readJ x).1).length
      ·left
       simp only [List.getD_eq_getElem?_getD]
       rw [List.getElem?_append_left hi]
      ·right
       simp only [List.getD_eq_getElem?_getD]
       rw [List.getElem?_eq_none (by omega)]
       rfl
     ·obtain ⟨m,hm⟩:=hp2
      rw [← hm,formL_append]
      exact List.prefix_append _ _
  ·rw [if_neg hlt]
   dsimp only
   have e1:x = formL (readJ x).1:=by
    have:x.drop (readJ x).2 = []:=List.drop_eq_nil_of_le (by omega)
    rw [this,List.append_nil] at r3
    exact r3
   refine ⟨hs,.inr ⟨_,rfl,rfl,rfl,hp1,hp2,hgs hs.wf ?_ hd⟩⟩
   rw [hF,← e1]
 ·rw [if_pos (by simpa using he)]
  exact ⟨hs,.inl ⟨rfl,(sync_val A hf).resolve_left he⟩⟩
end JnSpec
namespace PuSpec
open FdSpec TkSpec CodeSpec
structure Lim where
 count:Int
 length:Int
 gate:Int
deriving DecidableEq
deriving instance DecidableEq for TkSpec.Lnk
structure Hld where
 limit:Int
 window:Int
 attrs:List Int
 bl:Bld
 t:Tkt
 links:List Lnk
deriving DecidableEq
structure Itm where
 held:Hld
 status:Int
 dare:Int
 lent:Bool
 back:Bool
deriving DecidableEq
def within (n lo hi:Int):Bool:=decide (lo ≤ n) && decide (n ≤ hi)
def timeB (n:Int):Bool:=within n 0 2147483648
def limM (l:Lim):Bool:=within l.count 1 4096 && timeB l.length && within l.gate (-1) 23
def windowM (l:Lim) (t:Int):Int:=if !limM l || !timeB t then -1 else if l.length = 0 then 0 else t / l.length
def beginsM (l:Lim) (w:Int):Int:=if !limM l || !timeB w || !timeB (w * l.length) then -1 else w * l.length
def residuesM (q:Int) (l:List Int):Bool:=!(l.any fun n=>decide (n < 0) || decide (q ≤ n))
def linksM (l:List Lnk):Bool:=decide (l.length ≤ 4) && !(l.any fun x=>decide (200 < x.terms.length) || decide (7 < x.spend.answers.length))
def validM (s:Stp) (lims:List Lim) (h:Hld):Bool:=
 validS s && decide (0 ≤ h.limit) && decide (h.limit < lims.length) && timeB h.window && linksM h.links &&
 decide ((h.attrs.length:Int) = (s.bases.length:Int) - 1) && decide (h.attrs.length ≠ 0) && decide (1 ≤ h.attrs.headD 0) && decide (h.bl.ys.length = s.bases.length) &&
 residuesM s.g.Q h.attrs && residuesM s.g.Q h.bl.ys && residuesM s.g.Q [h.bl.s,h.bl.u,h.bl.v] && decide (h.bl.s ≠ 0) && decide (h.bl.u ≠ 0) &&
 formedM s h.t && decide (h.t.mark = powerG s.g (markM s h.attrs).1 h.bl.s) && decide (h.t.first = (prodG s.g s.bases h.bl.ys).1)
def tktL (t:Tkt):List Int:=[t.mark,t.first,t.z,t.a,t.b,t.r]
def ofL:List Int → Tkt
 | [a,b,c,d,e,f]=>⟨a,b,c,d,e,f⟩
 | _=>⟨0,0,0,0,0,0⟩
def lnkE (x:Lnk):Bytes:=encNums (tktL x.ticket) ++ encInt x.spend.dare ++ encNums x.spend.answers ++ encText x.terms
def heldE (h:Hld):Bytes:=
 encNums [h.limit,h.window] ++ encNums h.attrs ++ encNums [h.bl.s,h.bl.u,h.bl.v] ++ encNums h.bl.ys ++ encNums (tktL h.t) ++ encNum h.links.length ++ (h.links.map lnkE).flatten
structure Rb where
 rd:Rd
 bad:Bool
def someR (n:Nat) (r:Rb):List Int × Rb:=
 if (rdNums r.rd).1.length = n then ((rdNums r.rd).1,⟨(rdNums r.rd).2,r.bad⟩) else (List.replicate n 0,⟨(rdNums r.rd).2,true⟩)
def tktR (r:Rb):Tkt × Rb:=(ofL (someR 6 r).1,(someR 6 r).2)
def numsR (r:Rb):List Int × Rb:=((rdNums r.rd).1,⟨(rdNums r.rd).2,r.bad⟩)
def lnkR (r:Rb):Lnk × Rb:=
 let t:=tktR r
 let d:=rdInt t.2.rd
 let a:=rdNums d.2
 let x:=rdText a.2
 (⟨t.1,⟨d.1,a.1⟩,x.1⟩,⟨x.2,t.2.bad⟩)
def lnksR:Nat → Rb → List Lnk × Rb
 | 0,r=>([],r)
 | k + 1,r=>((lnkR r).1 :: (lnksR k (lnkR r).2).1,(lnksR k (lnkR r).2).2)
def heldR (r:Rb):Hld × Rb:=
 let head:=someR 2 r
 let attrs:=numsR head.2
 let three:=someR 3 attrs.2
 let ys:=numsR three.2
 let t:=tktR ys.2
 let n:=rdNum t.2.rd
 let l:=lnksR (min n.1 4).toNat ⟨n.2,t.2.bad || decide (4 < n.1)⟩
 (⟨head.1.getD 0 0,head.1.getD 1 0,attrs.1,⟨three.1.getD 0 0,three.1.getD 1 0,three.1.getD 2 0,ys.1⟩,t.1,l.1⟩,l.2)
def zeroH:Hld:=⟨0,0,[],⟨0,0,0,[]⟩,⟨0,0,0,0,0,0⟩,[]⟩
def doneR (r:Rd):Bool:=!r.bad && decide (r.rest = [])
def decodeH (s:Bytes):Hld × Bool:=if (heldR ⟨⟨s,false⟩,false⟩).2.bad || !doneR (heldR ⟨⟨s,false⟩,false⟩).2.rd then (zeroH,false) else ((heldR ⟨⟨s,false⟩,false⟩).1,true)
def termsM (until_:Int) (q:Bytes):Bytes:=if !timeB until_ || decide (20 < q.length) then [] else encNum until_ ++ encText q
def readTermsM (s:Bytes):(Int × Bytes) × Bool:=
 let a:=rdNum ⟨s,false⟩
 let b:=rdText a.2
 if !doneR b.2 || decide (termsM a.1 b.1 = []) then ((0,[]),false) else ((a.1,b.1),true)
def narrowsM (inner outer:Bytes):Bool:=
 (readTermsM inner).2 && (readTermsM outer).2 && decide ((readTermsM inner).1.1 ≤ (readTermsM outer).1.1) && (decide ((readTermsM outer).1.2 = []) || decide ((readTermsM inner).1.2 = (readTermsM outer).1.2))
def hasM (items:List Itm) (t:Tkt):Bool:=items.any fun i=>decide (i.held.t = t)
def freshI (h:Hld):Itm:=⟨h,0,0,false,false⟩
def addR (s:Stp) (lims:List Lim) (items:List Itm) (text:Bytes):Option (List Itm):=
 if !(decodeH text).2 || decide (400 ≤ items.length) || !validM s lims (decodeH text).1 || hasM items (decodeH text).1.t then none else some (items ++ [freshI (decodeH text).1])
def stepR (s:Stp) (n:List Int) (x:Itm):Option Itm:=
 match n with
 | [k,_,dare]=>if decide (k = 1) || decide (k = 3) then (if decide (x.status = 0) && decide (1 ≤ dare) && decide (dare < s.g.Q) then some { x with status:=1,dare:=dare,lent:=decide (k = 3) } else none) else none
 | [k,_]=>if k = 2 then (if x.status = 1 then some { x with status:=2 } else none) else if k = 4 then (if x.lent && !x.back then some { x with back:=true } else none) else none
 | _=>none
def replayM (s:Stp) (lims:List Lim) (items:List Itm) (r:Bytes):Option (List Itm):=
 if [48,59] <+: r then addR s lims items (r.drop 2)
 else if !doneR (rdNums ⟨r,false⟩).2 || decide ((rdNums ⟨r,false⟩).1.length < 2) then none
 else
  let n:=(rdNums ⟨r,false⟩).1
  let i:=n.getD 1 0
  if i < 0 then none
  else match items[i.toNat]? with
   | none=>none
   | some x=>match stepR s n x with
    | none=>none
    | some y=>some (items.set i.toNat y)
def replayL (s:Stp) (lims:List Lim):List Itm → List Bytes → Option (List Itm)
 | items,[]=>some items
 | items,r :: rs=>match replayM s lims items r with
  | none=>none
  | some l=>replayL s lims l rs
def burnM (x:Itm):Itm:=if x.status = 1 then { x with status:=3 } else x
def limsM (lims:List Lim):Bool:=decide (1 ≤ lims.length) && decide (lims.length ≤ 16) && !(lims.any fun l=>!limM l)
def openM (s:Stp) (lims:List Lim) (recs:List Bytes):Option (List Itm):=(replayL s lims [] recs).map fun l=>l.map burnM
def fitsI (lims:List Lim) (limit now:Int) (i:Itm):Bool:=decide (i.status = 0) && decide (i.held.limit = limit) && decide (i.held.window = windowM (lims.getD limit.toNat ⟨0,0,0⟩) now)
def chooseM (lims:List Lim) (items:List Itm) (limit now:Int):Nat × Int:=
 if decide (limit < 0) || decide ((lims.length:Int) ≤ limit) || !timeB now then (0,1)
 else match items.findIdx? (fitsI lims limit now) with
  | none=>(0,15)
  | some i=>(i,0)
def leftM (lims:List Lim) (items:List Itm) (limit now:Int):Int:=
 if decide (limit < 0) || decide ((lims.length:Int) ≤ limit) || !timeB now then 0 else ((items.filter (fitsI lims limit now)).length:Int)
def addErr (s:Stp) (lims:List Lim) (items:List Itm) (h:Hld):Int:=
 if !validM s lims h then 1 else if hasM items h.t then 5 else if 400 ≤ items.length then 6 else 0
def recAdd (h:Hld):Bytes:=encNum 0 ++ heldE h
def recNums (l:List Int):Bytes:=encNums l
def exS:Stp:=⟨⟨23,11,4⟩,[4,9],13⟩
def exL:List Lim:=[⟨1,1440,-1⟩,⟨2,0,-1⟩]
def exH:Hld:=⟨0,2,[3],⟨2,1,0,[1,5]⟩,⟨2,9,1,1,1,2⟩,[]⟩
def bs (s:String):Bytes:=s.toUTF8.toList
theorem ex_facts:limsM exL = true ∧ windowM ⟨1,1440,-1⟩ 2900 = 2 ∧ beginsM ⟨1,1440,-1⟩ 2 = 2880 ∧ windowM ⟨2,0,-1⟩ 2900 = 0 ∧
  termsM 100 [112,111,111,108] = [49,48,48,59,52,58,112,111,111,108,44] ∧ validS exS = true ∧ validM exS exL exH = true ∧
  addErr exS exL [] exH = 0 ∧ decodeH (heldE exH) = (exH,true) ∧ chooseM exL [freshI exH] 0 2900 = (0,0) ∧ chooseM exL [{ freshI exH with status:=1,dare:=5 }] 0 2901 = (0,15) ∧
  leftM exL [{ freshI exH with status:=1,dare:=5 }] 0 2900 = 0 ∧ useM exS [3] exH.bl 5 = (⟨5,[0,2]⟩,true):=by
 refine ⟨?_,?_,?_,?_,?_,?_,?_,?_,?_,?_,?_,?_,?_⟩ <;> decide +kernel
theorem ex_narrows:narrowsM [57,48,59,52,58,112,111,111,108,44] [49,48,48,59,48,58,44] = true ∧ narrowsM [49,49,48,59,52,58,112,111,111,108,44] [49,48,48,59,48,58,44] = false:=by
 constructor <;> decide +kernel
end PuSpec
namespace PuSpec
open FdSpec TkSpec CodeSpec
theorem timeB_iff (n:Int):timeB n = true ↔ 0 ≤ n ∧ n ≤ 2147483648:=by simp [timeB,within]
theorem limM_len {l:Lim} (h:limM l = true):0 ≤ l.length ∧ l.length ≤ 2147483648:=by
 simp [limM,timeB_iff] at h
 exact h.1.2
theorem termsM_ne {u:Int} {q:Bytes} (h:timeB u = true) (hq:q.length ≤ 20):termsM u q = encNum u ++ encText q:=by
 unfold termsM
 rw [if_neg]
 simp only [h,Bool.not_true,Bool.false_or,decide_eq_true_eq]
 omega
theorem encNum_ne {u:Int} (h:0 ≤ u):encNum u ≠ []:=by
 simp [encNum,encInt,Int.not_lt.mpr h]
theorem termsM_nil {u:Int} {q:Bytes}:termsM u q = [] ↔ ¬(timeB u = true ∧ q.length ≤ 20):=by
 constructor
 ·rintro h ⟨h1,h2⟩
  rw [termsM_ne h1 h2] at h
  exact encNum_ne ((timeB_iff u).1 h1).1 (List.append_eq_nil_iff.1 h).1
 ·intro h
  unfold termsM
  rw [if_pos]
  simp only [Bool.or_eq_true,Bool.not_eq_true',decide_eq_true_eq]
  by_cases h1:timeB u = true
  ·right; exact Nat.lt_of_not_le fun h2=>h ⟨h1,h2⟩
  ·left; simpa using h1
theorem doneR_iff (r:Rd):doneR r = true ↔ r = ⟨[],false⟩:=by
 obtain ⟨rest,bad⟩:=r
 simp [doneR,and_comm]
theorem readTerms_enc {u:Int} {q:Bytes} (h:timeB u = true) (hq:q.length ≤ 20):readTermsM (termsM u q) = ((u,q),true):=by
 have t:=(timeB_iff u).1 h
 have e:rdNum ⟨termsM u q,false⟩ = (u,⟨encText q ++ [],false⟩):=by
  rw [termsM_ne h hq,List.append_nil]
  exact rdNum_enc u ⟨by omega,by omega⟩ t.1 _
 have e2:rdText ⟨encText q ++ [],false⟩ = (q,⟨[],false⟩):=rdText_enc q [] (by omega)
 unfold readTermsM
 simp only [e,e2]
 have n:termsM u q ≠ []:=fun hn=>termsM_nil.1 hn ⟨h,hq⟩
 simp [doneR,n]
theorem readTerms_some {s:Bytes} (h:(readTermsM s).2 = true):timeB (readTermsM s).1.1 = true ∧ (readTermsM s).1.2.length ≤ 20 ∧ s = termsM (readTermsM s).1.1 (readTermsM s).1.2:=by
 unfold readTermsM at h ⊢
 dsimp only at h ⊢
 split at h
 ·cases h
 ·rename_i hc
  rw [if_neg hc]
  simp only [Bool.or_eq_true,Bool.not_eq_true',decide_eq_true_eq,not_or,Bool.not_eq_false] at hc
  obtain ⟨h1,h2⟩:=hc
  have ht:timeB (rdNum ⟨s,false⟩).1 = true ∧ (rdText (rdNum ⟨s,false⟩).2).1.length ≤ 20:=Classical.byContradiction fun hn=>h2 (termsM_nil.2 hn)
  refine ⟨ht.1,ht.2,?_⟩
  rw [termsM_ne ht.1 ht.2]
  rw [doneR_iff] at h1
  rcases rdNum_some ⟨s,false⟩ Rd.ok_good with e | ⟨n,t,e,es,_,n0⟩
  ·rw [e,rdText_failed] at h1; simp [failed] at h1
  ·rw [e] at h1 ⊢
   dsimp only at h1 ⊢
   rcases rdText_some ⟨t,false⟩ Rd.ok_good with e2 | ⟨x,t2,e2,es2,_⟩
   ·rw [e2] at h1; simp [failed] at h1
   ·rw [e2] at h1 ⊢
    dsimp only at h1 ⊢
    simp only [Rd.mk.injEq,and_true] at h1 es es2
    rw [es,es2,h1,List.append_nil,encNum,if_neg (by omega)]
theorem readTerms_ok (n:Int) (q:Bytes):(readTermsM (termsM n q)).2 = decide (termsM n q ≠ []) ∧ ((readTermsM (termsM n q)).2 = true → (readTermsM (termsM n q)).1 = (n,q)):=by
 by_cases h:timeB n = true ∧ q.length ≤ 20
 ·rw [readTerms_enc h.1 h.2]
  have:termsM n q ≠ []:=fun e=>termsM_nil.1 e h
  simp [this]
 ·have e:=termsM_nil.2 h
  rw [e]
  have f:(readTermsM []).2 = false:=by decide +kernel
  simp [f]
end PuSpec
namespace PuSpec
open FdSpec TkSpec CodeSpec
def Fine (r:Rb):Prop:=r.bad = false ∧ r.rd.bad = false
abbrev Len (n:Nat):Prop:=(n:Int) ≤ 9223372036854775807
structure WTkt (t:Tkt):Prop where
 all:∀ v ∈ tktL t,InR v
structure WLnk (x:Lnk):Prop where
 t:WTkt x.ticket
 dare:InR x.spend.dare
 ans:∀ v ∈ x.spend.answers,InR v
 al:Len x.spend.answers.length
 tl:Len x.terms.length
structure WHld (h:Hld):Prop where
 limit:InR h.limit
 window:InR h.window
 attrs:∀ v ∈ h.attrs,InR v
 al:Len h.attrs.length
 s:InR h.bl.s
 u:InR h.bl.u
 v:InR h.bl.v
 ys:∀ v ∈ h.bl.ys,InR v
 yl:Len h.bl.ys.length
 t:WTkt h.t
 links:∀ x ∈ h.links,WLnk x
theorem someR_enc (vs:List Int) (t:Bytes) (b:Bool) (hl:Len vs.length) (h:∀ v ∈ vs,InR v):someR vs.length ⟨⟨encNums vs ++ t,false⟩,b⟩ = (vs,⟨⟨t,false⟩,b⟩):=by
 have e:=rdNums_enc vs t hl h
 unfold someR
 simp [e]
theorem numsR_enc (vs:List Int) (t:Bytes) (b:Bool) (hl:Len vs.length) (h:∀ v ∈ vs,InR v):numsR ⟨⟨encNums vs ++ t,false⟩,b⟩ = (vs,⟨⟨t,false⟩,b⟩):=by
 simp [numsR,rdNums_enc vs t hl h]
theorem tktR_enc (x:Tkt) (t:Bytes) (b:Bool) (h:WTkt x):tktR ⟨⟨encNums (tktL x) ++ t,false⟩,b⟩ = (x,⟨⟨t,false⟩,b⟩):=by
 have e:=someR_enc (tktL x) t b (by simp [Len,tktL]) h.all
 unfold tktR
 rw [show 6 = (tktL x).length from rfl,e]
 rfl
theorem lnkR_enc (x:Lnk) (t:Bytes) (b:Bool) (h:WLnk x):lnkR ⟨⟨lnkE x ++ t,false⟩,b⟩ = (x,⟨⟨t,false⟩,b⟩):=by
 have e1:=tktR_enc x.ticket (encInt x.spend.dare ++ (encNums x.spend.answers ++ (encText x.terms ++ t))) b h.t
 have e2:=rdInt_enc x.spend.dare h.dare (encNums x.spend.answers ++ (encText x.terms ++ t))
 have e3:=rdNums_enc x.spend.answers (encText x.terms ++ t) h.al h.ans
 have e4:=rdText_enc x.terms t h.tl
 unfold lnkR lnkE
 simp only [List.append_assoc,e1,e2,e3,e4]
theorem lnksR_enc:∀ (l:List Lnk) (t:Bytes) (b:Bool),(∀ x ∈ l,WLnk x) → lnksR l.length ⟨⟨(l.map lnkE).flatten ++ t,false⟩,b⟩ = (l,⟨⟨t,false⟩,b⟩)
 | [],t,b,_=>rfl
 | x :: l,t,b,h=>by
  have e1:=lnkR_enc x ((l.map lnkE).flatten ++ t) b (h x (by simp))
  have e2:=lnksR_enc l t b (fun y hy=>h y (by simp [hy]))
  simp only [List.map_cons,List.flatten_cons,List.append_assoc,List.length_cons,lnksR,e1,e2]
theorem decode_enc (h:Hld) (w:WHld h) (hl:h.links.length ≤ 4):decodeH (heldE h) = (h,true):=by
 have e1:=someR_enc [h.limit,h.window] (encNums h.attrs ++ (encNums [h.bl.s,h.bl.u,h.bl.v] ++ (encNums h.bl.ys ++ (encNums (tktL h.t) ++ (encNum h.links.length ++ ((h.links.map lnkE).flatten ++ [])))))) false (by simp [Len]) (by simp [w.limit,w.window])
 have e2:=numsR_enc h.attrs (encNums [h.bl.s,h.bl.u,h.bl.v] ++ (encNums h.bl.ys ++ (encNums (tktL h.t) ++ (encNum h.links.length ++ ((h.links.map lnkE).flatten ++ []))))) false w.al w.attrs
 have e3:=someR_enc [h.bl.s,h.bl.u,h.bl.v] (encNums h.bl.ys ++ (encNums (tktL h.t) ++ (encNum h.links.length ++ ((h.links.map lnkE).flatten ++ [])))) false (by simp [Len]) (by simp [w.s,w.u,w.v])
 have e4:=numsR_enc h.bl.ys (encNums (tktL h.t) ++ (encNum h.links.length ++ ((h.links.map lnkE).flatten ++ []))) false w.yl w.ys
 have e5:=tktR_enc h.t (encNum h.links.length ++ ((h.links.map lnkE).flatten ++ [])) false w.t
 have e6:=rdNum_enc h.links.length ⟨by omega,by omega⟩ (by omega) ((h.links.map lnkE).flatten ++ [])
 have e7:=lnksR_enc h.links [] false w.links
 have hm:(min (h.links.length:Int) 4).toNat = h.links.length:=by omega
 have hb:decide ((4:Int) < h.links.length) = false:=by simp; omega
 have e:heldR ⟨⟨heldE h,false⟩,false⟩ = (h,⟨⟨[],false⟩,false⟩):=by
  unfold heldR heldE
  simp only [List.append_assoc,List.length_cons,List.length_nil,Nat.zero_add,Nat.reduceAdd] at e1 e3 ⊢
  rw [List.append_nil] at e1 e2 e3 e4 e5 e6 e7
  simp only [e1,e2,e3,e4,e5,e6,hm,hb,Bool.or_false,e7]
  rfl
 unfold decodeH
 rw [e]
 rfl
theorem rdText_ok {r:Rd} (h:r.ok):(rdText r).2.ok:=by
 rcases rdText_some r h with e | ⟨_,_,e,_⟩ <;> rw [e]
 ·exact Rd.ok_failed
 ·exact Rd.ok_good
theorem rdInt_ok {r:Rd} (h:r.ok):(rdInt r).2.ok:=rdNumber_ok r h _ _
theorem rdNum_ok {r:Rd} (h:r.ok):(rdNum r).2.ok:=rdNumber_ok r h _ _
theorem rdNums_ok {r:Rd} (h:r.ok):(rdNums r).2.ok:=by
 rcases rdNums_some r h with e | ⟨_,_,e,_⟩ <;> rw [e]
 ·exact Rd.ok_failed
 ·exact Rd.ok_good
theorem someR_ok {n:Nat} {r:Rb} (h:r.rd.ok):(someR n r).2.rd.ok:=by
 unfold someR
 split <;> exact rdNums_ok h
theorem tktR_ok {r:Rb} (h:r.rd.ok):(tktR r).2.rd.ok:=by
 have:=someR_ok (n:=6) h
 unfold tktR
 exact this
theorem lnkR_ok {r:Rb} (h:r.rd.ok):(lnkR r).2.rd.ok:=by
 have h1:=tktR_ok h
 have h2:=rdInt_ok h1
 have h3:=rdNums_ok h2
 have h4:=rdText_ok h3
 unfold lnkR
 dsimp only
 exact h4
theorem numsR_fine {r:Rb} (hr:r.rd.ok) (h:Fine (numsR r).2):r.bad = false ∧ r.rd = ⟨encNums (numsR r).1 ++ (numsR r).2.rd.rest,false⟩ ∧ (∀ v ∈ (numsR r).1,InR v) ∧ Len (numsR r).1.length ∧ (numsR r).2.rd.ok:=by
 unfold numsR Fine at *
 rcases rdNums_some r.rd hr with e | ⟨vs,t,e,es,hl,hv⟩
 ·rw [e] at h; simp [failed] at h
 ·rw [e] at h ⊢
  exact ⟨h.1,es,hv,hl,Rd.ok_good⟩
theorem someR_fine {n:Nat} {r:Rb} (hr:r.rd.ok) (h:Fine (someR n r).2):r.bad = false ∧ r.rd = ⟨encNums (someR n r).1 ++ (someR n r).2.rd.rest,false⟩ ∧ (∀ v ∈ (someR n r).1,InR v) ∧ (someR n r).1.length = n ∧ (someR n r).2.rd.ok:=by
 unfold someR Fine at *
 split at h
 ·rename_i hc
  rw [if_pos hc]
  rcases rdNums_some r.rd hr with e | ⟨vs,t,e,es,hl,hv⟩
  ·rw [e] at h; simp [failed] at h
  ·rw [e] at h hc ⊢
   exact ⟨h.1,es,hv,hc,Rd.ok_good⟩
 ·exact absurd h.1 (by simp)
theorem tktL_ofL {l:List Int} (h:l.length = 6):tktL (ofL l) = l:=by
 match l,h with
 | [a,b,c,d,e,f],_=>rfl
theorem tktR_fine {r:Rb} (hr:r.rd.ok) (h:Fine (tktR r).2):r.bad = false ∧ r.rd = ⟨encNums (tktL (tktR r).1) ++ (tktR r).2.rd.rest,false⟩ ∧ WTkt (tktR r).1 ∧ (tktR r).2.rd.ok:=by
 unfold tktR at *
 obtain ⟨h1,h2,h3,h4,h5⟩:=someR_fine hr h
 dsimp only
 rw [tktL_ofL h4]
 exact ⟨h1,h2,⟨by rw [tktL_ofL h4]; exact h3⟩,h5⟩
theorem lnkR_fine {r:Rb} (hr:r.rd.ok) (h:Fine (lnkR r).2):r.bad = false ∧ r.rd = ⟨lnkE (lnkR r).1 ++ (lnkR r).2.rd.rest,false⟩ ∧ WLnk (lnkR r).1 ∧ (lnkR r).2.rd.ok:=by
 have ht:Fine (tktR r).2 → _:=fun h=>tktR_fine hr h
 unfold lnkR Fine at *
 dsimp only at h ⊢
 have hb:=h.1
 generalize hx:tktR r = x at *
 obtain ⟨t,r1⟩:=x
 dsimp only at *
 have ok1:r1.rd.ok:=by
  have:=tktR_ok hr
  rw [hx] at this; exact this
 rcases rdInt_some r1.rd ok1 with e2 | ⟨d,t2,e2,es2,hd⟩
 ·rw [e2] at h
  have e3:rdNums failed = ([],failed):=by
   rcases rdNums_some failed Rd.ok_failed with e | ⟨vs,t,_,e,_⟩
   ·exact e
   ·simp [failed] at e
  rw [e3,rdText_failed] at h; simp [failed] at h
 ·rw [e2] at h ⊢
  dsimp only at h ⊢
  rcases rdNums_some ⟨t2,false⟩ Rd.ok_good with e3 | ⟨a,t3,e3,es3,ha,hal⟩
  ·rw [e3,rdText_failed] at h; simp [failed] at h
  ·rw [e3] at h ⊢
   dsimp only at h ⊢
   rcases rdText_some ⟨t3,false⟩ Rd.ok_good with e4 | ⟨x,t4,e4,es4,hxl⟩
   ·rw [e4] at h; simp [failed] at h
   ·rw [e4] at h ⊢
    dsimp only at h ⊢
    have hf:r1.bad = false ∧ r1.rd.bad = false:=⟨hb,by rw [es2]⟩
    obtain ⟨g1,g2,g3,_⟩:=ht hf
    simp only [Rd.mk.injEq,and_true] at es3 es4
    refine ⟨g1,?_,⟨g3,hd,hal,ha,hxl⟩,Rd.ok_good⟩
    rw [g2,es2,es3,es4]
    simp [lnkE,List.append_assoc]
theorem lnksR_fine:∀ (n:Nat) {r:Rb},r.rd.ok → Fine (lnksR n r).2 → r.bad = false ∧ r.rd = ⟨((lnksR n r).1.map lnkE).flatten ++ (lnksR n r).2.rd.rest,false⟩ ∧ (∀ x ∈ (lnksR n r).1,WLnk x) ∧ (lnksR n r).1.length = n
 | 0,r,_,h=>by
  refine ⟨h.1,?_,by simp [lnksR],rfl⟩
  obtain ⟨⟨rest,bad⟩,b⟩:=r
  have:bad = false:=h.2
  subst this
  simp [lnksR]
 | n + 1,r,hr,h=>by
  have ok1:(lnkR r).2.rd.ok:=lnkR_ok hr
  have ih:=lnksR_fine n (r:=(lnkR r).2) ok1 h
  have hf:Fine (lnkR r).2:=⟨ih.1,by rw [ih.2.1]⟩
  obtain ⟨g1,g2,g3,_⟩:=lnkR_fine hr hf
  refine ⟨g1,?_,?_,?_⟩
  ·rw [g2,ih.2.1]
   simp [lnksR,List.append_assoc]
  ·intro x hx
   simp only [lnksR,List.mem_cons] at hx
   rcases hx with rfl | hx
   ·exact g3
   ·exact ih.2.2.1 x hx
  ·simp [lnksR,ih.2.2.2]
theorem getD3 {l:List Int} (h:l.length = 3):[l.getD 0 0,l.getD 1 0,l.getD 2 0] = l:=by
 match l,h with
 | [a,b,c],_=>rfl
theorem getD2 {l:List Int} (h:l.length = 2):[l.getD 0 0,l.getD 1 0] = l:=by
 match l,h with
 | [a,b],_=>rfl
theorem inR_getD {l:List Int} (h:∀ v ∈ l,InR v) (i:Nat):InR (l.getD i 0):=by
 rw [List.getD_eq_getElem?_getD]
 rcases e:l[i]? with _ | v
 ·exact ⟨by decide,by decide⟩
 ·exact h v (List.mem_of_getElem? e)
theorem decode_some (s:Bytes) (h:(decodeH s).2 = true):s = heldE (decodeH s).1 ∧ WHld (decodeH s).1 ∧ (decodeH s).1.links.length ≤ 4:=by
 unfold decodeH at h ⊢
 split at h
 ·cases h
 ·rename_i hc
  rw [if_neg hc]
  simp only [Bool.or_eq_true,Bool.not_eq_true',not_or,Bool.not_eq_true,Bool.not_eq_false] at hc
  obtain ⟨hb,hd⟩:=hc
  rw [doneR_iff] at hd
  have hd1:(heldR ⟨⟨s,false⟩,false⟩).2.rd.rest = []:=by rw [hd]
  have hd2:(heldR ⟨⟨s,false⟩,false⟩).2.rd.bad = false:=by rw [hd]
  clear hd
  unfold heldR at *
  dsimp only at *
  have o1:=someR_ok (n:=2) (r:=⟨⟨s,false⟩,false⟩) Rd.ok_good
  have f1:=fun h=>someR_fine (n:=2) (r:=⟨⟨s,false⟩,false⟩) Rd.ok_good h
  generalize someR 2 ⟨⟨s,false⟩,false⟩ = x1 at *
  obtain ⟨v1,r1⟩:=x1
  dsimp only at *
  have o2:(numsR r1).2.rd.ok:=rdNums_ok o1
  have f2:=fun h=>numsR_fine o1 h
  generalize numsR r1 = x2 at *
  obtain ⟨v2,r2⟩:=x2
  dsimp only at *
  have o3:=someR_ok (n:=3) o2
  have f3:=fun h=>someR_fine (n:=3) o2 h
  generalize someR 3 r2 = x3 at *
  obtain ⟨v3,r3⟩:=x3
  dsimp only at *
  have o4:(numsR r3).2.rd.ok:=rdNums_ok o3
  have f4:=fun h=>numsR_fine o3 h
  generalize numsR r3 = x4 at *
  obtain ⟨v4,r4⟩:=x4
  dsimp only at *
  have o5:=tktR_ok o4
  have f5:=fun h=>tktR_fine o4 h
  generalize tktR r4 = x5 at *
  obtain ⟨v5,r5⟩:=x5
  dsimp only at *
  have o6:=rdNum_ok o5
  have f6:=rdNum_some r5.rd o5
  generalize rdNum r5.rd = x6 at *
  obtain ⟨v6,r6⟩:=x6
  dsimp only at *
  obtain ⟨g1,g2,g3,g4⟩:=lnksR_fine (min v6 4).toNat (r:=⟨r6,r5.bad || decide (4 < v6)⟩) o6 ⟨hb,hd2⟩
  simp only [Bool.or_eq_false_iff,decide_eq_false_iff_not] at g1
  rw [hd1] at g2
  dsimp only at g2
  rcases f6 with e | ⟨n,t,e,es,hn,n0⟩
  ·rw [Prod.mk.injEq] at e; rw [e.2] at g2; simp [failed] at g2
  ·rw [Prod.mk.injEq] at e
   obtain ⟨rfl,rfl⟩:=e
   obtain ⟨a1,a2,a3,a4⟩:=f5 ⟨g1.1,by rw [es]⟩
   rw [a2] at f4
   obtain ⟨b1,b2,b3,b4,_⟩:=f4 ⟨a1,by rw [a2]⟩
   obtain ⟨c1,c2,c3,c4,_⟩:=f3 ⟨b1,by rw [b2]⟩
   obtain ⟨d1,d2,d3,d4,_⟩:=f2 ⟨c1,by rw [c2]⟩
   obtain ⟨e1,e2,e3,e4,_⟩:=f1 ⟨d1,by rw [d2]⟩
   have q3:=getD3 c4
   have q2:=getD2 e4
   generalize (lnksR (min v6 4).toNat { rd:={ rest:=t,bad:=false },bad:=r5.bad || decide (4 < v6) }).fst = L at *
   have hv:(L.length:Int) = v6:=by omega
   simp only [Rd.mk.injEq,and_true] at e2 g2
   refine ⟨?_,⟨inR_getD e3 0,inR_getD e3 1,d3,d4,inR_getD c3 0,inR_getD c3 1,inR_getD c3 2,b3,b4,a3,g3⟩,by omega⟩
   rw [e2,d2,c2,b2,es,g2]
   unfold heldE
   dsimp only
   rw [q2,q3,hv,encNum,if_neg (by omega)]
   simp only [List.append_assoc,List.append_nil]
end PuSpec
namespace Go.Proofs
open Go Go.Sh Go.RowKit FdSpec TkSpec CodeSpec PuSpec
section
variable {K:VK} {w w' w0 W W':World} {L:List (Addr × Value)}
@[reducible] def limC (l:Lim):List Value:=[.int .i64 l.count,.int .i64 l.length,.int .i64 l.gate]
@[reducible] def limV (l:Lim):Value:=.agg #[.int .i64 l.count,.int .i64 l.length,.int .i64 l.gate]
def VLim (_:World) (c:List Value) (l:Lim):Prop:=c = limC l ∧ I64 l.count ∧ I64 l.length ∧ I64 l.gate
theorem lim_vstay:VStay VLim:=fun _ _ _ _ h _=>h
abbrev LimR (w:World) (v:Value) (l:List Lim):Prop:=SRow 3 (AtOf 3 VLim) w v l
@[reducible] def lkC (x:Lnk) (av:Value):List Value:=[.int .i64 x.ticket.mark,.int .i64 x.ticket.first,.int .i64 x.ticket.z,.int .i64 x.ticket.a,.int .i64 x.ticket.b,.int .i64 x.ticket.r,.int .i64 x.spend.dare,av,.string ⟨x.terms.toArray⟩]
@[reducible] def lkV (x:Lnk) (av:Value):Value:=.agg #[.int .i64 x.ticket.mark,.int .i64 x.ticket.first,.int .i64 x.ticket.z,.int .i64 x.ticket.a,.int .i64 x.ticket.b,.int .i64 x.ticket.r,.int .i64 x.spend.dare,av,.string ⟨x.terms.toArray⟩]
def VLnk (w:World) (c:List Value) (x:Lnk):Prop:=∃ av,c = lkC x av ∧ Ints w av x.spend.answers ∧ WLnk x
theorem lnk_vstay:VStay VLnk:=fun _ _ _ _ ⟨av,h1,h2,h3⟩ hb=>⟨av,h1,h2.next hb,h3⟩
abbrev LnksR (w:World) (v:Value) (l:List Lnk):Prop:=SRow 9 (AtOf 9 VLnk) w v l
@[reducible] def hldC (h:Hld) (av yv lv:Value):List Value:=[.int .i64 h.limit,.int .i64 h.window,av,.int .i64 h.bl.s,.int .i64 h.bl.u,.int .i64 h.bl.v,yv,.int .i64 h.t.mark,.int .i64 h.t.first,.int .i64 h.t.z,.int .i64 h.t.a,.int .i64 h.t.b,.int .i64 h.t.r,lv]
@[reducible] def hldV (h:Hld) (av yv lv:Value):Value:=.agg #[.int .i64 h.limit,.int .i64 h.window,av,.int .i64 h.bl.s,.int .i64 h.bl.u,.int .i64 h.bl.v,yv,.int .i64 h.t.mark,.int .i64 h.t.first,.int .i64 h.t.z,.int .i64 h.t.a,.int .i64 h.t.b,.int .i64 h.t.r,lv]
structure HldR (w:World) (h:Hld) (av yv lv:Value):Prop where
 attrs:Ints w av h.attrs
 ys:Ints w yv h.bl.ys
 links:LnksR w lv h.links
 wf:WHld h
theorem HldR.next {h:Hld} {av yv lv:Value} (k:HldR w h av yv lv) (hb:Bw w w'):HldR w' h av yv lv:=⟨k.attrs.next hb,k.ys.next hb,k.links.next (atOf_stay lnk_vstay) hb,k.wf⟩
@[reducible] def itmC (x:Itm) (av yv lv:Value):List Value:=[.int .i64 x.held.limit,.int .i64 x.held.window,av,.int .i64 x.held.bl.s,.int .i64 x.held.bl.u,.int .i64 x.held.bl.v,yv,.int .i64 x.held.t.mark,.int .i64 x.held.t.first,.int .i64 x.held.t.z,.int .i64 x.held.t.a,.int .i64 x.held.t.b,.int .i64 x.held.t.r,lv,.int .i64 x.status,.int .i64 x.dare,.bool x.lent,.bool x.back]
@[reducible] def itmV (x:Itm) (av yv lv:Value):Value:=.agg #[.int .i64 x.held.limit,.int .i64 x.held.window,av,.int .i64 x.held.bl.s,.int .i64 x.held.bl.u,.int .i64 x.held.bl.v,yv,.int .i64 x.held.t.mark,.int .i64 x.held.t.first,.int .i64 x.held.t.z,.int .i64 x.held.t.a,.int .i64 x.held.t.b,.int .i64 x.held.t.r,lv,.int .i64 x.status,.int .i64 x.dare,.bool x.lent,.bool x.back]
def VItm (w:World) (c:List Value) (x:Itm):Prop:=∃ av yv lv,c = itmC x av yv lv ∧ HldR w x.held av yv lv ∧ I64 x.status ∧ I64 x.dare
theorem itm_vstay:VStay VItm:=fun _ _ _ _ ⟨av,yv,lv,h1,h2,h3⟩ hb=>⟨av,yv,lv,h1,h2.next hb,h3⟩
def fndI (r:Option Nat):Int:=match r with | some i=>i | none=>-1
def IxJ {α:Type} (f:α → Bool) (l:List α) (w0:World) (vs:List Value) (w':World):Prop:=Bw w0 w' ∧ ∃ (v u:Value) (i:Nat),vs = [v,u,.int .i64 (i:Int)] ∧ i ≤ l.length ∧ ∀ j r,j < i → l[j]? = some r → f r = false
theorem fnd_any {α:Type} (f:α → Bool) (l:List α):decide (0 ≤ fndI (l.findIdx? f)) = l.any f:=by
 cases h:l.findIdx? f with
 | none=>
  rw [List.findIdx?_eq_none_iff] at h
  have:l.any f = false:=by
   rw [List.any_eq_false]
   intro x hx
   rw [h x hx]; simp
  rw [this]; rfl
 | some i=>
  obtain ⟨hi,hp,_⟩:=List.findIdx?_eq_some_iff_getElem.1 h
  have:l.any f = true:=List.any_eq_true.2 ⟨_,List.getElem_mem hi,hp⟩
  rw [this]
  show decide (0 ≤ (i:Int)) = true
  simp
@[go_sem] theorem idx_lim (T:TypeId) (b o n c:Nat) (x:Int):oM Tryz.prog (.indexAddr 51 (.tmp 0) (.tmp 1)) T [.slice (some ⟨b,o,none⟩) n c,.int .i64 x] = onM (0 ≤ x ∧ x < n) (.pointer (some ⟨b,o + x.toNat * 3,none⟩)):=
 idx_row (K:=fun _ _=>True) (P:=Tryz.prog) (n:=3) 51 T (by kernel_rfl) (fun w=>by kernel_rfl) b o n c x
theorem un_lim:Tryz.prog.underlying 41 = some ((Tryz.prog.underlying 41).getD default):=by kernel_rfl
theorem IndexLim_ok {v F:Value} {l:List Lim} (f:Lim → Bool) (hl:SRow 3 (AtOf 3 VLim) w v l)
  (hF:∀ (w':World) (x:Lim) (cs:List Value) (K':VK) (T:TypeId),Bw w w' → x ∈ l → VLim w' cs x → (∀ w'',Below w'.heap.size w' w'' → K' (.bool (f x)) w'') → oM Tryz.prog (.call { callee:=.value (.tmp 0),args:=#[.tmp 1],argTypes:=#[41] }) T [F,.agg cs.toArray] K' w')
  (k:∀ w',Bw w w' → K (.int .i64 (fndI (l.findIdx? f))) w'):callM Tryz.prog 126 #[v,F] K w:=by
 apply sh_126_ok
 unfold sh_126
 obtain ⟨ad,c,rfl⟩:=hl.isSlice
 have hll:=hl.len
 repeat (any_goals ((with_reducible refine oG fun X Y=>?_); simp [go_sem]; apply Y; clear Y X))
 refine ⟨IxJ f l w,vsMu l.length,⟨bR,_,_,0,rfl,by omega,fun j r hj=>by omega⟩,?_⟩
 rintro _ _ w1 ⟨h1,u1,u2,i,rfl,hi,ha⟩
 by_cases hin:i = l.length
 ·repeat (any_goals (first
  | (with_reducible refine yO ?_)
  | ((with_reducible refine oG fun X Y=>?_); simp [go_sem]; apply Y; clear Y X)))
  have:l.findIdx? f = none:=by
   rw [List.findIdx?_eq_none_iff]
   intro x hx
   obtain ⟨j,hj⟩:=List.getElem?_of_mem hx
   exact ha j x (by have:=(gS hj).1; omega) hj
  rw [this] at k
  exact k _ h1
 ·have hil:i < l.length:=by omega
  have er:l[i]? = some l[i]:=gE hil
  have hilZ:(i:Int) < l.length:=by omega
  obtain ⟨b1,o1,rfl,hb1,cs,hcl,hcc,hV⟩:=(hl.next (atOf_stay lim_vstay) h1).at (i:=i) hil
  repeat (any_goals (first
  | (with_reducible refine yL ?_)
  | ((with_reducible refine oG fun X Y=>?_); simp [go_sem,hilZ]; apply Y; clear Y X)))
  refine row_load hcc un_lim (by kernel_rfl) (by rw [hcl]; kernel_rfl) ?_
  skip
  refine hF w1 _ cs _ _ h1 (List.mem_of_getElem? er) hV (fun w2 h2=>?_)
  cases hp:f l[i] with
  | true=>
   repeat (any_goals (with_reducible refine yL ?_))
   have:l.findIdx? f = some i:=by
    rw [List.findIdx?_eq_some_iff_getElem]
    exact ⟨hil,hp,fun j hj=>by rw [ha j _ hj (gE (by omega))]; simp⟩
   rw [this] at k
   exact k _ (h1.on h2)
  | false=>
   repeat (any_goals (first
   | (with_reducible refine yM ?_)
   | ((with_reducible refine oG fun X Y=>?_); simp [go_sem]; (try simp (disch:=omega) only [wrapI64,wrapU8,wrapU32,wrapU64]); apply Y; clear Y X)))
   refine ⟨⟨h1.on h2,_,_,i + 1,rfl,by omega,fun j r hj hr=>?_⟩,?_⟩
   ·by_cases hji:j = i
    ·subst hji
     rw [er] at hr
     cases hr
     exact hp
    ·exact ha j r (by omega) hr
   ·simp only [vsMu_eq]; omega
theorem ContainsLim_ok {v F:Value} {l:List Lim} (f:Lim → Bool) (hl:SRow 3 (AtOf 3 VLim) w v l)
  (hF:∀ (w':World) (x:Lim) (cs:List Value) (K':VK) (T:TypeId),Bw w w' → x ∈ l → VLim w' cs x → (∀ w'',Below w'.heap.size w' w'' → K' (.bool (f x)) w'') → oM Tryz.prog (.call { callee:=.value (.tmp 0),args:=#[.tmp 1],argTypes:=#[41] }) T [F,.agg cs.toArray] K' w')
  (k:∀ w',Bw w w' → K (.bool (l.any f)) w'):callM Tryz.prog 78 #[v,F] K w:=by
 apply sh_78_ok
 unfold sh_78
 refine IndexLim_ok f hl hF (fun w' hb=>?_)
 have e:=fnd_any f l
 repeat (any_goals ((with_reducible refine oG fun X Y=>?_); simp [go_sem]; apply Y; clear Y X))
 rw [e]
 exact k _ hb
@[go_sem] theorem idx_lnk (T:TypeId) (b o n c:Nat) (x:Int):oM Tryz.prog (.indexAddr 27 (.tmp 0) (.tmp 1)) T [.slice (some ⟨b,o,none⟩) n c,.int .i64 x] = onM (0 ≤ x ∧ x < n) (.pointer (some ⟨b,o + x.toNat * 9,none⟩)):=
 idx_row (K:=fun _ _=>True) (P:=Tryz.prog) (n:=9) 27 T (by kernel_rfl) (fun w=>by kernel_rfl) b o n c x
theorem un_lnk:Tryz.prog.underlying 86 = some ((Tryz.prog.underlying 86).getD default):=by kernel_rfl
theorem IndexLnk_ok {v F:Value} {l:List Lnk} (f:Lnk → Bool) (hl:SRow 9 (AtOf 9 VLnk) w v l)
  (hF:∀ (w':World) (x:Lnk) (cs:List Value) (K':VK) (T:TypeId),Bw w w' → x ∈ l → VLnk w' cs x → (∀ w'',Below w'.heap.size w' w'' → K' (.bool (f x)) w'') → oM Tryz.prog (.call { callee:=.value (.tmp 0),args:=#[.tmp 1],argTypes:=#[86] }) T [F,.agg cs.toArray] K' w')
  (k:∀ w',Bw w w' → K (.int .i64 (fndI (l.findIdx? f))) w'):callM Tryz.prog 214 #[v,F] K w:=by
 apply sh_214_ok
 unfold sh_214
 obtain ⟨ad,c,rfl⟩:=hl.isSlice
 have hll:=hl.len
 repeat (any_goals ((with_reducible refine oG fun X Y=>?_); simp [go_sem]; apply Y; clear Y X))
 refine ⟨IxJ f l w,vsMu l.length,⟨bR,_,_,0,rfl,by omega,fun j r hj=>by omega⟩,?_⟩
 rintro _ _ w1 ⟨h1,u1,u2,i,rfl,hi,ha⟩
 by_cases hin:i = l.length
 ·repeat (any_goals (first
  | (with_reducible refine yO ?_)
  | ((with_reducible refine oG fun X Y=>?_); simp [go_sem]; apply Y; clear Y X)))
  have:l.findIdx? f = none:=by
   rw [List.findIdx?_eq_none_iff]
   intro x hx
   obtain ⟨j,hj⟩:=List.getElem?_of_mem hx
   exact ha j x (by have:=(gS hj).1; omega) hj
  rw [this] at k
  exact k _ h1
 ·have hil:i < l.length:=by omega
  have er:l[i]? = some l[i]:=gE hil
  have hilZ:(i:Int) < l.length:=by omega
  obtain ⟨b1,o1,rfl,hb1,cs,hcl,hcc,hV⟩:=(hl.next (atOf_stay lnk_vstay) h1).at (i:=i) hil
  repeat (any_goals (first
  | (with_reducible refine yL ?_)
  | ((with_reducible refine oG fun X Y=>?_); simp [go_sem,hilZ]; apply Y; clear Y X)))
  refine row_load hcc un_lnk (by kernel_rfl) (by rw [hcl]; kernel_rfl) ?_
  skip
  refine hF w1 _ cs _ _ h1 (List.mem_of_getElem? er) hV (fun w2 h2=>?_)
  cases hp:f l[i] with
  | true=>
   repeat (any_goals (with_reducible refine yL ?_))
   have:l.findIdx? f = some i:=by
    rw [List.findIdx?_eq_some_iff_getElem]
    exact ⟨hil,hp,fun j hj=>by rw [ha j _ hj (gE (by omega))]; simp⟩
   rw [this] at k
   exact k _ (h1.on h2)
  | false=>
   repeat (any_goals (first
   | (with_reducible refine yM ?_)
   | ((with_reducible refine oG fun X Y=>?_); simp [go_sem]; (try simp (disch:=omega) only [wrapI64,wrapU8,wrapU32,wrapU64]); apply Y; clear Y X)))
   refine ⟨⟨h1.on h2,_,_,i + 1,rfl,by omega,fun j r hj hr=>?_⟩,?_⟩
   ·by_cases hji:j = i
    ·subst hji
     rw [er] at hr
     cases hr
     exact hp
    ·exact ha j r (by omega) hr
   ·simp only [vsMu_eq]; omega
theorem ContainsLnk_ok {v F:Value} {l:List Lnk} (f:Lnk → Bool) (hl:SRow 9 (AtOf 9 VLnk) w v l)
  (hF:∀ (w':World) (x:Lnk) (cs:List Value) (K':VK) (T:TypeId),Bw w w' → x ∈ l → VLnk w' cs x → (∀ w'',Below w'.heap.size w' w'' → K' (.bool (f x)) w'') → oM Tryz.prog (.call { callee:=.value (.tmp 0),args:=#[.tmp 1],argTypes:=#[86] }) T [F,.agg cs.toArray] K' w')
  (k:∀ w',Bw w w' → K (.bool (l.any f)) w'):callM Tryz.prog 184 #[v,F] K w:=by
 apply sh_184_ok
 unfold sh_184
 refine IndexLnk_ok f hl hF (fun w' hb=>?_)
 have e:=fnd_any f l
 repeat (any_goals ((with_reducible refine oG fun X Y=>?_); simp [go_sem]; apply Y; clear Y X))
 rw [e]
 exact k _ hb
@[go_sem] theorem idx_hld (T:TypeId) (b o n c:Nat) (x:Int):oM Tryz.prog (.indexAddr 52 (.tmp 0) (.tmp 1)) T [.slice (some ⟨b,o,none⟩) n c,.int .i64 x] = onM (0 ≤ x ∧ x < n) (.pointer (some ⟨b,o + x.toNat * 14,none⟩)):=
 idx_row (K:=fun _ _=>True) (P:=Tryz.prog) (n:=14) 52 T (by kernel_rfl) (fun w=>by kernel_rfl) b o n c x
theorem un_hld:Tryz.prog.underlying 29 = some ((Tryz.prog.underlying 29).getD default):=by kernel_rfl
@[go_sem] theorem idx_itm (T:TypeId) (b o n c:Nat) (x:Int):oM Tryz.prog (.indexAddr 59 (.tmp 0) (.tmp 1)) T [.slice (some ⟨b,o,none⟩) n c,.int .i64 x] = onM (0 ≤ x ∧ x < n) (.pointer (some ⟨b,o + x.toNat * 18,none⟩)):=
 idx_row (K:=fun _ _=>True) (P:=Tryz.prog) (n:=18) 59 T (by kernel_rfl) (fun w=>by kernel_rfl) b o n c x
theorem un_itm:Tryz.prog.underlying 67 = some ((Tryz.prog.underlying 67).getD default):=by kernel_rfl
theorem IndexItm_ok {v F:Value} {l:List Itm} (f:Itm → Bool) (hl:SRow 18 (AtOf 18 VItm) w v l)
  (hF:∀ (w':World) (x:Itm) (cs:List Value) (K':VK) (T:TypeId),Bw w w' → x ∈ l → VItm w' cs x → (∀ w'',Below w'.heap.size w' w'' → K' (.bool (f x)) w'') → oM Tryz.prog (.call { callee:=.value (.tmp 0),args:=#[.tmp 1],argTypes:=#[67] }) T [F,.agg cs.toArray] K' w')
  (k:∀ w',Bw w w' → K (.int .i64 (fndI (l.findIdx? f))) w'):callM Tryz.prog 121 #[v,F] K w:=by
 apply sh_121_ok
 unfold sh_121
 obtain ⟨ad,c,rfl⟩:=hl.isSlice
 have hll:=hl.len
 repeat (any_goals ((with_reducible refine oG fun X Y=>?_); simp [go_sem]; apply Y; clear Y X))
 refine ⟨IxJ f l w,vsMu l.length,⟨bR,_,_,0,rfl,by omega,fun j r hj=>by omega⟩,?_⟩
 rintro _ _ w1 ⟨h1,u1,u2,i,rfl,hi,ha⟩
 by_cases hin:i = l.length
 ·repeat (any_goals (first
  | (with_reducible refine yO ?_)
  | ((with_reducible refine oG fun X Y=>?_); simp [go_sem]; apply Y; clear Y X)))
  have:l.findIdx? f = none:=by
   rw [List.findIdx?_eq_none_iff]
   intro x hx
   obtain ⟨j,hj⟩:=List.getElem?_of_mem hx
   exact ha j x (by have:=(gS hj).1; omega) hj
  rw [this] at k
  exact k _ h1
 ·have hil:i < l.length:=by omega
  have er:l[i]? = some l[i]:=gE hil
  have hilZ:(i:Int) < l.length:=by omega
  obtain ⟨b1,o1,rfl,hb1,cs,hcl,hcc,hV⟩:=(hl.next (atOf_stay itm_vstay) h1).at (i:=i) hil
  repeat (any_goals (first
  | (with_reducible refine yL ?_)
  | ((with_reducible refine oG fun X Y=>?_); simp [go_sem,hilZ]; apply Y; clear Y X)))
  refine row_load hcc un_itm (by kernel_rfl) (by rw [hcl]; kernel_rfl) ?_
  skip
  refine hF w1 _ cs _ _ h1 (List.mem_of_getElem? er) hV (fun w2 h2=>?_)
  cases hp:f l[i] with
  | true=>
   repeat (any_goals (with_reducible refine yL ?_))
   have:l.findIdx? f = some i:=by
    rw [List.findIdx?_eq_some_iff_getElem]
    exact ⟨hil,hp,fun j hj=>by rw [ha j _ hj (gE (by omega))]; simp⟩
   rw [this] at k
   exact k _ (h1.on h2)
  | false=>
   repeat (any_goals (first
   | (with_reducible refine yM ?_)
   | ((with_reducible refine oG fun X Y=>?_); simp [go_sem]; (try simp (disch:=omega) only [wrapI64,wrapU8,wrapU32,wrapU64]); apply Y; clear Y X)))
   refine ⟨⟨h1.on h2,_,_,i + 1,rfl,by omega,fun j r hj hr=>?_⟩,?_⟩
   ·by_cases hji:j = i
    ·subst hji
     rw [er] at hr
     cases hr
     exact hp
    ·exact ha j r (by omega) hr
   ·simp only [vsMu_eq]; omega
theorem ContainsItm_ok {v F:Value} {l:List Itm} (f:Itm → Bool) (hl:SRow 18 (AtOf 18 VItm) w v l)
  (hF:∀ (w':World) (x:Itm) (cs:List Value) (K':VK) (T:TypeId),Bw w w' → x ∈ l → VItm w' cs x → (∀ w'',Below w'.heap.size w' w'' → K' (.bool (f x)) w'') → oM Tryz.prog (.call { callee:=.value (.tmp 0),args:=#[.tmp 1],argTypes:=#[67] }) T [F,.agg cs.toArray] K' w')
  (k:∀ w',Bw w w' → K (.bool (l.any f)) w'):callM Tryz.prog 154 #[v,F] K w:=by
 apply sh_154_ok
 unfold sh_154
 refine IndexItm_ok f hl hF (fun w' hb=>?_)
 have e:=fnd_any f l
 repeat (any_goals ((with_reducible refine oG fun X Y=>?_); simp [go_sem]; apply Y; clear Y X))
 rw [e]
 exact k _ hb
theorem within_ok (n lo hi:Int) (k:K (.bool (PuSpec.within n lo hi)) w):callM Tryz.prog 68 #[.int .i64 n,.int .i64 lo,.int .i64 hi] K w:=by
 apply sh_68_ok
 unfold sh_68
 unfold PuSpec.within at k
 by_cases h:lo ≤ n
 ·rw [decide_eq_true h,bT] at k
  repeat (any_goals (first
  | (with_reducible first|refine pureM_in ?_|refine zA ?_|refine yB ?_)
  | ((with_reducible refine oG fun X Y=>?_); simp [go_sem,h]; apply Y; clear Y X)))
  exact k
 ·rw [decide_eq_false h,bF] at k
  repeat (any_goals (first
  | (with_reducible first|refine zB ?_|refine yC ?_)
  | ((with_reducible refine oG fun X Y=>?_); simp [go_sem,h]; apply Y; clear Y X)))
  exact k
theorem isTime_ok (n:Int) (k:K (.bool (timeB n)) w):callM Tryz.prog 65 #[.int .i64 n] K w:=by
 apply sh_65_ok
 unfold sh_65
 exact within_ok _ _ _ k
theorem ValidLimit_ok (l:Lim) (k:∀ w',Bw w w' → K (.bool (limM l)) w'):callM Tryz.prog 19 #[limV l] K w:=by
 apply sh_19_ok
 unfold sh_19
 refine box_kn (cs:=limC l) rfl (.start w) fun b1 W hk hb1 hbb=>?_
 have k:=k _ hk.below
 unfold limM at k
 repeat (any_goals ((with_reducible refine oG fun X Y=>?_); simp [go_sem,hk.cells]; apply Y; clear Y X))
 refine within_ok _ _ _ ?_
 cases h1:PuSpec.within l.count 1 4096 with
 | false=>
  rw [h1,bF,bF] at k
  repeat (any_goals (with_reducible first|refine zB ?_|refine yC ?_))
  exact k
 | true=>
 rw [h1,bT] at k
 repeat (any_goals (first
 | (with_reducible refine zA ?_)
 | ((with_reducible refine oG fun X Y=>?_); simp [go_sem,hk.cells]; apply Y; clear Y X)))
 refine isTime_ok _ ?_
 cases h2:timeB l.length with
 | false=>
  rw [h2,bF] at k
  repeat (any_goals (with_reducible first|refine zB ?_|((refine idPick ?_); first|refine yB ?_|refine yC ?_)))
  exact k
 | true=>
 rw [h2,bT] at k
 repeat (any_goals (first
 | (with_reducible first|refine zA ?_|refine yB ?_)
 | ((with_reducible refine oG fun X Y=>?_); simp [go_sem,hk.cells]; apply Y; clear Y X)))
 refine within_ok _ _ _ ?_
 repeat (any_goals (with_reducible refine yB ?_))
 exact k
theorem Window_ok (l:Lim) (t:Int) (k:∀ w',Bw w w' → K (.int .i64 (windowM l t)) w'):callM Tryz.prog 20 #[limV l,.int .i64 t] K w:=by
 apply sh_20_ok
 unfold sh_20
 refine box_kn (cs:=limC l) rfl (.start w) fun b1 W hk hb1 hbb=>?_
 repeat (any_goals ((with_reducible refine oG fun X Y=>?_); simp [go_sem,hk.cells]; apply Y; clear Y X))
 refine ValidLimit_ok l (fun w1 h1=>?_)
 have hk:=hk.next h1
 have k:=k _ hk.below
 unfold windowM at k
 cases hl:limM l with
 | false=>
  rw [hl] at k
  repeat (any_goals (first
  | (with_reducible first|refine zD ?_|refine yB ?_|refine yL ?_)
  | ((with_reducible refine oG fun X Y=>?_); simp [go_sem,hk.cells]; apply Y; clear Y X)))
  exact k
 | true=>
 rw [hl] at k
 repeat (any_goals (first
 | (with_reducible first|refine pureM_in ?_|refine zC ?_)
 | ((with_reducible refine oG fun X Y=>?_); simp [go_sem,hk.cells]; apply Y; clear Y X)))
 refine isTime_ok _ ?_
 cases ht:timeB t with
 | false=>
  rw [ht] at k
  repeat (any_goals (first
  | (with_reducible first|refine zC ?_|refine yC ?_|refine yL ?_)
  | ((with_reducible refine oG fun X Y=>?_); simp [go_sem,hk.cells]; apply Y; clear Y X)))
  exact k
 | true=>
 rw [ht] at k
 simp only [Bool.not_true,Bool.or_self,Bool.false_eq_true,if_false] at k
 have ht':=(timeB_iff t).1 ht
 have hl':=limM_len hl
 by_cases h0:l.length = 0
 ·rw [if_pos h0] at k
  repeat (any_goals (first
  | (with_reducible first|refine zC ?_|refine yC ?_|((refine idCond ?_); first|refine yL ?_|refine yM ?_))
  | ((with_reducible refine oG fun X Y=>?_); simp [go_sem,hk.cells,h0]; apply Y; clear Y X)))
  exact k
 ·rw [if_neg h0] at k
  have hq:t.tdiv l.length = t / l.length:=Int.tdiv_eq_ediv_of_nonneg (by omega)
  have hd0:0 ≤ t / l.length:=Int.ediv_nonneg (by omega) (by omega)
  have hd1:t / l.length ≤ t:=Int.ediv_le_self _ (by omega)
  repeat (any_goals (first
  | (with_reducible first|refine zC ?_|refine yC ?_|refine yM ?_)
  | ((with_reducible refine oG fun X Y=>?_); simp [go_sem,hk.cells,h0,hq]; (try simp (disch:=omega) only [wrapI64,wrapU8,wrapU32,wrapU64]); apply Y; clear Y X)))
  exact k
theorem Begins_ok (l:Lim) (n:Int) (k:∀ w',Bw w w' → K (.int .i64 (beginsM l n)) w'):callM Tryz.prog 21 #[limV l,.int .i64 n] K w:=by
 apply sh_21_ok
 unfold sh_21
 refine box_kn (cs:=limC l) rfl (.start w) fun b1 W hk hb1 hbb=>?_
 repeat (any_goals ((with_reducible refine oG fun X Y=>?_); simp [go_sem,hk.cells]; apply Y; clear Y X))
 refine ValidLimit_ok l (fun w1 h1=>?_)
 have hk:=hk.next h1
 have k:=k _ hk.below
 unfold beginsM at k
 cases hl:limM l with
 | false=>
  rw [hl] at k
  repeat (any_goals (first
  | (with_reducible first|refine zD ?_|refine yB ?_|refine yL ?_)
  | ((with_reducible refine oG fun X Y=>?_); simp [go_sem,hk.cells]; apply Y; clear Y X)))
  exact k
 | true=>
 rw [hl] at k
 repeat (any_goals (first
 | (with_reducible first|refine pureM_in ?_|refine zC ?_)
 | ((with_reducible refine oG fun X Y=>?_); simp [go_sem,hk.cells]; apply Y; clear Y X)))
 refine isTime_ok _ ?_
 cases ht:timeB n with
 | false=>
  rw [ht] at k
  repeat (any_goals (first
  | (with_reducible first|((refine idGd ?_); first|refine zC ?_|refine zD ?_)|((refine idPick ?_); first|refine yB ?_|refine yC ?_)|refine yL ?_)
  | ((with_reducible refine oG fun X Y=>?_); simp [go_sem,hk.cells]; apply Y; clear Y X)))
  exact k
 | true=>
 rw [ht] at k
 have ht':=(timeB_iff n).1 ht
 have hl':=limM_len hl
 have hm0:0 ≤ n * l.length:=Int.mul_nonneg (by omega) (by omega)
 have hm1:n * l.length ≤ 2147483648 * 2147483648:=Int.mul_le_mul (by omega) (by omega) (by omega) (by omega)
 have hw:IntKind.i64.wrap (n * l.length) = n * l.length:=wrapI64 _ (by omega) (by omega)
 repeat (any_goals (first
 | (with_reducible first|refine pureM_in ?_|refine zC ?_|refine yC ?_)
 | ((with_reducible refine oG fun X Y=>?_); simp [go_sem,hk.cells,hw]; apply Y; clear Y X)))
 refine isTime_ok _ ?_
 cases hb:timeB (n * l.length) with
 | false=>
  rw [hb] at k
  repeat (any_goals (first
  | (with_reducible first|refine zC ?_|refine yC ?_|refine yL ?_)
  | ((with_reducible refine oG fun X Y=>?_); simp [go_sem,hk.cells,hw]; apply Y; clear Y X)))
  exact k
 | true=>
  rw [hb] at k
  repeat (any_goals (first
  | (with_reducible first|refine zC ?_|refine yC ?_|refine yM ?_)
  | ((with_reducible refine oG fun X Y=>?_); simp [go_sem,hk.cells,hw]; apply Y; clear Y X)))
  exact k
end
end Go.Proofs
namespace Go.Proofs
open Go Go.Sh Go.RowKit FdSpec TkSpec CodeSpec
section
@[go_sem] theorem eql_tkt (T:TypeId) (a b:Tkt):oM Tryz.prog (.binOp .eql 26 (.tmp 0) (.tmp 1) 26) T [tktV a,tktV b] = pureM (.bool (decide (a = b))):=by
 funext K w
 have h1:(eqGuard .eql 26 (.tmp 0) (.tmp 1) (tktV a) (tktV b)).run Tryz.prog w = .ok () w:=run_eqGuard_agg w _ _ _ _ _ _ (by kernel_rfl)
 have h2:(binOp .eql 26 (tktV a) (tktV b)).run Tryz.prog w = .ok (.bool (decide (a = b))) w:=by
  rw [run_eql_struct,run_equalIn_agg w 9999 26 _ _ (by kernel_rfl) (by kernel_rfl)]
  have u3:=Tryz.underlying3
  have e:decide (a = b) = ((a.mark == b.mark) && (a.first == b.first) && (a.z == b.z) && (a.a == b.a) && (a.b == b.b) && (a.r == b.r)):=by
   obtain ⟨a1,a2,a3,a4,a5,a6⟩:=a
   obtain ⟨b1,b2,b3,b4,b5,b6⟩:=b
   simp [Tkt.mk.injEq,and_assoc,Bool.and_assoc]
   rfl
  rw [e]
  simp [go_sem,Program.fieldsOf,Tryz.underlying26,Op.eqFields,part,u3]
  repeat' split
  all_goals simp_all
 unfold oM opM
 simp [xop,execOp,evalL,evE,h1,h2]
 exact Iff.rfl
end
end Go.Proofs
namespace Go.Proofs
open Go.Sh Tryz
variable {a0 a1 a2:Value} {K:VK} {w:World}
def sh_60 (a0:Value) (K:VK) (w:World):Prop:=
 oM prog (.box 26 (.tmp 0)) 0 [a0] (fun v1=>
 kF 26 0 v1 fun v3=>
 kL 3 v3 fun v4=>
 kF 26 1 v1 fun v5=>
 kL 3 v5 fun v6=>
 kF 26 2 v1 fun v7=>
 kL 3 v7 fun v8=>
 kF 26 3 v1 fun v9=>
 kL 3 v9 fun v10=>
 kF 26 4 v1 fun v11=>
 kL 3 v11 fun v12=>
 kF 26 5 v1 fun v13=>
 kL 3 v13 fun v14=>
 oM prog (.buildSlice 22 6 #[(0,(.tmp 0)),(1,(.tmp 1)),(2,(.tmp 2)),(3,(.tmp 3)),(4,(.tmp 4)),(5,(.tmp 5))]) 22 [v4,v6,v8,v10,v12,v14] fun v15=>
 K v15) w
theorem sh_60_ok (h:sh_60 a0 K w):callM prog 60 #[a0] K w:=
 cZ (fun _=>0) func60 h
def sh_15 (a0:Value) (K:VK) (w:World):Prop:=
 oM prog (.box 29 (.tmp 0)) 0 [a0] (fun v1=>
 kF 29 3 v1 fun v9=>
 kL 24 v9 fun v10=>
 kA 24 fun v3=>
 kS 24 v3 v10 fun _=>
 kH fun C_5 w=>(((true:Bool) = true) ∧ (jF 29 0 v1 C_5 fun v11=>
 jL 3 v11 C_5 fun v12=>
 jF 29 1 v1 C_5 fun v13=>
 jL 3 v13 C_5 fun v14=>
 jF 29 2 v1 C_5 fun v16=>
 jL 22 v16 C_5 fun v17=>
 jF 24 0 v3 C_5 fun v18=>
 jL 3 v18 C_5 fun v19=>
 jF 24 1 v3 C_5 fun v20=>
 jL 3 v20 C_5 fun v21=>
 jF 24 2 v3 C_5 fun v22=>
 jL 3 v22 C_5 fun v23=>
 jF 24 3 v3 C_5 fun v25=>
 jL 22 v25 C_5 fun v26=>
 jF 29 4 v1 C_5 fun v27=>
 jL 26 v27 C_5 fun v28=>
 pureH (.int .i64 0) C_5 fun v32=>
 ∃ S_23:World → WK,xR S_23 fun R_24=>
 (∀ w,C_5 w → (oM prog (.buildSlice 22 2 #[(0,(.tmp 0)),(1,(.tmp 1))]) 22 [v12,v14] (xK C_5 S_23 R_24 w) w)) ∧
 (xR S_23 fun R_25=>
 (∀ w,C_5 w → (oM prog (.buildSlice 22 3 #[(0,(.tmp 0)),(1,(.tmp 1)),(2,(.tmp 2))]) 22 [v19,v21,v23] (xK C_5 S_23 R_25 w) w)) ∧
 (xR S_23 fun R_26=>
 (∀ w,C_5 w → (callM prog 60 #[v28] (xK C_5 S_23 R_26 w) w)) ∧
 (xR S_23 fun R_27=>
 (∀ w,C_5 w → ∀ v15,R_24 v15 w → ∀ v24,R_25 v24 w → ∀ v29,R_26 v29 w → (oM prog (.buildSlice 124 5 #[(0,(.tmp 0)),(1,(.tmp 1)),(2,(.tmp 2)),(3,(.tmp 3)),(4,(.tmp 4))]) 124 [v15,v17,v24,v26,v29] (xK C_5 S_23 R_27 w) w)) ∧
 (xR S_23 fun R_31=>
 (∀ w,C_5 w → ∀ v30,R_27 v30 w → (kN 124 v30 (xK C_5 S_23 R_31 w) w)) ∧
 (∀ w,C_5 w → ∀ v15,R_24 v15 w → ∀ v24,R_25 v24 w → ∀ v29,R_26 v29 w → ∀ v30,R_27 v30 w → ∀ v31,R_31 v31 w → (kQ [undef,(.string ⟨#[]⟩),v32] (fun J_38 m_39 l_40 u_l_40 w0_l_40=>(fun w=>(
 kB .lss 3 0 (l_40.getD 2 undef) v31 (fun v33=>
 kO v33 (kI 124 v30 (l_40.getD 2 undef) fun v34=>
 kL 22 v34 fun v35=>
 callM prog 61 #[v35] fun v38=>
 kB .add 9 9 (l_40.getD 1 undef) v38 fun v39=>
 kB .add 3 3 (l_40.getD 2 undef) (.int .i64 1) fun v40=>
 kJ J_38 m_39 l_40 w0_l_40 [v35,v39,v40])
 (kF 29 5 v1 fun v42=>
 kL 27 v42 fun v43=>
 kN 27 v43 fun v44=>
 callM prog 62 #[v44] fun v45=>
 kB .add 9 9 (l_40.getD 1 undef) v45 fun v46=>
 kF 29 5 v1 fun v47=>
 kL 27 v47 fun v48=>
 kN 27 v48 fun v49=>
 kQ [v46,(.int .i64 0)] fun J_55 m_56 l_57 u_l_57 w0_l_57=>(fun w=>(
 kB .lss 3 0 (l_57.getD 1 undef) v49 (fun v51=>
 kO v51 (kI 27 v48 (l_57.getD 1 undef) fun v52=>
 kL 86 v52 fun v53=>
 kA 86 fun v8=>
 kS 86 v8 v53 fun _=>
 kH fun C_62 w=>(((true:Bool) = true) ∧ (pureH (l_57.getD 0 undef) C_62 fun v54=>
 jF 86 0 v8 C_62 fun v55=>
 jL 26 v55 C_62 fun v56=>
 jF 86 1 v8 C_62 fun v59=>
 jF 84 0 v59 C_62 fun v60=>
 jL 3 v60 C_62 fun v61=>
 jF 86 1 v8 C_62 fun v64=>
 jF 84 1 v64 C_62 fun v65=>
 jL 22 v65 C_62 fun v66=>
 jF 86 2 v8 C_62 fun v69=>
 jL 9 v69 C_62 fun v70=>
 ∃ S_74:World → WK,xR S_74 fun R_75=>
 (∀ w,C_62 w → (callM prog 60 #[v56] (xK C_62 S_74 R_75 w) w)) ∧
 (xR S_74 fun R_76=>
 (∀ w,C_62 w → ∀ v57,R_75 v57 w → (callM prog 61 #[v57] (xK C_62 S_74 R_76 w) w)) ∧
 (xR S_74 fun R_78=>
 (∀ w,C_62 w → (callM prog 63 #[v61] (xK C_62 S_74 R_78 w) w)) ∧
 (xR S_74 fun R_79=>
 (∀ w,C_62 w → ∀ v58,R_76 v58 w → ∀ v62,R_78 v62 w → (kB .add 9 9 v58 v62 (xK C_62 S_74 R_79 w) w)) ∧
 (xR S_74 fun R_82=>
 (∀ w,C_62 w → (callM prog 61 #[v66] (xK C_62 S_74 R_82 w) w)) ∧
 (xR S_74 fun R_83=>
 (∀ w,C_62 w → ∀ v63,R_79 v63 w → ∀ v67,R_82 v67 w → (kB .add 9 9 v63 v67 (xK C_62 S_74 R_83 w) w)) ∧
 (xR S_74 fun R_86=>
 (∀ w,C_62 w → (callM prog 64 #[v70] (xK C_62 S_74 R_86 w) w)) ∧
 (xR S_74 fun R_87=>
 (∀ w,C_62 w → ∀ v68,R_83 v68 w → ∀ v71,R_86 v71 w → (kB .add 9 9 v68 v71 (xK C_62 S_74 R_87 w) w)) ∧
 (∀ w,C_62 w → ∀ v57,R_75 v57 w → ∀ v58,R_76 v58 w → ∀ v62,R_78 v62 w → ∀ v63,R_79 v63 w → ∀ v67,R_82 v67 w → ∀ v68,R_83 v68 w → ∀ v71,R_86 v71 w → ∀ v72,R_87 v72 w → (
 kB .add 9 9 v54 v72 (fun v73=>
 kB .add 3 3 (l_57.getD 1 undef) (.int .i64 1) fun v74=>
 kJ J_55 m_56 l_57 w0_l_57 [v73,v74]) w))))))))))))
 (K (l_57.getD 0 undef))) w)) w0_l_57)) w)) w0_l_40) w))))))))) w
theorem sh_15_ok (h:sh_15 a0 K w):callM prog 15 #[a0] K w:=
 cZ (mz [(3,.free [0,1,2,3,5,6,7,8,9,10,11,12,14,15,16,17,21] [4,13,18,19,20] []),(12,.free [0,1,2,5,6,7,10,11,12,15,16] [3,4,8,9,13,14,17,18] [19,20])]) func15 h
def sh_17 (a0 a1:Value) (K:VK) (w:World):Prop:=
 callM prog 65 #[a0] (fun v6=>
 kU v6 fun v7 w=>
 gF v7 (pureM a1) (fun v9 w=>
 gF v7 (kN 9 v9) (fun v10 w=>
 gF v7 (kB .gtr 3 4 v10 (.int .i64 20)) (fun v11=>
 kP v7 (.bool true) v11 fun v12=>
 kO v12 (K (.string ⟨#[]⟩))
 (callM prog 62 #[a0] fun v14=>
 callM prog 64 #[a1] fun v16=>
 kB .add 9 9 v14 v16 fun v17=>
 K v17)) w) w) w) w
theorem sh_17_ok (h:sh_17 a0 a1 K w):callM prog 17 #[a0,a1] K w:=
 cZ (fun _=>0) func17 h
def sh_18 (a0:Value) (K:VK) (w:World):Prop:=
 callM prog 57 #[a0] (fun v7=>
 callM prog 66 #[v7] fun v9=>
 callM prog 67 #[v7] fun v11=>
 callM prog 59 #[v7] fun v13=>
 kU v13 fun v14 w=>
 gF v14 (pureM v9) (fun v16 w=>
 gF v14 (pureM v11) (fun v17 w=>
 gF v14 (callM prog 17 #[v16,v17]) (fun v18 w=>
 gF v14 (oM prog (.binOp .eql 9 (.tmp 0) (.const (.string ⟨#[]⟩)) 9) 4 [v18]) (fun v19=>
 kP v14 (.bool true) v19 fun v20=>
 kO v20 (K (.tuple #[(.int .i64 0),(.string ⟨#[]⟩),(.bool false)]))
 (K (.tuple #[v9,v11,(.bool true)]))) w) w) w) w) w
theorem sh_18_ok (h:sh_18 a0 K w):callM prog 18 #[a0] K w:=
 cZ (fun _=>0) func18 h
def sh_22 (a0 a1:Value) (K:VK) (w:World):Prop:=
 callM prog 18 #[a0] (fun v13=>
 kE 0 3 v13 fun v14=>
 kE 1 9 v13 fun v15=>
 kE 2 4 v13 fun v16=>
 callM prog 18 #[a1] fun v19=>
 kE 0 3 v19 fun v20=>
 kE 1 9 v19 fun v21=>
 kE 2 4 v19 fun v22 w=>
 gT v16 (pureM v22) (fun v25=>
 kP v16 v25 (.bool false) fun v26 w=>
 gT v26 (pureM v14) (fun v28 w=>
 gT v26 (pureM v20) (fun v29 w=>
 gT v26 (kB .leq 3 4 v28 v29) (fun v30=>
 kP v26 v30 (.bool false) fun v31 w=>
 gT v31 (pureM v21) (fun v33 w=>
 gT v31 (oM prog (.binOp .eql 9 (.tmp 0) (.const (.string ⟨#[]⟩)) 9) 4 [v33]) (fun v34 w=>
 gT v31 (pureM v34) (fun v35 w=>
 gF v35 (pureM v15) (fun v36 w=>
 gF v35 (pureM v21) (fun v37 w=>
 gF v35 (kB .eql 9 4 v36 v37) (fun v38 w=>
 gT v31 (kP v35 (.bool true) v38) (fun v39=>
 kP v31 v39 (.bool false) fun v40=>
 K v40) w) w) w) w) w) w) w) w) w) w) w) w
theorem sh_22_ok (h:sh_22 a0 a1 K w):callM prog 22 #[a0,a1] K w:=
 cZ (fun _=>0) func22 h
def sh_108 (a0 a1:Value) (K:VK) (w:World):Prop:=
 oM prog (.nilCheck (.tmp 0)) 0 [a0] (fun v7=>
 kF 121 0 v7 fun v8=>
 kL 118 v8 fun v9=>
 callM prog 109 #[v9] fun v10=>
 kN 22 v10 fun v12=>
 kB .eql 3 4 v12 a1 fun v14=>
 kO v14 (K v10)
 (oM prog (.nilCheck (.tmp 0)) 0 [a0] fun v17=>
 kF 121 1 v17 fun v18=>
 kS 4 v18 (.bool true) fun _=>
 oM prog (.makeSlice 22 (.tmp 0) (.tmp 1)) 22 [a1,a1] fun v20=>
 K v20)) w
theorem sh_108_ok (h:sh_108 a0 a1 K w):callM prog 108 #[a0,a1] K w:=
 cZ (fun _=>0) func108 h
def sh_110 (a0:Value) (K:VK) (w:World):Prop:=
 kA 26 (fun v2=>
 callM prog 108 #[a0,(.int .i64 6)] fun v5=>
 kH fun C_3 w=>(((true:Bool) = true) ∧ (pureH v5 C_3 fun v6=>
 jI 22 v6 (.int .i64 0) C_3 fun v7=>
 jL 3 v7 C_3 fun v8=>
 pureH v5 C_3 fun v9=>
 jI 22 v9 (.int .i64 1) C_3 fun v10=>
 jL 3 v10 C_3 fun v11=>
 pureH v5 C_3 fun v12=>
 jI 22 v12 (.int .i64 2) C_3 fun v13=>
 jL 3 v13 C_3 fun v14=>
 pureH v5 C_3 fun v15=>
 jI 22 v15 (.int .i64 3) C_3 fun v16=>
 jL 3 v16 C_3 fun v17=>
 pureH v5 C_3 fun v18=>
 jI 22 v18 (.int .i64 4) C_3 fun v19=>
 jL 3 v19 C_3 fun v20=>
 pureH v5 C_3 fun v21=>
 jI 22 v21 (.int .i64 5) C_3 fun v22=>
 jL 3 v22 C_3 fun v23=>
 ∃ S_22:World → WK,∀ w,C_3 w → (
 oM prog (.build 26 #[(0,(.tmp 0)),(1,(.tmp 1)),(2,(.tmp 2)),(3,(.tmp 3)),(4,(.tmp 4)),(5,(.tmp 5))]) 26 [v8,v11,v14,v17,v20,v23] (fun v24=>
 kS 26 v2 v24 fun _=>
 kR 26 v2 K) w)))) w
theorem sh_110_ok (h:sh_110 a0 K w):callM prog 110 #[a0] K w:=
 cZ (fun _=>(fz 18 0 2)) func110 h
def sh_14 (a0:Value) (K:VK) (w:World):Prop:=
 kA 29 (fun v2=>
 callM prog 57 #[a0] fun v7=>
 oM prog (.build 121 #[(0,(.tmp 0))]) 121 [v7] fun v8=>
 oM prog (.box 121 (.tmp 0)) 117 [v8] fun v9=>
 callM prog 58 #[v9] fun v11=>
 kA 29 fun v5=>
 kS 29 v5 v11 fun _=>
 oM prog (.nilCheck (.tmp 0)) 0 [v9] fun v13=>
 kF 121 1 v13 fun v14=>
 kL 4 v14 fun v15 w=>
 gF v15 (pureM v9) (fun v17 w=>
 gF v15 (oM prog (.nilCheck (.tmp 0)) 0 [v17]) (fun v18 w=>
 gF v15 (kF 121 0 v18) (fun v19 w=>
 gF v15 (kL 118 v19) (fun v20 w=>
 gF v15 (callM prog 59 #[v20]) (fun v21 w=>
 gF v15 (kU v21) (fun v22=>
 kP v15 (.bool true) v22 fun v23=>
 kO v23 (oM prog (.build 29 #[]) 29 [] fun v24=>
 kS 29 v2 v24 fun _ w=>
 ∃ r_18,(do loadVar 29 (← asAddr v2):Sem Value).run prog w = .ok r_18 w ∧ K (.tuple #[r_18,(.bool false)]) w)
 (kL 29 v5 fun v25=>
 kS 29 v2 v25 fun _ w=>
 ∃ r_20,(do loadVar 29 (← asAddr v2):Sem Value).run prog w = .ok r_20 w ∧ K (.tuple #[r_20,(.bool true)]) w)) w) w) w) w) w) w) w
theorem sh_14_ok (h:sh_14 a0 K w):callM prog 14 #[a0] K w:=
 cZ (fun _=>0) func14 h
def sh_99 (a0 a1 a2:Value) (K:VK) (w:World):Prop:=
 oM prog (.box 50 (.tmp 0)) 0 [a0] (fun v3=>
 oM prog (.box 29 (.tmp 0)) 0 [a2] fun v5=>
 kH fun C_3 w=>(((true:Bool) = true) ∧ (jF 50 0 v3 C_3 fun v12=>
 jF 48 1 v12 C_3 fun v13=>
 jL 3 v13 C_3 fun v14=>
 jF 29 3 v5 C_3 fun v15=>
 jL 24 v15 C_3 fun v16=>
 ∃ S_9:World → WK,xR S_9 fun R_10=>
 (∀ w,C_3 w → (kA 24 (xK C_3 S_9 R_10 w) w)) ∧
 (xR S_9 fun R_11=>
 (∀ w,C_3 w → (C_3 w ∧ S_9 w w ∧ R_11 v14 w)) ∧
 (∀ w,C_3 w → ∀ v8,R_10 v8 w → ∀ v7,R_11 v7 w → (
 kS 24 v8 v16 (fun _=>
 kL 50 v3 fun v18=>
 callM prog 77 #[v18] fun v19=>
 kU v19 fun v20 w=>
 gF v20 (kF 29 0 v5) (fun v22 w=>
 gF v20 (kL 3 v22) (fun v23 w=>
 gF v20 (kB .lss 3 4 v23 (.int .i64 0)) (fun v24=>
 kP v20 (.bool true) v24 fun v25 w=>
 gF v25 (kF 29 0 v5) (fun v27 w=>
 gF v25 (kL 3 v27) (fun v28 w=>
 gF v25 (pureM a1) (fun v29 w=>
 gF v25 (kN 51 v29) (fun v30 w=>
 gF v25 (kB .geq 3 4 v28 v30) (fun v31=>
 kP v25 (.bool true) v31 fun v32 w=>
 gF v32 (kF 29 1 v5) (fun v34 w=>
 gF v32 (kL 3 v34) (fun v35 w=>
 gF v32 (callM prog 65 #[v35]) (fun v36 w=>
 gF v32 (kU v36) (fun v37=>
 kP v32 (.bool true) v37 fun v38 w=>
 gF v38 (kF 29 5 v5) (fun v40 w=>
 gF v38 (kL 27 v40) (fun v41 w=>
 gF v38 (callM prog 147 #[v41]) (fun v42 w=>
 gF v38 (kU v42) (fun v43=>
 kP v38 (.bool true) v43 fun v44=>
 kO v44 (K (.bool false))
 (kF 29 2 v5 fun v46=>
 kL 22 v46 fun v47=>
 kN 22 v47 fun v48=>
 kF 50 1 v3 fun v49=>
 kL 22 v49 fun v50=>
 kN 22 v50 fun v51=>
 kB .sub 3 3 v51 (.int .i64 1) fun v52=>
 kB .neq 3 4 v48 v52 fun v53 w=>
 gF v53 (kF 29 2 v5) (fun v55 w=>
 gF v53 (kL 22 v55) (fun v56 w=>
 gF v53 (kN 22 v56) (fun v57 w=>
 gF v53 (kC .eql 3 0 4 v57) (fun v58=>
 kP v53 (.bool true) v58 fun v59 w=>
 gF v59 (kF 29 2 v5) (fun v61 w=>
 gF v59 (kL 22 v61) (fun v62 w=>
 gF v59 (kI 22 v62 (.int .i64 0)) (fun v63 w=>
 gF v59 (kL 3 v63) (fun v64 w=>
 gF v59 (kB .lss 3 4 v64 (.int .i64 1)) (fun v65=>
 kP v59 (.bool true) v65 fun v66 w=>
 gF v66 (kF 24 3 v8) (fun v68 w=>
 gF v66 (kL 22 v68) (fun v69 w=>
 gF v66 (kN 22 v69) (fun v70 w=>
 gF v66 (kF 50 1 v3) (fun v71 w=>
 gF v66 (kL 22 v71) (fun v72 w=>
 gF v66 (kN 22 v72) (fun v73 w=>
 gF v66 (kB .neq 3 4 v70 v73) (fun v74=>
 kP v66 (.bool true) v74 fun v75=>
 kO v75 (K (.bool false))
 (kF 29 2 v5 fun v78=>
 kL 22 v78 fun v79=>
 callM prog 148 #[v7,v79] fun v80=>
 kU v80 fun v81 w=>
 gF v81 (pureM v7) (fun v83 w=>
 gF v81 (kF 24 3 v8) (fun v84 w=>
 gF v81 (kL 22 v84) (fun v85 w=>
 gF v81 (callM prog 148 #[v83,v85]) (fun v86 w=>
 gF v81 (kU v86) (fun v87=>
 kP v81 (.bool true) v87 fun v88 w=>
 gF v88 (pureM v7) (fun v90 w=>
 gF v88 (kF 24 0 v8) (fun v91 w=>
 gF v88 (kL 3 v91) (fun v92 w=>
 gF v88 (kF 24 1 v8) (fun v93 w=>
 gF v88 (kL 3 v93) (fun v94 w=>
 gF v88 (kF 24 2 v8) (fun v95 w=>
 gF v88 (kL 3 v95) (fun v96 w=>
 gF v88 (oM prog (.buildSlice 22 3 #[(0,(.tmp 0)),(1,(.tmp 1)),(2,(.tmp 2))]) 22 [v92,v94,v96]) (fun v97 w=>
 gF v88 (callM prog 148 #[v90,v97]) (fun v98 w=>
 gF v88 (kU v98) (fun v99=>
 kP v88 (.bool true) v99 fun v100 w=>
 gF v100 (kF 24 0 v8) (fun v102 w=>
 gF v100 (kL 3 v102) (fun v103 w=>
 gF v100 (kC .eql 3 0 4 v103) (fun v104=>
 kP v100 (.bool true) v104 fun v105 w=>
 gF v105 (kF 24 1 v8) (fun v107 w=>
 gF v105 (kL 3 v107) (fun v108 w=>
 gF v105 (kC .eql 3 0 4 v108) (fun v109=>
 kP v105 (.bool true) v109 fun v110=>
 kO v110 (K (.bool false))
 (kF 50 0 v3 fun v112=>
 kL 48 v112 fun v113=>
 kF 50 1 v3 fun v114=>
 kL 22 v114 fun v115=>
 kF 24 3 v8 fun v116=>
 kL 22 v116 fun v117=>
 callM prog 138 #[v113,v115,v117] fun v118=>
 kE 0 3 v118 fun v119=>
 kE 1 4 v118 fun v120=>
 kH fun C_102 w=>(((true:Bool) = true) ∧ (jF 50 0 v3 C_102 fun v121=>
 jL 48 v121 C_102 fun v122=>
 jL 50 v3 C_102 fun v123=>
 jF 29 2 v5 C_102 fun v124=>
 jL 22 v124 C_102 fun v125=>
 jF 24 0 v8 C_102 fun v127=>
 jL 3 v127 C_102 fun v128=>
 ∃ S_110:World → WK,xR S_110 fun R_111=>
 (∀ w,C_102 w → (callM prog 149 #[v123,v125] (xK C_102 S_110 R_111 w) w)) ∧
 (∀ w,C_102 w → ∀ v126,R_111 v126 w → (
 callM prog 140 #[v122,v126,v128] (fun v129=>
 kL 50 v3 fun v130=>
 kF 29 4 v5 fun v131=>
 kL 26 v131 fun v132=>
 callM prog 150 #[v130,v132] fun v133 w=>
 gT v133 (kF 29 4 v5) (fun v135 w=>
 gT v133 (kF 26 0 v135) (fun v136 w=>
 gT v133 (kL 3 v136) (fun v137 w=>
 gT v133 (pureM v129) (fun v138 w=>
 gT v133 (kB .eql 3 4 v137 v138) (fun v139=>
 kP v133 v139 (.bool false) fun v140 w=>
 gT v140 (kF 29 4 v5) (fun v142 w=>
 gT v140 (kF 26 1 v142) (fun v143 w=>
 gT v140 (kL 3 v143) (fun v144 w=>
 gT v140 (pureM v119) (fun v145 w=>
 gT v140 (kB .eql 3 4 v144 v145) (fun v146=>
 kP v140 v146 (.bool false) fun v147=>
 K v147) w) w) w) w) w) w) w) w) w) w) w)))))) w) w) w) w) w) w) w) w) w) w) w) w) w) w) w) w) w) w) w) w) w)) w) w) w) w) w) w) w) w) w) w) w) w) w) w) w) w)) w) w) w) w) w) w) w) w) w) w) w) w) w) w) w) w) w)))))) w
theorem sh_99_ok (h:sh_99 a0 a1 a2 K w):callM prog 99 #[a0,a1,a2] K w:=
 cZ (mz [(1,fz 5 2 1),(9,.free [0,1,2,3,4,6,7] [5] [8,9])]) func99 h
end Go.Proofs
namespace Go.Proofs
open Go Go.Sh Go.RowKit FdSpec TkSpec CodeSpec PuSpec
section
variable {K:VK} {w w' w0 W W':World} {L:List (Addr × Value)}
theorem Same_ok (a b:Tkt) (k:∀ w',Bw w w' → K (.bool (decide (a = b))) w'):callM Tryz.prog 42 #[tktV a,tktV b] K w:=by
 apply sh_42_ok
 unfold sh_42
 refine box_kn (cs:=tktC a) rfl (.start w) fun b1 W hk hb1 hbb=>?_
 refine box_kn (cs:=tktC b) rfl hk fun b2 W hk hb2 hbb=>?_
 have k:=k _ hk.below
 repeat (any_goals ((with_reducible refine oG fun X Y=>?_); simp [go_sem,hk.cells]; apply Y; clear Y X))
 exact k
theorem residues_ok (q:Int) {v:Value} {l:List Int} (hl:Ints w v l) (k:∀ w',Bw w w' → K (.bool (residuesM q l)) w'):callM Tryz.prog 148 #[.int .i64 q,v] K w:=by
 apply sh_148_ok
 unfold sh_148
 refine box_kn (cs:=[.int .i64 q]) rfl (.start w) fun b1 W hk hb1 hbb=>?_
 clear hb1
 repeat (any_goals ((with_reducible refine oG fun X Y=>?_); simp [go_sem]; apply Y; clear Y X))
 refine ContainsFunc_ok (fun n=>decide (n < 0) || decide (q ≤ n)) (hl.next hk.below) ?_ (fun w2 h2=>?_)
 ·intro w' x K' T hb hx h'
  refine oM_callv1 (by kernel_rfl) ?_
  have hk:=hk.next hb
  have h':=h' _ (bR)
  apply sh_186_ok
  unfold sh_186
  by_cases h1:x < 0
  ·rw [decide_eq_true h1,Bool.true_or] at h'
   repeat (any_goals (first
   | (with_reducible first|refine zD ?_|refine yB ?_)
   | ((with_reducible refine oG fun X Y=>?_); simp [go_sem,hk.cells,h1]; apply Y; clear Y X)))
   exact h'
  ·rw [decide_eq_false h1,Bool.false_or] at h'
   repeat (any_goals (first
   | (with_reducible first|refine pureM_in ?_|refine zC ?_|refine yC ?_)
   | ((with_reducible refine oG fun X Y=>?_); simp [go_sem,hk.cells,h1]; apply Y; clear Y X)))
   exact h'
 ·have k:=k _ (hk.below.on h2)
  unfold residuesM at k
  repeat (any_goals ((with_reducible refine oG fun X Y=>?_); simp [go_sem]; apply Y; clear Y X))
  exact k
theorem formed1_ok (x:Lnk) {av:Value} (ha:Ints w av x.spend.answers) (k:∀ w',Bw w w' → K (.bool (decide (200 < x.terms.length) || decide (7 < x.spend.answers.length))) w'):callM Tryz.prog 185 #[lkV x av] K w:=by
 apply sh_185_ok
 unfold sh_185
 obtain ⟨ad,c,rfl⟩:=ha.isSlice
 refine box_kn (cs:=lkC x (.slice ad x.spend.answers.length c)) rfl (.start w) fun b1 W hk hb1 hbb=>?_
 have k:=k _ hk.below
 by_cases h1:200 < x.terms.length
 ·have h1':(200:Int) < x.terms.length:=by omega
  rw [decide_eq_true h1,Bool.true_or] at k
  repeat (any_goals (first
  | (with_reducible first|refine zD ?_|refine yB ?_)
  | ((with_reducible refine oG fun X Y=>?_); simp [go_sem,hk.cells,h1',ba_size]; apply Y; clear Y X)))
  exact k
 ·have h1':¬ (200:Int) < x.terms.length:=by omega
  rw [decide_eq_false h1,Bool.false_or] at k
  have e:decide (7 < x.spend.answers.length) = decide ((7:Int) < x.spend.answers.length):=by congr 1; exact propext ⟨fun h=>by omega,fun h=>by omega⟩
  rw [e] at k
  repeat (any_goals (first
  | (with_reducible first|refine zC ?_|refine yC ?_)
  | ((with_reducible refine oG fun X Y=>?_); simp [go_sem,hk.cells,h1',ba_size]; apply Y; clear Y X)))
  exact k
theorem pformed_ok (l:List Lnk) {v:Value} (hl:LnksR w v l) (k:∀ w',Bw w w' → K (.bool (linksM l)) w'):callM Tryz.prog 147 #[v] K w:=by
 apply sh_147_ok
 unfold sh_147
 have hl':=hl
 obtain ⟨ad,c,rfl⟩:=hl.isSlice
 unfold linksM at k
 by_cases h4:l.length ≤ 4
 ·have h4':(l.length:Int) ≤ 4:=by omega
  rw [decide_eq_true h4,bT] at k
  repeat (any_goals (first
  | (with_reducible first|refine pureM_in ?_|refine zA ?_)
  | ((with_reducible refine oG fun X Y=>?_); simp [go_sem,h4']; apply Y; clear Y X)))
  refine ContainsLnk_ok (fun x=>decide (200 < x.terms.length) || decide (7 < x.spend.answers.length)) hl' ?_ (fun w2 h2=>?_)
  ·rintro w' x cs K' T hb hx ⟨av,rfl,ha,_⟩ h'
   refine oM_callv1 (by kernel_rfl) ?_
   exact formed1_ok x ha h'
  ·have k:=k _ h2
   repeat (any_goals (first
   | (with_reducible first|refine zA ?_|refine yB ?_)
   | ((with_reducible refine oG fun X Y=>?_); simp [go_sem]; apply Y; clear Y X)))
   exact k
 ·have h4':¬ (l.length:Int) ≤ 4:=by omega
  rw [decide_eq_false h4,bF] at k
  repeat (any_goals (first
  | (with_reducible first|refine zB ?_|refine yC ?_)
  | ((with_reducible refine oG fun X Y=>?_); simp [go_sem,h4']; apply Y; clear Y X)))
  exact k _ (bR)
theorem mk6 {T:TypeId} (a b c d e f:Int) (hr:∀ x ∈ [a,b,c,d,e,f],I64 x) (k:∀ v W,Bw w W → Ints W v [a,b,c,d,e,f] → K v W):oM Tryz.prog (.buildSlice 22 6 #[(0,.tmp 0),(1,.tmp 1),(2,.tmp 2),(3,.tmp 3),(4,.tmp 4),(5,.tmp 5)]) T [.int .i64 a,.int .i64 b,.int .i64 c,.int .i64 d,.int .i64 e,.int .i64 f] K w:=by
 have e1:(Instr.buildSlice 22 6 #[(0,.int .i64 a),(1,.int .i64 b),(2,.int .i64 c),(3,.int .i64 d),(4,.int .i64 e),(5,.int .i64 f)]).run Tryz.prog w = .ok (.slice (some ⟨w.heap.size,0,none⟩) 6 6) (w.alloc (.cells #[.int .i64 a,.int .i64 b,.int .i64 c,.int .i64 d,.int .i64 e,.int .i64 f] 3)):=by kernel_rfl
 rw [rM_of (S:=Instr.buildSlice 22 6 #[(0,.int .i64 a),(1,.int .i64 b),(2,.int .i64 c),(3,.int .i64 d),(4,.int .i64 e),(5,.int .i64 f)]) (by simp [xop,execOp,evalL,evE]),e1]
 exact k _ _ ((Below.refl _ w).alloc (rL) _) (ints_alloc w [a,b,c,d,e,f] _ 6 hr (by simp))
theorem inR_I64 {n:Int} (h:InR n):I64 n:=by unfold InR at h; unfold I64; omega
theorem numbers_ok (t:Tkt) (ht:WTkt t) (k:∀ w' v,Bw w w' → Ints w' v (tktL t) → K v w'):callM Tryz.prog 60 #[tktV t] K w:=by
 apply sh_60_ok
 unfold sh_60
 refine box_kn (cs:=tktC t) rfl (.start w) fun b1 W hk hb1 hbb=>?_
 repeat (any_goals ((with_reducible refine oG fun X Y=>?_); simp [go_sem,hk.cells]; apply Y; clear Y X))
 refine mk6 _ _ _ _ _ _ (fun x hx=>inR_I64 (ht.all x hx)) (fun v W2 h2 hi=>k _ _ (hk.below.on h2) hi)
theorem num_len {n:Int} (h:InR n):(encNum n).length ≤ 30:=by
 have:=Cd.encInt_len n h
 unfold encNum
 split
 ·simp
 ·omega
theorem Terms_ok (n:Int) (q:Bytes) (hq:q.length < 2 ^ 60) (hl:Cd.LaidE w) (k:∀ w',Bw w w' → K (.string ⟨(termsM n q).toArray⟩) w'):callM Tryz.prog 17 #[.int .i64 n,.string ⟨q.toArray⟩] K w:=by
 apply sh_17_ok
 unfold sh_17
 unfold termsM at k
 refine isTime_ok n ?_
 cases ht:timeB n with
 | false=>
  rw [ht] at k
  repeat (any_goals (first
  | (with_reducible first|refine zD ?_|refine yB ?_|refine yL ?_)
  | ((with_reducible refine oG fun X Y=>?_); simp [go_sem]; apply Y; clear Y X)))
  exact k _ (bR)
 | true=>
 rw [ht] at k
 have ht':=(timeB_iff n).1 ht
 by_cases h20:20 < q.length
 ·have h20':(20:Int) < q.length:=by omega
  rw [decide_eq_true h20] at k
  repeat (any_goals (first
  | (with_reducible first|refine pureM_in ?_|refine zC ?_|refine yC ?_|refine yL ?_)
  | ((with_reducible refine oG fun X Y=>?_); simp [go_sem,h20',ba_size]; apply Y; clear Y X)))
  exact k _ (bR)
 have h20':¬ (20:Int) < q.length:=by omega
 rw [decide_eq_false h20] at k
 repeat (any_goals (first
 | (with_reducible first|refine pureM_in ?_|refine zC ?_|refine yC ?_|refine yM ?_)
 | ((with_reducible refine oG fun X Y=>?_); simp [go_sem,h20',ba_size]; apply Y; clear Y X)))
 refine Cd.pNum_ok n ⟨by omega,by omega⟩ hl.toLaid (fun w1 h1=>?_)
 refine Cd.pText_ok q hq (hl.below h1 hl.size).toLaid (fun w2 h2=>?_)
 have k:=k _ (h1.on h2)
 have hle:=Cd.encText_len q (by omega)
 have hnl:=num_len (n:=n) ⟨by omega,by omega⟩
 repeat (any_goals ((with_reducible refine oG fun X Y=>?_); simp [go_sem]; refine And.intro (by omega) (Y _ _ ?_); clear Y X))
 exact k
theorem nil_string (s:Bytes):((⟨s.toArray⟩:ByteArray) = ⟨#[]⟩) = (s = []):=by
 simp
end
section
variable {K:VK} {w w' w0 W W':World} {L:List (Addr × Value)} {rb b:Nat} {r:Rb}
theorem rdDone_eq (r:Rd):Cd.rdDone r = doneR r:=rfl
theorem ReadTerms_ok (s:Bytes) (hs:s.length < 2 ^ 40) (hl:Cd.LaidE w) (k:∀ w',Bw w w' → K (.tuple #[.int .i64 (readTermsM s).1.1,.string ⟨(readTermsM s).1.2.toArray⟩,.bool (readTermsM s).2]) w'):callM Tryz.prog 18 #[.string ⟨s.toArray⟩] K w:=by
 apply sh_18_ok
 unfold sh_18
 refine Cd.open_ok s (fun w1 hr1 h1=>?_)
 have hl1:=hl.below h1 hl.size
 have h8:8 ≤ w.heap.size:=hl.size
 refine Cd.rnum_ok _ _ hl1 (by simp only; omega) hr1 (fun w2 hr2 hg2=>?_)
 have hl2:=hl1.grown hg2 h8
 have hle:=Cd.rest_le ⟨s,false⟩ 59 0
 refine Cd.rtext_ok _ _ hl2 (by show (rdNumber ⟨s,false⟩ 59 0).2.rest.length < _; simp only at hle; omega) hr2 (fun w3 hr3 hg3=>?_)
 have hl3:=hl2.grown hg3 h8
 refine Cd.done_ok _ _ hr3 ?_
 rw [rdDone_eq]
 have h13:Bw w w3:=(h1.grown hg2 h1.size (fun i e=>by cases e; exact rL)).grown hg3 (Nat.le_trans h1.size hg2.size) (fun i e=>by cases e; exact rL)
 have eR:readTermsM s = if !doneR (rdText (rdNum ⟨s,false⟩).2).2 || decide (termsM (rdNum ⟨s,false⟩).1 (rdText (rdNum ⟨s,false⟩).2).1 = []) then ((0,[]),false) else (((rdNum ⟨s,false⟩).1,(rdText (rdNum ⟨s,false⟩).2).1),true):=rfl
 have ht1:(rdText (rdNum ⟨s,false⟩).2).1.length < 2 ^ 60:=by
  have hok:(rdNum ⟨s,false⟩).2.ok:=rdNum_ok Rd.ok_good
  rcases rdText_some _ hok with e | ⟨x,t,e,es,hxl⟩
  ·rw [e]; simp
  ·rw [e]
   have e2:(rdNum ⟨s,false⟩).2.rest.length ≤ s.length:=hle
   have e3:=congrArg (fun x=>x.rest.length) es
   simp only [List.length_append] at e3
   have e4:x.length ≤ (encText x).length:=by simp [encText]; omega
   show x.length < _
   omega
 rw [eR] at k
 generalize (rdText (rdNum ⟨s,false⟩).2).2 = r3 at *
 generalize (rdText (rdNum ⟨s,false⟩).2).1 = t at *
 generalize (rdNum ⟨s,false⟩).1 = n at *
 cases hd:doneR r3 with
 | false=>
  rw [hd] at k
  repeat (any_goals (first
  | (with_reducible first|refine zD ?_|refine yB ?_|refine yL ?_)
  | ((with_reducible refine oG fun X Y=>?_); simp [go_sem]; apply Y; clear Y X)))
  exact k _ h13
 | true=>
 rw [hd] at k
 repeat (any_goals (first
 | (with_reducible first|refine pureM_in ?_|refine zC ?_)
 | ((with_reducible refine oG fun X Y=>?_); simp [go_sem]; apply Y; clear Y X)))
 refine Terms_ok n t ht1 hl3 (fun w4 h4=>?_)
 by_cases he:termsM n t = []
 ·rw [decide_eq_true he] at k
  repeat (any_goals (first
  | (with_reducible first|refine zC ?_|refine yC ?_|refine yL ?_)
  | ((with_reducible refine oG fun X Y=>?_); simp [go_sem,nil_string,he]; apply Y; clear Y X)))
  exact k _ (h13.on h4)
 ·rw [decide_eq_false he] at k
  repeat (any_goals (first
  | (with_reducible first|refine zC ?_|refine yC ?_|refine yM ?_)
  | ((with_reducible refine oG fun X Y=>?_); simp [go_sem,nil_string,he]; apply Y; clear Y X)))
  exact k _ (h13.on h4)
theorem Narrows_ok (a b:Bytes) (ha:a.length < 2 ^ 40) (hb:b.length < 2 ^ 40) (hl:Cd.LaidE w) (k:∀ w',Bw w w' → K (.bool (narrowsM a b)) w'):callM Tryz.prog 22 #[.string ⟨a.toArray⟩,.string ⟨b.toArray⟩] K w:=by
 apply sh_22_ok
 unfold sh_22
 refine ReadTerms_ok a ha hl (fun w1 h1=>?_)
 repeat (any_goals ((with_reducible refine oG fun X Y=>?_); simp [go_sem]; apply Y; clear Y X))
 refine ReadTerms_ok b hb (hl.below h1 hl.size) (fun w2 h2=>?_)
 have k:=k _ (h1.on h2)
 unfold narrowsM at k
 generalize readTermsM a = x at *
 generalize readTermsM b = y at *
 obtain ⟨⟨x1,x2⟩,x3⟩:=x
 obtain ⟨⟨y1,y2⟩,y3⟩:=y
 dsimp only at k ⊢
 cases x3 with
 | false=>
  repeat (any_goals (first
  | (with_reducible first|((refine idGd ?_); first|refine zB ?_|refine zE ?_)|refine yC ?_)
  | ((with_reducible refine oG fun X Y=>?_); simp [go_sem]; apply Y; clear Y X)))
  exact k
 | true=>
 cases y3 with
 | false=>
  repeat (any_goals (first
  | (with_reducible first|refine pureM_in ?_|((refine idGd ?_); first|refine zA ?_|refine zB ?_|refine zE ?_)|((refine idPick ?_); first|refine yB ?_|refine yC ?_))
  | ((with_reducible refine oG fun X Y=>?_); simp [go_sem]; apply Y; clear Y X)))
  exact k
 | true=>
 by_cases h1:x1 ≤ y1
 ·rw [decide_eq_true h1] at k
  by_cases h2:y2 = []
  ·rw [decide_eq_true h2] at k
   repeat (any_goals (first
   | (with_reducible first|refine pureM_in ?_|((refine idGd ?_); first|refine zA ?_|refine zD ?_)|refine yB ?_)
   | ((with_reducible refine oG fun X Y=>?_); simp [go_sem,h1,h2,nil_string]; apply Y; clear Y X)))
   exact k
  ·rw [decide_eq_false h2] at k
   repeat (any_goals (first
   | (with_reducible first|refine pureM_in ?_|((refine idGd ?_); first|refine zA ?_|refine zC ?_)|((refine idPick ?_); first|refine yB ?_|refine yC ?_))
   | ((with_reducible refine oG fun X Y=>?_); simp [go_sem,h1,h2,nil_string]; apply Y; clear Y X)))
   exact k
 ·rw [decide_eq_false h1] at k
  repeat (any_goals (first
  | (with_reducible first|refine pureM_in ?_|((refine idGd ?_); first|refine zA ?_|refine zB ?_|refine zE ?_)|((refine idPick ?_); first|refine yB ?_|refine yC ?_))
  | ((with_reducible refine oG fun X Y=>?_); simp [go_sem,h1]; apply Y; clear Y X)))
  exact k
end
end Go.Proofs
namespace Go.Proofs
open Go Go.Sh Go.RowKit FdSpec TkSpec CodeSpec
section
variable {K:VK} {w w' w0 W W':World} {L:List (Addr × Value)} {g n B:Nat} {row:Option Nat}
theorem sz_int1 (w:World):(sizeOf 3).run Tryz.prog w = .ok 1 w:=by kernel_rfl
theorem sz_bool (w:World):(sizeOf 4).run Tryz.prog w = .ok 1 w:=by kernel_rfl
structure RowP (W:World) (B g c:Nat) (l:List Int):Prop where
 cells:∃ cur,W.heap[g]? = some (.cells cur 3 (0,0)) ∧ cur.size = c ∧ cur.toList.take l.length = l.map (Value.int .i64)
 le:l.length ≤ c
 base:B ≤ g
 max:c ≤ maxLen
theorem RowP.owns {c:Nat} {l:List Int} (h:RowP W B g c l):OwnI W B (.slice (some ⟨g,0,none⟩) l.length c) l:=by
 obtain ⟨cur,hg,hs,ht⟩:=h.cells
 refine ⟨by rw [flat_int]; simp,.inr ⟨g,c,cur,rfl,h.base,hg,h.le,h.max,by simpa using hs,?_⟩⟩
 rw [Nat.mul_one,flat_int]
 exact ht
theorem RowP.lt {c:Nat} {l:List Int} (h:RowP W B g c l):g < W.heap.size:=by
 obtain ⟨cur,hg,_⟩:=h.cells
 exact (Array.getElem?_eq_some_iff.1 hg).1
theorem RowP.next {c:Nat} {l:List Int} (h:RowP W B g c l) (hb:Bw W W'):RowP W' B g c l:=by
 obtain ⟨cur,hg,hr⟩:=h.cells
 exact ⟨⟨cur,by rw [hb.block g h.lt]; exact hg,hr⟩,h.le,h.base,h.max⟩
theorem RowP.cell {c:Nat} {l:List Int} (h:RowP W B g c l) {i:Nat} {x:Int} (hx:l[i]? = some x):W.cell? ⟨g,i,none⟩ = some (.int .i64 x):=by
 obtain ⟨cur,hg,hs,ht⟩:=h.cells
 have hi:=(gS hx).1
 have h1:(cur.toList.take l.length)[i]? = some (.int .i64 x):=by rw [ht,List.getElem?_map,hx]; rfl
 rw [List.getElem?_take_of_lt hi] at h1
 unfold World.cell?
 rw [hg]
 simpa using h1
theorem RowP.set {c:Nat} {l:List Int} {i:Nat} {x:Int} {T':TypeId} (h:RowP W B g c l) (hi:i < l.length) (k:∀ W',W.grownBy W' (some g) → RowP W' B g c (l.set i x) → K undef W') :
  oM Tryz.prog (.store 3 (.tmp 0) (.tmp 1)) T' [.pointer (some ⟨g,i,none⟩),.int .i64 x] K W:=by
 obtain ⟨cur,hg,hs,ht⟩:=h.cells
 have hh:Holds W g 3 cur.toList:=by
  unfold Holds
  simpa using hg
 have hle:=h.le
 refine arr_set (w:=W) (T:=3) sz_int1 rfl rfl hh (by simpa [hs] using lL hi hle) (fun W2 h2 h3=>k W2 h2 ⟨⟨(cur.toList.set i (.int .i64 x)).toArray,h3,by simpa using hs,?_⟩,by simpa using hle,h.base,h.max⟩)
 simp only [List.length_set]
 show (cur.toList.set i (.int .i64 x)).take l.length = _
 rw [List.take_set,ht,List.map_set]
theorem RowP.other {b:Option Nat} {c:Nat} {l:List Int} (h:RowP W B g c l) (hg:W.grownBy W' b) (hb:b ≠ some g):RowP W' B g c l:=by
 obtain ⟨cur,h1,hr⟩:=h.cells
 exact ⟨⟨cur,by rw [hg.block g h.lt (fun e=>hb (by first | exact e | exact e.symm))]; exact h1,hr⟩,h.le,h.base,h.max⟩
theorem make_ints {T:TypeId} {n:Nat} (hn:n ≤ 65536) (k:∀ g W,Bw w W → w.heap.size ≤ g → RowP W w.heap.size g n (List.replicate n 0) → K (.slice (some ⟨g,0,none⟩) n n) W):oM Tryz.prog (.makeSlice 22 (.tmp 0) (.tmp 1)) T [.int .i64 n,.int .i64 n] K w:=by
 obtain ⟨w',hr,ho,hg⟩:=run_makeSlice_full (P:=Tryz.prog) (w:=w) w.heap.size 22 3 ((Tryz.prog.info? 3).getD default) (.int .i64 0) 1 (by kernel_rfl) (by kernel_rfl) (by kernel_rfl) (by kernel_rfl) .i64 .i64 n (by omega) (by
  have:((Tryz.prog.info? 3).getD default).bytes = 8:=by kernel_rfl
  rw [this]; omega) (by simp only [maxLen]; omega) (rL)
 rw [oM_makeSlice,hr]
 have hb:Bw w w':=⟨hg.os,hg.tape,hg.output,hg.size,fun k hk=>hg.block k hk (by simp)⟩
 have hcells:(madeCells (Value.int .i64 0).cells (n * 1)).toList = List.replicate n (.int .i64 0):=by
  rw [Nat.mul_one]
  apply List.ext_getElem?
  intro i
  unfold madeCells
  simp [Value.cells,List.getElem?_replicate,Array.getElem?_ofFn]
  try (split <;> simp_all [Nat.mod_one])
 refine k _ _ hb (rL) ?_
 rcases ho.2 with ⟨h1,h2⟩ | ⟨g,cap,cur,h1,hb2,hg2,hc,hm,hs,ht⟩
 ·cases h1
 ·cases h1
  refine ⟨⟨cur,hg2,by simpa using hs,?_⟩,by simp,rL,hm⟩
  rw [hcells,Nat.mul_one] at ht
  rw [List.length_replicate,ht,List.map_replicate]
theorem getD_some {l:List Int} {i:Nat} (h:i < l.length):l[i]? = some (l.getD i 0):=by
 rw [List.getD_eq_getElem?_getD,gE h]; rfl
end
end Go.Proofs
namespace Go.Proofs
open Go Go.Sh Go.RowKit FdSpec TkSpec CodeSpec PuSpec
section
variable {K:VK} {w w' w0 W W':World} {L:List (Addr × Value)} {rb b:Nat} {r:Rb}
structure RbR (W:World) (rb b:Nat) (r:Rb):Prop where
 blk:Holds W rb 121 [.pointer (some ⟨b,0,none⟩),.bool r.bad]
 rd:Cd.IsRd W b r.rd
 ne:rb ≠ b
 ok:r.rd.ok
 ln:r.rd.rest.length < 2 ^ 40
 lb:8 ≤ b
 lr:8 ≤ rb
def Rs (rb b:Nat) (i:Nat):Prop:=i = rb ∨ i = b
theorem RbR.next (h:RbR W rb b r) (hb:Bw W W'):RbR W' rb b r:=⟨h.blk.next hb,h.rd.below hb h.rd.lt,h.ne,h.ok,h.ln,h.lb,h.lr⟩
theorem RbR.keep {S:Nat → Prop} (h:RbR W rb b r) (hf:Fr S W W') (h1:¬ S rb) (h2:¬ S b):RbR W' rb b r:=
 ⟨(hf.block rb h.blk.lt h1).trans h.blk,(hf.block b h.rd.lt h2).trans h.rd,h.ne,h.ok,h.ln,h.lb,h.lr⟩
theorem RbR.lt (h:RbR W rb b r):∀ i,Rs rb b i → i < W.heap.size:=fun i hi=>by rcases hi with rfl | rfl; exact h.blk.lt; exact h.rd.lt
theorem RbR.step {rd':Rd} (h:RbR W rb b r) (hr:Cd.IsRd W' b rd') (hg:W.grownBy W' (some b)) (ho:rd'.ok) (hl:rd'.rest.length ≤ r.rd.rest.length):RbR W' rb b ⟨rd',r.bad⟩:=
 ⟨(hg.block rb h.blk.lt (fun e=>h.ne (by first | exact (oI e) | exact (oI e).symm))).trans h.blk,hr,h.ne,ho,Nat.lt_of_le_of_lt hl h.ln,h.lb,h.lr⟩
theorem rs_by (hg:W.grownBy W' (some b)):Fr (Rs rb b) W W':=(Fr.of_by hg).mono (fun i _ e=>.inr e)
theorem nums_shorter {r:Rd} (hr:r.ok):(rdNums r).2.rest.length ≤ r.rest.length:=by
 rcases rdNums_some r hr with e | ⟨vs,t,e,es,_⟩
 ·rw [e]; simp [failed]
 ·rw [e,es]; simp
theorem text_shorter {r:Rd} (hr:r.ok):(rdText r).2.rest.length ≤ r.rest.length:=by
 rcases rdText_some r hr with e | ⟨vs,t,e,es,_⟩
 ·rw [e]; simp [failed]
 ·rw [e,es]; simp
theorem int_shorter (r:Rd):(rdInt r).2.rest.length ≤ r.rest.length:=Cd.rest_le r 59 _
theorem num_shorter (r:Rd):(rdNum r).2.rest.length ≤ r.rest.length:=Cd.rest_le r 59 0
theorem nums_inR {r:Rd} (hr:r.ok):(∀ v ∈ (rdNums r).1,InR v) ∧ ((rdNums r).1.length:Int) ≤ 9223372036854775807:=by
 rcases rdNums_some r hr with e | ⟨vs,t,e,es,hl,hv⟩
 ·rw [e]; simp
 ·rw [e]; exact ⟨hv,hl⟩
theorem rnums_ok (h:RbR w rb b r) (hl:Cd.LaidE w) (k:∀ w' v,RbR w' rb b (numsR r).2 → Fr (Rs rb b) w w' → OwnI w' w.heap.size v (numsR r).1 → K v w'):callM Tryz.prog 109 #[.pointer (some ⟨b,0,none⟩)] K w:=by
 refine Cd.itemsNum_ok b r.rd hl h.lb h.ln h.ok h.rd (fun v w' hr hg ho=>k w' v ?_ (rs_by hg) ?_)
 ·exact h.step hr hg (rdNums_ok h.ok) (nums_shorter h.ok)
 ·show w'.ownsRow w.heap.size 3 1 v _ (flat intC _)
  rw [flat_int]
  exact ho
theorem some_I64 {n:Nat} {r:Rb} (hr:r.rd.ok):(∀ v ∈ (someR n r).1,I64 v) ∧ (someR n r).1.length = n:=by
 unfold someR
 split
 ·rename_i h
  exact ⟨fun v hv=>inR_I64 ((nums_inR hr).1 v hv),h⟩
 ·exact ⟨fun v hv=>by rw [List.eq_of_mem_replicate hv]; unfold I64; omega,by simp⟩
theorem some_ok (n:Nat) (hn:n ≤ 65536) (h:RbR w rb b r) (hl:Cd.LaidE w) (k:∀ w' v,RbR w' rb b (someR n r).2 → Fr (Rs rb b) w w' → OwnI w' w.heap.size v (someR n r).1 → K v w'):callM Tryz.prog 108 #[.pointer (some ⟨rb,0,none⟩),.int .i64 (n:Int)] K w:=by
 apply sh_108_ok
 unfold sh_108
 have c0:=h.blk.cell 0 (by simp)
 simp only [List.getElem_cons_zero] at c0
 repeat (any_goals ((with_reducible refine oG fun X Y=>?_); simp [go_sem,c0]; apply Y; clear Y X))
 refine rnums_ok h hl (fun w1 v h1 hf1 ho1=>?_)
 have hvl:∃ ad vc,v = .slice ad _ vc:=owns_len ho1
 obtain ⟨ad,vc,rfl⟩:=hvl
 unfold someR at k
 have e1:(numsR r).1 = (rdNums r.rd).1:=rfl
 have e2:(numsR r).2 = ⟨(rdNums r.rd).2,r.bad⟩:=rfl
 rw [e1] at ho1 ⊢
 rw [e2] at h1
 by_cases hq:(rdNums r.rd).1.length = n
 ·rw [if_pos hq] at k
  have hq':((rdNums r.rd).1.length:Int) = n:=by omega
  repeat (any_goals (first
  | (with_reducible refine yL ?_)
  | ((with_reducible refine oG fun X Y=>?_); simp [go_sem,hq']; apply Y; clear Y X)))
  exact k _ _ h1 hf1 ho1
 ·rw [if_neg hq] at k
  have hq':¬ ((rdNums r.rd).1.length:Int) = n:=by omega
  repeat (any_goals (first
  | (with_reducible refine yM ?_)
  | ((with_reducible refine oG fun X Y=>?_); simp [go_sem,hq']; apply Y; clear Y X)))
  refine arr_set (T:=4) sz_bool rfl rfl h1.blk (i:=1) (by simp) (fun w2 hg2 hH2=>?_)
  have h2:RbR w2 rb b ⟨(rdNums r.rd).2,true⟩:=⟨hH2,(hg2.block b h1.rd.lt (fun e=>h1.ne (by first | exact (oI e) | exact (oI e).symm))).trans h1.rd,h1.ne,h1.ok,h1.ln,h1.lb,h1.lr⟩
  have hf2:Fr (Rs rb b) w w2:=hf1.by hg2 (fun i e=>.inl (.inl (by cases e; rfl)))
  skip
  refine make_ints (by omega) (fun g W hW hgW hR=>?_)
  refine k _ _ (h2.next hW) (hf2.trans (S':=fun _=>False) (Fr.of_below hW) (fun _ h=>h.elim)) ?_
  have:=hR.owns
  rw [List.length_replicate] at this
  exact owns_base this hf2.size
theorem al_tkt (w:World):(Instr.alloc 26 true (.tuple #[])).run Tryz.prog w = .ok (.pointer (some ⟨w.heap.size,0,none⟩)) (w.alloc (.cells [.int .i64 0,.int .i64 0,.int .i64 0,.int .i64 0,.int .i64 0,.int .i64 0].toArray 26)):=by kernel_rfl
theorem sz_tkt (w:World):(sizeOf 26).run Tryz.prog w = .ok 6 w:=by kernel_rfl
theorem un_tkt:Tryz.prog.underlying 26 = some ((Tryz.prog.underlying 26).getD default):=by kernel_rfl
theorem tkt_one (t:Tkt):∀ u ∈ tktC t,u.oneCell' = true:=by
 intro u hu
 simp only [tktC,List.mem_cons,List.not_mem_nil,or_false] at hu
 rcases hu with rfl | rfl | rfl | rfl | rfl | rfl <;> rfl
theorem build_tkt (T:TypeId) (a b c d e f:Int):oM Tryz.prog (Go.Op.build 26 #[(0,(.tmp 0)),(1,(.tmp 1)),(2,(.tmp 2)),(3,(.tmp 3)),(4,(.tmp 4)),(5,(.tmp 5))]) T [.int .i64 a,.int .i64 b,.int .i64 c,.int .i64 d,.int .i64 e,.int .i64 f] = pureM (.agg #[.int .i64 a,.int .i64 b,.int .i64 c,.int .i64 d,.int .i64 e,.int .i64 f]):=by
 funext K w
 kernel_rfl
theorem list6 {l:List Int} (h:l.length = 6):∃ a b c d e f,l = [a,b,c,d,e,f]:=by
 match l,h with
 | [a,b,c,d,e,f],_=>exact ⟨a,b,c,d,e,f,rfl⟩
theorem rticket_ok (h:RbR w rb b r) (hl:Cd.LaidE w) (k:∀ w',RbR w' rb b (tktR r).2 → Fr (Rs rb b) w w' → K (tktV (tktR r).1) w'):callM Tryz.prog 110 #[.pointer (some ⟨rb,0,none⟩)] K w:=by
 apply sh_110_ok
 unfold sh_110
 refine arr_alloc al_tkt (fun g w1 h1 hg hH=>?_)
 have hr1:=h.next h1
 have hl1:=hl.below h1 hl.size
 refine some_ok 6 (by omega) hr1 hl1 (fun w2 v h2 hf2 ho2=>?_)
 have hI:=some_I64 (n:=6) h.ok
 have eT:tktR r = (ofL (someR 6 r).1,(someR 6 r).2):=rfl
 rw [eT] at k
 obtain ⟨a0,a1,a2,a3,a4,a5,e6⟩:=list6 hI.2
 rw [e6] at k ho2
 have hgs:¬ Rs rb b g:=fun e=>by have:=h.lt g e; omega
 have hH2:Holds w2 g 26 _:=(hf2.block g hH.lt hgs).trans hH
 have hf:Fr (Rs rb b) w w2:=(Fr.of_below h1).trans hf2 (fun i hi=>.inl hi)
 obtain ⟨g',cap,cur,rfl,hlt,hB,_,_,_,hcell⟩:=owns_cells ho2 (by simp)
 have c0:=hcell 0 _ rfl
 have c1:=hcell 1 _ rfl
 have c2:=hcell 2 _ rfl
 have c3:=hcell 3 _ rfl
 have c4:=hcell 4 _ rfl
 have c5:=hcell 5 _ rfl
 clear hcell ho2 hI hH hf2
 have hb3:Below w2.heap.size w2 { w2 with drawn:=w2.drawn + 1 }:=.drawn
 have hr3:=h2.next hb3
 have hH3:=hH2.next hb3
 have hf3:Fr (Rs rb b) w { w2 with drawn:=w2.drawn + 1 }:=hf.trans (S':=fun _=>False) (Fr.of_below hb3) (fun _ h=>h.elim)
 refine ⟨Nx w2,hb3,rfl,?_⟩
 repeat (any_goals (first
 | (with_reducible refine pX ?_)
 | ((with_reducible refine idOH ?_); (with_reducible refine oH_of ⟨_,rfl⟩ (fun W0 hW0=>by (refine oG (fun X Y=>?_)); simp [go_sem,(hW0.cell hlt).trans c0,(hW0.cell hlt).trans c1,(hW0.cell hlt).trans c2,(hW0.cell hlt).trans c3,(hW0.cell hlt).trans c4,(hW0.cell hlt).trans c5]; (first | exact Y _ _ ⟨rfl,rfl⟩ | exact ⟨by omega,Y _ _ ⟨rfl,rfl⟩⟩)) ?_))))
 refine ⟨Nx,fun w4 h4=>?_⟩
 rw [build_tkt]
 iterate 1 (any_goals (with_reducible refine pureM_in ?_))
 refine arr_store sz_tkt rfl rfl (tkt_one ⟨a0,a1,a2,a3,a4,a5⟩) (hH2.next h4) rfl (fun w5 hg5 hH5=>?_)
 refine arr_ret hH5 un_tkt (by kernel_rfl) (by kernel_rfl) ?_
 have h5:=(h2.next h4).keep (Fr.of_by hg5) (fun e=>hgs (.inl e.symm)) (fun e=>hgs (.inr e.symm))
 refine k _ h5 ((hf.trans (S':=fun _=>False) (Fr.of_below h4) (fun _ h=>h.elim)).by hg5 (fun i e=>.inr (by cases e; exact hg)))
end
end Go.Proofs
namespace PuSpec
open FdSpec TkSpec CodeSpec
theorem inR_zero:InR 0:=⟨by decide,by decide⟩
theorem numsR_inR {r:Rd} (hr:r.ok):(∀ v ∈ (rdNums r).1,InR v) ∧ Len (rdNums r).1.length:=by
 rcases rdNums_some r hr with e | ⟨vs,t,e,es,hl,hv⟩
 ·rw [e]; exact ⟨by simp,by simp [Len]⟩
 ·rw [e]; exact ⟨hv,hl⟩
theorem someR_inR {n:Nat} {r:Rb} (hr:r.rd.ok):(∀ v ∈ (someR n r).1,InR v) ∧ (someR n r).1.length = n:=by
 unfold someR
 split
 ·rename_i h; exact ⟨(numsR_inR hr).1,h⟩
 ·exact ⟨fun v hv=>by rw [List.eq_of_mem_replicate hv]; exact inR_zero,by simp⟩
theorem getD_inR {l:List Int} (h:∀ v ∈ l,InR v) (i:Nat):InR (l.getD i 0):=by
 rw [List.getD_eq_getElem?_getD]
 cases e:l[i]? with
 | none=>exact inR_zero
 | some x=>exact h x (List.mem_of_getElem? e)
theorem tktR_wf {r:Rb} (hr:r.rd.ok):WTkt (tktR r).1:=by
 have h:=someR_inR (n:=6) hr
 unfold tktR
 obtain ⟨h1,h2⟩:=h
 generalize (someR 6 r).1 = l at *
 match l,h2 with
 | [a,b,c,d,e,f],_=>exact ⟨h1⟩
theorem rdInt_inR {r:Rd} (hr:r.ok):InR (rdInt r).1:=by
 rcases rdInt_some r hr with e | ⟨n,t,e,_,h⟩
 ·rw [e]; exact inR_zero
 ·rw [e]; exact h
theorem rdText_len {r:Rd} (hr:r.ok):Len (rdText r).1.length:=by
 rcases rdText_some r hr with e | ⟨s,t,e,_,h⟩
 ·rw [e]; simp [Len]
 ·rw [e]; exact h
theorem lnkR_wf {r:Rb} (hr:r.rd.ok):WLnk (lnkR r).1:=by
 have e:(lnkR r).1 = ⟨(tktR r).1,⟨(rdInt (tktR r).2.rd).1,(rdNums (rdInt (tktR r).2.rd).2).1⟩,(rdText (rdNums (rdInt (tktR r).2.rd).2).2).1⟩:=rfl
 have h0:=tktR_wf hr
 have h1:=tktR_ok hr
 rw [e]
 generalize (tktR r).2.rd = r1 at *
 generalize (tktR r).1 = t at *
 have h2:=rdInt_ok h1
 have g1:=rdInt_inR h1
 generalize (rdInt r1).2 = r2 at *
 generalize (rdInt r1).1 = d at *
 have h3:=rdNums_ok h2
 have g2:=numsR_inR h2
 generalize (rdNums r2).2 = r3 at *
 generalize (rdNums r2).1 = a at *
 have g3:=rdText_len h3
 generalize (rdText r3).1 = x at *
 exact ⟨h0,g1,g2.1,g2.2,g3⟩
theorem lnksR_wf:∀ (k:Nat) {r:Rb},r.rd.ok → ∀ x ∈ (lnksR k r).1,WLnk x
 | 0,r,_,x,hx=>by cases hx
 | k + 1,r,hr,x,hx=>by
  rw [lnksR] at hx
  rcases List.mem_cons.1 hx with rfl | hx
  ·exact lnkR_wf hr
  ·exact lnksR_wf k (lnkR_ok hr) x hx
theorem heldR_wf {r:Rb} (hr:r.rd.ok):WHld (heldR r).1:=by
 have e:(heldR r).1 = ⟨(someR 2 r).1.getD 0 0,(someR 2 r).1.getD 1 0,(numsR (someR 2 r).2).1,⟨(someR 3 (numsR (someR 2 r).2).2).1.getD 0 0,(someR 3 (numsR (someR 2 r).2).2).1.getD 1 0,(someR 3 (numsR (someR 2 r).2).2).1.getD 2 0,(numsR (someR 3 (numsR (someR 2 r).2).2).2).1⟩,(tktR (numsR (someR 3 (numsR (someR 2 r).2).2).2).2).1,
  (lnksR (min (rdNum (tktR (numsR (someR 3 (numsR (someR 2 r).2).2).2).2).2.rd).1 4).toNat ⟨(rdNum (tktR (numsR (someR 3 (numsR (someR 2 r).2).2).2).2).2.rd).2,(tktR (numsR (someR 3 (numsR (someR 2 r).2).2).2).2).2.bad || decide (4 < (rdNum (tktR (numsR (someR 3 (numsR (someR 2 r).2).2).2).2).2.rd).1)⟩).1⟩:=rfl
 have a1:=someR_inR (n:=2) hr
 have h1:=someR_ok (n:=2) hr
 rw [e]
 clear e
 generalize (someR 2 r).2 = r1 at *
 generalize (someR 2 r).1 = l1 at *
 have a2:(∀ v ∈ (numsR r1).1,InR v) ∧ Len (numsR r1).1.length:=numsR_inR h1
 have h2:(numsR r1).2.rd.ok:=rdNums_ok h1
 generalize (numsR r1).2 = r2 at *
 generalize (numsR r1).1 = l2 at *
 have a3:=someR_inR (n:=3) h2
 have h3:=someR_ok (n:=3) h2
 generalize (someR 3 r2).2 = r3 at *
 generalize (someR 3 r2).1 = l3 at *
 have a4:(∀ v ∈ (numsR r3).1,InR v) ∧ Len (numsR r3).1.length:=numsR_inR h3
 have h4:(numsR r3).2.rd.ok:=rdNums_ok h3
 generalize (numsR r3).2 = r4 at *
 generalize (numsR r3).1 = l4 at *
 have a5:=tktR_wf h4
 have h5:=tktR_ok h4
 generalize (tktR r4).2 = r5 at *
 generalize (tktR r4).1 = t at *
 have h6:=rdNum_ok h5
 generalize (rdNum r5.rd).2 = r6 at *
 generalize (rdNum r5.rd).1 = n at *
 exact ⟨getD_inR a1.1 0,getD_inR a1.1 1,a2.1,a2.2,getD_inR a3.1 0,getD_inR a3.1 1,getD_inR a3.1 2,a4.1,a4.2,a5,lnksR_wf _ (r:=⟨r6,r5.bad || decide (4 < n)⟩) h6⟩
end PuSpec
namespace Go.Proofs
open Go.Sh Tryz
variable {a0:Value} {K:VK} {w:World}
def sh_58 (a0:Value) (K:VK) (w:World):Prop:=
 kA 29 (fun v2=>
 kA 29 fun v3=>
 callM prog 108 #[a0,(.int .i64 2)] fun v9=>
 kH fun C_4 w=>(pureH v9 C_4 fun v10=>
 jI 22 v10 (.int .i64 0) C_4 fun v11=>
 jL 3 v11 C_4 fun v12=>
 pureH v9 C_4 fun v13=>
 jI 22 v13 (.int .i64 1) C_4 fun v14=>
 jL 3 v14 C_4 fun v15=>
 pureH a0 C_4 fun v16=>
 oH prog (.nilCheck (.tmp 0)) 0 [v16] C_4 fun v17=>
 jF 121 0 v17 C_4 fun v18=>
 jL 118 v18 C_4 fun v19=>
 jF 29 0 v3 C_4 fun v21=>
 callM prog 109 #[v19] (fun v20 w=>C_4 w ∧ (
 kS 3 v21 v12 (fun _ w=>C_4 w ∧ (
 jF 29 1 v3 C_4 fun v22=>
 kS 3 v22 v15 (fun _ w=>C_4 w ∧ (
 jF 29 2 v3 C_4 fun v23=>
 kS 22 v23 v20 (fun _ w=>C_4 w ∧ (
 callM prog 108 #[a0,(.int .i64 3)] (fun v25=>
 kH fun C_20 w=>(pureH v25 C_20 fun v26=>
 jI 22 v26 (.int .i64 0) C_20 fun v27=>
 jL 3 v27 C_20 fun v28=>
 pureH v25 C_20 fun v29=>
 jI 22 v29 (.int .i64 1) C_20 fun v30=>
 jL 3 v30 C_20 fun v31=>
 pureH v25 C_20 fun v32=>
 jI 22 v32 (.int .i64 2) C_20 fun v33=>
 jL 3 v33 C_20 fun v34=>
 pureH a0 C_20 fun v35=>
 oH prog (.nilCheck (.tmp 0)) 0 [v35] C_20 fun v36=>
 jF 121 0 v36 C_20 fun v37=>
 jL 118 v37 C_20 fun v38=>
 callM prog 109 #[v38] (fun v39 w=>C_20 w ∧ (
 oM prog (.build 24 #[(0,(.tmp 0)),(1,(.tmp 1)),(2,(.tmp 2)),(3,(.tmp 3))]) 24 [v28,v31,v34,v39] (fun v40 w=>C_20 w ∧ (
 jF 29 3 v3 C_20 fun v41=>
 kS 24 v41 v40 (fun _ w=>C_20 w ∧ (
 callM prog 110 #[a0] (fun v43=>
 kF 29 4 v3 fun v44=>
 kS 26 v44 v43 fun _=>
 oM prog (.nilCheck (.tmp 0)) 0 [a0] fun v46=>
 kF 121 0 v46 fun v47=>
 kL 118 v47 fun v48=>
 callM prog 66 #[v48] fun v49=>
 oM prog (.nilCheck (.tmp 0)) 0 [a0] fun v52=>
 kF 121 1 v52 fun v53=>
 kL 4 v53 fun v54 w=>
 gF v54 (pureM v49) (fun v56 w=>
 gF v54 (kB .gtr 3 4 v56 (.int .i64 4)) (fun v57=>
 kP v54 (.bool true) v57 fun v58=>
 oM prog (.nilCheck (.tmp 0)) 0 [a0] fun v59=>
 kF 121 1 v59 fun v60=>
 kS 4 v60 v58 fun _=>
 oM prog (.call (Go.Call.mk (.builtin .min) #[(.tmp 0),(.tmp 1)] #[3,3])) 3 [v49,(.int .i64 4)] fun v62=>
 kQ [(.int .i64 0)] fun J_52 m_53 l_54 u_l_54 w0_l_54=>(fun w=>(
 kB .lss 3 4 (l_54.getD 0 undef) v62 (fun v64=>
 kO v64 (callM prog 110 #[a0] fun v66=>
 oM prog (.build 86 #[(0,(.tmp 0))]) 86 [v66] fun v67=>
 kA 86 fun v7=>
 kS 86 v7 v67 fun _=>
 kH fun C_59 w=>(pureH a0 C_59 fun v68=>
 oH prog (.nilCheck (.tmp 0)) 0 [v68] C_59 fun v69=>
 jF 121 0 v69 C_59 fun v70=>
 jL 118 v70 C_59 fun v71=>
 pureH a0 C_59 fun v73=>
 oH prog (.nilCheck (.tmp 0)) 0 [v73] C_59 fun v74=>
 jF 121 0 v74 C_59 fun v75=>
 jL 118 v75 C_59 fun v76=>
 callM prog 111 #[v71] (fun v72 w=>C_59 w ∧ (
 callM prog 109 #[v76] (fun v77 w=>C_59 w ∧ (
 oM prog (.build 84 #[(0,(.tmp 0)),(1,(.tmp 1))]) 84 [v72,v77] (fun v78 w=>C_59 w ∧ (
 jF 86 1 v7 C_59 fun v79=>
 kS 84 v79 v78 (fun _ w=>C_59 w ∧ (
 oM prog (.nilCheck (.tmp 0)) 0 [a0] (fun v81=>
 kF 121 0 v81 fun v82=>
 kL 118 v82 fun v83=>
 callM prog 67 #[v83] fun v84=>
 kF 86 2 v7 fun v85=>
 kS 9 v85 v84 fun _=>
 kF 29 5 v3 fun v86=>
 kL 27 v86 fun v87=>
 kL 86 v7 fun v88=>
 oM prog (.buildSlice 27 1 #[(0,(.tmp 0))]) 27 [v88] fun v89=>
 oM prog (.call (Go.Call.mk (.builtin .append) #[(.tmp 0),(.tmp 1)] #[27,27])) 27 [v87,v89] fun v90=>
 kF 29 5 v3 fun v91=>
 kS 27 v91 v90 fun _=>
 kB .add 3 3 (l_54.getD 0 undef) (.int .i64 1) fun v92=>
 kJ J_52 m_53 l_54 w0_l_54 [v92]) w)) w)) w)) w)) w))
 (kL 29 v3 fun v93=>
 kS 29 v2 v93 fun _=>
 kR 29 v2 K)) w)) w0_l_54) w) w) w)) w)) w)) w)) w)) w)) w)) w)) w)) w
theorem sh_58_ok (h:sh_58 a0 K w):callM prog 58 #[a0] K w:=
 cZ (mz [(3,.tree (.look 0 (.look 1 (.look 2 (.look 3 (.look 4 (.look 5 (.look 6 (.look 7 (.look 8 (.look 9 (.look 11 (.only 10 (.only 12 (.look 13 (.only 14 (.look 15 (.only 16 (.done))))))))))))))))))),(5,.tree (.look 0 (.look 1 (.look 2 (.look 3 (.look 4 (.look 5 (.look 6 (.look 7 (.look 8 (.look 9 (.look 10 (.look 11 (.look 12 (.only 13 (.only 14 (.look 15 (.only 16 (.done))))))))))))))))))),(12,.tree (.look 0 (.look 1 (.look 2 (.look 3 (.look 5 (.look 6 (.look 7 (.look 8 (.only 4 (.only 9 (.only 10 (.look 11 (.only 12 (.done)))))))))))))))]) func58 h
end Go.Proofs
namespace Go.Proofs
open Go Go.Sh Go.RowKit FdSpec TkSpec CodeSpec PuSpec
section
variable {K:VK} {w w' w0 W W':World} {L:List (Addr × Value)} {rb b g2 g3:Nat} {r r':Rb} {cs cs':List Value} {p:WK}
@[reducible] def hldZ:List Value:=[.int .i64 0,.int .i64 0,.slice none 0 0,.int .i64 0,.int .i64 0,.int .i64 0,.slice none 0 0,.int .i64 0,.int .i64 0,.int .i64 0,.int .i64 0,.int .i64 0,.int .i64 0,.slice none 0 0]
@[reducible] def lnkZ:List Value:=[.int .i64 0,.int .i64 0,.int .i64 0,.int .i64 0,.int .i64 0,.int .i64 0,.int .i64 0,.slice none 0 0,.string ⟨#[]⟩]
theorem al_hld (w:World):(Instr.alloc 29 true (.tuple #[])).run Tryz.prog w = .ok (.pointer (some ⟨w.heap.size,0,none⟩)) (w.alloc (.cells hldZ.toArray 29)):=by kernel_rfl
theorem sz_hld (w:World):(sizeOf 29).run Tryz.prog w = .ok 14 w:=by kernel_rfl
theorem al_lnk (w:World):(Instr.alloc 86 true (.tuple #[])).run Tryz.prog w = .ok (.pointer (some ⟨w.heap.size,0,none⟩)) (w.alloc (.cells lnkZ.toArray 86)):=by kernel_rfl
theorem sz_lnk (w:World):(sizeOf 86).run Tryz.prog w = .ok 9 w:=by kernel_rfl
theorem sz_bld (w:World):(sizeOf 24).run Tryz.prog w = .ok 4 w:=by kernel_rfl
theorem sz_str (w:World):(sizeOf 9).run Tryz.prog w = .ok 1 w:=by kernel_rfl
theorem sz_lnks (w:World):(sizeOf 27).run Tryz.prog w = .ok 1 w:=by kernel_rfl
theorem build_bld (T:TypeId) (a b c:Int) (ad:Option Addr) (n m:Nat):oM Tryz.prog (Go.Op.build 24 #[(0,(.tmp 0)),(1,(.tmp 1)),(2,(.tmp 2)),(3,(.tmp 3))]) T [.int .i64 a,.int .i64 b,.int .i64 c,.slice ad n m] = pureM (.agg #[.int .i64 a,.int .i64 b,.int .i64 c,.slice ad n m]):=by
 funext K w
 kernel_rfl
theorem build_spd (T:TypeId) (a:Int) (ad:Option Addr) (n m:Nat):oM Tryz.prog (Go.Op.build 84 #[(0,(.tmp 0)),(1,(.tmp 1))]) T [.int .i64 a,.slice ad n m] = pureM (.agg #[.int .i64 a,.slice ad n m]):=by
 funext K w
 kernel_rfl
theorem build_lnk (T:TypeId) (t:Tkt):oM Tryz.prog (Go.Op.build 86 #[(0,(.tmp 0))]) T [tktV t] = pureM (.agg #[.int .i64 t.mark,.int .i64 t.first,.int .i64 t.z,.int .i64 t.a,.int .i64 t.b,.int .i64 t.r,.int .i64 0,.slice none 0 0,.string ⟨#[]⟩]):=by
 funext K w
 kernel_rfl
theorem laidE_fr {S:Nat → Prop} (hl:Cd.LaidE w) (hf:Fr S w w') (hS:∀ i,S i → 8 ≤ i):Cd.LaidE w':=hl.keep (fun k hk=>hf.block k (by have:=hl.size; omega) (fun h=>by have:=hS k h; omega)) hf.size
theorem fresh_fr {S:Nat → Prop} {w2:World} (h:Fresh w2 W p) (hf:Fr S W W') (hS:∀ i,S i → i < w2.heap.size):Fresh w2 W' p:=
 (FP.fr h hf (fun i hi=>⟨hi.2,fun hs=>by have:=hS i hs; omega⟩)).mono (fun i hi=>⟨hi.1,lL hi.2 hf.size⟩)
theorem own_inB {B:Nat} {v:Value} {l:List Int} (h:OwnI w B v l) {i:Nat} (hi:Value.inBlock v = some i):v.ownBlock = some i:=by
 rcases h.2 with ⟨rfl,_⟩ | ⟨g,cap,cur,rfl,_⟩
 ·cases hi
 ·exact hi
theorem own_fresh {w2:World} {v:Value} {l:List Int} {B:Nat} (h:OwnI W B v l) (hB:w2.heap.size ≤ B) (hr:∀ x ∈ l,InR x) (hl:(l.length:Int) ≤ 9223372036854775807):Fresh w2 W (fun W=>Ints W v l):=
 (h.ints (fun x hx=>inR_I64 (hr x hx)) (by omega)).fresh (fun i hi=>Nat.le_trans hB (owns_own h (own_inB h hi)).2.1)
structure HdS (w2 W:World) (rb b g2 g3:Nat) (r:Rb) (cs:List Value):Prop where
 r:RbR W rb b r
 l:Cd.LaidE W
 h:Holds W g3 29 cs
 z:Holds W g2 29 hldZ
 f:Fr (fun i=>Rs rb b i ∨ i = g3) w2 W
 n:g2 ≠ g3 ∧ ¬ Rs rb b g2 ∧ ¬ Rs rb b g3 ∧ g2 < w2.heap.size ∧ g3 < w2.heap.size ∧ 8 ≤ g3 ∧ rb < w2.heap.size ∧ b < w2.heap.size
theorem HdS.next {w2:World} (k:HdS w2 W rb b g2 g3 r cs) (hb:Bw W W'):HdS w2 W' rb b g2 g3 r cs:=
 ⟨k.r.next hb,k.l.below hb k.l.size,k.h.next hb,k.z.next hb,k.f.trans (S':=fun _=>False) (Fr.of_below hb) (fun _ h=>h.elim),k.n⟩
theorem HdS.rs {w2:World} (k:HdS w2 W rb b g2 g3 r cs) (hr:RbR W' rb b r') (hf:Fr (Rs rb b) W W'):HdS w2 W' rb b g2 g3 r' cs:=
 ⟨hr,laidE_fr k.l hf (fun i hi=>by rcases hi with rfl | rfl; exact k.r.lr; exact k.r.lb),(hf.block g3 k.h.lt k.n.2.2.1).trans k.h,(hf.block g2 k.z.lt k.n.2.1).trans k.z,k.f.trans hf (fun i hi=>.inl (.inl hi)),k.n⟩
theorem HdS.put {w2:World} (k:HdS w2 W rb b g2 g3 r cs) (hg:W.grownBy W' (some g3)) (hH:Holds W' g3 29 cs'):HdS w2 W' rb b g2 g3 r cs':=
 ⟨k.r.keep (Fr.of_by hg) (fun e=>k.n.2.2.1 (.inl e.symm)) (fun e=>k.n.2.2.1 (.inr e.symm)),laidE_fr k.l (Fr.of_by hg) (fun i e=>by subst e; exact k.n.2.2.2.2.2.1),hH,k.z.other hg k.n.1,k.f.by hg (fun i e=>.inl (.inr (by cases e; rfl))),k.n⟩
theorem HdS.rsS {w2:World} (k:HdS w2 W rb b g2 g3 r cs):∀ i,Rs rb b i → i < w2.heap.size:=fun i hi=>by rcases hi with rfl | rfl; exact k.n.2.2.2.2.2.2.1; exact k.n.2.2.2.2.2.2.2
theorem HdS.g3S {w2:World} (k:HdS w2 W rb b g2 g3 r cs):∀ i,i = g3 → i < w2.heap.size:=fun i hi=>by subst hi; exact k.n.2.2.2.2.1
theorem HdS.otho {w2:World} {o:Option Nat} (k:HdS w2 W rb b g2 g3 r cs) (hg:W.grownBy W' o) (ho:∀ j,o = some j → w2.heap.size ≤ j):HdS w2 W' rb b g2 g3 r cs:=by
 have hn:=k.n
 have hl:=k.l.size
 have hf:=k.f.size
 have ne:∀ i,i < w2.heap.size → W'.heap[i]? = W.heap[i]?:=fun i hi=>hg.block i (by omega) (fun e=>by have:=ho i (by first | exact e | exact e.symm); omega)
 refine ⟨⟨(ne rb hn.2.2.2.2.2.2.1).trans k.r.blk,(ne b hn.2.2.2.2.2.2.2).trans k.r.rd,k.r.ne,k.r.ok,k.r.ln,k.r.lb,k.r.lr⟩,laidE_fr k.l (Fr.of_by' hg) (fun i e=>?_),(ne g3 hn.2.2.2.2.1).trans k.h,(ne g2 hn.2.2.2.1).trans k.z,k.f.by hg (fun i e=>.inr (ho i e)),k.n⟩
 have:=ho i e
 have:=hn.2.2.2.2.2.1
 omega
theorem HdS.oth {w2:World} {o:Nat} (k:HdS w2 W rb b g2 g3 r cs) (hg:W.grownBy W' (some o)) (ho:w2.heap.size ≤ o):HdS w2 W' rb b g2 g3 r cs:=k.otho hg (fun j e=>by cases e; exact ho)
theorem list2 {l:List Int} (h:l.length = 2):∃ a b,l = [a,b]:=by
 match l,h with
 | [a,b],_=>exact ⟨a,b,rfl⟩
theorem list3 {l:List Int} (h:l.length = 3):∃ a b c,l = [a,b,c]:=by
 match l,h with
 | [a,b,c],_=>exact ⟨a,b,c,rfl⟩
theorem OwnI.cells {B:Nat} {v:Value} {l:List Int} (h:OwnI W B v l) (hl:l ≠ []):∃ g c,v = .slice (some ⟨g,0,none⟩) l.length c ∧ g < W.heap.size ∧ B ≤ g ∧ ∀ (i:Nat) (x:Int),l[i]? = some x → W.cell? ⟨g,i,none⟩ = some (.int .i64 x):=by
 obtain ⟨g',cap,cur,rfl,hlt,hB,_,_,_,hcell⟩:=owns_cells h (List.length_pos_iff.2 hl)
 refine ⟨g',cap,rfl,hlt,hB,fun i x hx=>hcell i _ ?_⟩
 rw [flat_int,List.getElem?_map,hx]
 rfl
theorem or_step {q:Bool} {n:Int} (k:K (.bool (q || decide (4 < n))) w):gdM (gd (.bool q) false) (pureM (.int .i64 n)) (fun v56 w=>gdM (gd (.bool q) false) (oM Tryz.prog (Go.Op.binOp Go.BinOp.gtr 3 (.tmp 0) (.tmp 1) 3) 4 [v56,(.int .i64 4)]) (fun v57 w=>oM Tryz.prog (Go.Op.pick (.tmp 0) (.tmp 1) (.tmp 2)) 4 [.bool q,(.bool true),v57] (fun v w=>K v w) w) w) w:=by
 cases q with
 | true=>
  repeat (any_goals (with_reducible first|refine zD ?_|refine yB ?_))
  exact k
 | false=>
  repeat (any_goals (first
  | (with_reducible first|refine pureM_in ?_|refine zC ?_|refine yC ?_)
  | ((with_reducible refine oG fun X Y=>?_); simp [go_sem]; apply Y; clear Y X)))
  rw [Bool.false_or] at k
  exact k
def YgD (B N:Nat) (v:Value) (i:Nat):Prop:=B ≤ i ∧ i < N ∧ v.ownBlock ≠ some i
def HlJ (w2:World) (B rb b g2 g3:Nat) (ls:List Lnk) (rF:Rb) (n:Nat) (f:Value → List Value) (p:WK) (vs:List Value) (W:World):Prop:=
 ∃ (i:Nat) (r:Rb) (lv:Value) (l:List Lnk),vs = [.int .i64 (i:Int)] ∧ i ≤ n ∧ HdS w2 W rb b g2 g3 r (f lv) ∧ B ≤ W.heap.size ∧ l ++ (lnksR (n - i) r).1 = ls ∧ (lnksR (n - i) r).2 = rF ∧ l.length = i ∧ GRow 9 86 VLnk B (YgD B W.heap.size lv) W lv l ∧ FP (fun i=>w2.heap.size ≤ i ∧ i < B) W p
theorem lnk_one (x:Lnk) (ad:Option Addr) (n c:Nat):∀ u ∈ lkC x (.slice ad n c),u.oneCell' = true:=by
 intro u hu
 simp only [lkC,List.mem_cons,List.not_mem_nil,or_false] at hu
 rcases hu with rfl | rfl | rfl | rfl | rfl | rfl | rfl | rfl | rfl <;> rfl
theorem hld_one (a b c d e f g h i j k:Int) (a1 a2 a3:Option Addr) (n1 n2 n3 c1 c2 c3:Nat):∀ u ∈ ([.int .i64 a,.int .i64 b,.slice a1 n1 c1,.int .i64 c,.int .i64 d,.int .i64 e,.slice a2 n2 c2,.int .i64 f,.int .i64 g,.int .i64 h,.int .i64 i,.int .i64 j,.int .i64 k,.slice a3 n3 c3]:List Value),u.oneCell' = true:=by
 intro u hu
 simp only [List.mem_cons,List.not_mem_nil,or_false] at hu
 rcases hu with rfl | rfl | rfl | rfl | rfl | rfl | rfl | rfl | rfl | rfl | rfl | rfl | rfl | rfl <;> rfl
theorem lit_lnk {T:TypeId} (x:Lnk) (ad:Option Addr) (n c:Nat) (k:∀ g W,Bw w W → w.heap.size ≤ g → Holds W g 86 (lkC x (.slice ad n c)) → K (.slice (some ⟨g,0,none⟩) 1 1) W):oM Tryz.prog (.buildSlice 27 1 #[(0,.tmp 0)]) T [lkV x (.slice ad n c)] K w:=by
 rw [oM_buildSlice1]; exact lit_run (by kernel_rfl) k
theorem links_add {B:Nat} {D:Nat → Prop} {v:Value} {l:List Lnk} {x:Lnk} {T:TypeId} {ad:Option Addr} {n c q:Nat} (h:GRow 9 86 VLnk B D w v l) (hB:B ≤ w.heap.size) (hq:Holds w q 86 (lkC x (.slice ad n c)))
  (hx:FP D w (fun w=>VLnk w (lkC x (.slice ad n c)) x)) (hD:∀ i,D i → i < w.heap.size ∧ v.ownBlock ≠ some i) (hl:l.length < 1000)
  (k:∀ v' w',GRow 9 86 VLnk B D w' v' (l ++ [x]) → w.grownBy w' v.ownBlock → (∀ i,v'.ownBlock = some i → v.ownBlock = some i ∨ w.heap.size ≤ i) → K v' w') :
  oM Tryz.prog (.call { callee:=.builtin .append,args:=#[.tmp 0,.tmp 1],argTypes:=#[27,27] }) T [v,.slice (some ⟨q,0,none⟩) 1 1] K w:=
 grow_appendB 27 T ((Tryz.prog.info? 86).getD default) (.agg lnkZ.toArray) 96 (by kernel_rfl) (by kernel_rfl) (by kernel_rfl) (by kernel_rfl) (by kernel_rfl) (by kernel_rfl) (by omega) (by omega) h hB (x:=x) (xs:=lkC x (.slice ad n c)) rfl
  (fun j u hj=>by
   obtain ⟨hj1,rfl⟩:=gS hj
   rw [Nat.zero_add]
   exact hq.cell j hj1) (lnk_one x ad n c) hx hD (by omega) (fun v' w' a b c _=>k v' w' a b c)
set_option maxHeartbeats 4000000 in
theorem held_ok (h:RbR w rb b r) (hl:Cd.LaidE w) (k:∀ w' av yv lv,RbR w' rb b (heldR r).2 → Fr (Rs rb b) w w' → Fresh w w' (fun W=>HldR W (heldR r).1 av yv lv) → K (hldV (heldR r).1 av yv lv) w'):callM Tryz.prog 58 #[.pointer (some ⟨rb,0,none⟩)] K w:=by
 apply sh_58_ok
 unfold sh_58
 have hwf:=heldR_wf h.ok
 refine arr_alloc al_hld (fun g2 w1 h1 hg2 hH2=>?_)
 refine arr_alloc al_hld (fun g3 w2 h2 hg3 hH3=>?_)
 have h12:=h1.on h2
 have hw8:=hl.size
 have hrlt:=h.lt
 have h1s:=h1.size
 have H2:HdS w2 w2 rb b g2 g3 r hldZ:=⟨h.next h12,hl.below h12 hl.size,hH3,hH2.next h2,Fr.refl _ _,by have:=hH2.lt; omega,fun e=>by have:=hrlt g2 e; omega,fun e=>by have:=hrlt g3 e; omega,by have:=hH2.lt; have:=h2.size; omega,hH3.lt,by omega,by have:=hrlt rb (.inl rfl); have:=h12.size; omega,by have:=hrlt b (.inr rfl); have:=h12.size; omega⟩
 have hfw:Fr (Rs rb b) w w2:=Fr.of_below h12
 clear hH2 hH3 h2
 refine some_ok 2 (by omega) H2.r H2.l (fun w3 v9 r3 f3 o3=>?_)
 have H3:=H2.rs r3 f3
 have hI2:=someR_inR (n:=2) h.ok
 have hok1:=someR_ok (n:=2) h.ok
 have eH:heldR r = (⟨(someR 2 r).1.getD 0 0,(someR 2 r).1.getD 1 0,(numsR (someR 2 r).2).1,⟨(someR 3 (numsR (someR 2 r).2).2).1.getD 0 0,(someR 3 (numsR (someR 2 r).2).2).1.getD 1 0,(someR 3 (numsR (someR 2 r).2).2).1.getD 2 0,(numsR (someR 3 (numsR (someR 2 r).2).2).2).1⟩,(tktR (numsR (someR 3 (numsR (someR 2 r).2).2).2).2).1,
  (lnksR (min (rdNum (tktR (numsR (someR 3 (numsR (someR 2 r).2).2).2).2).2.rd).1 4).toNat ⟨(rdNum (tktR (numsR (someR 3 (numsR (someR 2 r).2).2).2).2).2.rd).2,(tktR (numsR (someR 3 (numsR (someR 2 r).2).2).2).2).2.bad || decide (4 < (rdNum (tktR (numsR (someR 3 (numsR (someR 2 r).2).2).2).2).2.rd).1)⟩).1⟩,
  (lnksR (min (rdNum (tktR (numsR (someR 3 (numsR (someR 2 r).2).2).2).2).2.rd).1 4).toNat ⟨(rdNum (tktR (numsR (someR 3 (numsR (someR 2 r).2).2).2).2).2.rd).2,(tktR (numsR (someR 3 (numsR (someR 2 r).2).2).2).2).2.bad || decide (4 < (rdNum (tktR (numsR (someR 3 (numsR (someR 2 r).2).2).2).2).2.rd).1)⟩).2):=rfl
 obtain ⟨a0,a1,e2⟩:=list2 hI2.2
 rw [e2] at eH o3
 generalize (someR 2 r).2 = r1 at *
 obtain ⟨gv,cv,rfl,hvlt,hvB,hvc⟩:=o3.cells (by simp)
 clear h12 hI2 e2 h f3 r3 H2 o3
 have hb4:Below w3.heap.size w3 { w3 with drawn:=w3.drawn + 1 }:=.drawn
 have H4:=H3.next hb4
 have v0:=(hb4.cell hvlt).trans (hvc 0 a0 rfl)
 have v1:=(hb4.cell hvlt).trans (hvc 1 a1 rfl)
 refine ⟨fun W=>W.cell? ⟨gv,0,none⟩ = some (.int .i64 a0) ∧ W.cell? ⟨gv,1,none⟩ = some (.int .i64 a1) ∧ W.cell? ⟨rb,0,none⟩ = some (.pointer (some ⟨b,0,none⟩)),⟨v0,v1,H4.r.blk.cell 0 (by simp)⟩,?_⟩
 have hvl4:=lL hvlt hb4.size
 generalize ({ w3 with drawn:=w3.drawn + 1 }:World) = w4 at *
 clear hvc hb4 H3 hvlt
 repeat (any_goals (first
 | (with_reducible refine pX ?_)
 | ((with_reducible refine idOH ?_); first|(with_reducible refine oH_nil ?_)|(with_reducible refine oH_of ⟨_,rfl⟩ (fun W0 hW0=>by (refine oG (fun X Y=>?_)); simp [go_sem,hW0.1,hW0.2.1,hW0.2.2]; (first | exact Y _ _ ⟨rfl,rfl⟩ | exact ⟨by omega,Y _ _ ⟨rfl,rfl⟩⟩)) ?_))))
 have hgvS:¬ Rs rb b gv ∧ gv ≠ g3:=⟨fun e=>by have:=H4.rsS gv e; omega,fun e=>by have:=H4.g3S gv e; omega⟩
 refine rnums_ok H4.r H4.l (fun w5 av r5 f5 o5=>?_)
 have C5:w5.cell? ⟨gv,0,none⟩ = some (.int .i64 a0) ∧ w5.cell? ⟨gv,1,none⟩ = some (.int .i64 a1) ∧ w5.cell? ⟨rb,0,none⟩ = some (.pointer (some ⟨b,0,none⟩)):=
  ⟨(World.cell?_of_block (f5.block gv hvl4 hgvS.1)).trans v0,(World.cell?_of_block (f5.block gv hvl4 hgvS.1)).trans v1,r5.blk.cell 0 (by simp)⟩
 have H5:=H4.rs r5 f5
 have hvl5:gv < w5.heap.size:=lL hvl4 f5.size
 have hrb5:=r5.blk.lt
 have hrg:rb ≠ g3:=fun e=>H4.n.2.2.1 (.inl e.symm)
 have Cg:∀ W W':World,(W.cell? ⟨gv,0,none⟩ = some (.int .i64 a0) ∧ W.cell? ⟨gv,1,none⟩ = some (.int .i64 a1) ∧ W.cell? ⟨rb,0,none⟩ = some (.pointer (some ⟨b,0,none⟩))) → w5.heap.size ≤ W.heap.size → W.grownBy W' (some g3) →
   (W'.cell? ⟨gv,0,none⟩ = some (.int .i64 a0) ∧ W'.cell? ⟨gv,1,none⟩ = some (.int .i64 a1) ∧ W'.cell? ⟨rb,0,none⟩ = some (.pointer (some ⟨b,0,none⟩))):=fun W W' hC hs hg=>by
  have e1:W'.heap[gv]? = W.heap[gv]?:=hg.block gv (by omega) (fun e=>hgvS.2 (by first | exact (oI e) | exact (oI e).symm))
  have e2:W'.heap[rb]? = W.heap[rb]?:=hg.block rb (by omega) (fun e=>hrg (by first | exact (oI e) | exact (oI e).symm))
  exact ⟨(World.cell?_of_block e1).trans hC.1,(World.cell?_of_block e1).trans hC.2.1,(World.cell?_of_block e2).trans hC.2.2⟩
 have ha5:Fresh w2 w5 (fun W=>Ints W av (numsR r1).1):=own_fresh o5 (Nat.le_trans H4.f.size (rL)) (numsR_inR hok1).1 (numsR_inR hok1).2
 obtain ⟨aad,ac,hav⟩:∃ ad c,av = .slice ad _ c:=owns_len o5
 subst hav
 generalize hA:(numsR r1).1 = attrs at *
 have hok2:(numsR r1).2.rd.ok:=rdNums_ok hok1
 generalize (numsR r1).2 = r2 at *
 refine ⟨C5,?_⟩
 refine arr_set sz_int1 rfl rfl H5.h (i:=0) (by simp) (fun w6 hg6 hH6=>?_)
 have C6:=Cg _ _ C5 (rL) hg6
 have H6:=H5.put hg6 hH6
 have hs6:=hg6.size
 refine ⟨C6,?_⟩
 repeat (any_goals ((with_reducible refine idOH ?_); (with_reducible refine oH_of ⟨_,rfl⟩ (fun W0 hW0=>by (refine oG (fun X Y=>?_)); simp [go_sem,hW0.1]; (first | exact Y _ _ ⟨rfl,rfl⟩ | exact ⟨by omega,Y _ _ ⟨rfl,rfl⟩⟩)) ?_)))
 refine arr_set sz_int1 rfl rfl H6.h (i:=1) (by simp) (fun w7 hg7 hH7=>?_)
 have C7:=Cg _ _ C6 hs6 hg7
 have H7:=H6.put hg7 hH7
 have hs7:=Nat.le_trans hs6 hg7.size
 refine ⟨C7,?_⟩
 repeat (any_goals ((with_reducible refine idOH ?_); (with_reducible refine oH_of ⟨_,rfl⟩ (fun W0 hW0=>by (refine oG (fun X Y=>?_)); simp [go_sem,hW0.1]; (first | exact Y _ _ ⟨rfl,rfl⟩ | exact ⟨by omega,Y _ _ ⟨rfl,rfl⟩⟩)) ?_)))
 refine arr_set sz_ints rfl rfl H7.h (i:=2) (by simp) (fun w8 hg8 hH8=>?_)
 have C8:=Cg _ _ C7 hs7 hg8
 have H8:=H7.put hg8 hH8
 refine ⟨C8,?_⟩
 have ha8:=fresh_fr (fresh_fr (fresh_fr ha5 (Fr.of_by hg6) H5.g3S) (Fr.of_by hg7) H5.g3S) (Fr.of_by hg8) H5.g3S
 simp only [List.set_cons_succ,List.set_cons_zero] at H8
 clear C5 C6 C7 C8 Cg H4 H5 H6 H7 hH6 hH7 hH8 ha5 o5 v0 v1 hvl4 hvl5 hgvS hvB
 refine some_ok 3 (by omega) H8.r H8.l (fun w9 v10 r9 f9 o9=>?_)
 have H9:=H8.rs r9 f9
 have ha9:=fresh_fr ha8 f9 H8.rsS
 have hI3:=someR_inR (n:=3) hok2
 have hok3:=someR_ok (n:=3) hok2
 obtain ⟨s0,s1,s2,e3⟩:=list3 hI3.2
 rw [e3] at eH o9
 generalize (someR 3 r2).2 = r3 at *
 obtain ⟨gw,cw,rfl,hwlt,hwB,hwc⟩:=o9.cells (by simp)
 have hs28:=H8.f.size
 clear H8 ha8 f9 r9 o9 hI3 e3
 have hb10:Below w9.heap.size w9 { w9 with drawn:=w9.drawn + 1 }:=.drawn
 have H10:=H9.next hb10
 have ha10:=ha9.next hb10
 have v0:=(hb10.cell hwlt).trans (hwc 0 s0 rfl)
 have v1:=(hb10.cell hwlt).trans (hwc 1 s1 rfl)
 have v2:=(hb10.cell hwlt).trans (hwc 2 s2 rfl)
 refine ⟨fun W=>W.cell? ⟨gw,0,none⟩ = some (.int .i64 s0) ∧ W.cell? ⟨gw,1,none⟩ = some (.int .i64 s1) ∧ W.cell? ⟨gw,2,none⟩ = some (.int .i64 s2) ∧ W.cell? ⟨rb,0,none⟩ = some (.pointer (some ⟨b,0,none⟩)),⟨v0,v1,v2,H10.r.blk.cell 0 (by simp)⟩,?_⟩
 have hwl10:=lL hwlt hb10.size
 have hwB':w2.heap.size ≤ gw:=by omega
 generalize ({ w9 with drawn:=w9.drawn + 1 }:World) = w10 at *
 clear hwc hb10 H9 hwlt ha9
 repeat (any_goals (first
 | (with_reducible refine pX ?_)
 | ((with_reducible refine idOH ?_); first|(with_reducible refine oH_nil ?_)|(with_reducible refine oH_of ⟨_,rfl⟩ (fun W0 hW0=>by (refine oG (fun X Y=>?_)); simp [go_sem,hW0.1,hW0.2.1,hW0.2.2.1,hW0.2.2.2]; (first | exact Y _ _ ⟨rfl,rfl⟩ | exact ⟨by omega,Y _ _ ⟨rfl,rfl⟩⟩)) ?_))))
 have hgwS:¬ Rs rb b gw ∧ gw ≠ g3:=⟨fun e=>by have:=H10.rsS gw e; omega,fun e=>by have:=H10.g3S gw e; omega⟩
 refine rnums_ok H10.r H10.l (fun w11 yv r11 f11 o11=>?_)
 have C11:w11.cell? ⟨gw,0,none⟩ = some (.int .i64 s0) ∧ w11.cell? ⟨gw,1,none⟩ = some (.int .i64 s1) ∧ w11.cell? ⟨gw,2,none⟩ = some (.int .i64 s2) ∧ w11.cell? ⟨rb,0,none⟩ = some (.pointer (some ⟨b,0,none⟩)):=
  ⟨(World.cell?_of_block (f11.block gw hwl10 hgwS.1)).trans v0,(World.cell?_of_block (f11.block gw hwl10 hgwS.1)).trans v1,(World.cell?_of_block (f11.block gw hwl10 hgwS.1)).trans v2,r11.blk.cell 0 (by simp)⟩
 have H11:=H10.rs r11 f11
 have ha11:=fresh_fr ha10 f11 H10.rsS
 have hy11:Fresh w2 w11 (fun W=>Ints W yv (numsR r3).1):=own_fresh o11 H10.f.size (numsR_inR hok3).1 (numsR_inR hok3).2
 obtain ⟨yad,yc,hyv⟩:∃ ad c,yv = .slice ad _ c:=owns_len o11
 subst hyv
 generalize hY:(numsR r3).1 = ys at *
 have hok4:(numsR r3).2.rd.ok:=rdNums_ok hok3
 generalize (numsR r3).2 = r4 at *
 have hrb11:=r11.blk.lt
 have hwl11:gw < w11.heap.size:=lL hwl10 f11.size
 refine ⟨C11,?_⟩
 rw [build_bld]
 iterate 1 (any_goals (with_reducible refine pureM_in ?_))
 refine ⟨C11,?_⟩
 repeat (any_goals ((with_reducible refine idOH ?_); (with_reducible refine oH_of ⟨_,rfl⟩ (fun W0 hW0=>by (refine oG (fun X Y=>?_)); simp [go_sem,hW0.1]; (first | exact Y _ _ ⟨rfl,rfl⟩ | exact ⟨by omega,Y _ _ ⟨rfl,rfl⟩⟩)) ?_)))
 refine arr_storeRow (o:=3) (xs:=[.int .i64 s0,.int .i64 s1,.int .i64 s2,.slice yad ys.length yc]) sz_bld rfl rfl (by intro u hu; simp only [List.mem_cons,List.not_mem_nil,or_false] at hu; rcases hu with rfl | rfl | rfl | rfl <;> rfl) H11.h (by simp) (fun w12 hg12 hH12=>?_)
 have C12:w12.cell? ⟨gw,0,none⟩ = some (.int .i64 s0) ∧ w12.cell? ⟨gw,1,none⟩ = some (.int .i64 s1) ∧ w12.cell? ⟨gw,2,none⟩ = some (.int .i64 s2) ∧ w12.cell? ⟨rb,0,none⟩ = some (.pointer (some ⟨b,0,none⟩)):=by
  have e1:w12.heap[gw]? = w11.heap[gw]?:=hg12.block gw hwl11 (fun e=>hgwS.2 (by first | exact (oI e) | exact (oI e).symm))
  have e2:w12.heap[rb]? = w11.heap[rb]?:=hg12.block rb hrb11 (fun e=>hrg (by first | exact (oI e) | exact (oI e).symm))
  exact ⟨(World.cell?_of_block e1).trans C11.1,(World.cell?_of_block e1).trans C11.2.1,(World.cell?_of_block e1).trans C11.2.2.1,(World.cell?_of_block e2).trans C11.2.2.2⟩
 refine ⟨C12,?_⟩
 have H12:=H11.put hg12 hH12
 simp only [List.take_succ_cons,List.take_zero,List.drop_succ_cons,List.drop_zero,List.cons_append,List.nil_append] at H12
 have ha12:=fresh_fr ha11 (Fr.of_by hg12) H11.g3S
 have hy12:=fresh_fr hy11 (Fr.of_by hg12) H11.g3S
 clear C11 C12 H10 H11 hH12 ha10 ha11 hy11 o11 v0 v1 v2 hwl10 hwl11 hgwS hwB hwB'
 refine rticket_ok H12.r H12.l (fun w13 r13 f13=>?_)
 have H13:=H12.rs r13 f13
 have ha13:=fresh_fr ha12 f13 H12.rsS
 have hy13:=fresh_fr hy12 f13 H12.rsS
 have hok5:=tktR_ok hok4
 generalize hT:(tktR r4).1 = t at *
 generalize (tktR r4).2 = r5 at *
 repeat (any_goals ((with_reducible refine oG fun X Y=>?_); simp [go_sem]; apply Y; clear Y X))
 refine arr_storeRow (o:=7) (xs:=tktC t) sz_tkt rfl rfl (tkt_one t) H13.h (by simp) (fun w14 hg14 hH14=>?_)
 have H14:=H13.put hg14 hH14
 simp only [List.take_succ_cons,List.take_zero,List.drop_succ_cons,List.drop_zero,List.cons_append,List.nil_append] at H14
 have ha14:=fresh_fr ha13 (Fr.of_by hg14) H13.g3S
 have hy14:=fresh_fr hy13 (Fr.of_by hg14) H13.g3S
 clear H12 H13 hH14 ha12 ha13 hy12 hy13
 have c0:=H14.r.blk.cell 0 (by simp)
 simp only [List.getElem_cons_zero] at c0
 repeat (any_goals ((with_reducible refine oG fun X Y=>?_); simp [go_sem,c0]; apply Y; clear Y X))
 refine Cd.rnum_ok b r5.rd H14.l (Nat.lt_trans H14.r.ln (by decide)) H14.r.rd (fun w15 hr15 hg15=>?_)
 have hok6:=rdNum_ok hok5
 have r15:=H14.r.step hr15 hg15 hok6 (num_shorter _)
 have H15:=H14.rs r15 (rs_by hg15)
 have ha15:=fresh_fr ha14 (rs_by hg15) H14.rsS
 have hy15:=fresh_fr hy14 (rs_by hg15) H14.rsS
 clear H14 ha14 hy14
 generalize (rdNum r5.rd).2 = r6 at *
 generalize hN:(rdNum r5.rd).1 = n at *
 have c1:=H15.r.blk.cell 1 (by simp)
 simp only [List.getElem_cons_zero,List.getElem_cons_succ] at c1
 iterate 3 (any_goals ((with_reducible refine oG fun X Y=>?_); simp [go_sem,c1]; apply Y; clear Y X))
 refine or_step ?_
 repeat (any_goals ((with_reducible refine oG fun X Y=>?_); simp [go_sem]; apply Y; clear Y X))
 refine arr_set sz_bool rfl rfl H15.r.blk (i:=1) (by simp) (fun w16 hg16 hH16=>?_)
 have r16:RbR w16 rb b ⟨r6,r5.bad || decide (4 < n)⟩:=⟨hH16,(hg16.block b H15.r.rd.lt (fun e=>H15.r.ne (by first | exact (oI e) | exact (oI e).symm))).trans H15.r.rd,H15.r.ne,H15.r.ok,H15.r.ln,H15.r.lb,H15.r.lr⟩
 have f16:Fr (Rs rb b) w15 w16:=(Fr.of_by hg16).mono (fun i _ e=>.inl e)
 have H16:=H15.rs r16 f16
 have ha16:=fresh_fr ha15 f16 H15.rsS
 have hy16:=fresh_fr hy15 f16 H15.rsS
 have hn0:0 ≤ n:=by
  rw [← hN]
  rcases rdNumber_some r5.rd 59 0 with e | ⟨n,t,e,_,_,h3⟩
  ·show 0 ≤ (rdNumber r5.rd 59 0).1
   rw [e]; exact Int.le_refl 0
  ·show 0 ≤ (rdNumber r5.rd 59 0).1
   rw [e]; exact h3
 generalize hB':(r5.bad || decide (4 < n)) = bad' at *
 clear H15 ha15 hy15 r16 f16 hH16 c0 c1
 obtain ⟨m,hm⟩:∃ m:Nat,min n 4 = m:=⟨(min n 4).toNat,by omega⟩
 rw [hm,Int.toNat_natCast] at eH
 rw [eH] at k hwf
 have hm4:m ≤ 4:=by omega
 dsimp only at k hwf
 repeat (any_goals ((with_reducible refine oG fun X Y=>?_); simp [go_sem,hm]; apply Y; clear Y X))
 generalize hLS:(lnksR m ⟨r6,bad'⟩).1 = LS at *
 generalize hRF:(lnksR m ⟨r6,bad'⟩).2 = RF at *
 have hB2:=H16.f.size
 refine ⟨HlJ w2 w16.heap.size rb b g2 g3 LS RF m (fun lv=>[.int .i64 a0,.int .i64 a1,.slice aad attrs.length ac,.int .i64 s0,.int .i64 s1,.int .i64 s2,.slice yad ys.length yc,.int .i64 t.mark,.int .i64 t.first,.int .i64 t.z,.int .i64 t.a,.int .i64 t.b,.int .i64 t.r,lv]) (fun W=>Ints W (.slice aad attrs.length ac) attrs ∧ Ints W (.slice yad ys.length yc) ys),
  (fun vs _=>match vs with | [.int _ i]=>m - i.toNat | _=>0),⟨0,⟨r6,bad'⟩,.slice none 0 0,[],rfl,by omega,H16,rL,hLS,hRF,rfl,.nil,ha16.both hy16⟩,?_⟩
 clear H16 ha16 hy16 hLS hRF
 rintro _ _ w17 ⟨i,ri,lv,l,rfl,hi,H17,hB17,hls,hrf,hll,hG17,hp17⟩
 by_cases hin:¬ i < m
 ·have hiz:¬ (i:Int) < m:=by omega
  have him:m - i = 0:=by omega
  rw [him] at hls hrf
  have hls':l = LS:=by rw [← hls]; show l = l ++ []; simp
  have hrf':ri = RF:=hrf
  subst hls' hrf'
  obtain ⟨lad,lc,rfl⟩:=hG17.isSlice
  repeat (any_goals (first
  | (with_reducible refine yM ?_)
  | ((with_reducible refine oG fun X Y=>?_); simp [go_sem,hiz]; apply Y; clear Y X)))
  refine arr_load H17.h un_hld (by kernel_rfl) (by kernel_rfl) ?_
  refine arr_store sz_hld rfl rfl (hld_one _ _ _ _ _ _ _ _ _ _ _ _ _ _ _ _ _ _ _ _) H17.z rfl (fun w18 hg18 hH18=>?_)
  refine arr_ret hH18 un_hld (by kernel_rfl) (by kernel_rfl) ?_
  have hne2:=H17.n
  have r18:=H17.r.keep (Fr.of_by hg18) (fun e=>hne2.2.1 (.inl e.symm)) (fun e=>hne2.2.1 (.inr e.symm))
  have f18:Fr (Rs rb b) w w18:=((hfw.trans H17.f (fun i hi=>hi.elim .inl (fun e=>.inr (by omega)))).by hg18 (fun i e=>.inr (by cases e; omega)))
  have hfp:=hG17.fp (by decide) (by omega)
  have hlk:Fresh w2 w17 (fun W=>LnksR W (.slice lad l.length lc) l):=hfp.mono (fun i hi=>by
   rcases hi with hi | hi
   ·exact ⟨by have:=hi.1; omega,hi.2.1⟩
   ·have:=hG17.own hi; exact ⟨by omega,this.1⟩)
  have hall:=fresh_fr (Fresh.both (hp17.mono (fun i hi=>⟨hi.1,by have:=hi.2; omega⟩)) hlk) (Fr.of_by hg18) (fun i e=>by subst e; exact hne2.2.2.2.1)
  exact k _ _ _ _ r18 f18 ((hall.imp (fun W h=>⟨h.1.1,h.1.2,h.2,hwf⟩)).up (by omega))
 have him:i < m:=by omega
 have hiz:(i:Int) < m:=by omega
 have hmi:m - i = (m - (i + 1)) + 1:=by omega
 rw [hmi,lnksR] at hls hrf
 iterate 2 (any_goals (first
 | (with_reducible refine yL ?_)
 | ((with_reducible refine oG fun X Y=>?_); simp [go_sem,hiz]; apply Y; clear Y X)))
 refine rticket_ok H17.r H17.l (fun w18 r18 f18=>?_)
 have H18:=H17.rs r18 f18
 have hp18:=hp17.fr f18 (fun i hi=>⟨by have:=hi.2; omega,fun hs=>by have:=H17.rsS i hs; have:=hi.1; omega⟩)
 have hG18:=hG17.keep f18 (fun i hi=>⟨hi.2.1,fun hs=>by have:=H17.rsS i hs; have:=hi.1; omega⟩) (fun i hi hs=>by have:=H17.rsS i hs; have:=hG17.own hi; omega)
 have hokt:=tktR_ok (r:=ri) H17.r.ok
 have hwt:=tktR_wf (r:=ri) H17.r.ok
 have eL:lnkR ri = (⟨(tktR ri).1,⟨(rdInt (tktR ri).2.rd).1,(rdNums (rdInt (tktR ri).2.rd).2).1⟩,(rdText (rdNums (rdInt (tktR ri).2.rd).2).2).1⟩,⟨(rdText (rdNums (rdInt (tktR ri).2.rd).2).2).2,(tktR ri).2.bad⟩):=rfl
 rw [eL] at hls hrf
 dsimp only at hls hrf
 generalize (tktR ri).1 = tk at *
 generalize (tktR ri).2 = rt at *
 rw [build_lnk]
 iterate 1 (any_goals (with_reducible refine pureM_in ?_))
 refine arr_alloc al_lnk (fun g7 w19 h19 hg7 hH19=>?_)
 refine arr_store (xs:=lkC ⟨tk,⟨0,[]⟩,[]⟩ (.slice none 0 0)) sz_lnk rfl rfl (lnk_one _ _ _ _) hH19 rfl (fun w20 hg20 hH20=>?_)
 have h20:Bw w18 w20:=h19.grown hg20 h19.size (fun i e=>by cases e; exact hg7)
 have H20:=H18.next h20
 have hp20:=hp18.next h20 (fun i hi=>by have:=hi.2; have:=f18.size; omega)
 have hG20:=hG18.next h20 (fun i hi=>lL hi.2.1 f18.size)
 have hs17:=Nat.le_trans f18.size h20.size
 have hg7S:¬ Rs rb b g7:=fun e=>by have:=H17.rsS g7 e; have:=H18.f.size; omega
 clear hH19 h19 hg20 H18 hp18 hG18
 have hb21:Below w20.heap.size w20 { w20 with drawn:=w20.drawn + 1 }:=.drawn
 have H21:=H20.next hb21
 have hH21:=hH20.next hb21
 have hp21:=hp20.next hb21 (fun i hi=>by have:=hi.2; omega)
 have hG21:=hG20.next hb21 (fun i hi=>lL hi.2.1 hs17)
 refine ⟨fun W=>W.cell? ⟨rb,0,none⟩ = some (.pointer (some ⟨b,0,none⟩)),H21.r.blk.cell 0 (by simp),?_⟩
 have hs21:=Nat.le_trans hs17 hb21.size
 generalize ({ w20 with drawn:=w20.drawn + 1 }:World) = w21 at *
 clear H20 hH20 hp20 hG20 hb21
 repeat (any_goals (first
 | (with_reducible refine pX ?_)
 | ((with_reducible refine idOH ?_); first|(with_reducible refine oH_nil ?_)|(with_reducible refine oH_of ⟨_,rfl⟩ (fun W0 hW0=>by (refine oG (fun X Y=>?_)); simp [go_sem,hW0]; (first | exact Y _ _ ⟨rfl,rfl⟩ | exact ⟨by omega,Y _ _ ⟨rfl,rfl⟩⟩)) ?_))))
 refine Cd.rint_ok b rt.rd H21.l (Nat.lt_trans H21.r.ln (by decide)) H21.r.rd (fun w22 hr22 hg22=>?_)
 have hokd:=rdInt_ok hokt
 have hwd:=rdInt_inR hokt
 have r22:=H21.r.step hr22 hg22 hokd (int_shorter _)
 have H22:=H21.rs r22 (rs_by hg22)
 have hp22:=hp21.fr (rs_by (rb:=rb) hg22) (fun i hi=>⟨by have:=hi.2; omega,fun hs=>by have:=H17.rsS i hs; have:=hi.1; omega⟩)
 have hH22:Holds w22 g7 86 _:=(hg22.block g7 hH21.lt (fun e=>hg7S (.inr (by first | exact (oI e) | exact (oI e).symm)))).trans hH21
 have hG22:=hG21.keep (rs_by (rb:=rb) hg22) (fun i hi=>⟨lL hi.2.1 hs21,fun hs=>by have:=H17.rsS i hs; have:=hi.1; omega⟩) (fun i hi hs=>by have:=H17.rsS i hs; have:=hG21.own hi; omega)
 have hs22:=Nat.le_trans hs21 hg22.size
 clear H21 hp21 hH21 hG21
 generalize (rdInt rt.rd).2 = rd2 at *
 generalize (rdInt rt.rd).1 = dr at *
 refine ⟨r22.blk.cell 0 (by simp),?_⟩
 refine rnums_ok H22.r H22.l (fun w23 nv r23 f23 o23=>?_)
 have hoka:=rdNums_ok hokd
 have hwa:=numsR_inR hokd
 have ean:(numsR ⟨rd2,rt.bad⟩).1 = (rdNums rd2).1:=rfl
 have ean2:(numsR ⟨rd2,rt.bad⟩).2 = ⟨(rdNums rd2).2,rt.bad⟩:=rfl
 rw [ean] at o23
 rw [ean2] at r23
 have H23:=H22.rs r23 f23
 have hp23:=hp22.fr f23 (fun i hi=>⟨by have:=hi.2; omega,fun hs=>by have:=H17.rsS i hs; have:=hi.1; omega⟩)
 have hH23:Holds w23 g7 86 _:=(f23.block g7 hH22.lt hg7S).trans hH22
 have hG23:=hG22.keep f23 (fun i hi=>⟨lL hi.2.1 hs22,fun hs=>by have:=H17.rsS i hs; have:=hi.1; omega⟩) (fun i hi hs=>by have:=H17.rsS i hs; have:=hG22.own hi; omega)
 have hs23:=Nat.le_trans hs22 f23.size
 obtain ⟨nad,nc,rfl⟩:∃ ad c,nv = .slice ad _ c:=owns_len o23
 have hg7l:g7 < w22.heap.size:=hH22.lt
 have hni:FP (fun i=>w22.heap.size ≤ i ∧ i < w23.heap.size) w23 (fun W=>Ints W (.slice nad (rdNums rd2).1.length nc) (rdNums rd2).1):=own_fresh (w2:=w22) o23 (rL) hwa.1 hwa.2
 clear H22 hp22 hH22 hG22 o23
 generalize (rdNums rd2).2 = rd3 at *
 generalize (rdNums rd2).1 = an at *
 refine ⟨r23.blk.cell 0 (by simp),?_⟩
 rw [build_spd]
 iterate 1 (any_goals (with_reducible refine pureM_in ?_))
 refine ⟨r23.blk.cell 0 (by simp),?_⟩
 repeat (any_goals ((with_reducible refine idOH ?_); (with_reducible refine oH_of ⟨_,rfl⟩ (fun W0 hW0=>by (refine oG (fun X Y=>?_)); simp [go_sem,hW0]; (first | exact Y _ _ ⟨rfl,rfl⟩ | exact ⟨by omega,Y _ _ ⟨rfl,rfl⟩⟩)) ?_)))
 have hg7w:w17.heap.size ≤ g7:=by have:=f18.size; omega
 refine arr_storeRow (o:=6) (xs:=[.int .i64 dr,.slice nad an.length nc]) sz_spd rfl rfl (by intro u hu; simp only [List.mem_cons,List.not_mem_nil,or_false] at hu; rcases hu with rfl | rfl <;> rfl) hH23 (by simp) (fun w24 hg24 hH24=>?_)
 simp only [List.take_succ_cons,List.take_zero,List.drop_succ_cons,List.drop_zero,List.cons_append,List.nil_append] at hH24
 have hs2g:w2.heap.size ≤ g7:=Nat.le_trans H17.f.size hg7w
 have H24:=H23.oth hg24 hs2g
 have hp24:=hp23.fr (Fr.of_by hg24) (fun i hi=>⟨by have:=hi.2; omega,fun e=>by have:=hi.2; omega⟩)
 have hG24:=hG23.keep (Fr.of_by hg24) (fun i hi=>⟨lL hi.2.1 hs23,fun e=>by have:=hi.2.1; omega⟩) (fun i hi e=>by have:=hG17.own hi; omega)
 have hni24:=hni.fr (Fr.of_by hg24) (fun i hi=>⟨hi.2,fun e=>by have:=hi.1; omega⟩)
 have hs24:=Nat.le_trans hs23 hg24.size
 clear H23 hp23 hH23 hG23 hni
 have c24:=H24.r.blk.cell 0 (by simp)
 simp only [List.getElem_cons_zero] at c24
 refine ⟨c24,?_⟩
 repeat (any_goals ((with_reducible refine oG fun X Y=>?_); simp [go_sem,c24]; apply Y; clear Y X))
 refine Cd.rtext_ok b rd3 H24.l (Nat.lt_trans H24.r.ln (by decide)) H24.r.rd (fun w25 hr25 hg25=>?_)
 have hokx:=rdText_ok hoka
 have hwx:=rdText_len hoka
 have r25:=H24.r.step hr25 hg25 hokx (text_shorter hoka)
 have H25:=H24.rs r25 (rs_by hg25)
 have hp25:=hp24.fr (rs_by (rb:=rb) hg25) (fun i hi=>⟨by have:=hi.2; omega,fun hs=>by have:=H17.rsS i hs; have:=hi.1; omega⟩)
 have hH25:Holds w25 g7 86 _:=(hg25.block g7 hH24.lt (fun e=>hg7S (.inr (by first | exact (oI e) | exact (oI e).symm)))).trans hH24
 have hG25:=hG24.keep (rs_by (rb:=rb) hg25) (fun i hi=>⟨lL hi.2.1 hs24,fun hs=>by have:=H17.rsS i hs; have:=hi.1; omega⟩) (fun i hi hs=>by have:=H17.rsS i hs; have:=hG17.own hi; omega)
 have hni25:=hni24.fr (rs_by (rb:=rb) hg25) (fun i hi=>⟨lL hi.2 hg24.size,fun hs=>by have:=H17.rsS i hs; have:=hi.1; omega⟩)
 have hs25:=Nat.le_trans hs24 hg25.size
 clear H24 hp24 hH24 hG24 hni24 c24
 generalize (rdText rd3).2 = rd4 at *
 generalize (rdText rd3).1 = tx at *
 repeat (any_goals ((with_reducible refine oG fun X Y=>?_); simp [go_sem]; apply Y; clear Y X))
 refine arr_set (T:=9) sz_str rfl rfl hH25 (i:=8) (by simp) (fun w26 hg26 hH26=>?_)
 simp only [List.set_cons_succ,List.set_cons_zero] at hH26
 have H26:=H25.oth hg26 hs2g
 have hp26:=hp25.fr (Fr.of_by hg26) (fun i hi=>⟨by have:=hi.2; omega,fun e=>by have:=hi.2; omega⟩)
 have hG26:=hG25.keep (Fr.of_by hg26) (fun i hi=>⟨lL hi.2.1 hs25,fun e=>by have:=hi.2.1; omega⟩) (fun i hi e=>by have:=hG17.own hi; omega)
 have hs2325:w23.heap.size ≤ w25.heap.size:=Nat.le_trans hg24.size hg25.size
 have hni26:=hni25.fr (Fr.of_by hg26) (fun i hi=>⟨lL hi.2 hs2325,fun e=>by have:=hi.1; omega⟩)
 have hs26:=Nat.le_trans hs25 hg26.size
 clear H25 hp25 hH25 hG25 hni25
 have c26:=H26.h.cell 13 (by simp)
 simp only [List.getElem_cons_zero,List.getElem_cons_succ] at c26
 repeat (any_goals ((with_reducible refine oG fun X Y=>?_); simp [go_sem,c26]; apply Y; clear Y X))
 refine arr_load hH26 un_lnk (by kernel_rfl) (by kernel_rfl) ?_
 refine lit_lnk ⟨tk,⟨dr,an⟩,tx⟩ nad an.length nc (fun q w27 h27 hq hL27=>?_)
 have H27:=H26.next h27
 have hp27:=hp26.next h27 (fun i hi=>by have:=hi.2; omega)
 have hG27:=hG26.next h27 (fun i hi=>lL hi.2.1 hs26)
 have hni27:=hni26.next h27 (fun i hi=>lL (lL hi.2 hs2325) hg26.size)
 have hs27:=Nat.le_trans hs26 h27.size
 clear H26 hp26 hG26 hni26
 have hvo:∀ j,lv.ownBlock = some j → j < w17.heap.size ∧ w16.heap.size ≤ j:=fun j e=>hG17.own e
 have hs2227:w23.heap.size ≤ w27.heap.size:=Nat.le_trans hs2325 (Nat.le_trans hg26.size h27.size)
 refine links_add (D:=YgD w16.heap.size w27.heap.size lv) (x:=⟨tk,⟨dr,an⟩,tx⟩) (hG27.mono (fun j hj=>⟨hj.1,lL hj.2.1 hs27,hj.2.2⟩)) (by omega) hL27 ?_ (fun j hj=>⟨hj.2.1,hj.2.2⟩) (by omega) (fun lv' w28 hG28 hg28 hv28=>?_)
 ·refine (hni27.mono (fun j hj=>⟨by omega,by omega,fun e=>by have:=(hvo j e).1; omega⟩)).imp (fun W hW=>⟨_,rfl,hW,hwt,hwd,hwa.1,hwa.2,hwx⟩)
 have hlvS:∀ j,lv.ownBlock = some j → w2.heap.size ≤ j:=fun j e=>by have:=(hvo j e).2; omega
 have H28:HdS w2 w28 rb b g2 g3 _ _:=H27.otho hg28 hlvS
 have hp28:=hp27.fr (Fr.of_by' hg28) (fun j hj=>⟨by have:=hj.2; omega,fun e=>by have:=(hvo j e).2; have:=hj.2; omega⟩)
 obtain ⟨ad28,c28,rfl⟩:=hG28.isSlice
 repeat (any_goals ((with_reducible refine oG fun X Y=>?_); simp [go_sem]; apply Y; clear Y X))
 refine arr_set (T:=27) sz_lnks rfl rfl H28.h (i:=13) (by simp) (fun w29 hg29 hH29=>?_)
 simp only [List.set_cons_succ,List.set_cons_zero] at hH29
 have H29:=H28.put hg29 hH29
 have hg3B:=H28.n.2.2.2.2.1
 have hp29:=hp28.fr (Fr.of_by hg29) (fun j hj=>⟨by have:=hj.2; have:=hg28.size; omega,fun e=>by have:=hj.1; omega⟩)
 have hG29:=hG28.keep (Fr.of_by hg29) (fun j hj=>⟨lL hj.2.1 hg28.size,fun e=>by have:=hj.1; omega⟩) (fun j hj e=>by have:=hG28.own hj; omega)
 repeat (any_goals ((with_reducible refine oG fun X Y=>?_); simp [go_sem]; (try simp (disch:=omega) only [wrapI64,wrapU8,wrapU32,wrapU64]); apply Y; clear Y X))
 refine ⟨⟨i + 1,_,_,_,rfl,him,H29,by have:=hg28.size; have:=hg29.size; omega,by rw [← hls]; simp,hrf,by simp [hll],hG29.mono (fun j hj=>⟨hj.1,by have:=hj.2.1; have:=hg28.size; have:=hg29.size; omega,fun e=>?_⟩),hp29⟩,by show m - (((i + 1:Nat):Int)).toNat < m - ((i:Nat):Int).toNat; omega⟩
 exact (hv28 j e).elim (fun e2=>hj.2.2 e2) (fun h=>by have:=hj.2.1; omega)
end
end Go.Proofs
