/- Part 15: lemmas for the last text. -/
import Derived.Test.YtfpndhocfmfgdaaGreatDoorK01
import Derived.Test.YtfpndhocfmfgdaaGreatDoorK14
import Derived.Shelf.Strings.Builder1
import Derived.Shelf.Strings.Builder2
import Derived.Shelf.Strings.OnBuilder
import Derived.Shelf.Small.Strs
import Derived.Shelf.Utf8.RuneCount
import Derived.Shelf.Strconv.Itoa0
import Derived.Shelf.Strconv.Itoa1
import Derived.Shelf.LaysM
import Derived.Shelf.Strconv.Itoa2
import Derived.Shelf.Strconv.Itoa3
import Derived.Shelf.Strings.Search1
import Derived.Shelf.Strings.Search2
import Derived.Shelf.Strings.Search3
import Derived.Shelf.Strings.Count
import Derived.Shelf.Strings.Shaped
import Derived.Shelf.Strings.Split
import Derived.Shelf.Strings.Replace
import Derived.Shelf.Strings.SplitShaped
import Derived.Shelf.Unicode.Decode
import Derived.Shelf.Strings.RuneCount
import Derived.Shelf.Strings.Explode
import Derived.Shelf.Unicode.DecodeSlow
import Derived.Shelf.Unicode.DecodeAny
import Derived.Shelf.Strconv.AppendUint10
import Derived.Test.YtfpndhocfmfgdaaGreatDoorProg
import Derived.WalkKit
import Derived.Lib.Walk
import Derived.Lib.SliceRun
import Derived.Lib.Builder
import Derived.Lib.UnsafeStr
import Derived.Lib.MakeNoZero
import Derived.Lib.ItoaNum
import Derived.Laws.LoneSync
import Derived.Laws.Externs
import Derived.Laws.IdiomCopy
import Derived.Shelf.RegionOpenPlain
import Derived.RegionTactic
import Derived.RegionCalls
import Derived.Deep.Draws
import Derived.Tactics
import Derived.Tactics2
import Derived.Defers
import Derived.Laws.Pointers
import Derived.ChangeAlike
set_option linter.unusedVariables false
set_option linter.unusedSimpArgs false
section
namespace Go.Proofs
open Go.Shelf
def Tryz.lays156_ren:Go.Shelf.Ren:=⟨fun | 156=>84 | 165=>122 | 166=>123 | 169=>124 | 240=>178 | 241=>179 | 276=>239 | 277=>240 | n=>n,fun | 31=>49 | 9=>9 | 3=>3 | 4=>4 | 0=>0 | 20=>20 | 72=>181 | 76=>165 | 70=>179 | 37=>145 | 75=>164 | 127=>258 | 164=>309 | 5=>5 | 80=>104 | n=>n,fun | n=>n⟩
theorem Tryz.lays156:Go.Proofs.Lays.n156 Tryz.prog Tryz.lays156_ren:={
 mixed:=by kernel_rfl
 f156:=Tryz.func84.trans (congrArg some (by kernel_rfl))
 f165:=Tryz.func122.trans (congrArg some (by kernel_rfl))
 f166:=Tryz.func123.trans (congrArg some (by kernel_rfl))
 f169:=Tryz.func124.trans (congrArg some (by kernel_rfl))
 f240:=Tryz.func178.trans (congrArg some (by kernel_rfl))
 f241:=Tryz.func179.trans (congrArg some (by kernel_rfl))
 f276:=Tryz.func239.trans (congrArg some (by kernel_rfl))
 f277:=Tryz.func240.trans (congrArg some (by kernel_rfl))
 t0:=Tryz.underlying0
 a0:=Tryz.isAgg0
 z0:=Tryz.sizeOf0
 v0:=Tryz.zeroValue0
 t3:=Tryz.underlying3
 a3:=Tryz.isAgg3
 z3:=Tryz.sizeOf3
 v3:=Tryz.zeroValue3
 t4:=Tryz.underlying4
 a4:=Tryz.isAgg4
 z4:=Tryz.sizeOf4
 v4:=Tryz.zeroValue4
 t9:=Tryz.underlying9
 a9:=Tryz.isAgg9
 z9:=Tryz.sizeOf9
 v9:=Tryz.zeroValue9
 t20:=Tryz.underlying20
 a20:=Tryz.isAgg20
 z20:=Tryz.sizeOf20
 v20:=Tryz.zeroValue20
 t31:=Tryz.underlying49
 a31:=Tryz.isAgg49
 z31:=Tryz.sizeOf49
 v31:=Tryz.zeroValue49
 t37:=Tryz.underlying145
 a37:=Tryz.isAgg145
 z37:=Tryz.sizeOf145
 v37:=Tryz.zeroValue145
 t70:=Tryz.underlying179
 a70:=Tryz.isAgg179
 z70:=Tryz.sizeOf179
 v70:=Tryz.zeroValue179
 t72:=Tryz.underlying181
 a72:=Tryz.isAgg181
 z72:=Tryz.sizeOf181
 v72:=Tryz.zeroValue181
 t75:=Tryz.underlying164
 a75:=Tryz.isAgg164
 z75:=Tryz.sizeOf164
 v75:=Tryz.zeroValue164
 t76:=Tryz.underlying165
 a76:=Tryz.isAgg165
 z76:=Tryz.sizeOf165
 v76:=Tryz.zeroValue165
 t127:=Tryz.underlying258
 a127:=Tryz.isAgg258
 z127:=Tryz.sizeOf258
 v127:=Tryz.zeroValue258
 t164:=Tryz.underlying309
 a164:=Tryz.isAgg309
 z164:=Tryz.sizeOf309
 v164:=Tryz.zeroValue309 }
theorem Tryz.Builder_Extra_156:Builder.Extra Tryz.prog Tryz.lays156_ren:={
 sizeBuilder:=by kernel_rfl
 liesBuilder:=by kernel_rfl
 t5:=Tryz.underlying5
 a5:=Tryz.isAgg5
 z5:=Tryz.sizeOf5
 v5:=Tryz.zeroValue5
 infoByte:=by kernel_rfl
 cellsByte:=by kernel_rfl
 sizeByte:=by kernel_rfl
 neB5:=by decide }
open Go.RowKit in
theorem Tryz.strings_Join_none(a:Option Addr)(c:Nat)(sep:ByteArray)(w:World):
  Calls Tryz.prog 84 #[.slice a 0 c,.string sep] w fun e w'=>e=.returned (.string ⟨#[]⟩)/\w'=w:=Any.strings_Join_none Tryz.lays156 Tryz.Builder_Extra_156 a c sep w
open Go.RowKit in
theorem Tryz.strings_Join(bk o c:Nat)(xs:List ByteArray)(sep:ByteArray)(w:World)(hcells:∀(j:Nat) x,xs[j]? = some x->w.cell? ⟨bk,o+j,none⟩=some (.string x))(hbk:bk<w.heap.size)(hN:xs.length<=140737488355328)(hcap:xs.length<=c)(hlen:(Lib.join (xs.map (·.data.toList)) sep.data.toList).length<=140737488355328):
  Calls Tryz.prog 84 #[.slice (some ⟨bk,o,none⟩) xs.length c,.string sep] w fun e w'=>e=.returned (.string ⟨(Lib.join (xs.map (·.data.toList)) sep.data.toList).toArray⟩)/\Below w.heap.size w w':=Any.strings_Join Tryz.lays156 Tryz.Builder_Extra_156 bk o c xs sep w hcells hbk hN hcap hlen
def Tryz.laysM171_ren:Go.Shelf.Ren:=⟨fun | 171=>79 | 243=>120 | 246=>177 | 283=>235 | 284=>236 | 285=>237 | 286=>238 | 129=>281 | 317=>280 | 318=>282 | 319=>283 | 320=>284 | 337=>306 | 338=>307 | n=>n,fun | 3=>3 | 9=>9 | 2=>2 | 4=>4 | 171=>303 | 0=>0 | 53=>304 | 37=>145 | 5=>5 | 173=>307 | 212=>351 | 51=>232 | 20=>20 | 213=>352 | 46=>292 | 232=>396 | 233=>397 | n=>n,fun | 17=>8 | 18=>11 | 19=>12 | n=>n⟩
theorem Tryz.laysM171:Go.Proofs.LaysM.n171 Tryz.prog Tryz.laysM171_ren:={
 mixed:=by kernel_rfl
 f129:=Tryz.func281.trans (congrArg some (by kernel_rfl))
 f171:=Tryz.func79.trans (congrArg some (by kernel_rfl))
 f243:=Tryz.func120.trans (congrArg some (by kernel_rfl))
 f246:=Tryz.func177.trans (congrArg some (by kernel_rfl))
 f283:=Tryz.func235.trans (congrArg some (by kernel_rfl))
 f284:=Tryz.func236.trans (congrArg some (by kernel_rfl))
 f285:=Tryz.func237.trans (congrArg some (by kernel_rfl))
 f286:=Tryz.func238.trans (congrArg some (by kernel_rfl))
 f317:=Tryz.func280.trans (congrArg some (by kernel_rfl))
 f318:=Tryz.func282.trans (congrArg some (by kernel_rfl))
 f319:=Tryz.func283.trans (congrArg some (by kernel_rfl))
 f320:=Tryz.func284.trans (congrArg some (by kernel_rfl))
 f337:=Tryz.func306.trans (congrArg some (by kernel_rfl))
 f338:=Tryz.func307.trans (congrArg some (by kernel_rfl))
 t0:=Tryz.underlying0
 a0:=Tryz.isAgg0
 z0:=Tryz.sizeOf0
 v0:=Tryz.zeroValue0
 t2:=Tryz.underlying2
 a2:=Tryz.isAgg2
 z2:=Tryz.sizeOf2
 v2:=Tryz.zeroValue2
 t3:=Tryz.underlying3
 a3:=Tryz.isAgg3
 z3:=Tryz.sizeOf3
 v3:=Tryz.zeroValue3
 t4:=Tryz.underlying4
 a4:=Tryz.isAgg4
 z4:=Tryz.sizeOf4
 v4:=Tryz.zeroValue4
 t5:=Tryz.underlying5
 a5:=Tryz.isAgg5
 z5:=Tryz.sizeOf5
 v5:=Tryz.zeroValue5
 t9:=Tryz.underlying9
 a9:=Tryz.isAgg9
 z9:=Tryz.sizeOf9
 v9:=Tryz.zeroValue9
 t20:=Tryz.underlying20
 a20:=Tryz.isAgg20
 z20:=Tryz.sizeOf20
 v20:=Tryz.zeroValue20
 t37:=Tryz.underlying145
 a37:=Tryz.isAgg145
 z37:=Tryz.sizeOf145
 v37:=Tryz.zeroValue145
 t46:=Tryz.underlying292
 a46:=Tryz.isAgg292
 z46:=Tryz.sizeOf292
 v46:=Tryz.zeroValue292
 t51:=Tryz.underlying232
 a51:=Tryz.isAgg232
 z51:=Tryz.sizeOf232
 v51:=Tryz.zeroValue232
 t53:=Tryz.underlying304
 a53:=Tryz.isAgg304
 z53:=Tryz.sizeOf304
 v53:=Tryz.zeroValue304
 t171:=Tryz.underlying303
 a171:=Tryz.isAgg303
 z171:=Tryz.sizeOf303
 v171:=Tryz.zeroValue303
 t173:=Tryz.underlying307
 a173:=Tryz.isAgg307
 z173:=Tryz.sizeOf307
 v173:=Tryz.zeroValue307
 t212:=Tryz.underlying351
 a212:=Tryz.isAgg351
 z212:=Tryz.sizeOf351
 v212:=Tryz.zeroValue351
 t213:=Tryz.underlying352
 a213:=Tryz.isAgg352
 z213:=Tryz.sizeOf352
 t232:=Tryz.underlying396
 a232:=Tryz.isAgg396
 z232:=Tryz.sizeOf396
 v232:=Tryz.zeroValue396
 t233:=Tryz.underlying397
 a233:=Tryz.isAgg397
 z233:=Tryz.sizeOf397
 v233:=Tryz.zeroValue397
 g17:=by kernel_rfl
 g18:=by kernel_rfl
 g19:=by kernel_rfl
 i0:=by kernel_rfl
 i2:=by kernel_rfl
 i3:=by kernel_rfl
 i4:=by kernel_rfl
 i5:=by kernel_rfl
 i9:=by kernel_rfl
 i20:=by kernel_rfl
 i37:=by kernel_rfl
 i46:=by kernel_rfl
 i51:=by kernel_rfl
 i53:=by kernel_rfl
 i171:=by kernel_rfl
 i173:=by kernel_rfl
 i212:=by kernel_rfl
 i232:=by kernel_rfl
 i233:=by kernel_rfl
 m17:=by kernel_rfl
 m18:=by kernel_rfl
 m19:=by kernel_rfl }
open Go.RowKit Go.Sort Go.Lib in
theorem Tryz.strconv_Itoa(n:Int)(h0 : -9223372036854775808<=n)(h1:n<=9223372036854775807)(w:World)(htab:Lib.TabIs Tryz.prog w "internal/strconv.uint64pow10" .u64 Lib.pow10Tab):
  Calls Tryz.prog 79 #[.int .i64 n] w fun e w'=>e=.returned (.string ⟨(Lib.itoa n).toArray⟩)/\∃k os,w'=grow (w.drewN k) os:=Any.strconv_Itoa Tryz.laysM171 n h0 h1 w htab
def Tryz.lays217_ren:Go.Shelf.Ren:=⟨fun | 217=>220 | 266=>269 | n=>n,fun | 9=>9 | 5=>5 | 3=>3 | n=>n,fun | n=>n⟩
theorem Tryz.lays217:Go.Proofs.Lays.n217 Tryz.prog Tryz.lays217_ren:={
 mixed:=by kernel_rfl
 f217:=Tryz.func220.trans (congrArg some (by kernel_rfl))
 f266:=Tryz.func269.trans (congrArg some (by kernel_rfl))
 t3:=Tryz.underlying3
 a3:=Tryz.isAgg3
 z3:=Tryz.sizeOf3
 v3:=Tryz.zeroValue3
 t5:=Tryz.underlying5
 a5:=Tryz.isAgg5
 z5:=Tryz.sizeOf5
 v5:=Tryz.zeroValue5
 t9:=Tryz.underlying9
 a9:=Tryz.isAgg9
 z9:=Tryz.sizeOf9
 v9:=Tryz.zeroValue9 }
open Go.RowKit Go.Lib in
theorem Tryz.stringslite_IndexByte(s:ByteArray)(c:Int)(w:World):
  Calls Tryz.prog 220 #[.string s,.int .u8 c] w fun e w'=>e=.returned (.int .i64 (Lib.indexByte s.data.toList c.toNat.toUInt8))/\w'=w:=Any.stringslite_IndexByte Tryz.lays217 s c w
def Tryz.lays138_ren:Go.Shelf.Ren:=⟨fun | 138=>213 | 195=>264 | 218=>265 | 143=>108 | 219=>160 | 217=>220 | 225=>221 | 224=>222 | 267=>223 | 266=>269 | 314=>270 | n=>n,fun | 9=>9 | 3=>3 | 4=>4 | 5=>5 | 0=>0 | 46=>292 | 146=>328 | 51=>232 | n=>n,fun | 1=>5 | n=>n⟩
theorem Tryz.lays138:Go.Proofs.Lays.n138 Tryz.prog Tryz.lays138_ren:={
 mixed:=by kernel_rfl
 f138:=Tryz.func213.trans (congrArg some (by kernel_rfl))
 f143:=Tryz.func108.trans (congrArg some (by kernel_rfl))
 f195:=Tryz.func264.trans (congrArg some (by kernel_rfl))
 f217:=Tryz.func220.trans (congrArg some (by kernel_rfl))
 f218:=Tryz.func265.trans (congrArg some (by kernel_rfl))
 f219:=Tryz.func160.trans (congrArg some (by kernel_rfl))
 f224:=Tryz.func222.trans (congrArg some (by kernel_rfl))
 f225:=Tryz.func221.trans (congrArg some (by kernel_rfl))
 f266:=Tryz.func269.trans (congrArg some (by kernel_rfl))
 f267:=Tryz.func223.trans (congrArg some (by kernel_rfl))
 f314:=Tryz.func270.trans (congrArg some (by kernel_rfl))
 t0:=Tryz.underlying0
 a0:=Tryz.isAgg0
 z0:=Tryz.sizeOf0
 v0:=Tryz.zeroValue0
 t3:=Tryz.underlying3
 a3:=Tryz.isAgg3
 z3:=Tryz.sizeOf3
 v3:=Tryz.zeroValue3
 t4:=Tryz.underlying4
 a4:=Tryz.isAgg4
 z4:=Tryz.sizeOf4
 v4:=Tryz.zeroValue4
 t5:=Tryz.underlying5
 a5:=Tryz.isAgg5
 z5:=Tryz.sizeOf5
 v5:=Tryz.zeroValue5
 t9:=Tryz.underlying9
 a9:=Tryz.isAgg9
 z9:=Tryz.sizeOf9
 v9:=Tryz.zeroValue9
 t46:=Tryz.underlying292
 a46:=Tryz.isAgg292
 z46:=Tryz.sizeOf292
 v46:=Tryz.zeroValue292
 t51:=Tryz.underlying232
 a51:=Tryz.isAgg232
 z51:=Tryz.sizeOf232
 v51:=Tryz.zeroValue232
 t146:=Tryz.underlying328
 a146:=Tryz.isAgg328
 z146:=Tryz.sizeOf328
 v146:=Tryz.zeroValue328
 g1:=by kernel_rfl }
open Go.RowKit Go.Lib in
theorem Tryz.strings_Count_one(s:ByteArray)(c:UInt8)(w:World):
  Calls Tryz.prog 213 #[.string s,.string ⟨#[c]⟩] w fun e w'=>e=.returned (.int .i64 (Lib.countByte s.data.toList c))/\w'=w:=Any.strings_Count_one Tryz.lays138 s c w
def Tryz.laysM288_ren:Go.Shelf.Ren:=⟨fun | 288=>267 | 283=>235 | 284=>236 | 285=>237 | 286=>238 | 129=>281 | 317=>280 | 318=>282 | 319=>283 | 320=>284 | 337=>306 | 338=>307 | n=>n,fun | 37=>145 | 53=>304 | 3=>3 | 4=>4 | 9=>9 | 171=>303 | 0=>0 | 173=>307 | 212=>351 | 51=>232 | 5=>5 | 20=>20 | 213=>352 | 46=>292 | 232=>396 | 233=>397 | n=>n,fun | 17=>8 | 18=>11 | 19=>12 | n=>n⟩
theorem Tryz.laysM288:Go.Proofs.LaysM.n288 Tryz.prog Tryz.laysM288_ren:={
 mixed:=by kernel_rfl
 f129:=Tryz.func281.trans (congrArg some (by kernel_rfl))
 f283:=Tryz.func235.trans (congrArg some (by kernel_rfl))
 f284:=Tryz.func236.trans (congrArg some (by kernel_rfl))
 f285:=Tryz.func237.trans (congrArg some (by kernel_rfl))
 f286:=Tryz.func238.trans (congrArg some (by kernel_rfl))
 f288:=Tryz.func267.trans (congrArg some (by kernel_rfl))
 f317:=Tryz.func280.trans (congrArg some (by kernel_rfl))
 f318:=Tryz.func282.trans (congrArg some (by kernel_rfl))
 f319:=Tryz.func283.trans (congrArg some (by kernel_rfl))
 f320:=Tryz.func284.trans (congrArg some (by kernel_rfl))
 f337:=Tryz.func306.trans (congrArg some (by kernel_rfl))
 f338:=Tryz.func307.trans (congrArg some (by kernel_rfl))
 t0:=Tryz.underlying0
 a0:=Tryz.isAgg0
 z0:=Tryz.sizeOf0
 v0:=Tryz.zeroValue0
 t3:=Tryz.underlying3
 a3:=Tryz.isAgg3
 z3:=Tryz.sizeOf3
 v3:=Tryz.zeroValue3
 t4:=Tryz.underlying4
 a4:=Tryz.isAgg4
 z4:=Tryz.sizeOf4
 v4:=Tryz.zeroValue4
 t5:=Tryz.underlying5
 a5:=Tryz.isAgg5
 z5:=Tryz.sizeOf5
 v5:=Tryz.zeroValue5
 t9:=Tryz.underlying9
 a9:=Tryz.isAgg9
 z9:=Tryz.sizeOf9
 v9:=Tryz.zeroValue9
 t20:=Tryz.underlying20
 a20:=Tryz.isAgg20
 z20:=Tryz.sizeOf20
 v20:=Tryz.zeroValue20
 t37:=Tryz.underlying145
 a37:=Tryz.isAgg145
 z37:=Tryz.sizeOf145
 v37:=Tryz.zeroValue145
 t46:=Tryz.underlying292
 a46:=Tryz.isAgg292
 z46:=Tryz.sizeOf292
 v46:=Tryz.zeroValue292
 t51:=Tryz.underlying232
 a51:=Tryz.isAgg232
 z51:=Tryz.sizeOf232
 v51:=Tryz.zeroValue232
 t53:=Tryz.underlying304
 a53:=Tryz.isAgg304
 z53:=Tryz.sizeOf304
 v53:=Tryz.zeroValue304
 t171:=Tryz.underlying303
 a171:=Tryz.isAgg303
 z171:=Tryz.sizeOf303
 v171:=Tryz.zeroValue303
 t173:=Tryz.underlying307
 a173:=Tryz.isAgg307
 z173:=Tryz.sizeOf307
 v173:=Tryz.zeroValue307
 t212:=Tryz.underlying351
 a212:=Tryz.isAgg351
 z212:=Tryz.sizeOf351
 v212:=Tryz.zeroValue351
 t213:=Tryz.underlying352
 a213:=Tryz.isAgg352
 z213:=Tryz.sizeOf352
 t232:=Tryz.underlying396
 a232:=Tryz.isAgg396
 z232:=Tryz.sizeOf396
 v232:=Tryz.zeroValue396
 t233:=Tryz.underlying397
 a233:=Tryz.isAgg397
 z233:=Tryz.sizeOf397
 v233:=Tryz.zeroValue397
 g17:=by kernel_rfl
 g18:=by kernel_rfl
 g19:=by kernel_rfl
 i0:=by kernel_rfl
 i3:=by kernel_rfl
 i4:=by kernel_rfl
 i5:=by kernel_rfl
 i9:=by kernel_rfl
 i20:=by kernel_rfl
 i37:=by kernel_rfl
 i46:=by kernel_rfl
 i51:=by kernel_rfl
 i53:=by kernel_rfl
 i171:=by kernel_rfl
 i173:=by kernel_rfl
 i212:=by kernel_rfl
 i232:=by kernel_rfl
 i233:=by kernel_rfl
 m17:=by kernel_rfl
 m18:=by kernel_rfl
 m19:=by kernel_rfl }
end Go.Proofs
end
section
set_option maxRecDepth 100000
namespace Go.Proofs.Sa
open Go Go.AM Go.Proofs Go.RowKit Go.Lib
theorem aM9(b:Nat)(w:World)(h0:w.cell? ⟨b,0,none⟩=some (.pointer (some ⟨b,0,none⟩))):
  Calls Tryz.prog 178 #[.pointer (some ⟨b,0,none⟩)] w fun e w'=>e=.returned (.tuple #[])/\w'=w:=by
 obtain⟨j,hj,_⟩:=Option.map_eq_some_iff.1 (show (Tryz.prog.info? 181).map (·.size)=some 2 by kernel_rfl)
 go_enter Tryz.func178,Tryz.ntmps178
 go_wp2
 rw[Lib.run_neq_ptr_same w _ Tryz.underlying179 hj]
 go_wp2
 go_end0
 exact⟨rfl,rfl⟩
theorem aFF(b t:Nat)(ht:t=181∨t=195)(w:World)(h0:w.cell? ⟨b,0,none⟩=some (.pointer none))(hsh:w.shape? b=some (t,2))(hfz:w.frozen? ⟨b,0,none⟩=false):
  Calls Tryz.prog 178 #[.pointer (some ⟨b,0,none⟩)] w fun e w'=>e=.returned (.tuple #[])/\w'=w.setCell ⟨b,0,none⟩ (.pointer (some ⟨b,0,none⟩)):=by
 obtain⟨j,hj,hjs⟩:=Option.map_eq_some_iff.1 (show (Tryz.prog.info? 181).map (·.size)=some 2 by kernel_rfl)
 have hlies:liesAt Tryz.prog Tryz.prog.depth t (2 / Tryz.prog.cellsOf t) 0 181 1=true:=by
  rcases ht with rfl | rfl
  ·kernel_rfl
  ·kernel_rfl
 go_enter Tryz.func178,Tryz.ntmps178
 go_wp2
 rw[Lib.run_to_unsafe w ⟨b,0,none⟩ Tryz.underlying179 Tryz.underlying309 hj (by rw[hjs];decide) hsh (Nat.zero_lt_succ 1)]
 simp only[Result.andThen];rw[Oper.upon_value]
 go_wp2
 rw[run_callFunc_extern Tryz.func239 (by kernel_rfl) (by kernel_rfl) (by kernel_rfl) (e:=Extern.AbiNoEscape.same) (by kernel_rfl)]
 rw[Lib.run_noEscape];simp only[Result.andThen];rw[Oper.upon_value]
 go_wp2
 rw[Lib.run_from_unsafe w ⟨b,0,none⟩ Tryz.underlying309 Tryz.underlying179 hj hsh hlies];simp only[Result.andThen];rw[Oper.upon_value]
 go_wp2
 go_end0
 exact⟨rfl,rfl⟩
theorem aMa(a:Addr)(n:Int)(w:World)(hc:w.cell? a=some (.int .u32 n)):
  Calls Tryz.prog 229 #[.pointer (some a)] w fun e w'=>e=.returned (.bool (n != 0))/\w'=w:=by
 have hl:=run_call_load (P:=Tryz.prog) Tryz.func274 (by kernel_rfl) (by kernel_rfl) (by kernel_rfl) .u32 (by kernel_rfl) (w:=w) (a:=a) (x:=n) hc
 go_enter Tryz.func229,Tryz.ntmps229
 go_wp2
 go_ret
 exact⟨rfl,rfl⟩
theorem aKQ(b:Nat)(w:World)(h1:w.cell? ⟨b,1,none⟩=some (.slice none 0 0)):
  Calls Tryz.prog 124 #[.pointer (some ⟨b,0,none⟩)] w fun e w'=>e=.returned (.string .empty)/\w'=w.drew:=by
 have c1:w.drew.cell? ⟨b,1,none⟩=some (.slice none 0 0):=h1;have mixed:Tryz.prog.follows .mixedOrders=true:=by kernel_rfl
 have hSD:(Builtin.unsafeSliceData_ #[145] 258 #[.slice none 0 0]).run Tryz.prog w.drew=.ok (.pointer none) w.drew:=Lib.run_unsafeSliceData_nil _ _ _ _ _;have hUS:(Builtin.unsafeString_ #[258,3] 9 #[.pointer none,.int .i64 0]).run Tryz.prog w.drew=.ok (.string .empty) w.drew:=rfl
 go_enter Tryz.func124,Tryz.ntmps124
 go_wp2
 go_region_o
 all_goals (go_wp2;go_ret;exact⟨rfl,rfl⟩)
theorem aKR(b g cap:Nat)(l:List UInt8)(cur:Array Value)(w:World)(h0:l≠[])(hcap:l.length<=cap)(hmax:l.length<=9223372036854775807)(h1:w.cell? ⟨b,1,none⟩=some (.slice (some ⟨g,0,none⟩) l.length cap))
  (hg:w.heap[g]? = some (.cells cur 5 (0,0))) (hn:l.length<=cur.size) (hcell:∀j x,l[j]? = some x->w.cell? ⟨g,j,none⟩=some (.int .u8 x.toNat)):
  Calls Tryz.prog 124 #[.pointer (some ⟨b,0,none⟩)] w fun e w'=>e=.returned (.string ⟨l.toArray⟩)/\w'=w.drew.freeze ⟨g,0,none⟩ l.length:=by
 have hl0:l.length≠0:=by simpa using h0
 have mixed:Tryz.prog.follows .mixedOrders=true:=by kernel_rfl
 have c1:w.drew.cell? ⟨b,1,none⟩=some (.slice (some ⟨g,0,none⟩) l.length cap):=h1;have hSD:(Builtin.unsafeSliceData_ #[145] 258 #[.slice (some ⟨g,0,none⟩) l.length cap]).run Tryz.prog w.drew=.ok (.pointer (some ⟨g,0,none⟩)) w.drew:=
  Lib.run_unsafeSliceData_row _ _ _ _ _ _ (by omega)
 have hUS:(Builtin.unsafeString_ #[258,3] 9 #[.pointer (some ⟨g,0,none⟩),.int .i64 l.length]).run Tryz.prog w.drew=.ok (.string ⟨l.toArray⟩) (w.drew.freeze ⟨g,0,none⟩ l.length):=
  Lib.run_unsafeString_row w.drew 258 3 9 5 Tryz.underlying258 (by kernel_rfl) g cur.size (by have hg':w.drew.heap[g]? = some (.cells cur 5 (0,0)):=hg;simp[World.shape?,hg']) l h0 hn hmax
   (fun j x hx=>by rw[Addr.add_lit,Nat.zero_add];exact hcell j x hx)
 go_enter Tryz.func124,Tryz.ntmps124
 go_wp2
 go_region_o
 all_goals (go_wp2;go_ret;exact⟨rfl,rfl⟩)
theorem aXr{g:G}{x:Value}(h:VRel g .nilPtr x):x=.pointer none:=by cases h;rfl
theorem mE{α:Type}{cs:Array α}{x y:α}(h:cs.toList=[x,y]):cs = #[x,y]:=by cases cs;simpa using h
theorem copyCheck_ok{glob:Glob}:jC Tryz.prog glob fun f' args H=>if f'=178 then (eP 181 195 args H).map (dA H)else none:=by
 refine sL ⟨Tryz.f178,Tryz.func178,by kernel_rfl,by kernel_rfl⟩ fun args H v ws ns hp g w xs hw hg hx => ?_
 unfold eP at hp
 split at hp
 ·rename_i o ve;obtain⟨x,rfl,hv⟩:=aBs hx
  split at hp
  ·rename_i v' ty c ho
   split at hp
   ·rename_i hc;simp only[Option.some.injEq,Prod.mk.injEq]at hp;obtain⟨rfl,rfl,rfl⟩:=hp;obtain⟨l,cs,hb,rfl,hblk,hl⟩:=aEa hw ho hc.1 hv;obtain⟨x1,x2,e,r1,r2⟩:=nS hl;have ecs:=mE e;subst ecs;have e1:=aXr r1;subst e1;refine (aFF l.b ty hc.2 w (by simp[World.cell?,hblk]) (by simp[World.shape?,hblk]) (by simp[World.frozen?,hblk])).mono ?_
    rintro e w' ⟨rfl,rfl⟩;refine⟨g, ?_,VRel.skip g⟩;simp only[fZ,List.append_nil,List.map_cons,List.map_nil];refine Step.tset (cs' := #[.pointer (some ⟨l.b,0,none⟩),x2]) hw hb (World.size_setCell _ _ _) (fun b hb => ?_) ?_ ?_ (uC _ _ _)
    ·simp[World.setCell,Array.getElem?_modify,Ne.symm hb]
    ·simp[World.setCell,Array.getElem?_modify,hblk]
    ·refine⟨rfl,fun i a x e1 e2 => ?_⟩
     match i with
     |0=>simp at e1 e2;subst e1;subst e2;exact .ptr o ve 0 l _ hb.loc (by rw[hb.st];exact Nat.le_refl _) fun _ _=>rfl
     |1=>simp at e1 e2;subst e1;subst e2;exact r2
     |i+2=>simp at e1
   ·cases hp
  ·rename_i v' ty o' v2 c ho
   split at hp
   ·rename_i hc;simp only[Option.some.injEq,Prod.mk.injEq]at hp;obtain⟨rfl,rfl,rfl⟩:=hp;obtain⟨l,cs,hb,rfl,hblk,hl⟩:=aEa hw ho hc.1 hv;obtain⟨x1,x2,e,r1,r2⟩:=nS hl;have ecs:=mE e;subst ecs;obtain⟨rfl,rfl,rfl⟩:=hc;have e1:x1=.pointer (some ⟨l.b,0,none⟩):=by
     cases r1 with
     |ptr _ _ _ l2 a hl2 hv2 h=>
      rw[hb.loc]at hl2;cases hl2;rw[h hb.st (hw.obj _ _ _ hb).1]
    subst e1;refine (aM9 l.b w (by simp[World.cell?,hblk])).mono ?_
    rintro e w' ⟨rfl,rfl⟩;exact⟨g,by simpa [fZ]using Step.refl hw,VRel.skip g⟩
   ·cases hp
  ·cases hp
 ·cases hp
theorem boolLoad_ok{glob:Glob}:jC Tryz.prog glob fun f' args H=>if f'=229 then (yN args H).map (dA H)else none:=by
 refine sL ⟨Tryz.f229,Tryz.func229,by kernel_rfl,by kernel_rfl⟩ fun args H v ws ns hp g w xs hw hg hx => ?_
 unfold yN at hp
 split at hp
 ·rename_i p;obtain⟨x,rfl,hv⟩:=aBs hx
  split at hp
  ·rename_i n hr;simp only[Option.some.injEq,Prod.mk.injEq]at hp;obtain⟨rfl,rfl,rfl⟩:=hp;obtain⟨b,off,vs,rfl,hlen,hl,hc⟩:=dT hw hr hv;obtain⟨y,rfl,hy⟩:=aBs hl;cases hy;refine (aMa ⟨b,off,none⟩ n w (hc 0 _ rfl)).mono ?_;rintro e w' ⟨rfl,rfl⟩;exact⟨g,by simpa [fZ]using Step.refl hw,.bool _⟩
  ·cases hp
 ·cases hp
theorem aHG{g:G}{H:List AObj}{w w':World}(hw:WF g H w)(h:Below w.heap.size w w'):Step g H w g H w' []:=Step.bigger hw h.size h.block ⟨h.os,h.output⟩
theorem count_ok{glob:Glob}:jC Tryz.prog glob fun f' args H=>if f'=213 then (aC9 args H).map (dA H)else none:=by
 refine sL ⟨Tryz.f213,Tryz.func213,by kernel_rfl,by kernel_rfl⟩ fun args H v ws ns hp g w xs hw hg hx => ?_
 unfold aC9 at hp
 split at hp
 ·rename_i s c;simp only[Option.some.injEq,Prod.mk.injEq]at hp;obtain⟨rfl,rfl,rfl⟩:=hp;obtain⟨x,y,rfl,h1,h2⟩:=nS hx;obtain⟨s',rfl,hs⟩:=h1.str_inv;obtain⟨c',rfl,hc⟩:=h2.str_inv;have ec:c'=⟨#[c]⟩:=by cases c' with | mk d=>cases d;simp at hc;simp[hc]
  subst ec;refine (Tryz.strings_Count_one s' c w).mono ?_;rintro e w' ⟨rfl,rfl⟩;refine⟨g,by simpa [fZ]using Step.refl hw, ?_⟩
  rw[hs];exact .int _ _
 ·cases hp
theorem index_ok{glob:Glob}:jC Tryz.prog glob fun f' args H=>if f'=220 then (aUE args H).map (dA H)else none:=by
 refine sL ⟨Tryz.f220,Tryz.func220,by kernel_rfl,by kernel_rfl⟩ fun args H v ws ns hp g w xs hw hg hx => ?_
 unfold aUE at hp
 split at hp
 ·rename_i s c;simp only[Option.some.injEq,Prod.mk.injEq]at hp;obtain⟨rfl,rfl,rfl⟩:=hp;obtain⟨x,y,rfl,h1,h2⟩:=nS hx;obtain⟨s',rfl,hs⟩:=h1.str_inv;cases h2;refine (Tryz.stringslite_IndexByte s' c w).mono ?_;rintro e w' ⟨rfl,rfl⟩;refine⟨g,by simpa [fZ]using Step.refl hw, ?_⟩
  rw[hs];exact .int _ _
 ·cases hp
theorem aHH(w:World)(g n:Nat):(w.freeze ⟨g,0,none⟩ n).heap.size=w.heap.size/\(∀b,b≠g->(w.freeze ⟨g,0,none⟩ n).heap[b]? = w.heap[b]?) /\
  (w.freeze ⟨g,0,none⟩ n).os=w.os/\(w.freeze ⟨g,0,none⟩ n).output=w.output:=by
 unfold World.freeze
 split
 ·exact⟨rfl,fun _ _=>rfl,rfl,rfl⟩
 ·refine⟨by simp,fun b hb => ?_,rfl,rfl⟩
  simp[Array.getElem?_modify,Ne.symm hb]
theorem aFG:∀(rows:List (List AV)) (l:List UInt8),cF rows=some l->rows.length=l.length/\∀(j:Nat) x,l[j]? = some x->∃n:Int,rows[j]? = some [.int .u8 n]/\x=UInt8.ofNat n.toNat
 | [],l,h=>by cases h;exact⟨rfl,fun j x h=>by simp at h⟩
 |r::rows,l,h=>by
  unfold cF at h
  split at h
  ·rename_i e;cases e
  ·rename_i n r' e;cases e;cases hb:cF rows with
   |none=>rw[hb]at h;cases h
   |some l'=>
    rw[hb]at h;cases h;obtain⟨h1,h2⟩:=aFG rows l' hb;refine⟨by simp[h1],fun j x hj => ?_⟩
    cases j with
    |zero=>simp at hj;exact⟨n,rfl,hj.symm⟩
    |succ j=>exact h2 j x (by simpa using hj)
  ·cases h
theorem aFH:∀(rows:List (List AV)),aC8 rows=true->∀(j:Nat) (n:Int),rows[j]? = some [.int .u8 n]->0<=n/\n<256
 | [],h,j,n,e=>by simp at e
 |r::rows,h,j,n,e=>by
  unfold aC8 at h
  split at h
  ·rename_i e';cases e'
  ·rename_i m r' e';cases e';simp only[Bool.and_eq_true,decide_eq_true_eq]at h;cases j with
   |zero=>simp at e;subst e;exact h.1
   |succ j=>exact aFH rows h.2 j n (by simpa using e)
  ·cases h
theorem string_ok{glob:Glob}:jC Tryz.prog glob fun f' args H=>if f'=124 then (yM 5 args H).map (dA H)else none:=by
 refine sL ⟨Tryz.f124,Tryz.func124,by kernel_rfl,by kernel_rfl⟩ fun args H v ws ns hp g w xs hw hg hx => ?_
 unfold yM at hp
 split at hp
 ·rename_i o ve;obtain⟨x,rfl,hv⟩:=aBs hx
  split at hp
  ·rename_i v' ty c ho
   split at hp
   ·rename_i hc;simp only[Option.some.injEq,Prod.mk.injEq]at hp;obtain⟨rfl,rfl,rfl⟩:=hp;obtain⟨l,cs,hb,rfl,hblk,hl⟩:=aEa hw ho hc hv;obtain⟨x1,x2,e,r1,r2⟩:=nS hl;have ecs:=mE e;subst ecs;cases r2;refine (aKQ l.b w (by simp[World.cell?,hblk])).mono ?_
    rintro e w' ⟨rfl,rfl⟩;exact⟨g,by simpa [fZ]using Step.of_heap (w':=w.drew) hw rfl,.str ByteArray.empty⟩
   ·cases hp
  ·rename_i v' ty c o2 v2 n ho
   split at hp
   ·rename_i hc
    split at hp
    ·rename_i v3 t3 rows ho2
     split at hp
     ·rename_i hc2;obtain⟨rfl,rfl,hlen,hn0,hne,hmx,hbo⟩:=hc2
      split at hp
      ·rename_i lb hbr;simp only[Option.some.injEq,Prod.mk.injEq]at hp;obtain⟨rfl,rfl,rfl⟩:=hp;obtain⟨l,cs,hb,rfl,hblk,hl⟩:=aEa hw ho hc hv;obtain⟨x1,x2,e,r1,r2⟩:=nS hl;have ecs:=mE e;subst ecs;cases r2 with
       |sr _ _ _ l2 a cap hl2 hv2 hn2 hc0 hh=>
        have hst:l2.st=v3:=by have:=hw.st o2 _ l2 ho2 hl2;simp only[AObj.ver]at this;omega
        have hb2:Backed g H o2 l2 (.tvec v3 5 1 rows):=⟨ho2,rfl,hl2,hst⟩;obtain⟨⟨h0,hlk,hcap,hsoft,hk,hsome,hcell⟩,cur,hcur⟩:=hw.obj o2 l2 _ hb2;obtain⟨rfl,rfl⟩:=hh hst (by omega)
        obtain⟨hbl,hbx⟩:=aFG rows lb hbr;have hin:∀j,j<rows.length->(w.cell? ⟨l2.b,j,none⟩).isSome=true:=fun j hj=>hsome j (by omega)
        have hcs:lb.length<=cur.size:=by
         rcases Nat.lt_or_ge cur.size lb.length with h | h
         ·have:=hin cur.size (by omega)
          simp[World.cell?,hcur]at this
         ·exact h
        have hcl:∀j x,lb[j]? = some x->w.cell? ⟨l2.b,j,none⟩=some (.int .u8 x.toNat):=fun j x hj=>by
         obtain⟨m,e1,e2⟩:=hbx j x hj;obtain⟨_,y,hy,hr⟩:=hcell j 0 _ _ e1 rfl;cases hr;rw[Nat.mul_one,Nat.add_zero]at hy;obtain⟨q1,q2⟩:=aFH rows hbo j m e1;obtain⟨k,rfl⟩:=Int.eq_ofNat_of_zero_le q1;rw[hy,e2,Int.toNat_natCast];have:(UInt8.ofNat k).toNat=k:=by
          rw[UInt8.toNat_ofNat'];exact Nat.mod_eq_of_lt (by omega)
         rw[this]
        have hnl:n=lb.length:=by omega
        subst hnl;refine (aKR l.b l2.b l2.cap lb cur w (fun e=>hn0 (by rw[e];rfl)) (by omega) (by omega) (by simp[World.cell?,hblk]) hcur hcs hcl).mono ?_
        rintro e w' ⟨rfl,rfl⟩;obtain⟨f1,f2,f3,f4⟩:=aHH w.drew l2.b lb.length;have hs:=Step.spoil (w':=w.drew.freeze ⟨l2.b,0,none⟩ lb.length) hw hb2 f1 f2 ⟨f3,f4⟩;exact⟨g,by simpa [fZ,AObj.ver]using hs,.str ⟨lb.toArray⟩⟩
      ·cases hp
     ·cases hp
    ·cases hp
   ·cases hp
  ·cases hp
 ·cases hp
theorem aFI{sep:List UInt8}:∀(rows:List (List AV)) (s:List UInt8),aGt sep rows=some s->∃ls:List (List UInt8),rows=ls.map (fun l=>[AV.str l])/\s=Lib.join ls sep
 | [],s,h=>by cases h;exact⟨[],rfl,rfl⟩
 | [r],s,h=>by
  unfold aGt at h
  split at h
  ·rename_i e;cases e
  ·rename_i l e;injection e with e1 e2;subst e1;injection h with h;subst h;exact⟨[l],rfl,by simp[Lib.join]⟩
  ·rename_i l r' hne e;cases e;exact (hne rfl).elim
  ·cases h
 |r::r2::rows,s,h=>by
  unfold aGt at h
  split at h
  ·rename_i e;cases e
  ·rename_i l e;cases e
  ·rename_i l r' hne e;cases e
   split at h
   ·rename_i t ht;cases h;obtain⟨ls,e1,e2⟩:=aFI (r2::rows) t ht;refine⟨l::ls,by rw[List.map_cons,<- e1], ?_⟩
    cases ls with
    |nil=>simp at e1
    |cons a ls=>rw[e2];simp[Lib.join]
   ·cases h
  ·cases h
theorem join_ok{glob:Glob}:jC Tryz.prog glob fun f' args H=>if f'=84 then (aHF args H).map (dA H)else none:=by
 refine sL ⟨Tryz.f84,Tryz.func84,by kernel_rfl,by kernel_rfl⟩ fun args H v ws ns hp g w xs hw hg hx => ?_
 unfold aHF at hp
 split at hp
 ·rename_i fl rows sep
  split at hp
  ·rename_i s hs
   split at hp
   ·rename_i hc;simp only[Option.some.injEq,Prod.mk.injEq]at hp;obtain⟨rfl,rfl,rfl⟩:=hp;obtain⟨x,y,rfl,h1,h2⟩:=nS hx;obtain⟨sep',rfl,hsep⟩:=h2.str_inv;obtain⟨ls,e1,e2⟩:=aFI rows s hs;rcases yC hw (av:=.sl fl rows) rfl h1 with⟨rfl,cap,rfl⟩ | ⟨b,off,cap,k,cells,rfl,hcap,hrr,hst,hcell⟩
    ·have:ls=[]:=by simpa using e1.symm
     subst this;refine (Tryz.strings_Join_none none cap sep' w).mono ?_;rintro e w' ⟨rfl,rfl⟩;refine⟨g,by simpa [fZ]using Step.refl hw, ?_⟩
     rw[e2];exact .str ⟨#[]⟩
    ·have hrl:rows.length=ls.length:=by rw[e1];simp
     by_cases hne:ls=[]
     ·subst hne;rw[hrl]at *;refine (Tryz.strings_Join_none (some ⟨b,off,none⟩) cap sep' w).mono ?_;rintro e w' ⟨rfl,rfl⟩;refine⟨g,by simpa [fZ]using Step.refl hw, ?_⟩
      rw[e2];exact .str ⟨#[]⟩
     ·have hk:k=1:=by
       cases ls with
       |nil=>exact absurd rfl hne
       |cons a ls=>exact (hrr.row [.str a] (by rw[e1];simp)).symm
      subst hk;have hcl:∀(j:Nat) x,(ls.map fun l=>(⟨l.toArray⟩:ByteArray))[j]? = some x->w.cell? ⟨b,off+j,none⟩=some (.string x):=fun j x hj=>by
       rw[List.getElem?_map]at hj;cases hq:ls[j]? with
       |none=>simp[hq]at hj
       |some l=>
        simp[hq]at hj;have hlt:j<rows.length:=by rw[hrl];exact (List.getElem?_eq_some_iff.1 hq).1
        have hcj:j<cells.length:=by rw[hrr.len];omega
        have hr:=hrr.rel j 0 [.str l] (.str l) cells[j] (by rw[e1,List.getElem?_map,hq];rfl) rfl (by simp[hcj])
        obtain⟨bs,e3,e4⟩:=hr.str_inv;have:=hcell j cells[j] (by simp[hcj])
        rw[this,e3,<- hj];congr 2;cases bs with
        |mk d=>simp at e4;simp[<- e4]
      have hmap:(ls.map fun l=>(⟨l.toArray⟩:ByteArray)).map (·.data.toList)=ls:=by simp[Function.comp_def]
      have hb0:b<w.heap.size:=by
       cases ls with
       |nil=>exact absurd rfl hne
       |cons a ls=>exact World.block_lt_of_cell? (a:=⟨b,off+0,none⟩) w (hcl 0 _ rfl)
      have hj:=Tryz.strings_Join b off cap (ls.map fun l=>(⟨l.toArray⟩:ByteArray)) sep' w hcl hb0 (by simpa [hrl]using hc.2) (by simpa [hrl]using hcap) (by rw[hmap,hsep,<- e2];exact hc.1)
      rw[hmap,hsep,<- e2]at hj;rw[show (ls.map fun l=>(⟨l.toArray⟩:ByteArray)).length=rows.length by simp[hrl]]at hj
      refine hj.mono ?_;rintro e w' ⟨rfl,hbw⟩;exact⟨g,by simpa [fZ]using aHG hw hbw,.str ⟨s.toArray⟩⟩
   ·cases hp
  ·cases hp
 ·cases hp
theorem aPv{tab:Nat}{g:G}{H:List AObj}{w:World}(hw:WF g H w)(hgl:Tryz.prog.globalNamed "internal/strconv.uint64pow10" = some tab)
  {glob:Glob} (hrow:glob.row tab=some (Lib.pow10Tab.map fun z=>AV.int .u64 z)) (hg:bI Tryz.prog glob g):Lib.TabIs Tryz.prog w "internal/strconv.uint64pow10" .u64 Lib.pow10Tab:=by
 obtain⟨h1,cs,t,fz,h2,h3⟩:=hg.row tab (Lib.pow10Tab.map fun z=>AV.int .u64 z) hrow;obtain⟨h4,_⟩:=hw.whole.blocks tab _ h2;obtain⟨b,off,vs,e,hl,hr,hc⟩:=dT hw (k:=20) (pv:=.ep (Lib.pow10Tab.map fun z=>AV.int .u64 z) 0) (cs:=Lib.pow10Tab.map fun z=>AV.int .u64 z) (by
  simp only[aX];rw[if_pos (by simp[Lib.pow10Tab_length])]
  rw[List.drop_zero,List.take_of_length_le (by simp[Lib.pow10Tab_length])]) h1
 cases e;unfold Lib.TabIs World.var?;rw[hgl];simp only[Option.bind_some,h4,Option.some.injEq];apply Array.ext_getElem?;intro j
 by_cases hj:j<20
 ·have hlen:vs.length=20:=by rw[<- hr.1];simp[Lib.pow10Tab_length]
  have hv:vs[j]? = some vs[j]:=List.getElem?_eq_getElem (by omega)
  have hcell:=hc j _ hv;have ha:(Lib.pow10Tab.map fun z=>AV.int .u64 z)[j]? = some (AV.int .u64 (Lib.pow10Tab[j]'(by rw[Lib.pow10Tab_length];exact hj))):=by
   rw[List.getElem?_map,List.getElem?_eq_getElem (by rw[Lib.pow10Tab_length];exact hj)];rfl
  have hrel:=hr.2 j _ _ ha hv;have hx:cs[j]? = some vs[j]:=by simpa [World.cell?,h4]using hcell
  rw[hx];simp only[List.getElem?_toArray,List.getElem?_map,List.getElem?_eq_getElem (show j<Lib.pow10Tab.length by rw[Lib.pow10Tab_length];exact hj),Option.map_some,Option.some.injEq]
  generalize vs[j]=v at hrel;cases hrel;rfl
 ·rw[Array.getElem?_eq_none (by rw[h3];simp[Lib.pow10Tab_length];omega),Array.getElem?_eq_none (by simp[Lib.pow10Tab_length];omega)]
theorem aGu:∀(k n:Nat),n<10 ^ k->0<k->oT k n=Lib.decDigits n
 |0,n,h,h0=>by omega
 |k+1,n,h,_=>by
  unfold oT;rw[Lib.decDigits]
  by_cases h1:n<10
  ·rw[if_pos h1,dif_pos h1]
  ·rw[if_neg h1,dif_neg h1];cases k with
   |zero=>omega
   |succ k=>rw[aGu (k+1) (n / 10) (by rw[Nat.pow_succ]at h;omega) (by omega)]
theorem itoa_ok{glob:Glob}{tab:Nat}(hgl:Tryz.prog.globalNamed "internal/strconv.uint64pow10" = some tab)(hrow:glob.row tab=some (Lib.pow10Tab.map fun z=>AV.int .u64 z)):
  jC Tryz.prog glob fun f' args H=>if f'=79 then (aBr args H).map (dA H)else none:=by
 refine sL ⟨Tryz.f79,Tryz.func79,by kernel_rfl,by kernel_rfl⟩ fun args H v ws ns hp g w xs hw hg hx => ?_
 unfold aBr at hp
 split at hp
 ·rename_i n;obtain⟨x,rfl,hv⟩:=aBs hx;cases hv;have fin:∀s,s=Lib.itoa n -> -9223372036854775808<=n/\n<=9223372036854775807->Calls Tryz.prog 79 #[.int .i64 n] w fun e w'=>match e with
    |.returned x=>∃g',Step g H w g' (fZ H []++[]) w' []/\pD g' (fZ H []++[]) w.heap.size w' (.str s) x
    |_=>False:=fun s hs hb=>by
   refine (Tryz.strconv_Itoa n hb.1 hb.2 w (aPv hw hgl hrow hg)).mono ?_;rintro e w' ⟨rfl,k,os,rfl⟩;refine⟨g, ?_, ?_⟩
   ·have:Step g H w g H (Go.Sort.grow (w.drewN k) os) []:=Step.bigger hw (by simp[Go.Sort.grow]) (fun b hb=>by
     simp only[Go.Sort.grow,World.heap_drewN];rw[Array.getElem?_append_left hb]) ⟨rfl,rfl⟩
    simpa [fZ]using this
   ·rw[hs];exact .str ⟨(Lib.itoa n).toArray⟩
  split at hp
  ·rename_i hc;simp only[Option.some.injEq,Prod.mk.injEq]at hp;obtain⟨rfl,rfl,rfl⟩:=hp;refine fin _ ?_ ⟨by omega,by omega⟩
   rw[aGu 7 _ (by omega) (by omega),Lib.itoa,if_neg (by omega)]
  ·split at hp
   ·rename_i hc;simp only[Option.some.injEq,Prod.mk.injEq]at hp;obtain⟨rfl,rfl,rfl⟩:=hp;refine fin _ ?_ ⟨by omega,by omega⟩
    rw[aGu 7 _ (by omega) (by omega),Lib.itoa,if_pos (by omega),show (-n).toNat=n.natAbs by omega]
   ·cases hp
 ·cases hp
end Go.Proofs.Sa
end
section
set_option maxRecDepth 100000
namespace Go.Proofs.Sa
open Go Go.AM Go.Proofs Go.RowKit Go.Lib
structure GrowPost(w:World)(b n:Nat)(w':World):Prop where
 size:w'.heap.size=w.heap.size+1
 other:∀k,k≠b->k<w.heap.size->w'.heap[k]? = w.heap[k]?
 blk:∃cs:Array Value,n<=cs.size/\w'.heap[b]? = some (.cells #[.pointer (some ⟨b,0,none⟩),.slice (some ⟨w.heap.size,0,none⟩) 0 cs.size] 181 (0,0))/\w'.heap[w.heap.size]? = some (.cells cs 5 (0,0))
 io:w'.os=w.os/\w'.output=w.output
theorem aMb{w:World}{b n:Nat}{cs:Array Value}(hbk:w.heap[b]? = some (.cells #[.pointer (some ⟨b,0,none⟩),.slice none 0 0] 181 (0,0)))(hn:n<=cs.size):
  GrowPost w b n ((w.setCell ⟨b,1,none⟩ (.slice (some ⟨w.heap.size,0,none⟩) 0 cs.size)).alloc (.cells cs 5)):=by
 have hlt:b<w.heap.size:=by
  rcases Nat.lt_or_ge b w.heap.size with h | h
  ·exact h
  ·simp[Array.getElem?_eq_none h]at hbk
 have e:∀v,((w.setCell ⟨b,1,none⟩ v).alloc (.cells cs 5)).heap=(w.setCell ⟨b,1,none⟩ v).heap.push (.cells cs 5):=fun _=>rfl;have hs:∀v,(w.setCell ⟨b,1,none⟩ v).heap.size=w.heap.size:=fun v=>World.size_setCell _ _ _;refine⟨by rw[e,Array.size_push,hs],fun k hk hkl => ?_,⟨cs,hn, ?_, ?_⟩,uC w ⟨b,1,none⟩ (.slice (some ⟨w.heap.size,0,none⟩) 0 cs.size)⟩
 ·rw[e,Array.getElem?_push,if_neg (by rw[hs];omega)]
  simp only[World.setCell,Array.getElem?_modify];rw[if_neg (Ne.symm hk)]
 ·rw[e,Array.getElem?_push,if_neg (by rw[hs];omega)]
  simp[World.setCell,Array.getElem?_modify,hbk]
 ·rw[e,Array.getElem?_push,if_pos (hs _).symm]
theorem GrowPost.of{w W X:World}{b n:Nat}(h:GrowPost w b n X)(e:W.heap=X.heap)(io:W.os=X.os/\W.output=X.output):GrowPost w b n W:=
 ⟨by rw[e];exact h.size,fun k h1 h2=>by rw[e];exact h.other k h1 h2,by rw[e];exact h.blk,io.1.trans h.io.1,io.2.trans h.io.2⟩
set_option maxHeartbeats 2000000 in
theorem aMc(b n:Nat)(w:World)(hbk:w.heap[b]? = some (.cells #[.pointer (some ⟨b,0,none⟩),.slice none 0 0] 181 (0,0)))(hn:n<=281474976710656):
  Calls Tryz.prog 179 #[.pointer (some ⟨b,0,none⟩),.int .i64 n] w fun e w'=>e=.returned (.tuple #[])/\GrowPost w b n w':=by
 obtain⟨cs,hrun,hle,hmax⟩:=Lib.run_makeNoZero (P:=Tryz.prog) w.drew #[3] 145 5 Tryz.underlying145 n hn;have hw:IntKind.i64.wrap (IntKind.i64.wrap 0+(n:Int))=n:=by
  rw[IntKind.wrap_i64,IntKind.wrap_i64];omega
 have hcall:(callFunc 240 #[.int .i64 (IntKind.i64.wrap (IntKind.i64.wrap 0+(n:Int)))]).run Tryz.prog w.drew=.ok (.value (.slice (some ⟨w.drew.heap.size,0,none⟩) n cs.size)) (w.drew.drew.drew.alloc (.cells cs 5)):=by
  rw[hw,run_callFunc_extern Tryz.func240 (by kernel_rfl) (by kernel_rfl) (by kernel_rfl) (e:=Extern.BytealgMakeNoZero.makeNoZero #[3] #[145]) (by kernel_rfl),hrun]
  rfl
 have c1:w.drew.cell? ⟨b,1,none⟩=some (.slice none 0 0):=by
  have:w.drew.heap[b]? = _:=hbk;rw[Lib.cell_of_heap this];rfl
 have hlt:b<w.heap.size:=by
  rcases Nat.lt_or_ge b w.heap.size with h' | h'
  ·exact h'
  ·simp[Array.getElem?_eq_none h']at hbk
 have c2:(w.alloc (.cells cs 5)).cell? ⟨b,1,none⟩=some (.slice none 0 0):=by
  have:(w.alloc (.cells cs 5)).heap[b]? = _:=(Lib.alloc_old w _ b hlt).trans hbk;rw[Lib.cell_of_heap this];rfl
 have f2:(w.alloc (.cells cs 5)).frozen? ⟨b,1,none⟩=false:=Lib.frozen_of_heap ((Lib.alloc_old w _ b hlt).trans hbk) 1;have hcopy:∀W:World,(Builtin.copy_ #[145,145] 3 #[.slice (some ⟨w.heap.size,0,none⟩) 0 cs.size,.slice none 0 0]).run Tryz.prog W=.ok (goInt 0) W:=
  fun W=>run_copy_none W 145 145 3 5 _ _ 0 cs.size 0 0 Tryz.underlying145 (by kernel_rfl) rfl
 clear hw;have mixed:Tryz.prog.follows .mixedOrders=true:=by kernel_rfl
 go_enter Tryz.func179,Tryz.ntmps179
 go_wp2
 have hfin:=aMb hbk hle
 go_region_o
 all_goals (go_wp2;go_end0;exact⟨rfl,hfin.of rfl ⟨rfl,rfl⟩⟩)
set_option maxHeartbeats 2000000 in
theorem aKS(b n:Nat)(w:World)(hbk:w.heap[b]? = some (.cells #[.pointer none,.slice none 0 0] 181 (0,0)))(hn0:0<n)(hn:n<=281474976710656):
  Calls Tryz.prog 122 #[.pointer (some ⟨b,0,none⟩),.int .i64 n] w fun e w'=>e=.returned (.tuple #[])/\GrowPost (w.setCell ⟨b,0,none⟩ (.pointer (some ⟨b,0,none⟩))) b n w':=by
 have hbk1:(w.setCell ⟨b,0,none⟩ (.pointer (some ⟨b,0,none⟩))).heap[b]? = some (.cells #[.pointer (some ⟨b,0,none⟩),.slice none 0 0] 181 (0,0)):=by
  simp[World.setCell,Array.getElem?_modify,hbk]
 have c1:(w.setCell ⟨b,0,none⟩ (.pointer (some ⟨b,0,none⟩))).cell? ⟨b,1,none⟩=some (.slice none 0 0):=by rw[Lib.cell_of_heap hbk1];rfl
 have mixed:Tryz.prog.follows .mixedOrders=true:=by kernel_rfl
 have e178:∀args w,(callFunc 178 args).run Tryz.prog w=.ok (.enter 178 args) w:=enters_of Tryz.func178 (by kernel_rfl) rfl
 have e179:∀args w,(callFunc 179 args).run Tryz.prog w=.ok (.enter 179 args) w:=enters_of Tryz.func179 (by kernel_rfl) rfl
 have c1':(w.setCell ⟨b,0,none⟩ (.pointer (some ⟨b,0,none⟩))).drew.cell? ⟨b,1,none⟩=some (.slice none 0 0):=c1
 go_enter Tryz.func122,Tryz.ntmps122
 go_wp2_with (go_at_fn 178;refine (aFF b 181 (.inl rfl) w (by rw[Lib.cell_of_heap hbk];rfl) (by simp[World.shape?,hbk]) (Lib.frozen_of_heap hbk 0)).mono ?_;rintro e w' ⟨rfl,rfl⟩)
 go_region_o
 all_goals go_wp2_with (go_at_fn 179;refine (aMc b n (w.setCell ⟨b,0,none⟩ (.pointer (some ⟨b,0,none⟩))).drew hbk1 hn).mono ?_;rintro e w' ⟨rfl,hp⟩)
 all_goals first
  | (go_end0;exact⟨rfl,hp.size,hp.other,hp.blk,hp.io⟩)
  | (exfalso;omega)
end Go.Proofs.Sa
end
section
set_option maxRecDepth 100000
namespace Go.Proofs.Sa
open Go Go.AM Go.Proofs Go.RowKit Go.Lib
theorem grow_ok{glob:Glob}:jC Tryz.prog glob fun f' args H=>if f'=122 then (aKP 181 5 args H).map (dA H)else none:=by
 refine sL ⟨Tryz.f122,Tryz.func122,by kernel_rfl,by kernel_rfl⟩ fun args H v ws ns hp g w xs hw hg hx => ?_
 unfold aKP at hp
 split at hp
 ·rename_i o ve n;obtain⟨x,y,rfl,hv,hy⟩:=nS hx;cases hy
  split at hp
  ·rename_i v' ty ho
   split at hp
   ·rename_i hc;obtain⟨hve,rfl,hn0,hn1⟩:=hc;simp only[Option.some.injEq,Prod.mk.injEq]at hp;obtain⟨rfl,rfl,rfl⟩:=hp;obtain⟨l,cs,hb,rfl,hblk,hl⟩:=aEa hw ho hve hv;obtain⟨x1,x2,e,r1,r2⟩:=nS hl;have ecs:=mE e;subst ecs;have e1:=aXr r1;subst e1;cases r2;obtain⟨m,rfl⟩:=Int.eq_ofNat_of_zero_le (Int.le_of_lt hn0);refine (aKS l.b m w hblk (by omega) (by omega)).mono ?_
    rintro e w' ⟨rfl,hp⟩;obtain⟨cb,hle,hb1,hb2⟩:=hp.blk;have hlt:l.b<w.heap.size:=hw.blk o l hb.loc;have hs0:∀v,(w.setCell ⟨l.b,0,none⟩ v).heap.size=w.heap.size:=fun v=>World.size_setCell _ _ _;have hoth:∀k,k≠l.b->k<w.heap.size->w'.heap[k]? = w.heap[k]? := fun k h1 h2=>by
     rw[hp.other k h1 (by rw[hs0];exact h2)]
     simp[World.setCell,Array.getElem?_modify,Ne.symm h1]
    rw[hs0]at hb1 hb2;have hsz:=hp.size;rw[hs0]at hsz;have hol:o<H.length:=hw.lt o l hb.loc
    let w1:World:=w.alloc (.cells cb 5)
    have hw1:w1.heap=w.heap.push (.cells cb 5):=rfl;have s1:=hw.more 1;have hid:H.length<(H++List.replicate 1 (AObj.gone 0)).length:=by simp
    obtain⟨g',s2,hsr⟩:=Step.newTVec (rows:=[]) (k:=1) (cap:=cb.size) s1.wf hid hw1 (g:=g) ⟨rfl,by simp,by simp⟩ rfl (Nat.zero_le _) (by omega)
    have hver:bG (H++List.replicate 1 (AObj.gone 0)) H.length=1:=by simp[bG,AObj.ver]
    have hmk:make (H++List.replicate 1 (AObj.gone 0)) H.length (.tvec · 5 1 [])=H++[.tvec 1 5 1 []]:=by
     simp[make,AObj.ver]
    rw[hver]at hsr;rw[hmk]at s2;have hb':Backed g' (H++[.tvec 1 5 1 []]) o l (.tbox v' 181 [.nilPtr,.nilSl]):=by
     refine⟨by rw[List.getElem?_append_left hol];exact ho,rfl, ?_,by rw[hve];exact hb.st⟩
     rw[s2.keep o (by simp;omega) (by simp;omega)]
     exact hb.loc
    have s3:=Step.tset (w':=w') (cells':=[.ptr o ve 0,.sr H.length 1 0]) (cs' := #[.pointer (some ⟨l.b,0,none⟩),.slice (some ⟨w.heap.size,0,none⟩) 0 cb.size]) s2.wf hb' (by rw[hsz,hw1,Array.size_push])
     (fun b hbne=>by
      rcases Nat.lt_trichotomy b w.heap.size with h | h | h
      ·rw[hoth b hbne h,hw1,Array.getElem?_push,if_neg (by omega)]
      ·subst h;rw[hb2,hw1];simp
      ·rw[Array.getElem?_eq_none (by omega),Array.getElem?_eq_none (by rw[hw1];simp;omega)])
     hb1
     (by
      refine⟨rfl,fun i a x e1 e2 => ?_⟩
      match i with
      |0=>simp at e1 e2;subst e1;subst e2;exact .ptr o ve 0 l _ hb'.loc (by rw[hb.st];exact Nat.le_refl _) fun _ _=>rfl
      |1=>simp at e1 e2;subst e1;subst e2;exact hsr
      |i+2=>simp at e1)
     ⟨hp.io.1.trans (uC w ⟨l.b,0,none⟩ _).1,hp.io.2.trans (uC w ⟨l.b,0,none⟩ _).2⟩
    refine⟨g', ?_,VRel.skip g'⟩;have:=Step.narrow (wr:=[o]) hw.lt ((s1.trans s2).trans s3) (fun i hi hi2=>by
     simp at hi;rcases hi with h | h
     ·omega
     ·simp[h])
    simpa [fZ,List.set_append,hol,hve]using this
   ·cases hp
  ·cases hp
 ·cases hp
end Go.Proofs.Sa
end
section
set_option maxRecDepth 100000
namespace Go.Proofs.Sa
open Go Go.AM Go.Proofs Go.RowKit Go.Lib
theorem disable(w:World):(callFunc 312 #[]).run Tryz.prog w=.ok (.value (.tuple #[])) w:=run_call_mark0 Tryz.func312 (by kernel_rfl) (by kernel_rfl) (by kernel_rfl) .disable (by kernel_rfl) w
theorem enable(w:World):(callFunc 314 #[]).run Tryz.prog w=.ok (.value (.tuple #[])) w:=run_call_mark0 Tryz.func314 (by kernel_rfl) (by kernel_rfl) (by kernel_rfl) .enable (by kernel_rfl) w
theorem acquire(a:Addr)(w:World):(callFunc 315 #[.pointer (some a)]).run Tryz.prog w=.ok (.value (.tuple #[])) w:=run_call_marked Tryz.func315 (by kernel_rfl) (by kernel_rfl) (by kernel_rfl) .acquire (by kernel_rfl) a w
theorem releaseMerge(a:Addr)(w:World):(callFunc 317 #[.pointer (some a)]).run Tryz.prog w=.ok (.value (.tuple #[])) w:=run_call_marked Tryz.func317 (by kernel_rfl) (by kernel_rfl) (by kernel_rfl) .releaseMerge (by kernel_rfl) a w
theorem aF2(a:Addr)(x:Value)(u:FrameMode)(w:World)(hc:w.cell? a=some x)(hz:w.frozen? a=false):
  CallsD Tryz.prog 277 #[.pointer (some a),.bool true] u w fun e u' w'=>u'=u/\(e=.returned (.tuple #[])/\w'=w.drew.setCell a (.int .u32 1)):=by
 have hc':w.drew.cell? a=some x:=by go_simp
 have hz':w.drew.frozen? a=false:=by go_simp
 have hst:=run_call_store (P:=Tryz.prog) Tryz.func302 (by kernel_rfl) (by kernel_rfl) (by kernel_rfl) (by kernel_rfl) (k:=.u32) (y:=1) hc' hz'
 go_enter_d Tryz.func277,Tryz.ntmps277
 go_wp2
 go_region_calls
 all_goals (go_end0;exact⟨rfl,rfl⟩)
theorem aIU(a:Addr)(w:World)(hc:w.cell? a=some (.int .i32 1))(hz:w.frozen? a=false):
  Calls Tryz.prog 301 #[.pointer (some a)] w fun e w'=>e=.returned (.tuple #[])/\w'=w.setCell a (.int .i32 0):=by
 have hd:=disable;have he:=enable;have hr:=releaseMerge;have hadd:=run_call_add (P:=Tryz.prog) Tryz.func318 (by kernel_rfl) (by kernel_rfl) (by kernel_rfl) .i32 (by kernel_rfl) (y := -1) (s:=0) hc hz (by simp[go_sem];rfl)
 have hcv:=run_convert_to_unsafe (P:=Tryz.prog) (src:=387) (dst:=309) Tryz.underlying387 Tryz.underlying309 (by kernel_rfl) hc
 go_enter Tryz.func301,Tryz.ntmps301
 go_wp2
 go_end0
 go_wp2
theorem aEb(a:Addr)(u:FrameMode)(w:World)(hc:w.cell? a=some (.int .i32 1))(hz:w.frozen? a=false):
  CallsD Tryz.prog 276 #[.pointer (some a)] u w fun e u' w'=>u'=u/\(e=.returned (.tuple #[])/\w'=w.setCell a (.int .i32 0)):=by
 have e301:∀args w,(callFunc 301 args).run Tryz.prog w=.ok (.enter 301 args) w:=enters_of Tryz.func301 (by kernel_rfl) rfl
 go_enter_d Tryz.func276,Tryz.ntmps276
 go_wp2_with (go_at_fn 301;refine (aIU a _ hc hz).mono ?_;rintro e w' ⟨rfl,rfl⟩)
 all_goals (go_end0;exact⟨rfl,rfl⟩)
theorem aQv(a:Addr)(w:World)(hc:w.cell? a=some (.int .i32 0))(hz:w.frozen? a=false):
  Calls Tryz.prog 300 #[.pointer (some a)] w fun e w'=>e=.returned (.tuple #[])/\w'=w.setCell a (.int .i32 1):=by
 have hd:=disable;have he:=enable;have ha:=acquire;have hcas:=run_call_cas_hit (P:=Tryz.prog) Tryz.func313 (by kernel_rfl) (by kernel_rfl) (by kernel_rfl) .i32 (by kernel_rfl) (y:=1) hc hz
 have hc':(w.setCell a (.int .i32 1)).cell? a=some (.int .i32 1):=World.cell?_setCell_same w a _ hc;have hcv:=run_convert_to_unsafe (P:=Tryz.prog) (src:=387) (dst:=309) Tryz.underlying387 Tryz.underlying309 (by kernel_rfl) hc'
 go_enter Tryz.func300,Tryz.ntmps300
 go_wp2
 first | go_end0 | (simp only[Exit.inBlock,Exit.then];refine bodyPost_ret (results_none rfl _ _ _) rfl ?_) | refine bodyPost_ret (results_none rfl _ _ _) rfl ?_
 go_wp2
theorem aMd(a:Addr)(w:World)(hc:w.cell? a=some (.int .i32 0))(hz:w.frozen? a=false):
  Calls Tryz.prog 275 #[.pointer (some a)] w fun e w'=>e=.returned (.tuple #[])/\w'=w.setCell a (.int .i32 1):=by
 have e300:∀args w,(callFunc 300 args).run Tryz.prog w=.ok (.enter 300 args) w:=enters_of Tryz.func300 (by kernel_rfl) rfl
 go_enter Tryz.func275,Tryz.ntmps275
 go_wp2_with (go_at_fn 300;refine (aQv a _ hc hz).mono ?_;rintro e w' ⟨rfl,rfl⟩)
 all_goals (go_end0;exact⟨rfl,rfl⟩)
end Go.Proofs.Sa
end
section
set_option maxRecDepth 100000
namespace Go.Proofs.Sa
open Go Go.AM Go.Proofs Go.RowKit Go.Lib
set_option maxHeartbeats 1600000 in
theorem aMe(b off fid:Nat)(vf vc xs:Array Value)(w:World)(R:World->Prop)
  (hin:∀w,(callFunc fid xs).run Tryz.prog w=.ok (.enter fid xs) w) (hxs:vf++vc=xs)
  (h0:w.cell? ⟨b,off,none⟩=some (.int .u32 0)) (h1:w.cell? ⟨b,off+1,none⟩=some (.int .i32 0)) (f1:w.frozen? ⟨b,off+1,none⟩=false)
  (hf:Calls Tryz.prog fid xs (w.setCell ⟨b,off+1,none⟩ (.int .i32 1)) fun e w'=>(∃x,e=.returned x)/\R w')
  (hR:∀w',R w'->(∃x,w'.cell? ⟨b,off,none⟩=some x)/\w'.frozen? ⟨b,off,none⟩=false/\w'.cell? ⟨b,off+1,none⟩=some (.int .i32 1)/\w'.frozen? ⟨b,off+1,none⟩=false):
  Calls Tryz.prog 230 #[.pointer (some ⟨b,off,none⟩),.func (.func fid) vf vc] w fun e w'=>e=.returned (.tuple #[]) /\
   ∃w2,R w2/\w'=(w2.drew.setCell ⟨b,off,none⟩ (.int .u32 1)).setCell ⟨b,off+1,none⟩ (.int .i32 0):=by
 have hl:=run_call_load (P:=Tryz.prog) Tryz.func274 (by kernel_rfl) (by kernel_rfl) (by kernel_rfl) .u32 (by kernel_rfl) (w:=w.setCell ⟨b,off+1,none⟩ (.int .i32 1)) (a:=⟨b,off,none⟩) (x:=0) ((World.cell?_setCell_other _ ⟨b,off+1,none⟩ ⟨b,off,none⟩ _ (by simp)).trans h0)
 have hnot:∀(x:Bool) (w:World),(Op.unary .not (.bool x)).run Tryz.prog w=.ok (.bool (!x)) w:=fun _ _=>rfl;have e275:∀args w,(callFunc 275 args).run Tryz.prog w=.ok (.enter 275 args) w:=enters_of Tryz.func275 (by kernel_rfl) rfl
 subst hxs
 go_enter_defers Tryz.func230,Tryz.ntmps230
 go_wp2_with (go_at_fn 275;refine (aMd ⟨b,off+1,none⟩ _ (by go_simp) (by go_simp)).mono ?_;rintro e w' ⟨rfl,rfl⟩)
 go_wp2
 refine hf.mono ?_;rintro e w' ⟨⟨x,rfl⟩,hw'⟩;obtain⟨⟨x0,hx0⟩,z0,hx1,z1⟩:=hR w' hw'
 go_wp2
 all_goals try go_end0
 all_goals try go_wp2
 refine leaves_cons (f:=277) (args := #[.pointer (some ⟨b,off,none⟩),.bool true]) (by simp) (by simp[go_sem]) ?_
 refine (aF2 ⟨b,off,none⟩ x0 .returning _ hx0 z0).mono ?_;rintro e u' w'' ⟨rfl,rfl,rfl⟩;refine leaves_cons (f:=276) (args := #[.pointer (some ⟨b,off+1,none⟩)]) (by simp[settle]) (by simp[go_sem]) ?_
 refine (aEb ⟨b,off+1,none⟩ _ _ ?_ (by simp[z1])).mono ?_
 ·refine (World.cell?_setCell_other _ ⟨b,off,none⟩ ⟨b,off+1,none⟩ _ (by simp)).trans ?_
  rw[World.cell?_drew];exact hx1
 rintro e u' w'' ⟨rfl,rfl,rfl⟩;simp[Leaves,settle,results,Tryz.results230];exact⟨w',hw',rfl⟩
end Go.Proofs.Sa
end
section
namespace Go.AM
open Go
def aTh(off:Nat)(k:IntKind)(m:Int):ACode:=
 .seq (.region false [⟨some 1,.fld 0 1 false (.tmp 0),none,[]⟩,⟨some 1,.fa off (.tmp 1),none,[]⟩,⟨some 1,.load 1 false (.tmp 1),none,[]⟩,⟨some 1,.bin .eql .no (.tmp 1) (.const (.int k m)),none,[]⟩]) (.cond (.tmp 1) .skip .bad)
def aTi(off:Nat)(k:IntKind)(m:Int):ACode:=
 .region false [⟨some 1,.fld 0 1 false (.tmp 0),none,[]⟩,⟨some 1,.fa off (.tmp 1),none,[]⟩,⟨none,.store 1 (.tmp 1) (.const (.int k m)),none,[]⟩]
def aQw:ACode:=.region false [⟨some 1,.fld 1 1 false (.tmp 0),none,[]⟩,⟨some 1,.callv (.tmp 1) [],none,[]⟩]
def aOe:ACode:=.seq (aTh 0 .u32 0)<|.seq (aTh 1 .i32 0)<|.seq (aTi 1 .i32 1)<|.seq aQw<|.seq (aTh 1 .i32 1)<|.seq (aTi 0 .u32 1) (aTi 1 .i32 0)
def lV:AFn:=⟨2,[],[],.seq (.region false [⟨some 0,.nilck (.tmp 0),none,[]⟩,⟨some 1,.nilck (.tmp 1),none,[]⟩,⟨some 0,.build [.undef,.undef] [(0,1,.tmp 0),(1,1,.tmp 1)],none,[]⟩]) aOe⟩
end Go.AM
end
