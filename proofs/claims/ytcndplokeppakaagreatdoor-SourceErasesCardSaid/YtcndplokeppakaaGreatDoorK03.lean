/- Part 3: lemmas for the last text. -/
import Derived.Test.YtcndplokeppakaaGreatDoorK01
import Derived.Test.YtcndplokeppakaaGreatDoorK02
import Derived.Shelf.Strings.Builder1
import Derived.Shelf.Strings.Builder2
import Derived.Shelf.Strings.OnBuilder
import Derived.Shelf.Small.Strs
import Derived.Shelf.Strconv.Atoi
import Derived.Shelf.Strconv.Itoa0
import Derived.Shelf.Strconv.Itoa1
import Derived.Shelf.LaysM
import Derived.Shelf.Strconv.Itoa2
import Derived.Shelf.Strconv.Itoa3
import Derived.Shelf.Strconv.AtoiErrFast
import Derived.Shelf.Strconv.ParseIntEmpty
import Derived.Shelf.Strconv.AtoiFail
import Derived.Shelf.Strconv.Clone
import Derived.Shelf.Strconv.SyntaxError
import Derived.Shelf.LaysC
import Derived.Shelf.Strconv.ToError
import Derived.Shelf.Strconv.Lower
import Derived.Shelf.Strconv.ParseUint10
import Derived.Shelf.Strconv.ParseUint10Empty
import Derived.Shelf.Strconv.ParseUint10Any
import Derived.Shelf.Strconv.ParseInt10
import Derived.Shelf.Strconv.AtoiLong
import Derived.Shelf.Strconv.AtoiInnerAll
import Derived.Shelf.Strconv.RangeError
import Derived.Shelf.Strconv.ToErrorRange
import Derived.Shelf.Strconv.AtoiAll
import Derived.Shelf.Strings.Search1
import Derived.Shelf.Strings.Search2
import Derived.Shelf.Strings.Search3
import Derived.Shelf.Strings.Count
import Derived.Shelf.Strings.Shaped
import Derived.Shelf.Strconv.AppendUint10
import Derived.Shelf.Unicode.DecodeSlow
import Derived.Test.YtcndplokeppakaaGreatDoorProg
import Derived.WalkKit
import Derived.Lib.Walk
import Derived.Lib.SliceRun
import Derived.Lib.Builder
import Derived.Lib.UnsafeStr
import Derived.Lib.MakeNoZero
import Derived.Lib.ItoaNum
import Derived.Laws.LoneSync
import Derived.Laws.Externs
import Derived.Laws.IdiomCopy
import Derived.Shelf.RegionOpenPlain
import Derived.RegionTactic
import Derived.RegionCalls
import Derived.Deep.Draws
import Derived.Tactics
import Derived.Tactics2
import Derived.Defers
import Derived.Laws.Pointers
import Derived.ChangeAlike
import Derived.Laws.BitsLemmas
import Derived.KernelRfl
import Derived.ProofKit
set_option linter.unusedVariables false
set_option linter.unusedSimpArgs false
set_option maxHeartbeats 12800000
set_option maxRecDepth 100000
open Array renaming getElem?_modify -> DJ, getElem?_eq_none -> DV, size_push -> OA, getElem?_push -> FE, size_replicate -> HG, eq_empty_of_size_eq_zero -> JQ
open Bool renaming and_eq_true -> AI, false_eq_true -> BX, false_and -> BQ, true_and -> BR, false_ne_true -> ED, and_false -> MC, eq_iff_iff -> DS, false_beq -> BB, true -> QS, false -> QT
open ByteArray renaming empty -> QD
open Go renaming Addr -> IA, World -> BL, Calls -> FV, Value -> BE, run_callFunc_extern -> OU, run_call_load -> QE, run_call_mark0 -> PY, run_call_marked -> PV, run_convert_to_unsafe -> NZ, bodyPost_ret -> QI, results_none -> QJ, IntKind -> DK, Program -> CU, TypeId -> BP, run_underlying -> BH, BinOp -> MZ
open Go.Act renaming eval -> QK
open Go.Builtin renaming unsafeSliceData_ -> KN, unsafeString_ -> LM, append_ -> DA, clear_ -> KA
open Go.Extern.AbiNoEscape renaming same -> NY
open Go.Extern.BytealgMakeNoZero renaming makeNoZero -> MA
open Go.IntKind renaming i64 -> AR, wrap_i64 -> MU, wrap -> GA, wrap_i64 -> PW
open Go.Lib renaming join -> OT, TabIs -> OL, pow10Tab -> EB, itoa -> MT, atoiAll -> LS, atoiSat -> QV, decDigits -> DT, cell_of_heap -> ID, alloc_old -> PD, frozen_of_heap -> NK, byteCells -> HZ, nDigits -> GO, zeros24 -> GP, decDigits_length -> MW, run_eql_slice_nil -> Bw
open Go.Oper renaming upon_value -> KF
open Go.Program renaming arrayLen -> MV
open Go.Result renaming andThen -> DL, andThen_ok -> BJ
open Go.Shelf renaming Ren -> HK
open Go.Sort renaming grow -> LF
open Go.TypeDesc renaming slice -> C6
open Go.Value renaming int -> EJ
open Go.World renaming shape? -> LU, cell? -> EF, size_setCell -> JE, setCell -> JP, cell?_setCell_other -> KR, setCells -> IZ
open Int renaming eq_ofNat_of_zero_le -> DN, toNat_natCast -> AT
open List renaming append_nil -> AJ, map_cons -> BI, map_nil -> BY, getElem?_map -> BN, drop_zero -> AD, take_of_length_le -> CH, getElem?_eq_getElem -> AP, replicate -> AX, getElem?_append_left -> BM, set_cons_succ -> GL, set_cons_zero -> GM, getElem?_cons_succ -> CT, getElem?_cons_zero -> BG, all_eq_true -> AO, getElem_mem -> AS, length_map -> AF, length_nil -> AZ, take_length -> DM, length_set -> CP, length_append -> BA, drop_succ_cons -> AB, take_zero -> AE, take_succ_cons -> AA, all_cons -> ES, length_cons -> AW, getElem?_set_self -> BW, mem_cons -> BD, mem_cons_of_mem -> BZ, getElem?_set_ne -> CL, mem_append_left -> CZ, mem_append_right -> CX, ext_getElem? -> HN, getElem?_mapIdx -> Ah, drop_eq_getElem_cons -> FD, drop_eq_nil_of_le -> DH
open Nat renaming zero_add -> BC, lt_or_ge -> MH, mul_one -> FK, add_zero -> DU, zero_le -> FF, le_refl -> AQ, le_of_ble_eq_true -> MN
open Option renaming map_eq_some_iff -> EL, getD_some -> EN, some -> QQ, none -> N2
open Option.some renaming injEq -> AG
open Prod renaming snd -> GQ
open Prod.mk renaming injEq -> BK
open UInt8 renaming ofNat -> CN
open Nat renaming reduceAdd -> NA, reduceLT -> NL, reduceLeDiff -> ND
open Bool renaming not_true -> BT, not_false -> BF
section
namespace Go.Proofs
open Go.Shelf
def Tryz.lays156_ren:HK:=⟨fun | 156=>91 | 165=>149 | 166=>150 | 169=>119 | 240=>211 | 241=>234 | 276=>272 | 277=>286 | n=>n,fun | 31=>43 | 9=>9 | 3=>3 | 4=>4 | 0=>0 | 20=>20 | 72=>187 | 76=>214 | 70=>185 | 37=>164 | 75=>196 | 127=>265 | 164=>333 | 5=>5 | 80=>115 | n=>n,fun | n=>n⟩
theorem Tryz.lays156:Go.Proofs.Lays.n156 Tryz.prog Tryz.lays156_ren:=by refine' { .. }<;>first | kernel_rfl | (intro _;kernel_rfl)
theorem Tryz.Builder_Extra_156:Builder.Extra Tryz.prog Tryz.lays156_ren:=by refine' { neB5:=by decide,.. }<;>first | kernel_rfl | (intro _;kernel_rfl)
open Go.RowKit in
theorem Tryz.strings_Join_none(a:Option IA)(c:Nat)(sep:ByteArray)(w:BL):FV Tryz.prog 91 #[.slice a 0 c,.string sep] w fun e w'=>e=.returned (.string ⟨#[]⟩)/\w'=w:=Any.strings_Join_none Tryz.lays156 Tryz.Builder_Extra_156 a c sep w
open Go.RowKit in
theorem Tryz.strings_Join(bk o c:Nat)(xs:List ByteArray)(sep:ByteArray)(w:BL)(jy:∀(j:Nat) x,xs[j]? = QQ x->w.cell? ⟨bk,o+j,N2⟩=QQ (.string x))(dx:bk<w.heap.size)(hN:xs.length<=140737488355328)(cm:xs.length<=c)(ax:(OT (xs.map (·.data.toList)) sep.data.toList).length<=140737488355328):FV Tryz.prog 91 #[.slice (QQ ⟨bk,o,N2⟩) xs.length c,.string sep] w fun e w'=>e=.returned (.string ⟨(OT (xs.map (·.data.toList)) sep.data.toList).toArray⟩)/\Below w.heap.size w w':=Any.strings_Join Tryz.lays156 Tryz.Builder_Extra_156 bk o c xs sep w jy dx hN cm ax
def Tryz.laysM171_ren:HK:=⟨fun | 171=>86 | 243=>147 | 246=>233 | 283=>282 | 284=>283 | 285=>284 | 286=>285 | 129=>312 | 317=>311 | 318=>313 | 319=>314 | 320=>315 | 337=>337 | 338=>338 | n=>n,fun | 3=>3 | 9=>9 | 2=>2 | 4=>4 | 171=>345 | 0=>0 | 53=>346 | 37=>164 | 5=>5 | 173=>349 | 212=>373 | 51=>319 | 20=>20 | 213=>374 | 46=>368 | 232=>421 | 233=>422 | n=>n,fun | 17=>8 | 18=>10 | 19=>11 | n=>n⟩
theorem Tryz.laysM171:Go.Proofs.LaysM.n171 Tryz.prog Tryz.laysM171_ren:=by refine' { .. }<;>first | kernel_rfl | (intro _;kernel_rfl)
open Go.RowKit Go.Sort Go.Lib in
theorem Tryz.strconv_Itoa(n:Int)(h0 : -9223372036854775808<=n)(h1:n<=9223372036854775807)(w:BL)(cx:OL Tryz.prog w "internal/strconv.uint64pow10" .u64 EB):FV Tryz.prog 86 #[.int .i64 n] w fun e w'=>e=.returned (.string ⟨(MT n).toArray⟩)/\∃k os,w'=grow (w.drewN k) os:=Any.strconv_Itoa Tryz.laysM171 n h0 h1 w cx
def Tryz.laysC172_ren:HK:=⟨fun | 172=>144 | 244=>224 | 245=>225 | 247=>276 | 279=>277 | 280=>278 | 281=>279 | 282=>280 | 287=>308 | 316=>309 | 171=>86 | 205=>310 | 321=>335 | 322=>336 | 243=>147 | 246=>233 | 283=>282 | 284=>283 | 285=>284 | 286=>285 | 129=>312 | 317=>311 | 318=>313 | 319=>314 | 320=>315 | 337=>337 | 338=>338 | n=>n,fun | 9=>9 | 3=>3 | 75=>196 | 76=>214 | 4=>4 | 5=>5 | 167=>338 | 37=>164 | 0=>0 | 85=>339 | 2=>2 | 168=>341 | 53=>346 | 175=>366 | 46=>368 | 210=>370 | 127=>265 | 145=>402 | 143=>400 | 21=>21 | 171=>345 | 173=>349 | 212=>373 | 51=>319 | 20=>20 | 213=>374 | 232=>421 | 233=>422 | 80=>115 | n=>n,fun | 15=>6 | 16=>7 | 17=>8 | 18=>10 | 19=>11 | n=>n⟩
theorem Tryz.laysC172:Go.Proofs.LaysC.n172 Tryz.prog Tryz.laysC172_ren:=by refine' { .. }<;>first | kernel_rfl | (intro _;kernel_rfl)
open Go.RowKit in
theorem Tryz.strconv_Atoi_ok(s:ByteArray)(zm:s.size<=9223372036854775806)(v:Int)(h:LS s.data.toList=.ok v)(w:BL):FV Tryz.prog 144 #[.string s] w fun e w'=>e=.returned (.tuple #[.int .i64 v,.nilIface])/\(w'=w∨∃t,w'=Lib.bytesWorld w 5 t):=Any.strconv_Atoi_ok Tryz.laysC172 s zm v h w
open Go.RowKit in
theorem Tryz.strconv_Atoi_syntax(s:ByteArray)(P6:s.size<=281474976710656)(h:LS s.data.toList=LS [])(ev:BE)(w:BL)(hv:w.cell? ⟨6,0,N2⟩=QQ ev)(je:ev=.nilIface∨∃te pe,ev=.iface te pe):FV Tryz.prog 144 #[.string s] w fun e w'=>∃N,e=.returned (.tuple #[.int .i64 (0),.iface 341 (.pointer (QQ ⟨N,0,N2⟩))])/\w.heap.size<=N/\w'.heap[N]? = QQ (.cells #[.string ⟨#[65,116,111,105]⟩,.string s,ev] 370 (0,0))/\Below w.heap.size w w':=Any.strconv_Atoi_syntax Tryz.laysC172 s P6 h ev w hv je
open Go.RowKit in
theorem Tryz.strconv_Atoi_range(s:ByteArray)(P6:s.size<=281474976710656)(h:LS s.data.toList=.range)(ev:BE)(w:BL)(hv:w.cell? ⟨7,0,N2⟩=QQ ev)(je:ev=.nilIface∨∃te pe,ev=.iface te pe):FV Tryz.prog 144 #[.string s] w fun e w'=>∃N,e=.returned (.tuple #[.int .i64 (QV s.data.toList),.iface 341 (.pointer (QQ ⟨N,0,N2⟩))])/\w.heap.size<=N/\w'.heap[N]? = QQ (.cells #[.string ⟨#[65,116,111,105]⟩,.string s,ev] 370 (0,0))/\Below w.heap.size w w':=Any.strconv_Atoi_range Tryz.laysC172 s P6 h ev w hv je
def Tryz.lays217_ren:HK:=⟨fun | 217=>323 | 266=>344 | n=>n,fun | 9=>9 | 5=>5 | 3=>3 | n=>n,fun | n=>n⟩
theorem Tryz.lays217:Go.Proofs.Lays.n217 Tryz.prog Tryz.lays217_ren:=by refine' { .. }<;>first | kernel_rfl | (intro _;kernel_rfl)
open Go.RowKit Go.Lib in
theorem Tryz.stringslite_IndexByte(s:ByteArray)(c:Int)(w:BL):FV Tryz.prog 323 #[.string s,.int .u8 c] w fun e w'=>e=.returned (.int .i64 (Lib.indexByte s.data.toList c.toNat.toUInt8))/\w'=w:=Any.stringslite_IndexByte Tryz.lays217 s c w
def Tryz.lays138_ren:HK:=⟨fun | 138=>316 | 195=>339 | 218=>340 | 143=>239 | 219=>294 | 217=>323 | 225=>324 | 224=>325 | 267=>326 | 266=>344 | 314=>345 | n=>n,fun | 9=>9 | 3=>3 | 4=>4 | 5=>5 | 0=>0 | 46=>368 | 146=>405 | 51=>319 | n=>n,fun | 1=>9 | n=>n⟩
theorem Tryz.lays138:Go.Proofs.Lays.n138 Tryz.prog Tryz.lays138_ren:=by refine' { .. }<;>first | kernel_rfl | (intro _;kernel_rfl)
open Go.RowKit Go.Lib in
theorem Tryz.strings_Count_one(s:ByteArray)(c:UInt8)(w:BL):FV Tryz.prog 316 #[.string s,.string ⟨#[c]⟩] w fun e w'=>e=.returned (.int .i64 (Lib.countByte s.data.toList c))/\w'=w:=Any.strings_Count_one Tryz.lays138 s c w
open Go.RowKit Go.Lib in
def Tryz.laysM288_ren:HK:=⟨fun | 288=>342 | 283=>282 | 284=>283 | 285=>284 | 286=>285 | 129=>312 | 317=>311 | 318=>313 | 319=>314 | 320=>315 | 337=>337 | 338=>338 | n=>n,fun | 37=>164 | 53=>346 | 3=>3 | 4=>4 | 9=>9 | 171=>345 | 0=>0 | 173=>349 | 212=>373 | 51=>319 | 5=>5 | 20=>20 | 213=>374 | 46=>368 | 232=>421 | 233=>422 | n=>n,fun | 17=>8 | 18=>10 | 19=>11 | n=>n⟩
theorem Tryz.laysM288:Go.Proofs.LaysM.n288 Tryz.prog Tryz.laysM288_ren:=by refine' { .. }<;>first | kernel_rfl | (intro _;kernel_rfl)
end Go.Proofs
end
section
namespace Go.Proofs.Sa
open Go Go.AM Go.Proofs Go.RowKit Go.Lib
theorem aPh(b:Nat)(w:BL)(h0:w.cell? ⟨b,0,N2⟩=QQ (.pointer (QQ ⟨b,0,N2⟩))):FV Tryz.prog 211 #[.pointer (QQ ⟨b,0,N2⟩)] w fun e w'=>e=.returned (.tuple #[])/\w'=w:=by
 obtain⟨j,hj,_⟩:=EL.1 (show (Tryz.prog.info? 187).map (·.size)=QQ 2 by kernel_rfl)
 go_enter Tryz.func211,Tryz.ntmps211
 go_wp2
 rw[Lib.run_neq_ptr_same w _ Tryz.underlying185 hj]
 go_wp2
 go_end0
 grind
theorem aIg(b t:Nat)(ht:t=187∨t=189)(w:BL)(h0:w.cell? ⟨b,0,N2⟩=QQ (.pointer N2))(vg:w.shape? b=QQ (t,2))(Kq:w.frozen? ⟨b,0,N2⟩=QT):FV Tryz.prog 211 #[.pointer (QQ ⟨b,0,N2⟩)] w fun e w'=>e=.returned (.tuple #[])/\w'=w.setCell ⟨b,0,N2⟩ (.pointer (QQ ⟨b,0,N2⟩)):=by
 obtain⟨j,hj,Kr⟩:=EL.1 (show (Tryz.prog.info? 187).map (·.size)=QQ 2 by kernel_rfl);have Ab:liesAt Tryz.prog Tryz.prog.depth t (2 / Tryz.prog.cellsOf t) 0 187 1=true:=by
  rcases ht with rfl | rfl
  ·kernel_rfl
  kernel_rfl
 go_enter Tryz.func211,Tryz.ntmps211
 go_wp2
 rw[Lib.run_to_unsafe w ⟨b,0,N2⟩ Tryz.underlying185 Tryz.underlying333 hj (by grind) vg (Nat.zero_lt_succ 1)];simp only[DL];rw[KF]
 go_wp2
 rw[OU Tryz.func272 bIv bIv bIv (e:=NY) bIv];rw[Lib.run_noEscape];simp only[DL];rw[KF]
 go_wp2
 rw[Lib.run_from_unsafe w ⟨b,0,N2⟩ Tryz.underlying333 Tryz.underlying185 hj vg Ab];simp only[DL];rw[KF]
 go_wp2
 go_end0
 grind
theorem aPi(a:IA)(n:Int)(w:BL)(hc:w.cell? a=QQ (.int .u32 n)):FV Tryz.prog 305 #[.pointer (QQ a)] w fun e w'=>e=.returned (.bool (n != 0))/\w'=w:=by
 have hl:=QE (P:=Tryz.prog) Tryz.func329 bIv bIv bIv .u32 bIv (w:=w) (a:=a) (x:=n) hc
 go_enter Tryz.func305,Tryz.ntmps305
 go_wp2
 go_ret
 simp_all
theorem aNS(b:Nat)(w:BL)(h1:w.cell? ⟨b,1,N2⟩=QQ (.slice N2 0 0)):FV Tryz.prog 119 #[.pointer (QQ ⟨b,0,N2⟩)] w fun e w'=>e=.returned (.string .empty)/\w'=w.drew:=by
 have c1:w.drew.cell? ⟨b,1,N2⟩=QQ (.slice N2 0 0):=h1;have mixed:Tryz.prog.follows .mixedOrders=true:=bIv;have Ks:(KN #[164] 265 #[.slice N2 0 0]).run Tryz.prog w.drew=.ok (.pointer N2) w.drew:=Lib.run_unsafeSliceData_nil _ _ _ _ _;have Kt:(LM #[265,3] 9 #[.pointer N2,.int .i64 0]).run Tryz.prog w.drew=.ok (.string .empty) w.drew:=rfl
 go_enter Tryz.func119,Tryz.ntmps119
 go_wp2
 go_region_o
 all_goals (go_wp2;go_ret;simp_all)
theorem aNT(b g cap:Nat)(l:List UInt8)(cur:Array BE)(w:BL)(h0:l≠[])(cm:l.length<=cap)(zm:l.length<=9223372036854775807)(h1:w.cell? ⟨b,1,N2⟩=QQ (.slice (QQ ⟨g,0,N2⟩) l.length cap)) (hg:w.heap[g]? = QQ (.cells cur 5 (0,0))) (hn:l.length<=cur.size) (bc:∀j x,l[j]? = QQ x->w.cell? ⟨g,j,N2⟩=QQ (.int .u8 x.toNat)):FV Tryz.prog 119 #[.pointer (QQ ⟨b,0,N2⟩)] w fun e w'=>e=.returned (.string ⟨l.toArray⟩)/\w'=w.drew.freeze ⟨g,0,N2⟩ l.length:=by
 have sz:l.length≠0:=by simpa using h0
 have mixed:Tryz.prog.follows .mixedOrders=true:=bIv;have c1:w.drew.cell? ⟨b,1,N2⟩=QQ (.slice (QQ ⟨g,0,N2⟩) l.length cap):=h1;have Ks:(KN #[164] 265 #[.slice (QQ ⟨g,0,N2⟩) l.length cap]).run Tryz.prog w.drew=.ok (.pointer (QQ ⟨g,0,N2⟩)) w.drew:=
  Lib.run_unsafeSliceData_row _ _ _ _ _ _ omT
 have Kt:(LM #[265,3] 9 #[.pointer (QQ ⟨g,0,N2⟩),.int .i64 l.length]).run Tryz.prog w.drew=.ok (.string ⟨l.toArray⟩) (w.drew.freeze ⟨g,0,N2⟩ l.length):=
  Lib.run_unsafeString_row w.drew 265 3 9 5 Tryz.underlying265 bIv g cur.size (by have eu:w.drew.heap[g]? = QQ (.cells cur 5 (0,0)):=hg;simp[LU,eu]) l h0 hn zm
   (fun j x hx=>by rw[Addr.add_lit,BC];simp_all)
 go_enter Tryz.func119,Tryz.ntmps119
 go_wp2
 go_region_o
 all_goals (go_wp2;go_ret;simp_all)
theorem bBr{g:G}{x:BE}(h:ai g .nilPtr x):x=.pointer none:=by cases h;rfl
theorem mX{α:Type}{cs:Array α}{x y:α}(h:cs.toList=[x,y]):cs = #[x,y]:=by grind
theorem uq{ab:cu}:gS Tryz.prog ab fun f' args H=>if f'=211 then (fB 187 189 args H).map (cT H)else none:=by
 refine oC ⟨Tryz.f211,Tryz.func211,bIv,bIv⟩ fun args H v ws ns hp g w xs hw hg hx=>?_;unfold fB at hp;split at hp
 ·rename_i o ve;obtain⟨x,rfl,hv⟩:=aBc hx;split at hp
  ·rename_i v' ty c ho;split at hp
   ·rename_i hc;simp only[AG,BK]at hp;obtain⟨rfl,rfl,rfl⟩:=hp;obtain⟨l,cs,hb,rfl,ld,hl⟩:=aGf hw ho hc.1 hv;obtain⟨x1,x2,e,r1,r2⟩:=nH hl;have ecs:=mX e;subst ecs;have e1:=bBr r1;subst e1;refine (aIg l.b ty hc.2 w (by simp[EF,ld]) (by simp[LU,ld]) (by simp[World.frozen?,ld])).mono ?_;rintro e w' ⟨rfl,rfl⟩;refine⟨g, ?_,ai.skip g⟩;simp only[eU,AJ,BI,BY];refine Step.Aa (cs' := #[.pointer (QQ ⟨l.b,0,N2⟩),x2]) hw hb (JE _ _ _) (fun b hb=>?_) ?_ ?_ (vG _ _ _)
    ·simp[JP,DJ,Ne.symm hb]
    ·simp[JP,DJ,ld]
    refine⟨rfl,fun i a x e1 e2=>?_⟩;grind
   cases hp
  ·rename_i v' ty o' v2 c ho;split at hp
   ·rename_i hc;simp only[AG,BK]at hp;obtain⟨rfl,rfl,rfl⟩:=hp;obtain⟨l,cs,hb,rfl,ld,hl⟩:=aGf hw ho hc.1 hv;obtain⟨x1,x2,e,r1,r2⟩:=nH hl;have ecs:=mX e;subst ecs;obtain⟨rfl,rfl,rfl⟩:=hc;have e1:x1=.pointer (QQ ⟨l.b,0,N2⟩):=by
     cases r1 with
     |ptr _ _ _ l2 a iq D7 h=>rw[hb.loc]at iq;cases iq;rw[h hb.st (hw.obj _ _ _ hb).1]
    subst e1;refine (aPh l.b w (by simp[EF,ld])).mono ?_;rintro e w' ⟨rfl,rfl⟩;exact⟨g,by simpa [eU]using Step.refl hw,ai.skip g⟩
   cases hp
  cases hp
 cases hp
theorem vv{ab:cu}:gS Tryz.prog ab fun f' args H=>if f'=305 then (aAi args H).map (cT H)else none:=by
 refine oC ⟨Tryz.f305,Tryz.func305,bIv,bIv⟩ fun args H v ws ns hp g w xs hw hg hx=>?_;unfold aAi at hp;split at hp
 ·rename_i p;obtain⟨x,rfl,hv⟩:=aBc hx;split at hp
  ·rename_i n hr;simp only[AG,BK]at hp;obtain⟨rfl,rfl,rfl⟩:=hp;obtain⟨b,off,vs,rfl,ax,hl,hc⟩:=eI hw hr hv;obtain⟨y,rfl,hy⟩:=aBc hl;cases hy;refine (aPi ⟨b,off,N2⟩ n w (hc 0 _ rfl)).mono ?_;rintro e w' ⟨rfl,rfl⟩;exact⟨g,by simpa [eU]using Step.refl hw,.bool _⟩
  cases hp
 cases hp
theorem aKn{g:G}{H:LO}{w w':BL}(hw:WF g H w)(h:Below w.heap.size w w'):Step g H w g H w' []:=Step.nf hw h.size h.block ⟨h.os,h.output⟩
theorem A8{ab:cu}:gS Tryz.prog ab fun f' args H=>if f'=316 then (aE7 args H).map (cT H)else none:=by
 refine oC ⟨Tryz.f316,Tryz.func316,bIv,bIv⟩ fun args H v ws ns hp g w xs hw hg hx=>?_;unfold aE7 at hp;split at hp
 ·rename_i s c;simp only[AG,BK]at hp;obtain⟨rfl,rfl,rfl⟩:=hp;obtain⟨x,y,rfl,h1,h2⟩:=nH hx;obtain⟨s',rfl,hs⟩:=h1.fp;obtain⟨c',rfl,hc⟩:=h2.fp;have ec:c'=⟨#[c]⟩:=by cases c' with | mk d=>cases d;grind
  subst ec;refine (Tryz.strings_Count_one s' c w).mono ?_;rintro e w' ⟨rfl,rfl⟩;refine⟨g,by simpa [eU]using Step.refl hw, ?_⟩;rw[hs];exact .int _ _
 cases hp
theorem A9{ab:cu}:gS Tryz.prog ab fun f' args H=>if f'=323 then (aYu args H).map (cT H)else none:=by
 refine oC ⟨Tryz.f323,Tryz.func323,bIv,bIv⟩ fun args H v ws ns hp g w xs hw hg hx=>?_;unfold aYu at hp;split at hp
 ·rename_i s c;simp only[AG,BK]at hp;obtain⟨rfl,rfl,rfl⟩:=hp;obtain⟨x,y,rfl,h1,h2⟩:=nH hx;obtain⟨s',rfl,hs⟩:=h1.fp;cases h2;refine (Tryz.stringslite_IndexByte s' c w).mono ?_;rintro e w' ⟨rfl,rfl⟩;refine⟨g,by simpa [eU]using Step.refl hw, ?_⟩;rw[hs];exact .int _ _
 cases hp
theorem aKo(w:BL)(g n:Nat):(w.freeze ⟨g,0,N2⟩ n).heap.size=w.heap.size/\(∀b,b≠g->(w.freeze ⟨g,0,N2⟩ n).heap[b]? = w.heap[b]?) /\ (w.freeze ⟨g,0,N2⟩ n).os=w.os/\(w.freeze ⟨g,0,N2⟩ n).output=w.output:=by
 unfold World.freeze;split
 ·grind
 refine⟨siT,fun b hb=>?_,rfl,rfl⟩;grind
theorem aIh:∀(rows:List LA) (l:List UInt8),cM rows=QQ l->rows.length=l.length/\∀(j:Nat) x,l[j]? = QQ x->∃n:Int,rows[j]? = QQ [.int .u8 n]/\x=CN n.toNat
 | [],l,h=>by cases h;grind
 |r::rows,l,h=>by
  unfold cM at h;split at h
  ·grind
  ·rename_i n r' e;cases e;cases hb:cM rows with
   |none=>grind
   |some l'=>rw[hb]at h;cases h;obtain⟨h1,h2⟩:=aIh rows l' hb;grind
  cases h
theorem aIi:∀(rows:List LA),aE6 rows=QS->∀(j:Nat) (n:Int),rows[j]? = QQ [.int .u8 n]->0<=n/\n<256
 | [],h,j,n,e=>by simp at e
 |r::rows,h,j,n,e=>by
  unfold aE6 at h;split at h
  ·grind
  ·rename_i m r' e';cases e';simp only[AI,decide_eq_true_eq]at h;cases j with
   |zero=>grind
   |succ j=>exact aIi rows h.2 j n (by simpa using e)
  cases h
theorem zn{ab:cu}:gS Tryz.prog ab fun f' args H=>if f'=119 then (aAh 5 args H).map (cT H)else none:=by
 refine oC ⟨Tryz.f119,Tryz.func119,bIv,bIv⟩ fun args H v ws ns hp g w xs hw hg hx=>?_;unfold aAh at hp;split at hp
 ·rename_i o ve;obtain⟨x,rfl,hv⟩:=aBc hx;split at hp
  ·rename_i v' ty c ho;split at hp
   ·rename_i hc;simp only[AG,BK]at hp;obtain⟨rfl,rfl,rfl⟩:=hp;obtain⟨l,cs,hb,rfl,ld,hl⟩:=aGf hw ho hc hv;obtain⟨x1,x2,e,r1,r2⟩:=nH hl;have ecs:=mX e;subst ecs;cases r2;refine (aNS l.b w (by simp[EF,ld])).mono ?_;rintro e w' ⟨rfl,rfl⟩;exact⟨g,by simpa [eU]using Step.of_heap (w':=w.drew) hw rfl,.str QD⟩
   cases hp
  ·rename_i v' ty c o2 v2 n ho;split at hp
   ·rename_i hc;split at hp
    ·rename_i v3 t3 rows Ia;split at hp
     ·rename_i nc;obtain⟨rfl,rfl,ax,gq,bl,E1,td⟩:=nc;split at hp
      ·rename_i lb Co;simp only[AG,BK]at hp;obtain⟨rfl,rfl,rfl⟩:=hp;obtain⟨l,cs,hb,rfl,ld,hl⟩:=aGf hw ho hc hv;obtain⟨x1,x2,e,r1,r2⟩:=nH hl;have ecs:=mX e;subst ecs;cases r2 with
       |sr _ _ _ l2 a cap iq D7 xh jg hh=>
        have bd:l2.st=v3:=by have:=hw.st o2 _ l2 Ia iq;simp only[ah.ver]at this;omega
        have dp:au g H o2 l2 (.gl v3 5 1 rows):=⟨Ia,rfl,iq,bd⟩;obtain⟨⟨h0,ow,cm,dr,hk,eh,bc⟩,cur,Ac⟩:=hw.obj o2 l2 _ dp;obtain⟨rfl,rfl⟩:=hh bd omT;obtain⟨zo,V6⟩:=aIh rows lb Co;have iv:∀j,j<rows.length->(w.cell? ⟨l2.b,j,N2⟩).isSome=true:=fun j hj=>eh j omT;have ru:lb.length<=cur.size:=by
         rcases MH cur.size lb.length with h | h
         ·have:=iv cur.size omT;simp[EF,Ac]at this
         exact h
        have kq:∀j x,lb[j]? = QQ x->w.cell? ⟨l2.b,j,N2⟩=QQ (.int .u8 x.toNat):=fun j x hj=>by
         obtain⟨m,e1,e2⟩:=V6 j x hj;obtain⟨_,y,hy,hr⟩:=bc j 0 _ _ e1 rfl;cases hr;rw[FK,DU]at hy;obtain⟨q1,q2⟩:=aIi rows td j m e1;obtain⟨k,rfl⟩:=DN q1;rw[hy,e2,AT];have:(CN k).toNat=k:=by rw[UInt8.toNat_ofNat'];grind
         rw[this]
        have O4:n=lb.length:=omT;subst O4;refine (aNT l.b l2.b l2.cap lb cur w (fun e=>gq (by rw[e];rfl)) omT omT (by simp[EF,ld]) Ac ru kq).mono ?_;rintro e w' ⟨rfl,rfl⟩;obtain⟨f1,f2,f3,f4⟩:=aKo w.drew l2.b lb.length;have hs:=Step.K8 (w':=w.drew.freeze ⟨l2.b,0,N2⟩ lb.length) hw dp f1 f2 ⟨f3,f4⟩;exact⟨g,by simpa [eU,ah.ver]using hs,.str ⟨lb.toArray⟩⟩
      cases hp
     cases hp
    cases hp
   cases hp
  cases hp
 cases hp
theorem aIj{sep:List UInt8}:∀(rows:List LA) (s:List UInt8),aJ7 sep rows=QQ s->∃ls:List (List UInt8),rows=ls.map (fun l=>[AV.str l])/\s=OT ls sep
 | [],s,h=>by cases h;exact⟨[],rfl,rfl⟩
 | [r],s,h=>by
  unfold aJ7 at h;split at h
  ·grind
  ·rename_i l e;injection e with e1 e2;subst e1;injection h with h;subst h;exact⟨[l],rfl,by simp[OT]⟩
  ·grind
  cases h
 |r::r2::rows,s,h=>by
  unfold aJ7 at h;split at h
  ·grind
  ·grind
  ·rename_i l r' bl e;cases e;split at h
   ·rename_i t ht;cases h;obtain⟨ls,e1,e2⟩:=aIj (r2::rows) t ht;refine⟨l::ls,by grind, ?_⟩;cases ls with
    |nil=>simp at e1
    |cons a ls=>rw[e2];simp[OT]
   cases h
  cases h
theorem G2{ab:cu}:gS Tryz.prog ab fun f' args H=>if f'=91 then (aKm args H).map (cT H)else none:=by
 refine oC ⟨Tryz.f91,Tryz.func91,bIv,bIv⟩ fun args H v ws ns hp g w xs hw hg hx=>?_;unfold aKm at hp;split at hp
 ·rename_i fl rows sep;split at hp
  ·rename_i s hs;split at hp
   ·rename_i hc;simp only[AG,BK]at hp;obtain⟨rfl,rfl,rfl⟩:=hp;obtain⟨x,y,rfl,h1,h2⟩:=nH hx;obtain⟨sep',rfl,Ad⟩:=h2.fp;obtain⟨ls,e1,e2⟩:=aIj rows s hs;rcases aA7 hw (av:=.sl fl rows) rfl h1 with⟨rfl,cap,rfl⟩ | ⟨b,off,cap,k,cells,rfl,cm,hrr,bd,bc⟩
    ·have:ls=[]:=by grind
     subst this;refine (Tryz.strings_Join_none N2 cap sep' w).mono ?_;rintro e w' ⟨rfl,rfl⟩;refine⟨g,by simpa [eU]using Step.refl hw, ?_⟩;rw[e2];exact .str ⟨#[]⟩
    have gu:rows.length=ls.length:=by rw[e1];simp
    by_cases bl:ls=[]
    ·subst bl;rw[gu]at *;refine (Tryz.strings_Join_none (QQ ⟨b,off,N2⟩) cap sep' w).mono ?_;rintro e w' ⟨rfl,rfl⟩;refine⟨g,by simpa [eU]using Step.refl hw, ?_⟩;rw[e2];exact .str ⟨#[]⟩
    have hk:k=1:=by
     cases ls with
     |nil=>grind
     |cons a ls=>exact (hrr.row [.str a] (by rw[e1];simp)).symm
    subst hk;have kq:∀(j:Nat) x,(ls.map fun l=>(⟨l.toArray⟩:ByteArray))[j]? = QQ x->w.cell? ⟨b,off+j,N2⟩=QQ (.string x):=fun j x hj=>by
     rw[BN]at hj;cases hq:ls[j]? with
     |none=>grind
     |some l=>
      simp[hq]at hj;have hlt:j<rows.length:=by grind
      have Ib:j<cells.length:=by rw[hrr.len];omega
      have hr:=hrr.rel j 0 [.str l] (.str l) cells[j] (by grind) rfl (by simp[Ib]);obtain⟨bs,e3,e4⟩:=hr.fp;have:=bc j cells[j] (by simp[Ib]);rw[this,e3,<- hj];congr 2;cases bs with
      |mk d=>simp at e4;simp[<- e4]
    have Ae:(ls.map fun l=>(⟨l.toArray⟩:ByteArray)).map (·.data.toList)=ls:=by simp[Function.comp_def]
    have qw:b<w.heap.size:=by
     cases ls with
     |nil=>grind
     |cons a ls=>exact World.block_lt_of_cell? (a:=⟨b,off+0,N2⟩) w (kq 0 _ rfl)
    have hj:=Tryz.strings_Join b off cap (ls.map fun l=>(⟨l.toArray⟩:ByteArray)) sep' w kq qw (by grind) (by grind) (by grind);rw[Ae,Ad,<- e2]at hj;rw[show (ls.map fun l=>(⟨l.toArray⟩:ByteArray)).length=rows.length by simp[gu]]at hj;refine hj.mono ?_;rintro e w' ⟨rfl,Ku⟩;exact⟨g,by simpa [eU]using aKn hw Ku,.str ⟨s.toArray⟩⟩
   cases hp
  cases hp
 cases hp
theorem aSR{tab:Nat}{g:G}{H:LO}{w:BL}(hw:WF g H w)(G3:Tryz.prog.globalNamed "internal/strconv.uint64pow10" = QQ tab) {ab:cu} (cn:ab.row tab=QQ (EB.map fun z=>AV.int .u64 z)) (hg:bM Tryz.prog ab g):OL Tryz.prog w "internal/strconv.uint64pow10" .u64 EB:=by
 obtain⟨h1,cs,t,fz,h2,h3⟩:=hg.row tab (EB.map fun z=>AV.int .u64 z) cn;obtain⟨h4,_⟩:=hw.whole.blocks tab _ h2;obtain⟨b,off,vs,e,hl,hr,hc⟩:=eI hw (k:=20) (pv:=.ep (EB.map fun z=>AV.int .u64 z) 0) (cs:=EB.map fun z=>AV.int .u64 z) (by
  simp_all [bC,Zy,Lib.pow10Tab_length,AD,CH]) h1
 cases e;unfold OL World.var?;rw[G3];simp only[Option.bind_some,h4,AG];apply Array.ext_getElem?;intro j;by_cases hj:j<20
 ·have ax:vs.length=20:=by rw[<- hr.1];grind
  have hv:vs[j]? = QQ vs[j]:=AP omT;have bc:=hc j _ hv;have ha:(EB.map fun z=>AV.int .u64 z)[j]? = QQ (AV.int .u64 (EB[j]'(by grind))):=by grind
  have dj:=hr.2 j _ _ ha hv;have hx:cs[j]? = QQ vs[j]:=by simpa [EF,h4]using bc
  rw[hx];simp only[List.getElem?_toArray,BN,AP (show j<EB.length by grind),Option.map_some,AG];generalize vs[j]=v at dj;cases dj;rfl
 grind
theorem aJ8:∀(k n:Nat),n<10 ^ k->0<k->nC k n=DT n
 |0,n,h,h0=>by omega
 |k+1,n,h,_=>by
  unfold nC;rw[DT];by_cases h1:n<10
  ·grind
  rw[Zx h1,dif_neg h1];cases k with
  |zero=>omega
  |succ k=>rw[aJ8 (k+1) (n / 10) (by grind) omT]
theorem G4{ab:cu}{tab:Nat}(G3:Tryz.prog.globalNamed "internal/strconv.uint64pow10" = QQ tab)(cn:ab.row tab=QQ (EB.map fun z=>AV.int .u64 z)):gS Tryz.prog ab fun f' args H=>if f'=86 then (sC args H).map (cT H)else none:=by
 refine oC ⟨Tryz.f86,Tryz.func86,bIv,bIv⟩ fun args H v ws ns hp g w xs hw hg hx=>?_;unfold sC at hp;split at hp
 ·rename_i n;obtain⟨x,rfl,hv⟩:=aBc hx;cases hv;have fin:∀s,s=MT n -> -9223372036854775808<=n/\n<=9223372036854775807->FV Tryz.prog 86 #[.int .i64 n] w fun e w'=>match e with
    |.returned x=>∃g',Step g H w g' (eU H []++[]) w' []/\pN g' (eU H []++[]) w.heap.size w' (.str s) x
    |_=>False:=fun s hs hb=>by
   refine (Tryz.strconv_Itoa n hb.1 hb.2 w (aSR hw G3 cn hg)).mono ?_;rintro e w' ⟨rfl,k,os,rfl⟩;refine⟨g, ?_, ?_⟩
   ·have:Step g H w g H (LF (w.drewN k) os) []:=Step.nf hw (by simp[LF]) (fun b hb=>by
     grind [LF,World.heap_drewN,Array.getElem?_append_left]) ⟨rfl,rfl⟩
    simpa [eU]using this
   rw[hs];exact .str ⟨(MT n).toArray⟩
  split at hp
  ·rename_i hc;simp only[AG,BK]at hp;obtain⟨rfl,rfl,rfl⟩:=hp;refine fin _ ?_ ⟨omT,omT⟩;rw[aJ8 7 _ omT omT,MT,Zx omT]
  split at hp
  ·rename_i hc;simp only[AG,BK]at hp;obtain⟨rfl,rfl,rfl⟩:=hp;refine fin _ ?_ ⟨omT,omT⟩;rw[aJ8 7 _ omT omT,MT,Zy omT,show (-n).toNat=n.natAbs by omega]
  cases hp
 cases hp
end Go.Proofs.Sa
end
section
namespace Go.Proofs.Sa
open Go Go.AM Go.Proofs Go.RowKit Go.Lib
structure lj(w:BL)(b n:Nat)(w':BL):Prop where
 size:w'.heap.size=w.heap.size+1
 other:∀k,k≠b->k<w.heap.size->w'.heap[k]? = w.heap[k]?
 blk:∃cs:Array BE,n<=cs.size/\w'.heap[b]? = QQ (.cells #[.pointer (QQ ⟨b,0,N2⟩),.slice (QQ ⟨w.heap.size,0,N2⟩) 0 cs.size] 187 (0,0))/\w'.heap[w.heap.size]? = QQ (.cells cs 5 (0,0))
 io:w'.os=w.os/\w'.output=w.output
theorem aPj{w:BL}{b n:Nat}{cs:Array BE}(dx:w.heap[b]? = QQ (.cells #[.pointer (QQ ⟨b,0,N2⟩),.slice N2 0 0] 187 (0,0)))(hn:n<=cs.size):lj w b n ((w.setCell ⟨b,1,N2⟩ (.slice (QQ ⟨w.heap.size,0,N2⟩) 0 cs.size)).alloc (.cells cs 5)):=by
 have hlt:b<w.heap.size:=by
  rcases MH b w.heap.size with h | h
  ·exact h
  simp[DV h]at dx
 have e:∀v,((w.setCell ⟨b,1,N2⟩ v).alloc (.cells cs 5)).heap=(w.setCell ⟨b,1,N2⟩ v).heap.push (.cells cs 5):=fun _=>rfl;have hs:∀v,(w.setCell ⟨b,1,N2⟩ v).heap.size=w.heap.size:=fun v=>JE _ _ _;refine⟨by rw[e,OA,hs],fun k hk zp=>?_,⟨cs,hn, ?_, ?_⟩,vG w ⟨b,1,N2⟩ (.slice (QQ ⟨w.heap.size,0,N2⟩) 0 cs.size)⟩
 ·rw[e,FE,Zx (by rw[hs];omega)];simp only[JP,DJ];rw[Zx (Ne.symm hk)]
 ·rw[e,FE,Zx (by rw[hs];omega)];simp[JP,DJ,dx]
 rw[e,FE,Zy (hs _).symm]
theorem lj.of{w W X:BL}{b n:Nat}(h:lj w b n X)(e:W.heap=X.heap)(io:W.os=X.os/\W.output=X.output):lj w b n W:=⟨by rw[e];exact h.size,fun k h1 h2=>by rw[e];exact h.other k h1 h2,by rw[e];exact h.blk,io.1.trans h.io.1,io.2.trans h.io.2⟩
theorem aPk(b n:Nat)(w:BL)(dx:w.heap[b]? = QQ (.cells #[.pointer (QQ ⟨b,0,N2⟩),.slice N2 0 0] 187 (0,0)))(hn:n<=281474976710656):FV Tryz.prog 234 #[.pointer (QQ ⟨b,0,N2⟩),.int .i64 n] w fun e w'=>e=.returned (.tuple #[])/\lj w b n w':=by
 obtain⟨cs,cl,hle,zm⟩:=Lib.run_makeNoZero (P:=Tryz.prog) w.drew #[3] 164 5 Tryz.underlying164 n hn;have hw:AR.wrap (AR.wrap 0+(n:Int))=n:=by rw[MU,MU];omega
 have az:(callFunc 286 #[.int .i64 (AR.wrap (AR.wrap 0+(n:Int)))]).run Tryz.prog w.drew=.ok (.value (.slice (QQ ⟨w.drew.heap.size,0,N2⟩) n cs.size)) (w.drew.drew.drew.alloc (.cells cs 5)):=by rw[hw,OU Tryz.func286 bIv bIv bIv (e:=MA #[3] #[164]) bIv,cl];rfl
 have c1:w.drew.cell? ⟨b,1,N2⟩=QQ (.slice N2 0 0):=by have:w.drew.heap[b]? = _:=dx;rw[ID this];rfl
 have hlt:b<w.heap.size:=by
  rcases MH b w.heap.size with h' | h'
  ·exact h'
  simp[DV h']at dx
 have c2:(w.alloc (.cells cs 5)).cell? ⟨b,1,N2⟩=QQ (.slice N2 0 0):=by have:(w.alloc (.cells cs 5)).heap[b]? = _:=(PD w _ b hlt).trans dx;rw[ID this];rfl
 have f2:(w.alloc (.cells cs 5)).frozen? ⟨b,1,N2⟩=false:=NK ((PD w _ b hlt).trans dx) 1;have Ic:∀W:BL,(Builtin.copy_ #[164,164] 3 #[.slice (QQ ⟨w.heap.size,0,N2⟩) 0 cs.size,.slice N2 0 0]).run Tryz.prog W=.ok (goInt 0) W:=
  fun W=>run_copy_none W 164 164 3 5 _ _ 0 cs.size 0 0 Tryz.underlying164 bIv rfl
 clear hw;have mixed:Tryz.prog.follows .mixedOrders=true:=bIv
 go_enter Tryz.func234,Tryz.ntmps234
 go_wp2
 have zk:=aPj dx hle
 go_region_o
 all_goals (go_wp2;go_end0;exact⟨rfl,zk.of rfl ⟨rfl,rfl⟩⟩)
theorem aNU(b n:Nat)(w:BL)(dx:w.heap[b]? = QQ (.cells #[.pointer N2,.slice N2 0 0] 187 (0,0)))(gq:0<n)(hn:n<=281474976710656):FV Tryz.prog 149 #[.pointer (QQ ⟨b,0,N2⟩),.int .i64 n] w fun e w'=>e=.returned (.tuple #[])/\lj (w.setCell ⟨b,0,N2⟩ (.pointer (QQ ⟨b,0,N2⟩))) b n w':=by
 have P7:(w.setCell ⟨b,0,N2⟩ (.pointer (QQ ⟨b,0,N2⟩))).heap[b]? = QQ (.cells #[.pointer (QQ ⟨b,0,N2⟩),.slice N2 0 0] 187 (0,0)):=by simp[JP,DJ,dx]
 have c1:(w.setCell ⟨b,0,N2⟩ (.pointer (QQ ⟨b,0,N2⟩))).cell? ⟨b,1,N2⟩=QQ (.slice N2 0 0):=by rw[ID P7];rfl
 have mixed:Tryz.prog.follows .mixedOrders=true:=bIv;have e211:∀args w,(callFunc 211 args).run Tryz.prog w=.ok (.enter 211 args) w:=enters_of Tryz.func211 bIv rfl;have e234:∀args w,(callFunc 234 args).run Tryz.prog w=.ok (.enter 234 args) w:=enters_of Tryz.func234 bIv rfl;have c1':(w.setCell ⟨b,0,N2⟩ (.pointer (QQ ⟨b,0,N2⟩))).drew.cell? ⟨b,1,N2⟩=QQ (.slice N2 0 0):=c1
 go_enter Tryz.func149,Tryz.ntmps149
 go_wp2_with (go_at_fn 211;refine (aIg b 187 (.inl rfl) w (by rw[ID dx];rfl) (by simp[LU,dx]) (NK dx 0)).mono ?_;rintro e w' ⟨rfl,rfl⟩)
 go_region_o
 all_goals go_wp2_with (go_at_fn 234;refine (aPk b n (w.setCell ⟨b,0,N2⟩ (.pointer (QQ ⟨b,0,N2⟩))).drew P7 hn).mono ?_;rintro e w' ⟨rfl,hp⟩)
 all_goals first
  | (go_end0;exact⟨rfl,hp.size,hp.other,hp.blk,hp.io⟩)
  | (exfalso;omega)
end Go.Proofs.Sa
end
section
namespace Go.Proofs.Sa
open Go Go.AM Go.Proofs Go.RowKit Go.Lib
theorem G5{ab:cu}:gS Tryz.prog ab fun f' args H=>if f'=149 then (aNR 187 5 args H).map (cT H)else none:=by
 refine oC ⟨Tryz.f149,Tryz.func149,bIv,bIv⟩ fun args H v ws ns hp g w xs hw hg hx=>?_;unfold aNR at hp;split at hp
 ·rename_i o ve n;obtain⟨x,y,rfl,hv,hy⟩:=nH hx;cases hy;split at hp
  ·rename_i v' ty ho;split at hp
   ·rename_i hc;obtain⟨Er,rfl,gq,lx⟩:=hc;simp only[AG,BK]at hp;obtain⟨rfl,rfl,rfl⟩:=hp;obtain⟨l,cs,hb,rfl,ld,hl⟩:=aGf hw ho Er hv;obtain⟨x1,x2,e,r1,r2⟩:=nH hl;have ecs:=mX e;subst ecs;have e1:=bBr r1;subst e1;cases r2;obtain⟨m,rfl⟩:=DN (Int.le_of_lt gq);refine (aNU l.b m w ld omT omT).mono ?_;rintro e w' ⟨rfl,hp⟩;obtain⟨cb,hle,fo,dp⟩:=hp.blk;have hlt:l.b<w.heap.size:=hw.blk o l hb.loc;have xu:∀v,(w.setCell ⟨l.b,0,N2⟩ v).heap.size=w.heap.size:=fun v=>JE _ _ _;have uj:∀k,k≠l.b->k<w.heap.size->w'.heap[k]? = w.heap[k]? := fun k h1 h2=>by
     rw[hp.other k h1 (by rw[xu];exact h2)];simp[JP,DJ,Ne.symm h1]
    rw[xu]at fo dp;have gd:=hp.size;rw[xu]at gd;have K1:o<H.length:=hw.lt o l hb.loc
    let w1:BL:=w.alloc (.cells cb 5)
    have dy:w1.heap=w.heap.push (.cells cb 5):=rfl;have s1:=hw.more 1;have hid:H.length<(H++AX 1 (ah.gone 0)).length:=siT;obtain⟨g',s2,J9⟩:=Step.yk (rows:=[]) (k:=1) (cap:=cb.size) s1.wf hid dy (g:=g) ⟨rfl,siT,siT⟩ rfl (FF _) omT;have nn:bH (H++AX 1 (ah.gone 0)) H.length=1:=by simp[bH,ah.ver]
    have Cp:make (H++AX 1 (ah.gone 0)) H.length (.gl · 5 1 [])=H++[.gl 1 5 1 []]:=by simp[make,ah.ver]
    rw[nn]at J9;rw[Cp]at s2;have du:au g' (H++[.gl 1 5 1 []]) o l (.cw v' 187 [.nilPtr,.ar]):=by refine⟨by rw[BM K1];exact ho,rfl, ?_,by rw[Er];exact hb.st⟩;rw[s2.aq o soT soT];exact hb.loc
    have s3:=Step.Aa (w':=w') (dh:=[.ptr o ve 0,.sr H.length 1 0]) (cs' := #[.pointer (QQ ⟨l.b,0,N2⟩),.slice (QQ ⟨w.heap.size,0,N2⟩) 0 cb.size]) s2.wf du (by rw[gd,dy,OA])
     (fun b Es=>by
      rcases Nat.lt_trichotomy b w.heap.size with h | h | h
      ·rw[uj b Es h,dy,FE,Zx omT]
      ·subst h;rw[dp,dy];simp
      rw[DV omT,DV (by rw[dy];simp;omega)])
     fo
     (by
      refine⟨rfl,fun i a x e1 e2=>?_⟩
      match i with
      |0=>simp at e1 e2;subst e1;subst e2;exact .ptr o ve 0 l _ du.loc (by rw[hb.st];exact AQ _) fun _ _=>rfl
      |1=>simp at e1 e2;subst e1;subst e2;exact J9
      |i+2=>simp at e1) ⟨hp.io.1.trans (vG w ⟨l.b,0,N2⟩ _).1,hp.io.2.trans (vG w ⟨l.b,0,N2⟩ _).2⟩
    refine⟨g', ?_,ai.skip g'⟩;have:=Step.narrow (wr:=[o]) hw.lt ((s1.trans s2).trans s3) (fun i hi sw=>by
     simp at hi;rcases hi with h | h
     ·omega
     simp[h])
    simpa [eU,List.set_append,K1,Er]using this
   cases hp
  cases hp
 cases hp
end Go.Proofs.Sa
end
section
namespace Go.Proofs.Sa
open Go Go.AM Go.Proofs Go.RowKit Go.Lib
theorem disable(w:BL):(callFunc 354 #[]).run Tryz.prog w=.ok (.value (.tuple #[])) w:=PY Tryz.func354 bIv bIv bIv .disable bIv w
theorem enable(w:BL):(callFunc 356 #[]).run Tryz.prog w=.ok (.value (.tuple #[])) w:=PY Tryz.func356 bIv bIv bIv .enable bIv w
theorem acquire(a:IA)(w:BL):(callFunc 357 #[.pointer (QQ a)]).run Tryz.prog w=.ok (.value (.tuple #[])) w:=PV Tryz.func357 bIv bIv bIv .acquire bIv a w
theorem releaseMerge(a:IA)(w:BL):(callFunc 359 #[.pointer (QQ a)]).run Tryz.prog w=.ok (.value (.tuple #[])) w:=PV Tryz.func359 bIv bIv bIv .releaseMerge bIv a w
theorem aHx(a:IA)(x:BE)(u:FrameMode)(w:BL)(hc:w.cell? a=QQ x)(hz:w.frozen? a=QT):CallsD Tryz.prog 332 #[.pointer (QQ a),.bool QS] u w fun e u' w'=>u'=u/\(e=.returned (.tuple #[])/\w'=w.drew.setCell a (.int .u32 1)):=by
 have P8:w.drew.cell? a=QQ x:=by go_simp
 have Kv:w.drew.frozen? a=false:=by go_simp
 have bd:=run_call_store (P:=Tryz.prog) Tryz.func348 bIv bIv bIv bIv (k:=.u32) (y:=1) P8 Kv
 go_enter_d Tryz.func332,Tryz.ntmps332
 go_wp2
 go_region_calls
 all_goals (go_end0;exact⟨rfl,rfl⟩)
theorem aLJ(a:IA)(w:BL)(hc:w.cell? a=QQ (.int .i32 1))(hz:w.frozen? a=QT):FV Tryz.prog 347 #[.pointer (QQ a)] w fun e w'=>e=.returned (.tuple #[])/\w'=w.setCell a (.int .i32 0):=by
 have hd:=disable;have he:=enable;have hr:=releaseMerge;have ji:=run_call_add (P:=Tryz.prog) Tryz.func360 bIv bIv bIv .i32 bIv (y := -1) (s:=0) hc hz (by simp[go_sem];rfl);have Kw:=NZ (P:=Tryz.prog) (src:=427) (dst:=333) Tryz.underlying427 Tryz.underlying333 bIv hc
 go_enter Tryz.func347,Tryz.ntmps347
 go_wp2
 go_end0
 go_wp2
theorem aGg(a:IA)(u:FrameMode)(w:BL)(hc:w.cell? a=QQ (.int .i32 1))(hz:w.frozen? a=QT):CallsD Tryz.prog 331 #[.pointer (QQ a)] u w fun e u' w'=>u'=u/\(e=.returned (.tuple #[])/\w'=w.setCell a (.int .i32 0)):=by
 have e347:∀args w,(callFunc 347 args).run Tryz.prog w=.ok (.enter 347 args) w:=enters_of Tryz.func347 bIv rfl
 go_enter_d Tryz.func331,Tryz.ntmps331
 go_wp2_with (go_at_fn 347;refine (aLJ a _ hc hz).mono ?_;rintro e w' ⟨rfl,rfl⟩)
 all_goals (go_end0;exact⟨rfl,rfl⟩)
theorem aTR(a:IA)(w:BL)(hc:w.cell? a=QQ (.int .i32 0))(hz:w.frozen? a=QT):FV Tryz.prog 346 #[.pointer (QQ a)] w fun e w'=>e=.returned (.tuple #[])/\w'=w.setCell a (.int .i32 1):=by
 have hd:=disable;have he:=enable;have ha:=acquire;have Kx:=run_call_cas_hit (P:=Tryz.prog) Tryz.func355 bIv bIv bIv .i32 bIv (y:=1) hc hz;have P8:(w.setCell a (.int .i32 1)).cell? a=QQ (.int .i32 1):=World.cell?_setCell_same w a _ hc;have Kw:=NZ (P:=Tryz.prog) (src:=427) (dst:=333) Tryz.underlying427 Tryz.underlying333 bIv P8
 go_enter Tryz.func346,Tryz.ntmps346
 go_wp2
 first | go_end0 | (simp only[Exit.inBlock,Exit.then];refine QI (QJ rfl _ _ _) rfl ?_) | refine QI (QJ rfl _ _ _) rfl ?_
 go_wp2
theorem aPl(a:IA)(w:BL)(hc:w.cell? a=QQ (.int .i32 0))(hz:w.frozen? a=QT):FV Tryz.prog 330 #[.pointer (QQ a)] w fun e w'=>e=.returned (.tuple #[])/\w'=w.setCell a (.int .i32 1):=by
 have e346:∀args w,(callFunc 346 args).run Tryz.prog w=.ok (.enter 346 args) w:=enters_of Tryz.func346 bIv rfl
 go_enter Tryz.func330,Tryz.ntmps330
 go_wp2_with (go_at_fn 346;refine (aTR a _ hc hz).mono ?_;rintro e w' ⟨rfl,rfl⟩)
 all_goals (go_end0;exact⟨rfl,rfl⟩)
end Go.Proofs.Sa
end
section
namespace Go.Proofs.Sa
open Go Go.AM Go.Proofs Go.RowKit Go.Lib
theorem aPm(b off fid:Nat)(vf vc xs:Array BE)(w:BL)(R:BL->Prop) (iv:∀w,(callFunc fid xs).run Tryz.prog w=.ok (.enter fid xs) w) (re:vf++vc=xs) (h0:w.cell? ⟨b,off,N2⟩=QQ (.int .u32 0)) (h1:w.cell? ⟨b,off+1,N2⟩=QQ (.int .i32 0)) (f1:w.frozen? ⟨b,off+1,N2⟩=QT) (hf:FV Tryz.prog fid xs (w.setCell ⟨b,off+1,N2⟩ (.int .i32 1)) fun e w'=>(∃x,e=.returned x)/\R w') (hR:∀w',R w'->(∃x,w'.cell? ⟨b,off,N2⟩=QQ x)/\w'.frozen? ⟨b,off,N2⟩=QT/\w'.cell? ⟨b,off+1,N2⟩=QQ (.int .i32 1)/\w'.frozen? ⟨b,off+1,N2⟩=QT):FV Tryz.prog 306 #[.pointer (QQ ⟨b,off,N2⟩),.func (.func fid) vf vc] w fun e w'=>e=.returned (.tuple #[]) /\ ∃w2,R w2/\w'=(w2.drew.setCell ⟨b,off,N2⟩ (.int .u32 1)).setCell ⟨b,off+1,N2⟩ (.int .i32 0):=by
 have hl:=QE (P:=Tryz.prog) Tryz.func329 bIv bIv bIv .u32 bIv (w:=w.setCell ⟨b,off+1,N2⟩ (.int .i32 1)) (a:=⟨b,off,N2⟩) (x:=0) ((KR _ ⟨b,off+1,N2⟩ ⟨b,off,N2⟩ _ siT).trans h0);have Qr:∀(x:Bool) (w:BL),(Op.unary .not (.bool x)).run Tryz.prog w=.ok (.bool (!x)) w:=fun _ _=>rfl;have e330:∀args w,(callFunc 330 args).run Tryz.prog w=.ok (.enter 330 args) w:=enters_of Tryz.func330 bIv rfl;subst re
 go_enter_defers Tryz.func306,Tryz.ntmps306
 go_wp2_with (go_at_fn 330;refine (aPl ⟨b,off+1,N2⟩ _ (by go_simp) (by go_simp)).mono ?_;rintro e w' ⟨rfl,rfl⟩)
 go_wp2
 refine hf.mono ?_;rintro e w' ⟨⟨x,rfl⟩,tv⟩;obtain⟨⟨x0,jr⟩,z0,lz,z1⟩:=hR w' tv
 go_wp2
 all_goals try go_end0
 all_goals try go_wp2
 refine leaves_cons (f:=332) (args := #[.pointer (QQ ⟨b,off,N2⟩),.bool QS]) siT (by simp[go_sem]) ?_;refine (aHx ⟨b,off,N2⟩ x0 .returning _ jr z0).mono ?_;rintro e u' w'' ⟨rfl,rfl,rfl⟩;refine leaves_cons (f:=331) (args := #[.pointer (QQ ⟨b,off+1,N2⟩)]) (by simp[settle]) (by simp[go_sem]) ?_;refine (aGg ⟨b,off+1,N2⟩ _ _ ?_ (by simp[z1])).mono ?_
 ·refine (KR _ ⟨b,off,N2⟩ ⟨b,off+1,N2⟩ _ siT).trans ?_;rw[World.cell?_drew];exact lz
 rintro e u' w'' ⟨rfl,rfl,rfl⟩;simp[Leaves,settle,results,Tryz.results306];exact⟨w',tv,rfl⟩
end Go.Proofs.Sa
end
section
namespace Go.AM
open Go
def aWZ(off:Nat)(k:DK)(m:Int):ag:=.seq (.region QT [⟨QQ 1,.fld 0 1 QT (.tmp 0),N2,[]⟩,⟨QQ 1,.fa off (.tmp 1),N2,[]⟩,⟨QQ 1,.load 1 QT (.tmp 1),N2,[]⟩,⟨QQ 1,.bin .eql .no (.tmp 1) (.const (.int k m)),N2,[]⟩]) (.cond (.tmp 1) .skip .bad)
def aX0(off:Nat)(k:DK)(m:Int):ag:=.region QT [⟨QQ 1,.fld 0 1 QT (.tmp 0),N2,[]⟩,⟨QQ 1,.fa off (.tmp 1),N2,[]⟩,⟨N2,.store 1 (.tmp 1) (.const (.int k m)),N2,[]⟩]
def aTS:ag:=.region QT [⟨QQ 1,.fld 1 1 QT (.tmp 0),N2,[]⟩,⟨QQ 1,.dm (.tmp 1) [],N2,[]⟩]
def aRp:ag:=.seq (aWZ 0 .u32 0)<|.seq (aWZ 1 .i32 0)<|.seq (aX0 1 .i32 1)<|.seq aTS<|.seq (aWZ 1 .i32 1)<|.seq (aX0 0 .u32 1) (aX0 1 .i32 0)
def nI:bw:=⟨2,[],[],.seq (.region QT [⟨QQ 0,.cz (.tmp 0),N2,[]⟩,⟨QQ 1,.cz (.tmp 1),N2,[]⟩,⟨QQ 0,.build [.undef,.undef] [(0,1,.tmp 0),(1,1,.tmp 1)],N2,[]⟩]) aRp⟩
section
variable {P:CU}{ab:cu}{A:af}{g:G}{H:LO}{w:BL}
def aTT(fid:Nat)(vf vc:List BE):Oper:=⟨N2,.call { callee:=.value (.const (.func (.func fid) vf.toArray vc.toArray)),args := #[],argTypes := #[] },0,"",#[],N2⟩
theorem aLK{fid:Nat}{first ay:LA}{vf vc:List BE}(yo:fU g first vf)(hlc:fU g ay vc){call:Nat->LA->LO->Out}(az:oT P ab call){site:Option Nat} {av:AV} {H':LO} {wr:List Nat} (h:cX call H site (.fn fid first ay) []=QQ (av,H',wr)) (hw:WF g H w) (hg:bM P ab g):(∀w,(callFunc fid (vf++vc).toArray).run P w=.ok (.enter fid (vf++vc).toArray) w) /\ FV P fid (vf++vc).toArray w fun e w'=>(∃x,e=.returned x)/\∃g',Step g H w g' H' w' wr:=by
 have hF:∃Fn,P.funcs[fid]? = QQ Fn/\(Fn.name == "runtime.NumGoroutine")=QT/\Fn.body.isNone=false:=by
  have h:=h;simp only[cX]at h;split at h
  ·cases h
  rename_i args' lent vn;split at h
  ·cases h
  rename_i v H2 en hc;have hargs:fU g (first++[]++ay) (vf++[]++vc):=(yo.append ⟨rfl,fun i a x h=>by simp at h⟩).append hlc;obtain⟨l1,l2⟩:=pU hw vn hargs;obtain⟨g1,jj,l6⟩:=iR lent g H hw fun o ho=>.inl (l1 o ho);exact (az.1 fid _ _ v H2 en hc g1 w _ jj.wf (hg.mono jj.le) (l2 g1 l6).strip).1
 obtain⟨Fn,Qd,jq,gh⟩:=hF;have hn:¬(Fn.name = "runtime.NumGoroutine"):=by grind
 have hb:¬(Fn.body=N2):=fun e=>by grind
 refine⟨fun w=>by simp[callFunc,Qd,hn,hb], ?_⟩;have cl:(execOp (QK { tmps := #[],defers:=[] }) (aTT fid vf vc)).run P w=.ok (.enter fid (vf++vc).toArray) w:=by simp[aTT,execOp,resolve,QK,Deferred.ofValue,invoke,callFunc,Qd,hn,hb]
 have hd:=aDV (o:=aTT fid vf vc) (a:={ tmps := #[],defers:=[] })
  (vx:=[]) yo ⟨rfl,fun i a x h=>by simp at h⟩ hlc az h hw hg fun Fn' _ _ _=>by grind
 rcases hd with⟨v,w',hr,_⟩ | ⟨w',hr,_⟩ | ⟨f,args,w1,hr,hR⟩ | ⟨l,f,t,b,c,w1,hr,_⟩
 ·grind
 ·grind
 ·rw[cl]at hr;cases hr;refine hR.mono fun e w' he=>?_;grind
 grind
def faV(off:Nat):AV->Option AV
 |.ptr o v off0=>QQ (.ptr o v (off0+off))
 |.vp o v n k i off0=>QQ (.vp o v n k i (off0+off))
 |.ep row off0=>QQ (.ep row (off0+off))
 |_=>N2
theorem bCa{a a':AV}(h:faV 0 a=QQ a'):a'=a:=by cases a<;>first | (simp only[faV,AG,DU]at h;exact h.symm) | cases h
theorem aPn{off b o2:Nat}{a a':AV}(h:faV off a=QQ a')(hv:ai g a (.pointer (QQ ⟨b,o2,N2⟩))):ai g a' (.pointer (QQ ⟨b,o2+off,N2⟩)):=by
 cases hv with
 |ptr o v off0 l ad hl hv hh=>simp only[faV,AG]at h;subst h;exact .ptr o v _ l _ hl hv fun e1 e2=>by grind
 |vp o v n k i off0 l ad hl hv hn hh=>simp only[faV,AG]at h;subst h;exact .vp o v n k i _ l _ hl hv hn fun e1 e2=>by grind
 |ep row off0 b' base bd hp hh=>simp only[faV,AG]at h;subst h;have:=ai.ep row (off0+off) b base bd hp hh;grind
 |undef=>cases h
theorem aKp{b:Nat}{d:Option Nat}:(⟨b,[]⟩:Ctx).site d=none:=by cases d<;>simp[Ctx.site]
theorem opR{call:Nat->LA->LO->Out}{b:Nat}{o:ae}{r:List ae}{s s':gp}(xg:o.guard=N2)(hW:isW N2 QT o.op=QT) (h:jL call ⟨b,[]⟩ (o::r) s=QQ s'):∃v,evR s.H s.ρ o.op=QQ v/\jL call ⟨b,[]⟩ r ⟨bg s.ρ o.dst v,s.H,s.wr⟩=QQ s':=by
 simp only[jL,pF,wanted,xg,Zv,aOI,aKp,hW,BX,Zu]at h;split at h
 ·rename_i v H' wr h1;split at h1
  ·rename_i v2 h2;cases h1;exact⟨_,h2,h⟩
  cases h1
 cases h
theorem opW{call:Nat->LA->LO->Out}{b:Nat}{o:ae}{r:List ae}{s s':gp}(xg:o.guard=N2)(hW:isW N2 QT o.op=QS) (h:jL call ⟨b,[]⟩ (o::r) s=QQ s'):∃v H' l,evW call s.H s.ρ N2 o.op=QQ (v,H',l)/\jL call ⟨b,[]⟩ r ⟨bg s.ρ o.dst v,H',bE b s.wr l⟩=QQ s':=by simp only[jL,pF,wanted,xg,Zv,aOI,aKp,hW]at h;grind
theorem aAj{n:Nat}{c:Ctx}{x y:ag}{s:gp}{e s'}(hx:∀m e s1,cY A m c x s=QQ (e,s1)->e=.normal)(h:cY A n c (.seq x y) s=QQ (e,s')):∃m s1,m<n/\cY A m c x s=QQ (.normal,s1)/\cY A m c y s1=QQ (e,s'):=by
 cases n with
 |zero=>rw[gT]at h;cases h
 |succ m=>rw[iD]at h;grind
theorem aE8{n:Nat}{c:Ctx}{ops:List ae}{s:gp}{e s'}(h:cY A n c (.region QT ops) s=QQ (e,s')):e=.normal/\∃m,m<n/\jL (dD A m) c ops s=QQ s':=by
 cases n with
 |zero=>rw[gT]at h;cases h
 |succ m=>rw[iS]at h;simp only[iO,BQ,BX,Zu]at h;grind
theorem aTU{x:AV}{k:DK}{m:Int}(h:kJ .eql .no x (.int k m)=QQ (.bool QS)):x=.int k m:=by
 cases x with
 |int k' m'=>grind [kJ]
 |_=>change N2=QQ _ at h;cases h
theorem aE9{n b off:Nat}{k:DK}{m:Int}{p f y:AV}{H:LO}{wr:List Nat}{e s'}(h:cY A n ⟨b,[]⟩ (aWZ off k m) ⟨[.agg [p,f],y],H,wr⟩=QQ (e,s')):e=.normal/\∃p' z,faV off p=QQ p'/\bC H 1 p'=QQ [.int k m]/\s'=⟨[.agg [p,f],z],H,wr⟩:=by
 obtain⟨n1,s1,_,h1,h2⟩:=aAj (fun m e s1 h=>(aE8 h).1) h;obtain⟨_,n2,_,h1⟩:=aE8 h1;obtain⟨v1,e1,h1⟩:=opR rfl rfl h1;obtain⟨v2,e2,h1⟩:=opR rfl rfl h1;obtain⟨v3,e3,h1⟩:=opR rfl rfl h1;obtain⟨v4,e4,h1⟩:=opR rfl rfl h1;simp only[jL,AG]at h1;subst h1;simp[evR,aa.ev,eD]at e1;subst e1;simp only[evR,bg,aa.ev,GL,GM,CT,BG,EN]at e2 e3 e4;have e2':faV off p=QQ v2:=by cases p<;>simp_all [faV]
 cases n1 with
 |zero=>grind
 |succ n1=>
  rw[iT]at h2;simp only[bg,aa.ev,GL,GM,CT,BG,EN]at h2;split at h2
  ·cases n1 with
   |zero=>rw[gT]at h2;cases h2
   |succ n1=>
    rw[xB]at h2;cases h2;refine⟨rfl,v2,.bool QS,e2', ?_,rfl⟩;split at e3
    ·rename_i cs hr;have hc:cs=[v3]:=by
      simp only[eD,BX,Zu]at e3;grind
     subst hc;rw[hr,aTU e4]
    cases e3
  ·cases n1 with
   |zero=>rw[gT]at h2;cases h2
   |succ n1=>rw[qG]at h2;cases h2
  cases h2
theorem aPo{call:Nat->LA->LO->Out}{H H':LO}{ρ:LA}{x:aa}{k:DK}{m:Int}{a:AV}{l:List Nat}(h:evW call H ρ N2 (.store 1 x (.const (.int k m)))=QQ (a,H',l)):storeCells H [.int k m] (x.ev ρ)=QQ (H',l):=by have e:evW call H ρ N2 (.store 1 x (.const (.int k m)))=(match storeCells H [.int k m] (x.ev ρ)with | some (H',wr)=>QQ (.undef,H',wr) | none=>N2):=rfl;grind
theorem aKq{H:LO}{ρ:LA}{x:aa}{v:AV}(h:evR H ρ (.cz x)=QQ v):v=x.ev ρ/\v.cells=[v]/\v≠.undef/\∀o w,v≠.yld o w:=by simp only[evR]at h;split at h<;>first | (cases h;rename_i e;exact⟨e.symm,rfl,siT,siT⟩) | cases h
theorem aPp{H:LO}{ρ:LA}{p f v:AV}(hp:ρ[0]? = QQ p)(hf:ρ[1]? = QQ f)(cp:p.cells=[p])(cf:f.cells=[f]) (h:evR H ρ (.build [.undef,.undef] [(0,1,.tmp 0),(1,1,.tmp 1)])=QQ v):v=.agg [p,f]:=by simp only[evR,iA,aa.ev,hp,hf,EN,cp,cf]at h;grind [nV]
theorem aGh{n b off:Nat}{k:DK}{m:Int}{p f y:AV}{H:LO}{wr:List Nat}{e s'}(h:cY A n ⟨b,[]⟩ (aX0 off k m) ⟨[.agg [p,f],y],H,wr⟩=QQ (e,s')):e=.normal/\∃p' z H' l,faV off p=QQ p'/\storeCells H [.int k m] p'=QQ (H',l)/\s'=⟨[.agg [p,f],z],H',bE b wr l⟩:=by
 obtain⟨he,n2,_,h1⟩:=aE8 h;obtain⟨v1,e1,h1⟩:=opR rfl rfl h1;obtain⟨v2,e2,h1⟩:=opR rfl rfl h1;obtain⟨v3,H3,l,e3,h1⟩:=opW rfl rfl h1;simp only[jL,AG]at h1;subst h1;simp[evR,aa.ev,eD]at e1;subst e1;have e3:=aPo e3;simp only[evR,bg,aa.ev,GL,GM,CT,BG,EN]at e2 e3;have e2':faV off p=QQ v2:=by cases p<;>simp_all [faV]
 exact⟨he,v2,v2,H3,l,e2',e3,rfl⟩
theorem aMU{n b:Nat}{p f y:AV}{H:LO}{wr:List Nat}{e s'}(h:cY A n ⟨b,[]⟩ aTS ⟨[.agg [p,f],y],H,wr⟩=QQ (e,s')):e=.normal/\∃m z H' l,m<n/\cX (dD A m) H N2 f []=QQ (z,H',l)/\s'=⟨[.agg [p,f],z],H',bE b wr l⟩:=by obtain⟨he,n2,hn,h1⟩:=aE8 h;obtain⟨v1,e1,h1⟩:=opR rfl rfl h1;obtain⟨v3,H3,l,e3,h1⟩:=opW rfl rfl h1;simp only[jL,AG]at h1;subst h1;simp[evR,aa.ev,eD]at e1;subst e1;simp only[evW,bg,aa.ev,GL,GM,CT,BG,EN,BY]at e3;exact⟨he,n2,v3,H3,l,hn,e3,rfl⟩
theorem aRq{n:Nat}{args:LA}{H:LO}{r:AV×LO×List Nat}(hp:A.bq 306=N2)(hf:A.fn 306=QQ nI)(h:dD A n 306 args H=QQ r):∃p f q0 q1 m z H1 H2 H3 H4 l1 l2 l3 l4,args=[p,f]/\(∀o v,f≠.yld o v)/\m<n/\faV 0 p=QQ q0/\faV 1 p=QQ q1/\bC H 1 q0=QQ [.int .u32 0]/\bC H 1 q1=QQ [.int .i32 0] /\ storeCells H [.int .i32 1] q1=QQ (H1,l1)/\cX (dD A m) H1 N2 f []=QQ (z,H2,l2)/\bC H2 1 q1=QQ [.int .i32 1] /\ storeCells H2 [.int .u32 1] q0=QQ (H3,l3)/\storeCells H3 [.int .i32 0] q1=QQ (H4,l4) /\ r=cJ H.length (.tup [],H4,bE H.length (bE H.length (bE H.length (bE H.length [] l1) l2) l3) l4):=by
 rcases sS h with⟨p,v1,xn,_⟩ | ⟨fn,s',e,r',xb,he,Ra,zk,hr,hN⟩ | ⟨xb,_⟩
 rotate_left 2
 ·grind
 ·grind
 rw[hf]at xb;cases xb;obtain⟨n1,s1,lx,h1,he⟩:=aAj (fun m e s1 h=>(aE8 h).1) he;obtain⟨_,_,_,h1⟩:=aE8 h1;obtain⟨u1,d1,h1⟩:=opR rfl rfl h1;obtain⟨u2,d2,h1⟩:=opR rfl rfl h1;obtain⟨v1,e1,h1⟩:=opR rfl rfl h1;simp only[jL,AG]at h1;subst h1;obtain⟨d1,c1,u1',_⟩:=aKq d1;obtain⟨d2,c2,u2',y2⟩:=aKq d2
 match args,d1,d2,e1,hN with
 | [],d1,_,e1,_=>exact Zw (by simpa [nF,nI,aa.ev]using d1) u1'
 | [p],d1,d2,e1,_=>grind [nF,nI,aa.ev,bg]
 |p::f::x::r,d1,d2,e1,hN=>simp[nI]at hN
 | [p,f],d1,d2,e1,hN=>
  simp[nF,nI,aa.ev,bg]at d1 d2;subst d1;subst d2;have qy:v1=.agg [u1,u2]:=aPp (by simp[nF,nI,bg]) (by simp[nF,nI,bg]) c1 c2 e1;subst qy;have he:cY A n1 ⟨H.length,[]⟩ aRp ⟨[.agg [u1,u2],u2],H,[]⟩=QQ (e,s'):=by simpa [nF,bg,nI]using he
  unfold aRp at he;obtain⟨n3,s3,Ck,h3,he⟩:=aAj (fun m e s1 h=>(aE9 h).1) he;obtain⟨_,q0,z0,a1,a2,rfl⟩:=aE9 h3;obtain⟨n4,s4,Ob,h4,he⟩:=aAj (fun m e s1 h=>(aE9 h).1) he;obtain⟨_,q1,z1,b1,b2,rfl⟩:=aE9 h4;obtain⟨n5,s5,Oc,h5,he⟩:=aAj (fun m e s1 h=>(aGh h).1) he;obtain⟨_,q1',z2,H1,l1,c1,c2,rfl⟩:=aGh h5;obtain⟨n6,s6,Od,h6,he⟩:=aAj (fun m e s1 h=>(aMU h).1) he;obtain⟨_,m,z3,H2,l2,hm,d1,rfl⟩:=aMU h6;obtain⟨n7,s7,Oe,h7,he⟩:=aAj (fun m e s1 h=>(aE9 h).1) he;obtain⟨_,q2,z4,f1,f2,rfl⟩:=aE9 h7;obtain⟨n8,s8,Of,h8,he⟩:=aAj (fun m e s1 h=>(aGh h).1) he;obtain⟨_,q3,z5,H3,l3,g1,g2,rfl⟩:=aGh h8;obtain⟨_,q4,z6,H4,l4,i1,i2,rfl⟩:=aGh he;rw[b1]at c1 f1 i1;rw[a1]at g1;cases c1;cases f1;cases i1;cases g1;refine⟨u1,u2,q0,q1,m,z3,H1,H2,H3,H4,l1,l2,l3,l4,rfl,y2,omT,a1,b1,a2,b2,c2,d1,f2,g2,i2, ?_⟩;grind [aA4,aIS,aBv,nI,bE]
end
end Go.AM
namespace Go.Proofs.Sa
open Go Go.AM Go.Proofs Go.RowKit Go.Lib
theorem yu{ab:cu}{A:af}(hp:A.bq 306=N2)(hf:A.fn 306=QQ nI):aWY Tryz.prog ab A 306:=by
 intro n hm f' args H av H' wr hh g w xs hw hg hx;dsimp only at hh;split at hh;rotate_left
 ·cases hh
 rename_i e;subst e;refine⟨⟨Tryz.f306,Tryz.func306,bIv,bIv⟩, ?_⟩;obtain⟨p,f,q0,q1,m,z,H1,H2,H3,H4,l1,l2,l3,l4,rfl,Ky,Kz,a0,a1,r0,r1,s1,d1,r2,s3,s4,hr⟩:=aRq hp hf hh;obtain⟨x,y,rfl,hv,hy⟩:=nH hx;have jr:∃b off,x=.pointer (QQ ⟨b,off,N2⟩):=by grind [bCa,eI]
 obtain⟨b,off,rfl⟩:=jr;have v0:=aPn a0 hv;have v1:=aPn a1 hv;obtain⟨b0,o0,vs0,e0,k0,t0,c0⟩:=eI hw r0 v0;cases e0;obtain⟨b1,o1,vs1,e1,k1,t1,c1⟩:=eI hw r1 v1;cases e1;have jg:w.cell? ⟨b,off,N2⟩=QQ (.int .u32 0):=by
  obtain⟨hl,hr⟩:=t0
  match vs0,hl with
  | [y0],_=>have:=hr 0 _ _ rfl rfl;cases this;exact c0 0 _ rfl
 have mj:w.cell? ⟨b,off+1,N2⟩=QQ (.int .i32 0):=by
  obtain⟨hl,hr⟩:=t1
  match vs1,hl with
  | [y0],_=>have:=hr 0 _ _ rfl rfl;cases this;exact c1 0 _ rfl
 have one:∀{g:G} (k:DK) (n:Int),fU g [.int k n] [.int k n]:=fun k n=>⟨rfl,fun i a x e1 e2=>by
  match i with
  |0=>simp at e1 e2;subst e1;subst e2;exact .int k n
  |i+1=>simp at e1⟩
 obtain⟨b2,o2,e2,i2,f2,st1⟩:=fF hw s1 v1 (one .i32 1);cases e2;have rr:=f2 0 siT;cases f with
 |fn fid first ay=>
  obtain⟨vf,vc,ey,yo,hlc⟩:=hy.rm;subst ey;have az:=hm m Kz;obtain⟨iv,kr⟩:=aLK (P:=Tryz.prog) (yo.mono st1.le) (hlc.mono st1.le) az d1 st1.wf (hg.mono st1.le);refine (aPm b off fid vf vc _ w (fun w'=>∃g',Step g H1 (w.setCells b (off+1) [.int .i32 1]) g' H2 w' l2) iv siT jg mj rr ?_ ?_).mono ?_
  ·simpa [IZ]using kr
  ·rintro w' ⟨g',st2⟩;have hle:=st1.le.trans st2.le;obtain⟨b3,o3,e3,i3,f3,st3⟩:=fF st2.wf s3 (v0.mono hle) (one .u32 1);cases e3;obtain⟨b4,o4,e4,i4,f4,st4⟩:=fF st3.wf s4 (v1.mono hle) (one .i32 0);cases e4;obtain⟨b5,o5,vs5,e5,k5,t5,c5⟩:=eI st2.wf r2 (v1.mono hle);cases e5;refine⟨?_,f3 0 siT, ?_, ?_⟩
   ·have:=i3 0 siT;exact Option.isSome_iff_exists.1 this
   ·obtain⟨hl,hr⟩:=t5
    match vs5,hl with
    | [y0],_=>have:=hr 0 _ _ rfl rfl;cases this;exact c5 0 _ rfl
   have:=f4 0 siT;simpa [IZ]using this
  rintro e w' ⟨rfl,w2,⟨g',st2⟩,rfl⟩;have st2':=st2.trans (Step.of_heap (w':=w2.drew) st2.wf rfl);have hle:=st1.le.trans st2'.le;obtain⟨b3,o3,e3,i3,f3,st3⟩:=fF st2'.wf s3 (v0.mono hle) (one .u32 1);cases e3;obtain⟨b4,o4,e4,i4,f4,st4⟩:=fF st3.wf s4 (v1.mono hle) (one .i32 0);cases e4;have da:=((st1.trans st2').trans st3).trans st4;have B0:=Step.narrow (wr:=bE H.length (bE H.length (bE H.length (bE H.length [] l1) l2) l3) l4) hw.lt da (fun o ho hb=>by
   simp only[AJ,List.mem_append]at ho;rcases ho with ((ho | ho) | ho) | ho
   ·exact (cE _ _ _).1 o ((cE _ _ _).1 o ((cE _ _ _).1 o ((cE _ _ _).2 o ho hb)))
   ·exact (cE _ _ _).1 o ((cE _ _ _).1 o ((cE _ _ _).2 o ho hb))
   all_goals simp_all [cE])
  simp only[IZ]at B0;simp only[cJ]at hr;split at hr
  ·rename_i zl;simp only[AI]at zl;cases hr;refine⟨g'.cut H.length,Step.cut hw B0 fun o ho x hx=>?_,ai.skip _⟩;grind
  cases hr;exact⟨g',B0,ai.skip _⟩
 |yld o v=>grind
 |_=>simp[cX]at d1
end Go.Proofs.Sa
end
section
namespace Go.Proofs
open Go.Shelf Go.RowKit Go.Sort Go.Lib
variable {P:CU}{ρ:Ren}
theorem vM{ops:Array Oper}{rest:List Oper}{o:Oper}{a:Act}{w:BL}{Q:Exit->Act->BL->Prop}(xg:o.guard=N2)(sl x:Operand)(t u:BP) (ho:o.op=.call { callee:=.builtin .append,args := #[sl,x],argTypes := #[t,u] }) (v xv v':BE) (w':BL) (hs:a.eval sl=v) (hx:a.eval x=xv) (hr:(DA #[t,u] o.type #[v,xv]).run P w=.ok v' w') (h:wpList P ops Q rest (a.put o.dst v') w'):wpList P ops Q (o::rest) a w:=by refine wpList_plain xg fun K hK=>?_;unfold Oper.wp execOp;simp only[ho,resolve,invoke,builtin,Sem.run_bind,Sem.run_pure,BJ,List.map_toArray,BI,BY,hs,hx,hr];exact hK _ _ h
theorem aNV(L:LaysM.n288 P ρ)(u:Nat)(hu:u<100)(sv v':BE)(w w1:BL)(cl:∀ty,(DA #[ρ.t 37,ρ.t 9] ty #[sv,.string ⟨(DT u).toArray⟩]).run P w=.ok v' w1):FV P (ρ.f 288) #[sv,.int .u64 u,.int .i64 10] w fun e w'=>e=.returned v'/\w'=w1:=by
 have mixed:=L.mixed;have t5:=L.t5;have a5:=L.a5;have z5:=L.z5;have v5:=L.v5;have t37:=L.t37;have u37:=BH L.t37;have a37:=L.a37;have z37:=L.z37;have v37:=L.v37;have t53:=L.t53;have a53:=L.a53;have z53:=L.z53;have v53:=L.v53;have t3:=L.t3;have a3:=L.a3;have z3:=L.z3;have v3:=L.v3;have t4:=L.t4;have a4:=L.a4;have z4:=L.z4;have v4:=L.v4;have t9:=L.t9;have a9:=L.a9;have z9:=L.z9;have v9:=L.v9;have t171:=L.t171;have a171:=L.a171;have z171:=L.z171;have v171:=L.v171;have t0:=L.t0;have a0:=L.a0;have z0:=L.z0;have v0:=L.v0;have t173:=L.t173;have a173:=L.a173;have z173:=L.z173;have v173:=L.v173;have e283:∀args w,(callFunc (ρ.f 283) args).run P w=.ok (.enter (ρ.f 283) args) w:=enters_of L.f283 (by kernel_rfl) rfl
 go_enter L.f288,Body.n288_ntmps ρ
 go_wp2_with (first
  | (go_at_fn (ρ.f 283);refine (Any.internal_strconv_small { L with } u hu _).mono ?_;rintro e w' ⟨rfl,rfl⟩)
  | (at_builtin;refine vM rfl _ _ (ρ.t 37) (ρ.t 9) rfl _ _ _ _ rfl rfl (cl _) ?_))
 go_wp2
 go_ret
 exact⟨rfl,rfl⟩
theorem aRr(L:LaysM.n288 P ρ)(u:Nat)(hu:100<=u)(P9:u<18446744073709551616)(sv:BE)(w:BL)(cx:OL P w "internal/strconv.uint64pow10" .u64 EB) (Q:BE->BL->Prop) (db:∀w2:BL,w.heap.size<=w2.heap.size->(∀b,b<w.heap.size->w2.heap[b]? = w.heap[b]?)->w2.os=w.os/\w2.output=w.output ->(∀j u',(HZ (DT u))[j]? = QQ u'->w2.cell? ⟨w.heap.size,j,N2⟩=QQ u') ->∃v' w',(∀ty,(DA #[ρ.t 37,ρ.t 37] ty #[sv,.slice (QQ ⟨w.heap.size,0,N2⟩) (GO u) 24]).run P w2=.ok v' w')/\Q v' w'):FV P (ρ.f 288) #[sv,.int .u64 u,.int .i64 10] w fun e w'=>∃v',e=.returned v'/\Q v' w':=by
 have mixed:=L.mixed;have t5:=L.t5;have a5:=L.a5;have z5:=L.z5;have v5:=L.v5;have t37:=L.t37;have u37:=BH L.t37;have a37:=L.a37;have z37:=L.z37;have v37:=L.v37;have t53:=L.t53;have a53:=L.a53;have z53:=L.z53;have v53:=L.v53;have t3:=L.t3;have a3:=L.a3;have z3:=L.z3;have v3:=L.v3;have t4:=L.t4;have a4:=L.a4;have z4:=L.z4;have v4:=L.v4;have t9:=L.t9;have a9:=L.a9;have z9:=L.z9;have v9:=L.v9;have t171:=L.t171;have a171:=L.a171;have z171:=L.z171;have v171:=L.v171;have t0:=L.t0;have a0:=L.a0;have z0:=L.z0;have v0:=L.v0;have t173:=L.t173;have a173:=L.a173;have z173:=L.z173;have v173:=L.v173;have e284:∀args w,(callFunc (ρ.f 284) args).run P w=.ok (.enter (ρ.f 284) args) w:=enters_of L.f284 (by kernel_rfl) rfl;have e285:∀args w,(callFunc (ρ.f 285) args).run P w=.ok (.enter (ρ.f 285) args) w:=enters_of L.f285 (by kernel_rfl) rfl;have yi:1<=u:=by omega
 have Ie:GO u<=20:=by have:=Lib.numDigits_eq u yi P9;split at this<;>omega
 have j8:P.arrayLen (ρ.t 171)=24:=by simp[MV,L.t171]
 have G6:∀W,(Instr.sliceAt (ρ.t 171) (.pointer (QQ ⟨w.heap.size,0,N2⟩)) N2 (QQ (.int .i64 (GO u:Int))) N2).run P W=.ok (.slice (QQ ⟨w.heap.size,0,N2⟩) (GO u) 24) W:=fun W=>by
  rw[run_sliceAt_array_h W (ρ.t 171) ⟨w.heap.size,0,N2⟩ (by simp[MV,Program.elem,L.t171]) .i64 (GO u:Int) (by omega) (by rw[j8];omega)]
  go_simp
 have Cq:=Lib.holds_zero0 w (ρ.t 171) (GO u) (by omega);have Q0:=Any.internal_strconv_formatBase10 { L with } w.heap.size 0 24 u (Array.replicate (GO u) 0) (w.alloc (.cells GP (ρ.t 171))) Cq (by rw[HG];exact Lib.lt_pow_nDigits u) P9 (by rw[HG];omega);rw[HG]at Q0;have HH0:=Lib.hid Cq;have iu:(100:Int)<=(u:Int):=by omega
 clear Cq j8
 go_enter L.f288,Body.n288_ntmps ρ
 go_wp2_with (first
  | (go_at_fn (ρ.f 284);refine (Any.internal_strconv_numDigits { L with } u yi P9 _ (Lib.tabIs_alloc cx _)).mono ?_;rintro e w' ⟨rfl,rfl⟩))
 go_at_fn (ρ.f 285)
 refine Q0.mono ?_;rintro e w' ⟨rfl,k,v',dk,rfl,hF⟩;have jy:∀j u',(HZ (DT u))[j]? = QQ u'->((putRow (fun(b:UInt8)=>EJ .u8 (b.toNat:Int)) (w.alloc (.cells GP (ρ.t 171))) w.heap.size 0 dk).drewN k).cell? ⟨w.heap.size,j,N2⟩=QQ u':=by
  intro j u' hj;have mo:j<(DT u).length:=by
   have h5:=(List.getElem?_eq_some_iff.1 hj).1
   rwa [Lib.byteCells_length]at h5
  have e5:(HZ (DT u))[j]? = QQ (EJ .u8 ((DT u)[j].toNat:Int)):=by simp[HZ,mo]
  rw[e5]at hj;cases hj;rw[Lib.row_is_numeral hF j mo,World.cell?_drewN];have:=cell?_putRow (fun(b:UInt8)=>EJ .u8 (b.toNat:Int)) _ w.heap.size 0 _ dk HH0.out (by rw[hF.size,HG]) j (by rw[hF.size];rw[MW]at mo;exact mo)
  rwa [BC]at this
 obtain⟨os,eo⟩:=Lib.fin_at w (.cells GP (ρ.t 171)) dk k 0;have Q1:w.heap.size<=((putRow (fun(b:UInt8)=>EJ .u8 (b.toNat:Int)) (w.alloc (.cells GP (ρ.t 171))) w.heap.size 0 dk).drewN k).heap.size:=by rw[eo];exact Lib.size_grow w k os
 have da:∀b,b<w.heap.size->((putRow (fun(b:UInt8)=>EJ .u8 (b.toNat:Int)) (w.alloc (.cells GP (ρ.t 171))) w.heap.size 0 dk).drewN k).heap[b]? = w.heap[b]? := fun b hb=>by rw[eo];exact Lib.heap_grow_old w k os b hb
 have kh:((putRow (fun(b:UInt8)=>EJ .u8 (b.toNat:Int)) (w.alloc (.cells GP (ρ.t 171))) w.heap.size 0 dk).drewN k).os=w.os/\((putRow (fun(b:UInt8)=>EJ .u8 (b.toNat:Int)) (w.alloc (.cells GP (ρ.t 171))) w.heap.size 0 dk).drewN k).output=w.output:=by rw[eo];exact⟨rfl,rfl⟩
 generalize (putRow (fun(b:UInt8)=>EJ .u8 (b.toNat:Int)) (w.alloc (.cells GP (ρ.t 171))) w.heap.size 0 dk).drewN k=W2 at jy Q1 da kh ⊢;clear eo HH0 Q0;obtain⟨v2,w3,hr,hQ⟩:=db W2 Q1 da kh jy
 go_wp2_with (at_builtin;refine vM rfl _ _ (ρ.t 37) (ρ.t 37) rfl _ _ _ _ rfl rfl (hr _) ?_)
 go_wp2
 go_ret
 exact⟨v2,rfl,hQ⟩
end Go.Proofs
end
section
namespace Go.AM
open Go
def oN:aIP:=fun args H=>match args with
 | [.sr o v n,.int .u64 i,.int .i64 b]=>match H[o]? with
  |some (.vec v' 1 rows)=>if v'=v/\rows.length=n/\0<=i/\i<1000000/\n<=1000000000/\b=10/\dF 1 rows=QS then
    QQ (.sr o v (n+(nC 7 i.toNat).length),[(o,.vec v 1 (rows++aJ (nC 7 i.toNat)))],[])
   else N2
  |_=>N2
 | [.sl QS [],.int .u64 i,.int .i64 b]=>if 0<=i/\i<1000000/\b=10 then
   QQ (.own 1 (aJ (nC 7 i.toNat)),[],[])
  else N2
 |_=>N2
section
variable {P:CU}{ab:cu}{g:G}{H:LO}{w w':BL}
theorem aLL(hw:WF g H w){k:Nat}{rows:List LA}{b cap:Nat}(cm:rows.length<=cap)(cn:∀row∈rows,row.length=k)(dq:rows.all (fun r=>r.all AV.still)=QS) (dj:∀(i j:Nat) (row:LA) c,rows[i]? = QQ row->row[j]? = QQ c->∃y,w.cell? ⟨b,i*k+j,N2⟩=QQ y/\ai g c y) (Qm:∀j,g.perm b j=N2) (pd:∀o l x,au g H o l x->l.b≠b):∃g',Step g H w g' H w []/\ai g' (.sl QT rows) (.slice (QQ ⟨b,0,N2⟩) rows.length cap):=by
 have hle:g.le (g.bh b fun i=>w.cell? ⟨b,i,N2⟩):=by
  refine⟨fun b' i y hy=>?_,fun o l hl=>⟨l,hl,AQ _,fun _=>⟨AQ _,fun _=>rfl⟩⟩,fun _ _ hx=>hx,rfl,rfl⟩;by_cases e:b'=b
  all_goals simp_all [G.bh,Zu]
 have dx:∀o l x,au (g.bh b fun i=>w.cell? ⟨b,i,N2⟩) H o l x->au g H o l x:=fun o l x hb=>⟨hb.Pr,hb.alive,hb.loc,hb.st⟩;refine⟨g.bh b fun i=>w.cell? ⟨b,i,N2⟩,⟨hle,⟨fun b' i y hy=>?_,hw.lt,hw.blk,hw.st,fun o l x hb=>(hw.obj o l x (dx _ _ _ hb)).aq hle rfl,fun o l x hb j=>?_,fun o o' l l' x x' hb du=>hw.inj o o' l l' x x' (dx _ _ _ hb) (dx _ _ _ du),
   hw.whole.aq rfl rfl ⟨rfl,rfl⟩ (fun _ _ _=>rfl) fun o l y hl=>.inr ⟨o,l,y,dx _ _ _ hl,rfl⟩⟩,
  aDS.refl _ _ _,fun _ _ _=>rfl,AQ _,fun _ l' hl=>.inr ⟨l',hl,rfl⟩,fun _ _ _=>rfl⟩, ?_⟩
 ·by_cases e:b'=b
  ·subst e;simpa only[G.bh,Zv]using hy
  simp only[G.bh,e,Zu]at hy;exact hw.perm b' i y hy
 ·have bl:=pd o l x (dx _ _ _ hb);simp only[G.bh,bl,Zu];exact hw.jh o l x (dx _ _ _ hb) j
 refine .sl QT rows b 0 cap k cm siT cn (AO.1 dq) (fun i j hi hj=>?_) fun i j row c x h1 h2 h3=>?_
 ·have yg:=cn rows[i] (AS hi);obtain⟨y,hy,_⟩:=dj i j rows[i] (rows[i][j]'omT) (by simp[hi]) siT;simp only[G.bh,Zv,BC,hy];rfl
 obtain⟨y,hy,hr⟩:=dj i j row c h1 h2;simp only[G.bh,Zv,BC,hy,AG]at h3;subst h3;exact hr.mono hle
theorem aLM{t u ty:BP}{S X:Operand}{dst:Option Tmp}{pos:String}{after:Array Edge}{guard:Option (Nat×Bool)}{a:Act}{R:BE->BL->Prop} (h:aA8 P ⟨dst,.call { callee:=.builtin .append,args := #[S,X],argTypes := #[t,u] },ty,pos,after,guard⟩ a w R):∃v w',(DA #[t,u] ty #[a.eval S,a.eval X]).run P w=.ok v w'/\R v w':=by
 have mn:(execOp a.eval ⟨dst,.call { callee:=.builtin .append,args := #[S,X],argTypes := #[t,u] },ty,pos,after,guard⟩).run P w=((DA #[t,u] ty #[a.eval S,a.eval X]).run P w).andThen fun v w'=>.ok (.value v) w':=by simp[execOp,resolve,invoke,builtin]
 cases hr:(DA #[t,u] ty #[a.eval S,a.eval X]).run P w with
 |ok v w1=>
  rw[hr]at mn;simp only[BJ]at mn;rcases h with⟨v',w',e,hR⟩ | ⟨w',e,_⟩ | ⟨_,_,_,e,_⟩ | ⟨_,_,_,_,_,_,e,_⟩
  all_goals grind
 |_=>exfalso;rw[hr]at mn;simp only[DL]at mn;rcases h with⟨v',w',e,hR⟩ | ⟨w',e,_⟩ | ⟨_,_,_,e,_⟩ | ⟨_,_,_,_,_,_,e,_⟩<;>(grind)
theorem aIk{t u e:BP}{i:TypeInfo}{z:BE}{d:TypeDesc}(ht:P.underlying t=QQ (.slice e))(hu:P.underlying u=QQ d)(hd:∀k,d≠.int k)(hi:P.info? e=QQ i)(hz:i.zero=QQ z)(su:z.cells.size=i.size) {site:Option Nat} {s x av:AV} {sv xv:BE} {H':LO} {wr:List Nat} (h:eX H site i.size i.bytes s x=QQ (av,H',wr)) (hw:WF g H w) (hg:bM P ab g) (hs:ai g s sv) (hx:ai g x xv) (ty:BP):∃v w',(DA #[t,u] ty #[sv,xv]).run P w=.ok v w'/\∃g',Step g H w g' H' w' wr/\ai g' av v:=by
 have G6:aX g [s,x] #[sv,xv]:=by
  refine⟨rfl,fun t=>?_⟩
  match t with
  |0=>exact hs
  |1=>exact hx
  |t+2=>simpa using ai.undef _
 have:=aLM (aWB (P:=P) (ab:=ab) (w:=w) (ρ:=[s,x]) (a:={ tmps := #[sv,xv],defers:=[] }) (dst:=N2) (ty:=ty) (pos:= "") (after := #[]) (guard:=N2) (S:=.tmp 0) (X:=.tmp 1) (s:=.tmp 0) (x:=.tmp 1) (call:=fun _ _ _=>N2) (site:=site)
  ht hu hd hi hz rfl rfl su h hw hg G6)
 exact this
end
end Go.AM
namespace Go.Proofs.Sa
open Go Go.AM Go.Proofs Go.RowKit Go.Lib
theorem aIl{g:G}{a b c:AV}{xs:List BE}(h:fU g [a,b,c] xs):∃x y z,xs=[x,y,z]/\ai g a x/\ai g b y/\ai g c z:=by
 obtain⟨h1,h2⟩:=h
 match xs,h1 with
 | [x,y,z],_=>exact⟨x,y,z,rfl,h2 0 a x rfl rfl,h2 1 b y rfl rfl,h2 2 c z rfl rfl⟩
theorem aD7:∀(k n:Nat),(nC k n).length<=k
 |0,_=>AQ _
 |k+1,n=>by
  unfold nC;split
  ·simp
  simp;exact aD7 k _
theorem aTV(k n:Nat):nC (k+1) n≠[]:=by unfold nC;split<;>simp
theorem aGi(l:List UInt8):(aJ l).all (fun r=>r.all AV.still)=true:=by simp[aJ,List.all_map,AV.still]
theorem aPq{l:List UInt8}{r:LA}(h:r∈aJ l):r.length=1:=by simp only[aJ,List.mem_map]at h;grind
theorem aIm(l:List UInt8):dF 1 (aJ l)=true:=by cases l<;>rfl
theorem aKr{ab:cu}{tab:Nat}(G3:Tryz.prog.globalNamed "internal/strconv.uint64pow10" = QQ tab)(cn:ab.row tab=QQ (EB.map fun z=>AV.int .u64 z)) {g:G} {H H0 H':LO} {w:BL} {site:Option Nat} {s av:AV} {sv:BE} {wr:List Nat} (u:Nat) (hu:u<1000000) (hw:WF g H w) (hg:bM Tryz.prog ab g) (h0:Step g H w g H0 w []) (hs:ai g s sv) (h:eX H0 site 1 1 s (.sl QT (aJ (nC 7 u)))=QQ (av,H',wr)):FV Tryz.prog 342 #[sv,.int .u64 u,.int .i64 10] w fun e w'=>∃v',e=.returned v'/\∃g',Step g H w g' H' w' wr/\ai g' av v':=by
 have hd:nC 7 u=DT u:=aJ8 7 u omT omT;obtain⟨i0,hi,me,rr,l7⟩:=info_parts (show (Tryz.prog.info? 5).map (fun i=>(i.zero,i.size,i.bytes))=QQ (QQ (.int .u8 0),1,1)by kernel_rfl);have su:(EJ .u8 0).cells.size=i0.size:=by rw[rr];rfl
 by_cases Et:u<100
 ·
  have hx:ai g (.str (nC 7 u)) (.string ⟨(DT u).toArray⟩):=by rw[hd];exact .str ⟨(DT u).toArray⟩
  have h2:eX H0 site i0.size i0.bytes s (.str (nC 7 u))=QQ (av,H',wr):=by rw[rr,l7];exact h
  have hr:=fun ty=>aIk (t:=164) (u:=9) Tryz.underlying164 Tryz.underlying9 (by intro k;simp) hi me su h2 h0.wf hg hs hx ty;obtain⟨v,w1,cl,g',h3,h4⟩:=hr 0;have da:∀ty,(DA #[164,9] ty #[sv,.string ⟨(DT u).toArray⟩]).run Tryz.prog w=.ok v w1:=fun ty=>cl;refine (aNV (ρ:=Tryz.laysM288_ren) Tryz.laysM288 u Et sv v w w1 da).mono ?_;rintro e w' ⟨rfl,rfl⟩;exact⟨v,rfl,g',by simpa using h0.trans h3,h4⟩
 refine aRr (ρ:=Tryz.laysM288_ren) Tryz.laysM288 u omT omT sv w (aSR hw G3 cn hg) (fun v' w'=>∃g',Step g H w g' H' w' wr/\ai g' av v') fun w2 gd hold kh jy=>?_;have s1:Step g H w g H w2 []:=Step.nf hw gd hold kh;have s2:Step g H0 w g H0 w2 []:=Step.nf h0.wf gd hold kh;have ax:(aJ (nC 7 u)).length=GO u:=by rw[hd,aJ,AF,MW]
 obtain⟨g2,s3,hx⟩:=aLL (b:=w.heap.size) (k:=1) (cap:=24) (rows:=aJ (nC 7 u)) s2.wf (by rw[aJ,AF];have:=aD7 7 u;omega) (fun r hr=>aPq hr) (aGi _)
  (fun i j row c h1 h2=>by
   simp only[aJ,BN,EL]at h1;obtain⟨b,h1,rfl⟩:=h1
   match j,h2 with
   |0,h2=>
    simp at h2;subst h2;refine⟨.int .u8 b.toNat, ?_,.int _ _⟩;simp_all [FK,DU,HZ])
  (fun j=>by
   cases hp:g.perm w.heap.size j with
   |none=>rfl
   |some x=>exact Zw (hw.ko hp) omT)
  (fun o l x hb=>by have:=hw.blk o l hb.loc;omega)
 rw[ax]at hx;have h2:eX H0 site i0.size i0.bytes s (.sl QT (aJ (nC 7 u)))=QQ (av,H',wr):=by grind
 obtain⟨v,w3,cl,g',h3,h4⟩:=aIk (t:=164) (u:=164) Tryz.underlying164 Tryz.underlying164 (by intro k;simp) hi me su h2 s3.wf (hg.mono s3.le) (hs.mono s3.le) hx 0;exact⟨v,w3,fun ty=>cl,g',by simpa using ((h0.trans s2).trans s3).trans h3,h4⟩
theorem xx{ab:cu}{tab:Nat}(G3:Tryz.prog.globalNamed "internal/strconv.uint64pow10" = QQ tab)(cn:ab.row tab=QQ (EB.map fun z=>AV.int .u64 z)):gS Tryz.prog ab fun f' args H=>if f'=342 then (oN args H).map (cT H)else none:=by
 refine oC ⟨Tryz.f342,Tryz.func342,bIv,bIv⟩ fun args H v ws ns hp g w xs hw hg hx=>?_;have ne0:∀i:Nat,(aJ (nC 7 i)).isEmpty=false:=fun i=>by
  cases h:nC 7 i with
  |nil=>exact Zw h (aTV 6 i)
  |cons a l=>rfl
 have Q2:∀i:Nat,(aJ (nC 7 i)).length<=7:=fun i=>by rw[aJ,AF];exact aD7 7 i
 have ym:∀i:Nat,(aJ (nC 7 i)).length=(nC 7 i).length:=fun i=>AF ..;unfold oN at hp;split at hp
 ·rename_i o ve n i b;split at hp
  ·rename_i v' rows ho;split at hp
   ·rename_i hc;obtain⟨rfl,hn,U6,G7,Hz,rfl,Og⟩:=hc;simp only[AG,BK]at hp;obtain⟨rfl,rfl,rfl⟩:=hp;obtain⟨x,y,z,rfl,h1,h2,h3⟩:=aIl hx;cases h2;cases h3;obtain⟨u,rfl⟩:=DN U6;refine (aKr G3 cn (site:=N2) (s:=.sr o v' n) (av:=.sr o v' (n+(nC 7 u).length)) (H':=H.set o (.vec v' 1 (rows++aJ (nC 7 u)))) (wr:=[o]) u omT hw hg (.refl hw) h1 ?_).mono ?_
    ·simp only[eX,cG,dO,aIm,BT,BX,Zu,ho,ne0];rw[Zy ⟨trivial,hn,trivial,by simp only[bP,decide_eq_true_eq];grind⟩,ym]
    rintro e w' ⟨v,rfl,g',h4,h5⟩;exact⟨g',by simpa [eU]using h4,h5⟩
   cases hp
  cases hp
 ·rename_i i b;split at hp
  ·rename_i hc;obtain⟨U6,G7,rfl⟩:=hc;simp only[AG,BK]at hp;obtain⟨rfl,rfl,rfl⟩:=hp;obtain⟨x,y,z,rfl,h1,h2,h3⟩:=aIl hx;cases h2;cases h3;obtain⟨u,rfl⟩:=DN U6;have nn:bH (H++AX 1 (ah.gone 0)) H.length=1:=by simp[bH,ah.ver]
   have Cp:make (H++AX 1 (ah.gone 0)) H.length (.vec · 1 (aJ (nC 7 u)))=H++[.vec 1 1 (aJ (nC 7 u))]:=by simp[make,ah.ver]
   refine (aKr G3 cn (H0:=H++AX 1 (.gone 0)) (site:=QQ H.length) (s:=.sl QS []) (av:=.sr H.length 1 (nC 7 u).length) (H':=H++[.vec 1 1 (aJ (nC 7 u))]) (wr:=[H.length]) u omT hw hg (hw.more 1) h1 ?_).mono ?_
   ·simp only[eX,cG,dO,aIm,BT,BX,Zu,ne0];rw[Zy (by simp only[dF,BR,AZ,BC,bP,decide_eq_true_eq];grind)];grind
   rintro e w' ⟨v,rfl,g',h4,h5⟩;have ki:∀o l,H.length<=o->g'.obj o=QQ l->w.heap.size<=l.b:=fun o l ho hl=>by
    rcases h4.mc o l hl with h1 | ⟨l0,h0,_⟩
    ·exact h1
    have:=hw.lt o l0 h0;omega
   obtain⟨g2,k1,k2⟩:=aI7 (base:=H.length) (n0:=w.heap.size) ki h4.wf (v:=.sr H.length 1 (nC 7 u).length) (v':=.own 1 (aJ (nC 7 u))) (H':=H++[.gone 1]) (l:=[H.length]) (by
    have h1:(H++[ah.vec 1 1 (aJ (nC 7 u))])[H.length]? = QQ (.vec 1 1 (aJ (nC 7 u))):=siT;unfold aDR;simp only[h1,Nat.lt_irrefl,Zu];rw[Zy ⟨trivial,ym u,AQ _,aGi _⟩];simp[dL,ah.ver]) h5
   have hu:(AV.own 1 (aJ (nC 7 u))).under H.length=true:=by
    show eR H.length (aJ (nC 7 u))=QS;generalize nC 7 u=l
    induction l with
    |nil=>rfl
    |cons a l ih=>show (dJ H.length [.int .u8 a.toNat]&&eR H.length (aJ l))=QS;rw[ih];rfl
   have h6:=Step.narrow (wr:=[]) hw.lt (h4.trans k1) (fun i hi sw=>by grind);refine⟨g2.cut H.length, ?_, ?_⟩
   ·have:=Step.cut hw h6 (fun o ho=>by cases ho);simpa [eU]using this
   have:=pN.cut (n:=H.length) k2 hu;simpa [eU]using this
  cases hp
 cases hp
end Go.Proofs.Sa
end
section
namespace Go.Proofs.Sa
open Go Go.AM Go.Proofs Go.RowKit Go.Lib
def Qa:aIP:=fun args _=>match args with
 | [.sl _ []]=>QQ (.sl QT [],[],[])
 |_=>N2
theorem u4(n c:Nat)(w:BL):FV Tryz.prog 21 #[.slice N2 n c] w fun e w'=>e=.returned (.slice N2 0 0)/\w'=w:=by
 have q23:∀(w:BL) (a:Option IA) (n c n' c':Nat),(binOp .eql 23 (.slice a n c) (.slice N2 n' c')).run Tryz.prog w=.ok (.bool a.isNone) w:=fun w a n c n' c'=>Bw w _ _ a n c n' c' Tryz.underlying23
 go_enter Tryz.func21,Tryz.ntmps21
 go_wp2
 go_ret
 exact⟨rfl,rfl⟩
theorem yr(a:IA)(c:Nat)(w:BL):FV Tryz.prog 21 #[.slice (QQ a) 0 c] w fun e w'=>e=.returned (.slice (QQ ⟨w.heap.size,0,N2⟩) 0 0)/\∃o,w'=w.alloc o:=by
 have q23:∀(w:BL) (a:Option IA) (n c n' c':Nat),(binOp .eql 23 (.slice a n c) (.slice N2 n' c')).run Tryz.prog w=.ok (.bool a.isNone) w:=fun w a n c n' c'=>Bw w _ _ a n c n' c' Tryz.underlying23;have u23:∀w,Sem.run Tryz.prog (underlying 23) w=.ok (C6 49) w:=BH Tryz.underlying23
 go_enter Tryz.func21,Tryz.ntmps21
 go_wp2
 go_ret
 exact⟨rfl,_,rfl⟩
theorem w9(n c:Nat)(w:BL):FV Tryz.prog 22 #[.slice N2 n c] w fun e w'=>e=.returned (.slice N2 0 0)/\w'=w:=by
 have q23:∀(w:BL) (a:Option IA) (n c n' c':Nat),(binOp .eql 47 (.slice a n c) (.slice N2 n' c')).run Tryz.prog w=.ok (.bool a.isNone) w:=fun w a n c n' c'=>Bw w _ _ a n c n' c' Tryz.underlying47
 go_enter Tryz.func22,Tryz.ntmps22
 go_wp2
 go_ret
 exact⟨rfl,rfl⟩
theorem zr(a:IA)(c:Nat)(w:BL):FV Tryz.prog 22 #[.slice (QQ a) 0 c] w fun e w'=>e=.returned (.slice (QQ ⟨w.heap.size,0,N2⟩) 0 0)/\∃o,w'=w.alloc o:=by
 have q23:∀(w:BL) (a:Option IA) (n c n' c':Nat),(binOp .eql 47 (.slice a n c) (.slice N2 n' c')).run Tryz.prog w=.ok (.bool a.isNone) w:=fun w a n c n' c'=>Bw w _ _ a n c n' c' Tryz.underlying47;have u23:∀w,Sem.run Tryz.prog (underlying 47) w=.ok (C6 72) w:=BH Tryz.underlying47
 go_enter Tryz.func22,Tryz.ntmps22
 go_wp2
 go_ret
 exact⟨rfl,_,rfl⟩
theorem Qp{ab:cu}{f:Nat}(hf:∃F,Tryz.prog.funcs[f]? = QQ F/\(F.name == "runtime.NumGoroutine")=QT/\F.body.isNone=QT) (hn:∀n c w,FV Tryz.prog f #[.slice N2 n c] w fun e w'=>e=.returned (.slice N2 0 0)/\w'=w) (hz:∀a c w,FV Tryz.prog f #[.slice (QQ a) 0 c] w fun e w'=>e=.returned (.slice (QQ ⟨w.heap.size,0,N2⟩) 0 0)/\∃o,w'=w.alloc o):gS Tryz.prog ab fun f' args H=>if f'=f then (Qa args H).map (cT H)else none:=by
 refine oC hf fun args H v ws ns hp g w xs hw hg hx=>?_;unfold Qa at hp;split at hp
 ·simp only[AG,BK]at hp;obtain⟨rfl,rfl,rfl⟩:=hp;obtain⟨x,rfl,hv⟩:=aBc hx;cases hv with
  |kn=>refine (hn 0 0 w).mono ?_;rintro e w' ⟨rfl,rfl⟩;refine⟨g, ?_,.kn _⟩;simpa [eU]using Step.refl hw
  |sl=>refine (hz _ _ w).mono ?_;rintro e w' ⟨rfl,o,rfl⟩;have e:(w.alloc o).heap=w.heap.push o:=rfl;refine⟨g, ?_,ai.sl QT [] w.heap.size 0 0 0 (AQ _) (fun h=>by cases h) (fun r h=>by cases h) (fun r h=>by cases h) (fun i j h=>by simp at h) (fun i j r a x h=>by simp at h)⟩;have:Step g H w g H (w.alloc o) []:=Step.nf hw (by rw[e,OA];omega) (fun b hb=>cK e hb) ⟨rfl,rfl⟩;simpa [eU]using this
 cases hp
end Go.Proofs.Sa
end
section
namespace Go.AM
open Go
structure Tg{α:Type}(a:α):Type where
def aCi{α:Type}(x:Option α)(k:α->Prop)(tg:Tg k):Prop:=match x with
 |some a=>k a
 |none=>False
@[go_sem] theorem aVJ{α:Type}{a:α}{k:α->Prop}{t:Tg k}:aCi (QQ a) k t=k a:=(rfl)
def bnd{α:Type}(x:Option α)(k:α->Prop):Prop:=aCi x k ⟨⟩
@[go_sem] theorem aYv{α:Type}{a:α}{k:α->Prop}:bnd (QQ a) k=k a:=(rfl)
@[congr] theorem aX1{α:Type}{x y:Option α}{k:α->Prop}(h:x=y):bnd x k=bnd y k:=by rw[h]
theorem aB{α:Type}{x:Option α}{k:α->Prop}:bnd x k=aCi x k ⟨⟩:=(rfl)
def zF(b:Bool)(x y:Prop)(tg:Tg (x,y)):Prop:=match b with
 |true=>x
 |false=>y
@[go_sem] theorem aTW{x y:Prop}{t:Tg (x,y)}:zF QS x y t=x:=(rfl)
@[go_sem] theorem aSS{x y:Prop}{t:Tg (x,y)}:zF QT x y t=y:=(rfl)
theorem aD{b:Bool}{x y:Prop}{t:Tg (x,y)}(h1:b=QS->x)(h2:b=QT->y):zF b x y t:=by
 cases b
 ·exact h2 rfl
 exact h1 rfl
def aST:AV->Option Bool
 |.bool b=>QQ b
 |_=>N2
@[go_sem] theorem aTX{b:Bool}:aST (.bool b)=QQ b:=(rfl)
def aIn(b:Bool):AV->Option Bool
 |.bool b'=>QQ (b'==b)
 |.tup []=>QQ QT
 |_=>N2
@[go_sem] theorem aTY{b b':Bool}:aIn b (.bool b')=QQ (b'==b):=(rfl)
@[go_sem] theorem aTZ{b:Bool}:aIn b (.tup [])=QQ false:=(rfl)
def wo(call:Nat->LA->LO->Out)(c:Ctx)(ops:List ae)(ρ:bN)(H:LO)(wr:LN)(K:bN->LO->LN->Prop)(tg:Tg (call,c,ops,K)):Prop:=aD3 call c ops ρ H wr K
def wd(call:Nat->LA->LO->Out)(c:Ctx)(aq:LN)(i:Nat)(ops:List ae)(ρ:bN)(H:LO)(wr:LN)(L:bN->LO->LN->Log->Prop)(tg:Tg (call,c,aq,ops,L)):Prop:=
 wpD call c aq i ops ρ H wr L
def wc(A:af)(N:Nat)(c:Ctx)(x:ag)(ρ:bN)(H:LO)(wr:LN)(Q:bf->bN->LO->LN->Prop)(tg:Tg (A,N,c,x,Q)):Prop:=wpc A N c x ρ H wr Q
def wl(A:af)(N:Nat)(c:Ctx)(x:ag)(ρ:bN)(H:LO)(wr:LN)(Q:bf->bN->LO->LN->Prop)(tg:Tg (A,N,c,x,Q)):Prop:=Wp A N c (.loop x) ρ H wr Q
def wfz(c:Ctx)(ts:List (Nat×Nat))(ρ:bN)(H:LO)(wr:LN)(K:bN->LO->LN->Prop)(tg:Tg (c,ts,K)):Prop:=aD5 c ts ρ H wr K
section
variable {call:Nat->LA->LO->Out}{c:Ctx}{ρ:bN}{H:LO}{wr:LN}{r:List ae}{p:LN}{d:Nat}
 {K:bN->LO->LN->Prop} {t:Tg (call,c,r,K)}
@[go_sem] theorem bBs{t:Tg (call,c,[],K)}:wo call c [] ρ H wr K t=K ρ H wr:=(rfl)
theorem aGj{op:df}{t:Tg (call,c,⟨QQ d,op,N2,p⟩::r,K)}(h:isW (c.site (QQ d)) QT op=QT):wo call c (⟨QQ d,op,N2,p⟩::r) ρ H wr K t=bnd (vA H ρ op) fun v=>wo call c r (upd ρ d v) H wr K ⟨⟩:=by
 unfold wo
 conv=>lhs;unfold aD3
 simp only[zE];unfold nB;rw[Zx (by simp[h])];cases vA H ρ op<;>rfl
@[go_sem] theorem bBt{x1:aa}{t:Tg (call,c,⟨QQ d,.mov x1,N2,p⟩::r,K)}:wo call c (⟨QQ d,.mov x1,N2,p⟩::r) ρ H wr K t=bnd (vA H ρ (.mov x1)) fun v=>wo call c r (upd ρ d v) H wr K ⟨⟩:=aGj rfl
@[go_sem] theorem bA7{x1:aa}{y1:aa}{z1:aa}{t:Tg (call,c,⟨QQ d,.pick x1 y1 z1,N2,p⟩::r,K)}:wo call c (⟨QQ d,.pick x1 y1 z1,N2,p⟩::r) ρ H wr K t=bnd (vA H ρ (.pick x1 y1 z1)) fun v=>wo call c r (upd ρ d v) H wr K ⟨⟩:=aGj rfl
@[go_sem] theorem aYw{zs1:LA}{ps1:List (Nat×Nat×aa)}{t:Tg (call,c,⟨QQ d,.build zs1 ps1,N2,p⟩::r,K)}:wo call c (⟨QQ d,.build zs1 ps1,N2,p⟩::r) ρ H wr K t=bnd (vA H ρ (.build zs1 ps1)) fun v=>wo call c r (upd ρ d v) H wr K ⟨⟩:=aGj rfl
@[go_sem] theorem bA8{k1:Nat}{agg1:Bool}{x1:aa}{t:Tg (call,c,⟨QQ d,.load k1 agg1 x1,N2,p⟩::r,K)}:wo call c (⟨QQ d,.load k1 agg1 x1,N2,p⟩::r) ρ H wr K t=bnd (vA H ρ (.load k1 agg1 x1)) fun v=>wo call c r (upd ρ d v) H wr K ⟨⟩:=aGj rfl
@[go_sem] theorem aYx{x1:aa}{t:Tg (call,c,⟨QQ d,.cz x1,N2,p⟩::r,K)}:wo call c (⟨QQ d,.cz x1,N2,p⟩::r) ρ H wr K t=bnd (vA H ρ (.cz x1)) fun v=>wo call c r (upd ρ d v) H wr K ⟨⟩:=aGj rfl
@[go_sem] theorem aYy{n1:Bool}{x1:aa}{t:Tg (call,c,⟨QQ d,.ky n1 x1,N2,p⟩::r,K)}:wo call c (⟨QQ d,.ky n1 x1,N2,p⟩::r) ρ H wr K t=bnd (vA H ρ (.ky n1 x1)) fun v=>wo call c r (upd ρ d v) H wr K ⟨⟩:=aGj rfl
@[go_sem] theorem bBu{b1:MZ}{e1:vd}{x1:aa}{y1:aa}{t:Tg (call,c,⟨QQ d,.bin b1 e1 x1 y1,N2,p⟩::r,K)}:wo call c (⟨QQ d,.bin b1 e1 x1 y1,N2,p⟩::r) ρ H wr K t=bnd (vA H ρ (.bin b1 e1 x1 y1)) fun v=>wo call c r (upd ρ d v) H wr K ⟨⟩:=aGj rfl
@[go_sem] theorem bCb{u1:UnOp}{x1:aa}{t:Tg (call,c,⟨QQ d,.un u1 x1,N2,p⟩::r,K)}:wo call c (⟨QQ d,.un u1 x1,N2,p⟩::r) ρ H wr K t=bnd (vA H ρ (.un u1 x1)) fun v=>wo call c r (upd ρ d v) H wr K ⟨⟩:=aGj rfl
@[go_sem] theorem bA9{cv1:tm}{x1:aa}{t:Tg (call,c,⟨QQ d,.conv cv1 x1,N2,p⟩::r,K)}:wo call c (⟨QQ d,.conv cv1 x1,N2,p⟩::r) ρ H wr K t=bnd (vA H ρ (.conv cv1 x1)) fun v=>wo call c r (upd ρ d v) H wr K ⟨⟩:=aGj rfl
@[go_sem] theorem bBv{f1:Nat}{xs1:List aa}{ys1:List aa}{t:Tg (call,c,⟨QQ d,.mkf f1 xs1 ys1,N2,p⟩::r,K)}:wo call c (⟨QQ d,.mkf f1 xs1 ys1,N2,p⟩::r) ρ H wr K t=bnd (vA H ρ (.mkf f1 xs1 ys1)) fun v=>wo call c r (upd ρ d v) H wr K ⟨⟩:=aGj rfl
@[go_sem] theorem aX2{x1:aa}{lo1:Option aa}{G7:Option aa}{t:Tg (call,c,⟨QQ d,.fm x1 lo1 G7,N2,p⟩::r,K)}:wo call c (⟨QQ d,.fm x1 lo1 G7,N2,p⟩::r) ρ H wr K t=bnd (vA H ρ (.fm x1 lo1 G7)) fun v=>wo call c r (upd ρ d v) H wr K ⟨⟩:=aGj rfl
@[go_sem] theorem aX3{k1:Nat}{x1:aa}{lo1:Option aa}{G7:Option aa}{mx1:Option aa}{t:Tg (call,c,⟨QQ d,.gw k1 x1 lo1 G7 mx1,N2,p⟩::r,K)}:wo call c (⟨QQ d,.gw k1 x1 lo1 G7 mx1,N2,p⟩::r) ρ H wr K t=bnd (vA H ρ (.gw k1 x1 lo1 G7 mx1)) fun v=>wo call c r (upd ρ d v) H wr K ⟨⟩:=aGj rfl
@[go_sem] theorem bCc{o1:Nat}{x1:aa}{t:Tg (call,c,⟨QQ d,.fa o1 x1,N2,p⟩::r,K)}:wo call c (⟨QQ d,.fa o1 x1,N2,p⟩::r) ρ H wr K t=bnd (vA H ρ (.fa o1 x1)) fun v=>wo call c r (upd ρ d v) H wr K ⟨⟩:=aGj rfl
@[go_sem] theorem bBw{o1:Nat}{k1:Nat}{agg1:Bool}{x1:aa}{t:Tg (call,c,⟨QQ d,.fld o1 k1 agg1 x1,N2,p⟩::r,K)}:wo call c (⟨QQ d,.fld o1 k1 agg1 x1,N2,p⟩::r) ρ H wr K t=bnd (vA H ρ (.fld o1 k1 agg1 x1)) fun v=>wo call c r (upd ρ d v) H wr K ⟨⟩:=aGj rfl
@[go_sem] theorem bBx{x1:aa}{i1:aa}{k1:Nat}{t:Tg (call,c,⟨QQ d,.iaV x1 i1 k1,N2,p⟩::r,K)}:wo call c (⟨QQ d,.iaV x1 i1 k1,N2,p⟩::r) ρ H wr K t=bnd (vA H ρ (.iaV x1 i1 k1)) fun v=>wo call c r (upd ρ d v) H wr K ⟨⟩:=aGj rfl
@[go_sem] theorem bBy{n1:Nat}{k1:Nat}{x1:aa}{i1:aa}{t:Tg (call,c,⟨QQ d,.iaA n1 k1 x1 i1,N2,p⟩::r,K)}:wo call c (⟨QQ d,.iaA n1 k1 x1 i1,N2,p⟩::r) ρ H wr K t=bnd (vA H ρ (.iaA n1 k1 x1 i1)) fun v=>wo call c r (upd ρ d v) H wr K ⟨⟩:=aGj rfl
@[go_sem] theorem bBz{x1:aa}{i1:aa}{t:Tg (call,c,⟨QQ d,.ixS x1 i1,N2,p⟩::r,K)}:wo call c (⟨QQ d,.ixS x1 i1,N2,p⟩::r) ρ H wr K t=bnd (vA H ρ (.ixS x1 i1)) fun v=>wo call c r (upd ρ d v) H wr K ⟨⟩:=aGj rfl
@[go_sem] theorem bAa{x1:aa}{t:Tg (call,c,⟨QQ d,.fg x1,N2,p⟩::r,K)}:wo call c (⟨QQ d,.fg x1,N2,p⟩::r) ρ H wr K t=bnd (vA H ρ (.fg x1)) fun v=>wo call c r (upd ρ d v) H wr K ⟨⟩:=aGj rfl
@[go_sem] theorem bAb{x1:aa}{t:Tg (call,c,⟨QQ d,.qk x1,N2,p⟩::r,K)}:wo call c (⟨QQ d,.qk x1,N2,p⟩::r) ρ H wr K t=bnd (vA H ρ (.qk x1)) fun v=>wo call c r (upd ρ d v) H wr K ⟨⟩:=aGj rfl
@[go_sem] theorem bCd{m1:Bool}{xs1:List aa}{t:Tg (call,c,⟨QQ d,.mm m1 xs1,N2,p⟩::r,K)}:wo call c (⟨QQ d,.mm m1 xs1,N2,p⟩::r) ρ H wr K t=bnd (vA H ρ (.mm m1 xs1)) fun v=>wo call c r (upd ρ d v) H wr K ⟨⟩:=aGj rfl
@[go_sem] theorem bBA{i1:Nat}{x1:aa}{t:Tg (call,c,⟨QQ d,.ext i1 x1,N2,p⟩::r,K)}:wo call c (⟨QQ d,.ext i1 x1,N2,p⟩::r) ρ H wr K t=bnd (vA H ρ (.ext i1 x1)) fun v=>wo call c r (upd ρ d v) H wr K ⟨⟩:=aGj rfl
@[go_sem] theorem bAc{z1:AV}{m1:aa}{k1:aa}{ok1:Bool}{t:Tg (call,c,⟨QQ d,.look z1 m1 k1 ok1,N2,p⟩::r,K)}:wo call c (⟨QQ d,.look z1 m1 k1 ok1,N2,p⟩::r) ρ H wr K t=bnd (vA H ρ (.look z1 m1 k1 ok1)) fun v=>wo call c r (upd ρ d v) H wr K ⟨⟩:=aGj rfl
@[go_sem] theorem aYz{u1:Nat}{x1:aa}{t:Tg (call,c,⟨QQ d,.km u1 x1,N2,p⟩::r,K)}:wo call c (⟨QQ d,.km u1 x1,N2,p⟩::r) ρ H wr K t=bnd (vA H ρ (.km u1 x1)) fun v=>wo call c r (upd ρ d v) H wr K ⟨⟩:=aGj rfl
theorem aLN{op:df}{d:Option Nat}{t:Tg (call,c,⟨d,op,N2,p⟩::r,K)}:wo call c (⟨d,op,N2,p⟩::r) ρ H wr K t=bnd (nB call (c.site d) QT ρ H op) fun t=>wo call c r (zX ρ d t.1) t.2.1 (bE c.base wr t.2.2) K ⟨⟩:=by
 unfold wo
 conv=>lhs;unfold aD3
 simp only[zE];cases nB call (c.site d) QT ρ H op<;>rfl
@[go_sem] theorem aYA{k:Nat}{x v:aa}{d:Option Nat}{t:Tg (call,c,⟨d,.store k x v,N2,p⟩::r,K)}:wo call c (⟨d,.store k x v,N2,p⟩::r) ρ H wr K t=bnd (aD0 call H ρ (c.site d) (.store k x v)) fun t=>wo call c r (zX ρ d t.1) t.2.1 (bE c.base wr t.2.2) K ⟨⟩:=aLN
@[go_sem] theorem bBB{k b:Nat}{x v:aa}{d:Option Nat}{t:Tg (call,c,⟨d,.app k b x v,N2,p⟩::r,K)}:wo call c (⟨d,.app k b x v,N2,p⟩::r) ρ H wr K t=bnd (eX H (c.site d) k b (x.at ρ) (v.at ρ)) fun t=>wo call c r (zX ρ d t.1) t.2.1 (bE c.base wr t.2.2) K ⟨⟩:=aLN
@[go_sem] theorem aYB{f:aa}{xs:List aa}{d:Option Nat}{t:Tg (call,c,⟨d,.dm f xs,N2,p⟩::r,K)}:wo call c (⟨d,.dm f xs,N2,p⟩::r) ρ H wr K t=bnd (cX call H (c.site d) (f.at ρ) (xs.map (aa.at ρ))) fun t=>wo call c r (zX ρ d t.1) t.2.1 (bE c.base wr t.2.2) K ⟨⟩:=aLN
@[go_sem] theorem aYC{f:aa}{xs:List aa}{d:Option Nat}{t:Tg (call,c,⟨d,.ee f xs,N2,p⟩::r,K)}:wo call c (⟨d,.ee f xs,N2,p⟩::r) ρ H wr K t=bnd (iN call H (c.site d) (f.at ρ) (xs.map (aa.at ρ))) fun t=>wo call c r (zX ρ d t.1) t.2.1 (bE c.base wr t.2.2) K ⟨⟩:=aLN
@[go_sem] theorem bAd{tab:List (Nat×Nat)}{x:aa}{xs:List aa}{d:Option Nat}{t:Tg (call,c,⟨d,.nb tab x xs,N2,p⟩::r,K)}:wo call c (⟨d,.nb tab x xs,N2,p⟩::r) ρ H wr K t=bnd (aD0 call H ρ (c.site d) (.nb tab x xs)) fun t=>wo call c r (zX ρ d t.1) t.2.1 (bE c.base wr t.2.2) K ⟨⟩:=aLN
@[go_sem] theorem bAe{ty k b:Nat}{x v:aa}{d:Option Nat}{t:Tg (call,c,⟨d,.ni ty k b x v,N2,p⟩::r,K)}:wo call c (⟨d,.ni ty k b x v,N2,p⟩::r) ρ H wr K t=bnd (vB H (c.site d) ty k b (x.at ρ) (v.at ρ)) fun t=>wo call c r (zX ρ d t.1) t.2.1 (bE c.base wr t.2.2) K ⟨⟩:=aLN
@[go_sem] theorem aX4{ty:Nat}{zs:LA}{d:Option Nat}{t:Tg (call,c,⟨d,.gv ty zs,N2,p⟩::r,K)}:wo call c (⟨d,.gv ty zs,N2,p⟩::r) ρ H wr K t=bnd (nB call (c.site d) QT ρ H (.gv ty zs)) fun t=>wo call c r (zX ρ d t.1) t.2.1 (bE c.base wr t.2.2) K ⟨⟩:=aLN
@[go_sem] theorem bBC{ty k:Nat}{x:aa}{d:Option Nat}{t:Tg (call,c,⟨d,.tbx ty k x,N2,p⟩::r,K)}:wo call c (⟨d,.tbx ty k x,N2,p⟩::r) ρ H wr K t=bnd (nB call (c.site d) QT ρ H (.tbx ty k x)) fun t=>wo call c r (zX ρ d t.1) t.2.1 (bE c.base wr t.2.2) K ⟨⟩:=aLN
@[go_sem] theorem aYD {d:Option Nat}{t:Tg (call,c,⟨d,.jn,N2,p⟩::r,K)}:wo call c (⟨d,.jn,N2,p⟩::r) ρ H wr K t=bnd (aD0 call H ρ (c.site d) .jn) fun t=>wo call c r (zX ρ d t.1) t.2.1 (bE c.base wr t.2.2) K ⟨⟩:=aLN
@[go_sem] theorem bBD{m k v:aa}{d:Option Nat}{t:Tg (call,c,⟨d,.ins m k v,N2,p⟩::r,K)}:wo call c (⟨d,.ins m k v,N2,p⟩::r) ρ H wr K t=bnd (aD0 call H ρ (c.site d) (.ins m k v)) fun t=>wo call c r (zX ρ d t.1) t.2.1 (bE c.base wr t.2.2) K ⟨⟩:=aLN
@[go_sem] theorem aYE{zs:LA}{d:Option Nat}{t:Tg (call,c,⟨d,.alloc zs,N2,p⟩::r,K)}:wo call c (⟨d,.alloc zs,N2,p⟩::r) ρ H wr K t=bnd (nB call (c.site d) QT ρ H (.alloc zs)) fun t=>wo call c r (zX ρ d t.1) t.2.1 (bE c.base wr t.2.2) K ⟨⟩:=aLN
@[go_sem] theorem bBE{k:Nat}{x:aa}{d:Option Nat}{t:Tg (call,c,⟨d,.box k x,N2,p⟩::r,K)}:wo call c (⟨d,.box k x,N2,p⟩::r) ρ H wr K t=bnd (nB call (c.site d) QT ρ H (.box k x)) fun t=>wo call c r (zX ρ d t.1) t.2.1 (bE c.base wr t.2.2) K ⟨⟩:=aLN
@[go_sem] theorem bBF{k n:Nat}{zs:LA}{ps:List (Nat×aa)}{d:Option Nat}{t:Tg (call,c,⟨d,.bsl k zs n ps,N2,p⟩::r,K)}:wo call c (⟨d,.bsl k zs n ps,N2,p⟩::r) ρ H wr K t=bnd (aD0 call H ρ (c.site d) (.bsl k zs n ps)) fun t=>wo call c r (zX ρ d t.1) t.2.1 (bE c.base wr t.2.2) K ⟨⟩:=by simp_all [aLN,nB,aD0,Zy,isW]
@[go_sem] theorem bBG{k n:Nat}{zs:LA}{x y:aa}{d:Option Nat}{t:Tg (call,c,⟨d,.mks k n zs x y,N2,p⟩::r,K)}:wo call c (⟨d,.mks k n zs x y,N2,p⟩::r) ρ H wr K t=bnd (aD0 call H ρ (c.site d) (.mks k n zs x y)) fun t=>wo call c r (zX ρ d t.1) t.2.1 (bE c.base wr t.2.2) K ⟨⟩:=by simp_all [aLN,nB,aD0,Zy,isW]
@[go_sem] theorem aYF{op:df}{t1:Nat}{b:Bool}{d:Option Nat}{t:Tg (call,c,⟨d,op,QQ (QQ t1,b),p⟩::r,K)}:wo call c (⟨d,op,QQ (QQ t1,b),p⟩::r) ρ H wr K t = bnd (aIn b (ρ t1)) fun w=>zF w (wo call c (⟨d,op,N2,p⟩::r) ρ H wr K ⟨⟩) (wo call c r (zX ρ d (.tup [])) H wr K ⟨⟩) ⟨⟩:=by
 conv=>lhs;unfold wo aD3
 simp only[zE];cases ht:ρ t1<;>try rfl
 rotate_left
 ·rename_i vs;cases vs<;>rfl
 rename_i b';simp only[aIn,bnd,aCi];cases hb:(b'==b)with
 |false=>rfl
 |true=>simp only[zF];rw[aLN];cases nB call (c.site d) QT ρ H op<;>rfl
variable {aq:LN}{n0:Nat}{L:bN->LO->LN->Log->Prop}
@[go_sem] theorem bBH{t:Tg (call,c,aq,[],L)}:wd call c aq n0 [] ρ H wr L t=L ρ H wr []:=(rfl)
def aVK(i:Nat)(rd:LN)(w:Option LN)(L:bN->LO->LN->Log->Prop)(tg:Tg L):bN->LO->LN->Log->Prop:=
 fun ρ H wr log=>L ρ H wr ((i,rd,w)::log)
@[go_sem] theorem bAf{i:Nat}{rd:LN}{w:Option LN}{t:Tg L}{log:Log}:aVK i rd w L t ρ H wr log=L ρ H wr ((i,rd,w)::log):=(rfl)
def aU0(b:Bool)(x y:Prop)(tg:Tg (x,y)):Prop:=match b with
 |true=>x
 |false=>y
@[go_sem] theorem aX5{x y:Prop}{t:Tg (x,y)}:aU0 QS x y t=x:=(rfl)
@[go_sem] theorem aVL{x y:Prop}{t:Tg (x,y)}:aU0 QT x y t=y:=(rfl)
theorem aRs{op:df}{d:Option Nat}{t:Tg (call,c,aq,⟨d,op,N2,p⟩::r,L)}:wd call c aq n0 (⟨d,op,N2,p⟩::r) ρ H wr L t=bnd (oB call (c.site d) ρ H op) fun t=>aU0 (aq.contains n0) (wd call c aq (n0+1) r (zX ρ d t.1) t.2.1 (bE c.base wr (t.2.2.2.getD [])) (aVK n0 t.2.2.1 t.2.2.2 L ⟨⟩) ⟨⟩) (wd call c aq (n0+1) r (zX ρ d t.1) t.2.1 (bE c.base wr (t.2.2.2.getD [])) L ⟨⟩) ⟨⟩:=by
 unfold wd
 conv=>lhs;unfold wpD
 simp only[zE];cases oB call (c.site d) ρ H op with
 |none=>rfl
 |some v=>cases hk:aq.contains n0<;>rfl
theorem aJ9{op:df}{t:Tg (call,c,aq,⟨QQ d,op,N2,p⟩::r,L)}(h:isW (c.site (QQ d)) QS op=QT)(ha:∀zs,op≠.alloc zs):wd call c aq n0 (⟨QQ d,op,N2,p⟩::r) ρ H wr L t=bnd (vA H ρ op) fun v=>aU0 (aq.contains n0) (bnd (QQ (aCc ρ op)) fun rd=>wd call c aq (n0+1) r (upd ρ d v) H wr (aVK n0 rd N2 L ⟨⟩) ⟨⟩) (wd call c aq (n0+1) r (upd ρ d v) H wr L ⟨⟩) ⟨⟩:=by
 rw[aRs];have:oB call (c.site (QQ d)) ρ H op=match vA H ρ op with
   |some v=>QQ (v,H,aCc ρ op,N2)
   |none=>none:=by
  cases op<;>first | exact Zw rfl (ha _)|(unfold oB;dsimp only;rw[Zx (by rw[h];exact ED)];rfl)
 rw[this];cases vA H ρ op<;>rfl
@[go_sem] theorem bBI{x1:aa}{t:Tg (call,c,aq,⟨QQ d,.mov x1,N2,p⟩::r,L)}:wd call c aq n0 (⟨QQ d,.mov x1,N2,p⟩::r) ρ H wr L t=bnd (vA H ρ (.mov x1)) fun v=>aU0 (aq.contains n0) (bnd (QQ (aCc ρ (.mov x1))) fun rd=>wd call c aq (n0+1) r (upd ρ d v) H wr (aVK n0 rd N2 L ⟨⟩) ⟨⟩) (wd call c aq (n0+1) r (upd ρ d v) H wr L ⟨⟩) ⟨⟩:=aJ9 rfl (fun _ h=>by cases h)
@[go_sem] theorem bAg{x1:aa}{y1:aa}{z1:aa}{t:Tg (call,c,aq,⟨QQ d,.pick x1 y1 z1,N2,p⟩::r,L)}:wd call c aq n0 (⟨QQ d,.pick x1 y1 z1,N2,p⟩::r) ρ H wr L t=bnd (vA H ρ (.pick x1 y1 z1)) fun v=>aU0 (aq.contains n0) (bnd (QQ (aCc ρ (.pick x1 y1 z1))) fun rd=>wd call c aq (n0+1) r (upd ρ d v) H wr (aVK n0 rd N2 L ⟨⟩) ⟨⟩) (wd call c aq (n0+1) r (upd ρ d v) H wr L ⟨⟩) ⟨⟩:=aJ9 rfl (fun _ h=>by cases h)
@[go_sem] theorem aYG{zs1:LA}{ps1:List (Nat×Nat×aa)}{t:Tg (call,c,aq,⟨QQ d,.build zs1 ps1,N2,p⟩::r,L)}:wd call c aq n0 (⟨QQ d,.build zs1 ps1,N2,p⟩::r) ρ H wr L t=bnd (vA H ρ (.build zs1 ps1)) fun v=>aU0 (aq.contains n0) (bnd (QQ (aCc ρ (.build zs1 ps1))) fun rd=>wd call c aq (n0+1) r (upd ρ d v) H wr (aVK n0 rd N2 L ⟨⟩) ⟨⟩) (wd call c aq (n0+1) r (upd ρ d v) H wr L ⟨⟩) ⟨⟩:=aJ9 rfl (fun _ h=>by cases h)
@[go_sem] theorem bAh{k1:Nat}{agg1:Bool}{x1:aa}{t:Tg (call,c,aq,⟨QQ d,.load k1 agg1 x1,N2,p⟩::r,L)}:wd call c aq n0 (⟨QQ d,.load k1 agg1 x1,N2,p⟩::r) ρ H wr L t=bnd (vA H ρ (.load k1 agg1 x1)) fun v=>aU0 (aq.contains n0) (bnd (QQ (aCc ρ (.load k1 agg1 x1))) fun rd=>wd call c aq (n0+1) r (upd ρ d v) H wr (aVK n0 rd N2 L ⟨⟩) ⟨⟩) (wd call c aq (n0+1) r (upd ρ d v) H wr L ⟨⟩) ⟨⟩:=aJ9 rfl (fun _ h=>by cases h)
@[go_sem] theorem aYH{x1:aa}{t:Tg (call,c,aq,⟨QQ d,.cz x1,N2,p⟩::r,L)}:wd call c aq n0 (⟨QQ d,.cz x1,N2,p⟩::r) ρ H wr L t=bnd (vA H ρ (.cz x1)) fun v=>aU0 (aq.contains n0) (bnd (QQ (aCc ρ (.cz x1))) fun rd=>wd call c aq (n0+1) r (upd ρ d v) H wr (aVK n0 rd N2 L ⟨⟩) ⟨⟩) (wd call c aq (n0+1) r (upd ρ d v) H wr L ⟨⟩) ⟨⟩:=aJ9 rfl (fun _ h=>by cases h)
@[go_sem] theorem bBJ{b1:MZ}{e1:vd}{x1:aa}{y1:aa}{t:Tg (call,c,aq,⟨QQ d,.bin b1 e1 x1 y1,N2,p⟩::r,L)}:wd call c aq n0 (⟨QQ d,.bin b1 e1 x1 y1,N2,p⟩::r) ρ H wr L t=bnd (vA H ρ (.bin b1 e1 x1 y1)) fun v=>aU0 (aq.contains n0) (bnd (QQ (aCc ρ (.bin b1 e1 x1 y1))) fun rd=>wd call c aq (n0+1) r (upd ρ d v) H wr (aVK n0 rd N2 L ⟨⟩) ⟨⟩) (wd call c aq (n0+1) r (upd ρ d v) H wr L ⟨⟩) ⟨⟩:=aJ9 rfl (fun _ h=>by cases h)
@[go_sem] theorem bCe{u1:UnOp}{x1:aa}{t:Tg (call,c,aq,⟨QQ d,.un u1 x1,N2,p⟩::r,L)}:wd call c aq n0 (⟨QQ d,.un u1 x1,N2,p⟩::r) ρ H wr L t=bnd (vA H ρ (.un u1 x1)) fun v=>aU0 (aq.contains n0) (bnd (QQ (aCc ρ (.un u1 x1))) fun rd=>wd call c aq (n0+1) r (upd ρ d v) H wr (aVK n0 rd N2 L ⟨⟩) ⟨⟩) (wd call c aq (n0+1) r (upd ρ d v) H wr L ⟨⟩) ⟨⟩:=aJ9 rfl (fun _ h=>by cases h)
@[go_sem] theorem bAi{cv1:tm}{x1:aa}{t:Tg (call,c,aq,⟨QQ d,.conv cv1 x1,N2,p⟩::r,L)}:wd call c aq n0 (⟨QQ d,.conv cv1 x1,N2,p⟩::r) ρ H wr L t=bnd (vA H ρ (.conv cv1 x1)) fun v=>aU0 (aq.contains n0) (bnd (QQ (aCc ρ (.conv cv1 x1))) fun rd=>wd call c aq (n0+1) r (upd ρ d v) H wr (aVK n0 rd N2 L ⟨⟩) ⟨⟩) (wd call c aq (n0+1) r (upd ρ d v) H wr L ⟨⟩) ⟨⟩:=aJ9 rfl (fun _ h=>by cases h)
@[go_sem] theorem bBK{f1:Nat}{xs1:List aa}{ys1:List aa}{t:Tg (call,c,aq,⟨QQ d,.mkf f1 xs1 ys1,N2,p⟩::r,L)}:wd call c aq n0 (⟨QQ d,.mkf f1 xs1 ys1,N2,p⟩::r) ρ H wr L t=bnd (vA H ρ (.mkf f1 xs1 ys1)) fun v=>aU0 (aq.contains n0) (bnd (QQ (aCc ρ (.mkf f1 xs1 ys1))) fun rd=>wd call c aq (n0+1) r (upd ρ d v) H wr (aVK n0 rd N2 L ⟨⟩) ⟨⟩) (wd call c aq (n0+1) r (upd ρ d v) H wr L ⟨⟩) ⟨⟩:=aJ9 rfl (fun _ h=>by cases h)
@[go_sem] theorem aX6{k1:Nat}{x1:aa}{lo1:Option aa}{G7:Option aa}{mx1:Option aa}{t:Tg (call,c,aq,⟨QQ d,.gw k1 x1 lo1 G7 mx1,N2,p⟩::r,L)}:wd call c aq n0 (⟨QQ d,.gw k1 x1 lo1 G7 mx1,N2,p⟩::r) ρ H wr L t=bnd (vA H ρ (.gw k1 x1 lo1 G7 mx1)) fun v=>aU0 (aq.contains n0) (bnd (QQ (aCc ρ (.gw k1 x1 lo1 G7 mx1))) fun rd=>wd call c aq (n0+1) r (upd ρ d v) H wr (aVK n0 rd N2 L ⟨⟩) ⟨⟩) (wd call c aq (n0+1) r (upd ρ d v) H wr L ⟨⟩) ⟨⟩:=aJ9 rfl (fun _ h=>by cases h)
@[go_sem] theorem bCf{o1:Nat}{x1:aa}{t:Tg (call,c,aq,⟨QQ d,.fa o1 x1,N2,p⟩::r,L)}:wd call c aq n0 (⟨QQ d,.fa o1 x1,N2,p⟩::r) ρ H wr L t=bnd (vA H ρ (.fa o1 x1)) fun v=>aU0 (aq.contains n0) (bnd (QQ (aCc ρ (.fa o1 x1))) fun rd=>wd call c aq (n0+1) r (upd ρ d v) H wr (aVK n0 rd N2 L ⟨⟩) ⟨⟩) (wd call c aq (n0+1) r (upd ρ d v) H wr L ⟨⟩) ⟨⟩:=aJ9 rfl (fun _ h=>by cases h)
@[go_sem] theorem bBL{x1:aa}{i1:aa}{k1:Nat}{t:Tg (call,c,aq,⟨QQ d,.iaV x1 i1 k1,N2,p⟩::r,L)}:wd call c aq n0 (⟨QQ d,.iaV x1 i1 k1,N2,p⟩::r) ρ H wr L t=bnd (vA H ρ (.iaV x1 i1 k1)) fun v=>aU0 (aq.contains n0) (bnd (QQ (aCc ρ (.iaV x1 i1 k1))) fun rd=>wd call c aq (n0+1) r (upd ρ d v) H wr (aVK n0 rd N2 L ⟨⟩) ⟨⟩) (wd call c aq (n0+1) r (upd ρ d v) H wr L ⟨⟩) ⟨⟩:=aJ9 rfl (fun _ h=>by cases h)
@[go_sem] theorem bBM{n1:Nat}{k1:Nat}{x1:aa}{i1:aa}{t:Tg (call,c,aq,⟨QQ d,.iaA n1 k1 x1 i1,N2,p⟩::r,L)}:wd call c aq n0 (⟨QQ d,.iaA n1 k1 x1 i1,N2,p⟩::r) ρ H wr L t=bnd (vA H ρ (.iaA n1 k1 x1 i1)) fun v=>aU0 (aq.contains n0) (bnd (QQ (aCc ρ (.iaA n1 k1 x1 i1))) fun rd=>wd call c aq (n0+1) r (upd ρ d v) H wr (aVK n0 rd N2 L ⟨⟩) ⟨⟩) (wd call c aq (n0+1) r (upd ρ d v) H wr L ⟨⟩) ⟨⟩:=aJ9 rfl (fun _ h=>by cases h)
@[go_sem] theorem bBN{x1:aa}{i1:aa}{t:Tg (call,c,aq,⟨QQ d,.ixS x1 i1,N2,p⟩::r,L)}:wd call c aq n0 (⟨QQ d,.ixS x1 i1,N2,p⟩::r) ρ H wr L t=bnd (vA H ρ (.ixS x1 i1)) fun v=>aU0 (aq.contains n0) (bnd (QQ (aCc ρ (.ixS x1 i1))) fun rd=>wd call c aq (n0+1) r (upd ρ d v) H wr (aVK n0 rd N2 L ⟨⟩) ⟨⟩) (wd call c aq (n0+1) r (upd ρ d v) H wr L ⟨⟩) ⟨⟩:=aJ9 rfl (fun _ h=>by cases h)
@[go_sem] theorem bAj{x1:aa}{t:Tg (call,c,aq,⟨QQ d,.qk x1,N2,p⟩::r,L)}:wd call c aq n0 (⟨QQ d,.qk x1,N2,p⟩::r) ρ H wr L t=bnd (vA H ρ (.qk x1)) fun v=>aU0 (aq.contains n0) (bnd (QQ (aCc ρ (.qk x1))) fun rd=>wd call c aq (n0+1) r (upd ρ d v) H wr (aVK n0 rd N2 L ⟨⟩) ⟨⟩) (wd call c aq (n0+1) r (upd ρ d v) H wr L ⟨⟩) ⟨⟩:=aJ9 rfl (fun _ h=>by cases h)
@[go_sem] theorem bCg{m1:Bool}{xs1:List aa}{t:Tg (call,c,aq,⟨QQ d,.mm m1 xs1,N2,p⟩::r,L)}:wd call c aq n0 (⟨QQ d,.mm m1 xs1,N2,p⟩::r) ρ H wr L t=bnd (vA H ρ (.mm m1 xs1)) fun v=>aU0 (aq.contains n0) (bnd (QQ (aCc ρ (.mm m1 xs1))) fun rd=>wd call c aq (n0+1) r (upd ρ d v) H wr (aVK n0 rd N2 L ⟨⟩) ⟨⟩) (wd call c aq (n0+1) r (upd ρ d v) H wr L ⟨⟩) ⟨⟩:=aJ9 rfl (fun _ h=>by cases h)
@[go_sem] theorem bBO{i1:Nat}{x1:aa}{t:Tg (call,c,aq,⟨QQ d,.ext i1 x1,N2,p⟩::r,L)}:wd call c aq n0 (⟨QQ d,.ext i1 x1,N2,p⟩::r) ρ H wr L t=bnd (vA H ρ (.ext i1 x1)) fun v=>aU0 (aq.contains n0) (bnd (QQ (aCc ρ (.ext i1 x1))) fun rd=>wd call c aq (n0+1) r (upd ρ d v) H wr (aVK n0 rd N2 L ⟨⟩) ⟨⟩) (wd call c aq (n0+1) r (upd ρ d v) H wr L ⟨⟩) ⟨⟩:=aJ9 rfl (fun _ h=>by cases h)
@[go_sem] theorem bAk{z1:AV}{m1:aa}{k1:aa}{ok1:Bool}{t:Tg (call,c,aq,⟨QQ d,.look z1 m1 k1 ok1,N2,p⟩::r,L)}:wd call c aq n0 (⟨QQ d,.look z1 m1 k1 ok1,N2,p⟩::r) ρ H wr L t=bnd (vA H ρ (.look z1 m1 k1 ok1)) fun v=>aU0 (aq.contains n0) (bnd (QQ (aCc ρ (.look z1 m1 k1 ok1))) fun rd=>wd call c aq (n0+1) r (upd ρ d v) H wr (aVK n0 rd N2 L ⟨⟩) ⟨⟩) (wd call c aq (n0+1) r (upd ρ d v) H wr L ⟨⟩) ⟨⟩:=aJ9 rfl (fun _ h=>by cases h)
@[go_sem] theorem bAl{k1:Nat}{x1:aa}{lo1:Option aa}{t:Tg (call,c,aq,⟨QQ d,.view k1 x1 lo1,N2,p⟩::r,L)}:wd call c aq n0 (⟨QQ d,.view k1 x1 lo1,N2,p⟩::r) ρ H wr L t=bnd (vA H ρ (.view k1 x1 lo1)) fun v=>aU0 (aq.contains n0) (bnd (QQ (aCc ρ (.view k1 x1 lo1))) fun rd=>wd call c aq (n0+1) r (upd ρ d v) H wr (aVK n0 rd N2 L ⟨⟩) ⟨⟩) (wd call c aq (n0+1) r (upd ρ d v) H wr L ⟨⟩) ⟨⟩:=aJ9 rfl (fun _ h=>by cases h)
@[go_sem] theorem aYI{k:Nat}{x v:aa}{d:Option Nat}{t:Tg (call,c,aq,⟨d,.store k x v,N2,p⟩::r,L)}:wd call c aq n0 (⟨d,.store k x v,N2,p⟩::r) ρ H wr L t=bnd (oB call (c.site d) ρ H (.store k x v)) fun t=>aU0 (aq.contains n0) (wd call c aq (n0+1) r (zX ρ d t.1) t.2.1 (bE c.base wr (t.2.2.2.getD [])) (aVK n0 t.2.2.1 t.2.2.2 L ⟨⟩) ⟨⟩) (wd call c aq (n0+1) r (zX ρ d t.1) t.2.1 (bE c.base wr (t.2.2.2.getD [])) L ⟨⟩) ⟨⟩:=aRs
@[go_sem] theorem bBP{k b:Nat}{x v:aa}{d:Option Nat}{t:Tg (call,c,aq,⟨d,.app k b x v,N2,p⟩::r,L)}:wd call c aq n0 (⟨d,.app k b x v,N2,p⟩::r) ρ H wr L t=bnd (oB call (c.site d) ρ H (.app k b x v)) fun t=>aU0 (aq.contains n0) (wd call c aq (n0+1) r (zX ρ d t.1) t.2.1 (bE c.base wr (t.2.2.2.getD [])) (aVK n0 t.2.2.1 t.2.2.2 L ⟨⟩) ⟨⟩) (wd call c aq (n0+1) r (zX ρ d t.1) t.2.1 (bE c.base wr (t.2.2.2.getD [])) L ⟨⟩) ⟨⟩:=aRs
@[go_sem] theorem aYJ{f:aa}{xs:List aa}{d:Option Nat}{t:Tg (call,c,aq,⟨d,.dm f xs,N2,p⟩::r,L)}:wd call c aq n0 (⟨d,.dm f xs,N2,p⟩::r) ρ H wr L t=bnd (oB call (c.site d) ρ H (.dm f xs)) fun t=>aU0 (aq.contains n0) (wd call c aq (n0+1) r (zX ρ d t.1) t.2.1 (bE c.base wr (t.2.2.2.getD [])) (aVK n0 t.2.2.1 t.2.2.2 L ⟨⟩) ⟨⟩) (wd call c aq (n0+1) r (zX ρ d t.1) t.2.1 (bE c.base wr (t.2.2.2.getD [])) L ⟨⟩) ⟨⟩:=aRs
@[go_sem] theorem aYK{f:aa}{xs:List aa}{d:Option Nat}{t:Tg (call,c,aq,⟨d,.ee f xs,N2,p⟩::r,L)}:wd call c aq n0 (⟨d,.ee f xs,N2,p⟩::r) ρ H wr L t=bnd (oB call (c.site d) ρ H (.ee f xs)) fun t=>aU0 (aq.contains n0) (wd call c aq (n0+1) r (zX ρ d t.1) t.2.1 (bE c.base wr (t.2.2.2.getD [])) (aVK n0 t.2.2.1 t.2.2.2 L ⟨⟩) ⟨⟩) (wd call c aq (n0+1) r (zX ρ d t.1) t.2.1 (bE c.base wr (t.2.2.2.getD [])) L ⟨⟩) ⟨⟩:=aRs
@[go_sem] theorem aYL{zs:LA}{d:Option Nat}{t:Tg (call,c,aq,⟨d,.alloc zs,N2,p⟩::r,L)}:wd call c aq n0 (⟨d,.alloc zs,N2,p⟩::r) ρ H wr L t=bnd (oB call (c.site d) ρ H (.alloc zs)) fun t=>aU0 (aq.contains n0) (wd call c aq (n0+1) r (zX ρ d t.1) t.2.1 (bE c.base wr (t.2.2.2.getD [])) (aVK n0 t.2.2.1 t.2.2.2 L ⟨⟩) ⟨⟩) (wd call c aq (n0+1) r (zX ρ d t.1) t.2.1 (bE c.base wr (t.2.2.2.getD [])) L ⟨⟩) ⟨⟩:=aRs
@[go_sem] theorem bBQ{k n:Nat}{zs:LA}{ps:List (Nat×aa)}{d:Option Nat}{t:Tg (call,c,aq,⟨d,.bsl k zs n ps,N2,p⟩::r,L)}:wd call c aq n0 (⟨d,.bsl k zs n ps,N2,p⟩::r) ρ H wr L t=bnd (oB call (c.site d) ρ H (.bsl k zs n ps)) fun t=>aU0 (aq.contains n0) (wd call c aq (n0+1) r (zX ρ d t.1) t.2.1 (bE c.base wr (t.2.2.2.getD [])) (aVK n0 t.2.2.1 t.2.2.2 L ⟨⟩) ⟨⟩) (wd call c aq (n0+1) r (zX ρ d t.1) t.2.1 (bE c.base wr (t.2.2.2.getD [])) L ⟨⟩) ⟨⟩:=aRs
@[go_sem] theorem bIj{k n:Nat}{zs:LA}{x y:aa}{d:Option Nat}{t:Tg (call,c,aq,⟨d,.mks k n zs x y,N2,p⟩::r,L)}:wd call c aq n0 (⟨d,.mks k n zs x y,N2,p⟩::r) ρ H wr L t=bnd (oB call (c.site d) ρ H (.mks k n zs x y)) fun t=>aU0 (aq.contains n0) (wd call c aq (n0+1) r (zX ρ d t.1) t.2.1 (bE c.base wr (t.2.2.2.getD [])) (aVK n0 t.2.2.1 t.2.2.2 L ⟨⟩) ⟨⟩) (wd call c aq (n0+1) r (zX ρ d t.1) t.2.1 (bE c.base wr (t.2.2.2.getD [])) L ⟨⟩) ⟨⟩:=aRs
@[go_sem] theorem aYM{op:df}{t1:Nat}{b:Bool}{d:Option Nat}{t:Tg (call,c,aq,⟨d,op,QQ (QQ t1,b),p⟩::r,L)}:wd call c aq n0 (⟨d,op,QQ (QQ t1,b),p⟩::r) ρ H wr L t = bnd (aIn b (ρ t1)) fun w=>zF w (wd call c aq n0 (⟨d,op,N2,p⟩::r) ρ H wr L ⟨⟩) (wd call c aq (n0+1) r (zX ρ d (.tup [])) H wr L ⟨⟩) ⟨⟩:=by
 conv=>lhs;unfold wd wpD
 simp only[zE];cases ht:ρ t1<;>try rfl
 rotate_left
 ·rename_i vs;cases vs<;>rfl
 rename_i b';simp only[aIn,bnd,aCi];cases hb:(b'==b)with
 |false=>rfl
 |true=>
  simp only[zF];rw[aRs];cases oB call (c.site d) ρ H op with
  |none=>rfl
  |some v=>cases hk:aq.contains n0<;>rfl
def oD(H:LO):Out->Option (AV×LO×LN×Option LN)
 |some (v,H',w)=>if H'.length=H.length then QQ (v,H',[],QQ w)else N2
 |none=>N2
@[go_sem] theorem aSU{v:AV}{H':LO}{w:LN}:oD H (QQ (v,H',w))=if H'.length=H.length then QQ (v,H',[],QQ w)else none:=(rfl)
@[go_sem] theorem aU1{f:aa}{xs:List aa}{s:Option Nat}:oB call s ρ H (.ee f xs)=oD H (iN call H s (f.at ρ) (xs.map (aa.at ρ))):=(rfl)
@[go_sem] theorem aU2{k:Nat}{x v:aa}{s:Option Nat}:oB call s ρ H (.store k x v)=oD H (aD0 call H ρ s (.store k x v)):=(rfl)
@[go_sem] theorem aU3{f:aa}{xs:List aa}{s:Option Nat}:oB call s ρ H (.dm f xs)=oD H (cX call H s (f.at ρ) (xs.map (aa.at ρ))):=(rfl)
@[go_sem] theorem aX7{k b:Nat}{x v:aa}{s:Option Nat}:oB call s ρ H (.app k b x v)=oD H (eX H s k b (x.at ρ) (v.at ρ)):=(rfl)
@[go_sem] theorem aU4{zs:LA}{id:Nat}:oB call (QQ id) ρ H (.alloc zs)=QQ (.ptr id ((H[id]?).elim 0 ah.ver) 0,H,[id],N2):=(rfl)
@[go_sem] theorem aX8{k n:Nat}{zs:LA}{ps:List (Nat×aa)}{id:Nat}:oB call (QQ id) ρ H (.bsl k zs n ps)=oD H (aD0 call H ρ (QQ id) (.bsl k zs n ps)):=(rfl)
@[go_sem] theorem aQW{k n:Nat}{zs:LA}{ps:List (Nat×aa)}:oB call N2 ρ H (.bsl k zs n ps)=match vA H ρ (.bsl k zs n ps)with
 |some v=>QQ (v,H,[],N2)
 |none=>none:=(rfl)
@[go_sem] theorem bGv{k n:Nat}{zs:LA}{x y:aa}:oB call N2 ρ H (.mks k n zs x y)=match vA H ρ (.mks k n zs x y)with
 |some v=>QQ (v,H,[],N2)
 |none=>none:=(rfl)
@[go_sem] theorem aU5{zs:LA}{id:Nat}:nB call (QQ id) QT ρ H (.alloc zs)=if id<H.length then QQ (.ptr id (bH H id) 0,make H id (.box · zs),[id])else none:=(rfl)
@[go_sem] theorem aX9{k:Nat}{x:aa}{id:Nat}:nB call (QQ id) QT ρ H (.box k x)=if id<H.length/\(x.at ρ).cells.length=k/\(x.at ρ).cells.all AV.ak then QQ (.ptr id (bH H id) 0,make H id (.box · (x.at ρ).cells),[id])else none:=(rfl)
@[go_sem] theorem aQX{k:Nat}{x:aa}:nB call N2 QT ρ H (.box k x)=if (x.at ρ).strip.cells.length=k/\(x.at ρ).strip.cells.all AV.still then QQ (.ep (x.at ρ).strip.cells 0,H,[])else none:=by unfold nB;rw[Zx (by simp[isW])];unfold vA;dsimp only;grind
end
section
variable {A:af}{N:Nat}{c:Ctx}{ρ:bN}{H:LO}{wr:LN}{Q:bf->bN->LO->LN->Prop}{a b:ag}
def aNW(A:af)(N:Nat)(c:Ctx)(b:ag)(Q:bf->bN->LO->LN->Prop)(tg:Tg (A,N,c,b,Q)):bf->bN->LO->LN->Prop:=fun e ρ H wr=>match e with
 |.normal=>wpc A N c b ρ H wr Q
 |e=>Q e ρ H wr
def pP(id:Nat)(Q:bf->bN->LO->LN->Prop)(tg:Tg Q):bf->bN->LO->LN->Prop:=fun e ρ H wr=>match e with
 |.exit id'=>if id'=id then Q .normal ρ H wr else Q (.exit id') ρ H wr
 |e=>Q e ρ H wr
def bHU(A:af)(N:Nat)(c:Ctx)(b:ag)(Q:bf->bN->LO->LN->Prop)(tg:Tg (A,N,c,b,Q)):bf->bN->LO->LN->Prop:=fun e ρ H wr=>match e with
 |.normal=>Wp A N c (.loop b) ρ H wr Q
 |e=>Q e ρ H wr
def aGk(ops:List ae)(Q:bN->LO->LN->Prop)(tg:Tg (ops,Q)):bN->LO->LN->Log->Prop:=fun ρ H wr log=>eH (fun j=>((ops[j]?).map ae.pre).getD []) log=QS/\Q ρ H wr
@[go_sem] theorem bAm{t:Tg (A,N,c,ag.skip,Q)}:wc A N c .skip ρ H wr Q t=Q .normal ρ H wr:=(rfl)
@[go_sem] theorem aXa{ops:List ae}{t:Tg (A,N,c,ag.region QT ops,Q)}:wc A N c (.region QT ops) ρ H wr Q t=wo (aG A) c ops ρ H wr (Q .normal) ⟨⟩:=(rfl)
@[go_sem] theorem bBR{t:Tg (A,N,c,ag.seq a b,Q)}:wc A N c (.seq a b) ρ H wr Q t=wc A N c a ρ H wr (aNW A N c b Q ⟨⟩) ⟨⟩:=(rfl)
@[go_sem] theorem bAn{x:aa}{t:Tg (A,N,c,ag.cond x a b,Q)}:wc A N c (.cond x a b) ρ H wr Q t=bnd (aST (x.at ρ)) fun v=>zF v (wc A N c a ρ H wr Q ⟨⟩) (wc A N c b ρ H wr Q ⟨⟩) ⟨⟩:=by
 unfold wc;rw[wpc];cases x.at ρ<;>try rfl
 rename_i v;cases v<;>rfl
@[go_sem] theorem aYN{id:Nat}{t:Tg (A,N,c,ag.block id a,Q)}:wc A N c (.block id a) ρ H wr Q t=wc A N c a ρ H wr (pP id Q ⟨⟩) ⟨⟩:=(rfl)
@[go_sem] theorem bAo{t:Tg (A,N,c,ag.loop a,Q)}:wc A N c (.loop a) ρ H wr Q t=wl A N c a ρ H wr Q ⟨⟩:=(rfl)
@[go_sem] theorem bAp{id:Nat}{t:Tg (A,N,c,ag.exit id,Q)}:wc A N c (.exit id) ρ H wr Q t=Q (.exit id) ρ H wr:=(rfl)
@[go_sem] theorem bBS{t:Tg (A,N,c,ag.ret,Q)}:wc A N c .ret ρ H wr Q t=Q .ret ρ H wr:=(rfl)
@[go_sem] theorem bBT{ts:List (Nat×Nat)}{t:Tg (A,N,c,ag.frz ts,Q)}:wc A N c (.frz ts) ρ H wr Q t=wfz c ts ρ H wr (Q .normal) ⟨⟩:=(rfl)
theorem aU6{ops:List ae}{t:Tg (A,N,c,ag.region QS ops,Q)}{H0:LO}{aq:LN}(h:cS c H ops=QQ H0)(hk:aBH c ops=aq):wc A N c (.region QS ops) ρ H wr Q t=wd (aG A) c aq 0 ops ρ H0 wr (aGk ops (Q .normal) ⟨⟩) ⟨⟩:=by subst hk;unfold wc wd;rw[wpc,h];rfl
theorem aY{ops:List ae}{t:Tg (A,N,c,ag.region QS ops,Q)}{H0:LO}{aq:LN}(h:cS c H ops=QQ H0)(hk:aBH c ops=aq) (hw:wd (aG A) c aq 0 ops ρ H0 wr (aGk ops (Q .normal) ⟨⟩) ⟨⟩):wc A N c (.region QS ops) ρ H wr Q t:=by rw[aU6 h hk];exact hw
@[go_sem] theorem aSV{t:Tg (A,N,c,b,Q)}:aNW A N c b Q t .normal ρ H wr=wc A N c b ρ H wr Q ⟨⟩:=(rfl)
@[go_sem] theorem aXb{t:Tg (A,N,c,b,Q)}:aNW A N c b Q t .ret ρ H wr=Q .ret ρ H wr:=(rfl)
@[go_sem] theorem aVM{t:Tg (A,N,c,b,Q)}{id:Nat}:aNW A N c b Q t (.exit id) ρ H wr=Q (.exit id) ρ H wr:=(rfl)
@[go_sem] theorem aRt{t:Tg Q}{id:Nat}:pP id Q t .normal ρ H wr=Q .normal ρ H wr:=(rfl)
@[go_sem] theorem aVN{t:Tg Q}{id:Nat}:pP id Q t .ret ρ H wr=Q .ret ρ H wr:=(rfl)
@[go_sem] theorem aU7{t:Tg Q}{id:Nat}:pP id Q t (.exit id) ρ H wr=Q .normal ρ H wr:=by unfold pP;grind
@[go_sem] theorem bHP{t:Tg (A,N,c,b,Q)}{id:Nat}:bHU A N c b Q t (.exit id) ρ H wr=Q (.exit id) ρ H wr:=(rfl)
theorem bG9{t:Tg (A,N,c,a,Q)}(hok:dK N c a=QS)(h:wc A N c a ρ H wr (bHU A N c a Q ⟨⟩) ⟨⟩):wl A N c a ρ H wr Q t:=Wp.loop hok h
theorem aL{ops:List ae}{K:bN->LO->LN->Prop}{t:Tg (ops,K)}{log:Log}(h:eH (fun j=>((ops[j]?).map ae.pre).getD []) log=QS):aGk ops K t ρ H wr log=K ρ H wr:=by unfold aGk;grind
@[go_sem] theorem aU8{ops:List ae}{K:bN->LO->LN->Prop}{t:Tg (ops,K)}:aGk ops K t ρ H wr []=K ρ H wr:=aL rfl
@[go_sem] theorem bAq{K:bN->LO->LN->Prop}{t:Tg (c,[],K)}:wfz c [] ρ H wr K t=K ρ H wr:=(rfl)
@[go_sem] theorem aYO{K:bN->LO->LN->Prop}{s:Nat}{r:List (Nat×Nat)}{t:Tg (c,(0,s)::r,K)}:wfz c ((0,s)::r) ρ H wr K t=bnd (aVH H (ρ s)) fun x=>wfz c r (upd ρ s x.1) x.2.1 (bE c.base wr x.2.2) K ⟨⟩:=by
 unfold wfz
 conv=>lhs;unfold aD5
 cases aVH H (ρ s)<;>rfl
@[go_sem] theorem aU9{o v off:Nat}:pE H (.ptr o v off)=none:=(rfl)
@[go_sem] theorem aVO{o v n k i off:Nat}:pE H (.vp o v n k i off)=none:=(rfl)
@[go_sem] theorem aXc{K:bN->LO->LN->Prop}{k s:Nat}{r:List (Nat×Nat)}{t:Tg (c,(k+1,s)::r,K)}:wfz c ((k+1,s)::r) ρ H wr K t = bnd (QQ (ρ s).iy) fun b=>zF b (wfz c r ρ H wr K ⟨⟩) (bnd (aD4 H (k+1) (ρ s)) fun x=>wfz c r ρ x.1 (bE c.base wr x.2) K ⟨⟩) ⟨⟩:=by
 unfold wfz
 conv=>lhs;unfold aD5
 cases hu:(ρ s).iy with
 |true=>simp[bnd,zF,aCi]
 |false=>simp only[bnd,zF,aCi,BX,Zu];grind
end
@[go_sem] theorem bBU{ρ:bN}{t:Nat}:(aa.tmp t).at ρ=ρ t:=(rfl)
@[go_sem] theorem aYP{ρ:bN}{v:AV}:(aa.const v).at ρ=v:=(rfl)
@[go_sem] theorem aYQ{ρ:bN}{d:Nat}{v:AV}:upd ρ d v d=v:=by unfold upd;grind
theorem aAk{ρ:bN}{d t:Nat}{v:AV}(h:t≠d):upd ρ d v t=ρ t:=by unfold upd;rw[Zx h]
@[go_sem] theorem aVP{ρ:bN}{d t:Nat}{v:AV}(h:(t==d)=QT):upd ρ d v t=ρ t:=aAk (by simpa using h)
@[go_sem] theorem aXd{ρ:bN}{d:Nat}{v:AV}:zX ρ (QQ d) v=upd ρ d v:=(rfl)
@[go_sem] theorem aXe{ρ:bN}{v:AV}:zX ρ N2 v=ρ:=(rfl)
@[go_sem] theorem aUa{b:Bool}:AV.ak (.bool b)=true:=(rfl)
@[go_sem] theorem aXf{b:Bool}:AV.atom (.bool b)=true:=(rfl)
@[go_sem] theorem aUb{b:Bool}:AV.atomic (.bool b)=AV.atom (.bool b):=(rfl)
@[go_sem] theorem aVQ{b:Bool}:AV.strip (.bool b)=(.bool b):=(rfl)
@[go_sem] theorem aVR{b:Bool}:AV.cells (.bool b)=[(.bool b)]:=(rfl)
@[go_sem] theorem aXg{H:LO}{b:Bool}:dw H (.bool b)=QQ ((.bool b),[]):=(rfl)
@[go_sem] theorem aXh{k:DK}{n:Int}:AV.still (.int k n)=true:=(rfl)
@[go_sem] theorem aVS{k:DK}{n:Int}:AV.ak (.int k n)=true:=(rfl)
@[go_sem] theorem aVT{k:DK}{n:Int}:AV.aj (.int k n)=(.int k n):=(rfl)
@[go_sem] theorem aXi{k:DK}{n:Int}:AV.strip (.int k n)=(.int k n):=(rfl)
@[go_sem] theorem aXj{k:DK}{n:Int}:AV.cells (.int k n)=[(.int k n)]:=(rfl)
@[go_sem] theorem aXk{H:LO}{k:DK}{n:Int}:aA2 H (.int k n)=QQ ((.int k n),[]):=(rfl)
@[go_sem] theorem aYR{H:LO}{k:DK}{n:Int}:dw H (.int k n)=QQ ((.int k n),[]):=(rfl)
@[go_sem] theorem aXl{l:List UInt8}:AV.still (.str l)=true:=(rfl)
@[go_sem] theorem aVU{l:List UInt8}:AV.ak (.str l)=true:=(rfl)
@[go_sem] theorem aYS{l:List UInt8}:AV.atom (.str l)=true:=(rfl)
@[go_sem] theorem aVV{l:List UInt8}:AV.atomic (.str l)=AV.atom (.str l):=(rfl)
@[go_sem] theorem aVW{l:List UInt8}:AV.aj (.str l)=(.str l):=(rfl)
@[go_sem] theorem aXm{l:List UInt8}:AV.strip (.str l)=(.str l):=(rfl)
@[go_sem] theorem aXn{l:List UInt8}:AV.cells (.str l)=[(.str l)]:=(rfl)
@[go_sem] theorem aXo{H:LO}{l:List UInt8}:aA2 H (.str l)=QQ ((.str l),[]):=(rfl)
@[go_sem] theorem aYT{H:LO}{l:List UInt8}:dw H (.str l)=QQ ((.str l),[]):=(rfl)
@[go_sem] theorem aYU{f:Nat}{a c:LA}:AV.still (.fn f a c)=true:=(rfl)
@[go_sem] theorem aXp{f:Nat}{a c:LA}:AV.ak (.fn f a c)=true:=(rfl)
@[go_sem] theorem aXq{f:Nat}{a c:LA}:AV.aj (.fn f a c)=(.fn f a c):=(rfl)
@[go_sem] theorem aYV{f:Nat}{a c:LA}:AV.strip (.fn f a c)=(.fn f a c):=(rfl)
@[go_sem] theorem aYW{f:Nat}{a c:LA}:AV.cells (.fn f a c)=[(.fn f a c)]:=(rfl)
@[go_sem] theorem aYX{H:LO}{f:Nat}{a c:LA}:aA2 H (.fn f a c)=QQ ((.fn f a c),[]):=(rfl)
@[go_sem] theorem bAr{H:LO}{f:Nat}{a c:LA}:dw H (.fn f a c)=QQ ((.fn f a c),[]):=(rfl)
@[go_sem] theorem aXr{o v off:Nat}:AV.still (.ptr o v off)=true:=(rfl)
@[go_sem] theorem aVX{o v off:Nat}:AV.ak (.ptr o v off)=true:=(rfl)
@[go_sem] theorem aUc{o v off:Nat}:AV.iy (.ptr o v off)=false:=(rfl)
@[go_sem] theorem aVY{o v off:Nat}:AV.aj (.ptr o v off)=(.ptr o v off):=(rfl)
@[go_sem] theorem aXs{o v off:Nat}:AV.strip (.ptr o v off)=(.ptr o v off):=(rfl)
@[go_sem] theorem aXt{o v off:Nat}:AV.cells (.ptr o v off)=[(.ptr o v off)]:=(rfl)
@[go_sem] theorem aYY{H:LO}{o v off:Nat}:dw H (.ptr o v off)=QQ ((.ptr o v off),[]):=(rfl)
@[go_sem] theorem aVZ{o v n k i off:Nat}:AV.iy (.vp o v n k i off)=false:=(rfl)
@[go_sem] theorem aRu  : AV.ak .nilPtr=true:=(rfl)
@[go_sem] theorem aYZ{row:LA}{off:Nat}:AV.still (.ep row off)=true:=(rfl)
@[go_sem] theorem aXu{row:LA}{off:Nat}:AV.aj (.ep row off)=(.ep row off):=(rfl)
@[go_sem] theorem aZ0{row:LA}{off:Nat}:AV.strip (.ep row off)=(.ep row off):=(rfl)
@[go_sem] theorem bAs{H:LO}{row:LA}{off:Nat}:dw H (.ep row off)=QQ ((.ep row off),[]):=(rfl)
@[go_sem] theorem aZ1{f:Bool}{rows:List LA}:AV.still (.sl f rows)=true:=(rfl)
@[go_sem] theorem aXv{f:Bool}{rows:List LA}:AV.ak (.sl f rows)=true:=(rfl)
@[go_sem] theorem aXw{f:Bool}{rows:List LA}:AV.aj (.sl f rows)=(.sl QT rows):=(rfl)
@[go_sem] theorem aZ2{f:Bool}{rows:List LA}:AV.strip (.sl f rows)=(.sl QT rows):=(rfl)
@[go_sem] theorem aZ3{f:Bool}{rows:List LA}:AV.cells (.sl f rows)=[(.sl f rows)]:=(rfl)
@[go_sem] theorem aZ4{H:LO}{f:Bool}{rows:List LA}:aA2 H (.sl f rows)=QQ ((.sl f rows),[]):=(rfl)
@[go_sem] theorem bAt{H:LO}{f:Bool}{rows:List LA}:dw H (.sl f rows)=QQ ((.sl f rows),[]):=(rfl)
@[go_sem] theorem aXx{o v n:Nat}:AV.ak (.sr o v n)=true:=(rfl)
@[go_sem] theorem aXy{o v n:Nat}:AV.aj (.sr o v n)=(.sr o v n):=(rfl)
@[go_sem] theorem aZ5{o v n:Nat}:AV.cells (.sr o v n)=[(.sr o v n)]:=(rfl)
@[go_sem] theorem bAu{H:LO}{o v n:Nat}:dw H (.sr o v n)=aA2 H (.sr o v n):=(rfl)
@[go_sem] theorem aSW  : AV.ak .ar=true:=(rfl)
@[go_sem] theorem aUd  : AV.strip .ar=.ar:=(rfl)
@[go_sem] theorem aUe  : AV.cells .ar=[.ar]:=(rfl)
@[go_sem] theorem aW0{H:LO}  : dw H .ar=QQ (.ar,[]):=(rfl)
@[go_sem] theorem aRv  : AV.ak .bj=true:=(rfl)
@[go_sem] theorem aSX  : AV.strip .bj=.bj:=(rfl)
@[go_sem] theorem aUf{H:LO}  : dw H .bj=QQ (.bj,[]):=(rfl)
@[go_sem] theorem aW1{t:Nat}{x:AV}:AV.ak (.ifc t x)=true:=(rfl)
@[go_sem] theorem aXz{t:Nat}{x:AV}:AV.cells (.ifc t x)=[(.ifc t x)]:=(rfl)
@[go_sem] theorem aXA{cs:LA}:AV.cells (.agg cs)=cs:=(rfl)
@[go_sem] theorem aRw  : AV.iy .undef=true:=(rfl)
@[go_sem] theorem aXB{cs:LA}:AV.strip (.agg cs)=.agg (cs.map AV.aj):=(rfl)
@[go_sem] theorem aZ6{H:LO}{o v n:Nat}:aA2 H (.sr o v n)=match H[o]? with
  |some (.vec v' _ rows)=>if v'=v/\rows.length=n/\rows.all (fun r=>r.all AV.still)then QQ (.sl QT rows,[o])else N2
  |_=>none:=(rfl)
@[go_sem] theorem aRx{H:LO}{cs:LA}:dw H (.agg cs)=match aIQ H cs with
  |some (cs',l)=>QQ (.agg cs',l)
  |none=>none:=(rfl)
attribute [go_sem] aIQ kA dL fix
@[go_sem] theorem aUg{cs:LA}:eD QS cs=QQ (.agg cs):=(rfl)
@[go_sem] theorem aUh{v:AV}:eD QT [v]=QQ v:=(rfl)
section
variable {k:DK}{a b:Int}{ek:vd}
@[go_sem] theorem bAv:kJ .add ek (.int k a) (.int k b)=QQ (.int k (k.wrap (a+b))):=by simp[kJ]
@[go_sem] theorem bAw:kJ .sub ek (.int k a) (.int k b)=QQ (.int k (k.wrap (a - b))):=by simp[kJ]
@[go_sem] theorem bAx:kJ .mul ek (.int k a) (.int k b)=QQ (.int k (k.wrap (a*b))):=by simp[kJ]
theorem aAl(h:b≠0):kJ .quo ek (.int k a) (.int k b)=QQ (.int k (k.wrap (a.tdiv b))):=by simp[kJ,h]
theorem tS(h:b≠0):kJ .rem ek (.int k a) (.int k b)=QQ (.int k (a.tmod b)):=by simp[kJ,h]
@[go_sem] theorem bAy:kJ .eql ek (.int k a) (.int k b)=QQ (.bool (a==b)):=by simp[kJ]
@[go_sem] theorem aUi:kJ .neq ek (.int k a) (.int k b)=QQ (.bool (a != b)):=by simp[kJ]
@[go_sem] theorem bAz:kJ .lss ek (.int k a) (.int k b)=QQ (.bool (decide (a<b))):=by simp[kJ]
@[go_sem] theorem bAA:kJ .leq ek (.int k a) (.int k b)=QQ (.bool (decide (a<=b))):=by simp[kJ]
@[go_sem] theorem bAB:kJ .gtr ek (.int k a) (.int k b)=QQ (.bool (decide (a>b))):=by simp[kJ]
@[go_sem] theorem bAC:kJ .geq ek (.int k a) (.int k b)=QQ (.bool (decide (a ≥ b))):=by simp[kJ]
end
section
variable {a b:List UInt8}{ek:vd}
theorem kE(h:a.length+b.length<=4611686018427387904):kJ .add ek (.str a) (.str b)=QQ (.str (a++b)):=by simp[kJ,h]
@[go_sem] theorem aZ7:kJ .eql ek (.str a) (.str b)=QQ (.bool (a==b)):=by simp[kJ]
@[go_sem] theorem aRy:kJ .neq ek (.str a) (.str b)=QQ (.bool (a != b)):=by simp[kJ]
@[go_sem] theorem bBV{b:Bool}:unV .not (.bool b)=QQ (.bool !b):=(rfl)
@[go_sem] theorem bBW{k:DK}{n:Int}:unV .neg (.int k n)=QQ (.int k (k.wrap (0 - n))):=(rfl)
end
theorem wrap_i64{n:Int}(h1 : -9223372036854775808<=n)(h2:n<=9223372036854775807):GA .i64 n=n:=by rw[PW];omega
theorem mgE{α β:Type}(f:α->β){l:List α}{i:Nat}(h:i<l.length):(l.map f)[i]? = QQ (f l[i]):=by grind
theorem wS{i:Nat}(h:i<4611686018427387904):AR.wrap ((i:Int)+1)=((i+1:Nat):Int):=by rw[wrap_i64 omT omT];omega
section
variable {H:LO}{L:LO}{i o:Nat}{x:ah}
@[go_sem] theorem bX:(H++L)[H.length+i]? = L[i]? := by grind
@[go_sem] theorem aBd:(H++L)[H.length]? = L[0]? := bX (i:=0)
@[go_sem] theorem eS:(H++L).set (H.length+i) x=H++L.set i x:=by grind
@[go_sem] theorem aBe:(H++L).set H.length x=H++L.set 0 x:=eS (i:=0)
theorem eK(h:o<H.length):(H++L)[o]? = H[o]? := BM h
theorem fN(h:o<H.length):(H++L).set o x=H.set o x++L:=List.set_append_left _ _ h
@[go_sem] theorem aD8:(H++L).take H.length=H:=List.take_left ..
theorem aR{y:ah}(h:o<H.length):(H.set o x++L).set o y=H.set o y++L:=by simp_all
theorem aP(h:o<H.length):(H.set o x++L)[o]? = QQ x:=by grind
@[go_sem] theorem aPr:(H.set o x++L)[H.length+i]? = L[i]? := by grind
@[go_sem] theorem aW2:(H.set o x++L)[H.length]? = L[0]? := aPr (i:=0)
@[go_sem] theorem aPs{y:ah}:(H.set o x++L).set (H.length+i) y=H.set o x++L.set i y:=by grind
@[go_sem] theorem aW3{y:ah}:(H.set o x++L).set H.length y=H.set o x++L.set 0 y:=aPs (i:=0)
@[go_sem] theorem aW4:(H.set o x++L).take H.length=H.set o x:=by grind
@[go_sem] theorem aZ8:(H.set o x).take H.length=H.set o x:=by grind [DM,CP]
theorem sV{mk:Nat->ah}:make (H++L) (H.length+i) mk=H++L.set i (mk ((L[i]?).elim 0 ah.ver+1)):=by unfold make;grind
attribute [go_sem] make bH
@[go_sem] theorem aZ9{v:Nat}:ah.ver (.gone v)=v:=(rfl)
@[go_sem] theorem bAD{v:Nat}{cs:LA}:ah.ver (.box v cs)=v:=(rfl)
@[go_sem] theorem bAE{v k:Nat}{rows:List LA}:ah.ver (.vec v k rows)=v:=(rfl)
@[go_sem] theorem vN{b:Nat}{wr:LN}:bE b wr []=wr:=(rfl)
@[go_sem] theorem aKs{b i:Nat}{wr r:LN}:bE b wr ((b+i)::r)=bE b wr r:=by
 conv=>lhs;unfold bE
 grind
@[go_sem] theorem nJ{b o:Nat}{r:LN}(h1:o<b):bE b [] (o::r)=bE b [o] r:=by
 conv=>lhs;unfold bE
 grind
@[go_sem] theorem aPt{b o:Nat}{r:LN}:bE b [o] (o::r)=bE b [o] r:=by
 conv=>lhs;unfold bE
 grind
@[go_sem] theorem aW5{b:Nat}{wr r:LN}:bE b wr (b::r)=bE b wr r:=aKs (i:=0)
end
def aW6:AV->Option AV
 |.sl _ rows=>QQ (.int .i64 rows.length)
 |.sr _ _ n=>QQ (.int .i64 n)
 |.ar=>QQ (.int .i64 0)
 |_=>N2
@[go_sem] theorem bAF{f:Bool}{rows:List LA}:aW6 (.sl f rows)=QQ (.int .i64 rows.length):=(rfl)
@[go_sem] theorem aZa:aW6 .ar=QQ (.int .i64 0):=(rfl)
@[go_sem] theorem bAG{o v n:Nat}:aW6 (.sr o v n)=QQ (.int .i64 n):=(rfl)
section
variable {H:LO}{ρ:bN}{call:Nat->LA->LO->Out}{site:Option Nat}
@[go_sem] theorem aZb{x:aa}:vA H ρ (.mov x)=(QQ (x.at ρ)):=(rfl)
@[go_sem] theorem aXC{c:aa}{a:aa}{b:aa}:vA H ρ (.pick c a b)=(match c.at ρ with
  |.bool t=>QQ (if t then a.at ρ else b.at ρ)
  |_=>N2):=(rfl)
@[go_sem] theorem aW7{zs:LA}{parts:List (Nat×Nat×aa)}:vA H ρ (.build zs parts)=((mK ρ zs parts).map .agg):=(rfl)
@[go_sem] theorem aZc{k:Nat}{zs:LA}{n:Nat}{parts:List (Nat×aa)}:vA H ρ (.bsl k zs n parts)=((nZ ρ k (AX n zs) parts).map (.sl QS)):=(rfl)
@[go_sem] theorem aZd{u0:Nat}{bytes:Nat}{zs:LA}{len:aa}{cap:aa}:vA H ρ (.mks u0 bytes zs len cap)=(match len.at ρ,cap.at ρ with
  |.int _ n,.int _ c=>if 0<=n/\n=c/\bP n.toNat bytes then QQ (.sl QS (AX n.toNat (zs.map AV.aj)))else N2
  |_,_=>N2):=(rfl)
@[go_sem] theorem aXD{k:Nat}{agg:Bool}{x:aa}:vA H ρ (.load k agg x)=(match bC H k (x.at ρ)with
  |some cs=>eD agg cs
  |none=>N2):=(rfl)
@[go_sem] theorem aW8{x:aa}:vA H ρ (.cz x)=(match x.at ρ with
  |.ptr o v off=>QQ (.ptr o v off)
  |.vp o v n k i off=>QQ (.vp o v n k i off)
  |.ep row off=>QQ (.ep row off)
  |.fn f a b=>QQ (.fn f a b)
  |_=>N2):=(rfl)
@[go_sem] theorem aW9{neg:Bool}{x:aa}:vA H ρ (.ky neg x)=(match x.at ρ with
  |.sl _ (_::_) | .sr ..=>QQ (.bool neg)
  |.ar=>QQ (.bool !neg)
  |_=>N2):=(rfl)
@[go_sem] theorem aZe{op:MZ}{ek:vd}{x:aa}{y:aa}:vA H ρ (.bin op ek x y)=(kJ op ek (x.at ρ) (y.at ρ)):=(rfl)
@[go_sem] theorem bAH{op:UnOp}{x:aa}:vA H ρ (.un op x)=(unV op (x.at ρ)):=(rfl)
@[go_sem] theorem aXE{c:tm}{x:aa}:vA H ρ (.conv c x)=(pT H c (x.at ρ)):=(rfl)
@[go_sem] theorem aZf{f:Nat}{first:List aa}{ay:List aa}:vA H ρ (.mkf f first ay)=(if (first.map (aa.at ρ)).all AV.still&&(ay.map (aa.at ρ)).all AV.still then QQ (.fn f (first.map fun x=>(x.at ρ).aj) (ay.map fun x=>(x.at ρ).aj))else N2):=(rfl)
@[go_sem] theorem aUj{x:aa}{lo:Option aa}{hi:Option aa}:vA H ρ (.fm x lo hi)=(match x.at ρ with
  |.str s=>match dU s.length (lo.map (aa.at ρ)) (hi.map (aa.at ρ)) N2 with
   |some (l,h,_)=>QQ (.str ((s.take h).drop l))
   |none=>N2
  |_=>N2):=(rfl)
@[go_sem] theorem aUk{k:Nat}{x:aa}{lo:Option aa}{hi:Option aa}{mx:Option aa}:vA H ρ (.gw k x lo hi mx)=(match x.at ρ with
  |.sl full rows=>match dU rows.length (lo.map (aa.at ρ)) (hi.map (aa.at ρ)) (mx.map (aa.at ρ))with
   |some (l,h,m)=>if dF k rows&&(!mx.isSome || hi.isSome)then QQ (.sl (decide (m=h)&&(mx.isSome || full)) ((rows.take h).drop l))else N2
   |none=>N2
  |.sr o v n=>if mx.isSome then N2 else match dU n (lo.map (aa.at ρ)) (hi.map (aa.at ρ)) N2 with
   |some (l,h,_)=>if hi.isSome&&decide (l=0)then QQ (.srw o v n h)else if h=n then QQ (.srv o v n k l)else N2
   |none=>N2
  |_=>N2):=(rfl)
@[go_sem] theorem aXF{k:Nat}{x:aa}{lo:Option aa}:vA H ρ (.view k x lo)=(match x.at ρ with
  |.sl full rows=>match dU rows.length (lo.map (aa.at ρ)) N2 N2 with
   |some (l,h,m)=>if dF k rows then QQ (.sl (decide (m=h)&&full) ((rows.take h).drop l))else N2
   |none=>N2
  |.sr o v n=>match H[o]? with
   |some (.vec v' _ rows)=>if v'=v/\rows.length=n then match iL 0 n (lo.map (aa.at ρ))with
     |some l=>QQ (.srv o v n k l)
     |none=>N2
    else N2
   |_=>N2
  |_=>N2):=(rfl)
@[go_sem] theorem bAI{off:Nat}{x:aa}:vA H ρ (.fa off x)=(match x.at ρ with
  |.ptr o v off0=>QQ (.ptr o v (off0+off))
  |.vp o v n k i off0=>QQ (.vp o v n k i (off0+off))
  |.ep row off0=>QQ (.ep row (off0+off))
  |_=>N2):=(rfl)
@[go_sem] theorem aZg{off:Nat}{k:Nat}{agg:Bool}{x:aa}:vA H ρ (.fld off k agg x)=(match x.at ρ with
  |.agg cs=>if off+k<=cs.length then eD agg ((cs.drop off).take k)else N2
  |_=>N2):=(rfl)
@[go_sem] theorem aZh{x:aa}{i:aa}{k:Nat}:vA H ρ (.iaV x i k)=(match x.at ρ,i.at ρ with
  |.sl _ rows,.int _ n=>if 0<=n then match rows[n.toNat]? with
    |some row=>if row.length=k then QQ (.ep row 0)else N2
    |none=>N2
   else N2
  |.sr o v len,.int _ n=>if 0<=n/\n<len then QQ (.vp o v len k n.toNat 0)else N2
  |_,_=>N2):=(rfl)
@[go_sem] theorem aZi{len:Nat}{k:Nat}{x:aa}{i:aa}:vA H ρ (.iaA len k x i)=(match x.at ρ,i.at ρ with
  |.ptr o v off,.int _ n=>if 0<=n/\n<len then QQ (.ptr o v (off+n.toNat*k))else N2
  |.ep row off,.int _ n=>if 0<=n/\n<len then QQ (.ep row (off+n.toNat*k))else N2
  |_,_=>N2):=(rfl)
@[go_sem] theorem aZj{x:aa}{i:aa}:vA H ρ (.ixS x i)=(match x.at ρ,i.at ρ with
  |.str s,.int _ n=>if 0<=n then match s[n.toNat]? with
    |some b=>QQ (.int .u8 b.toNat)
    |none=>N2
   else N2
  |_,_=>N2):=(rfl)
@[go_sem] theorem aXG{x:aa}:vA H ρ (.fg x)=(match x.at ρ with
  |.str s=>QQ (.int .i64 s.length)
  |_=>N2):=(rfl)
@[go_sem] theorem aXH{x:aa}:vA H ρ (.qk x)=aW6 (x.at ρ):=by cases hx:x.at ρ<;>simp only[vA,aW6,hx]
@[go_sem] theorem bAJ{mx:Bool}{xs:List aa}:vA H ρ (.mm mx xs)=(mmV mx (xs.map (aa.at ρ))):=(rfl)
@[go_sem] theorem aZk{i:Nat}{x:aa}:vA H ρ (.ext i x)=(match x.at ρ with
  |.tup vs=>vs[i]?
  |_=>N2):=(rfl)
@[go_sem] theorem aWa{t:Nat}{x:aa}:vA H ρ (.km t x)=(if (x.at ρ).tn then QQ (.ifc t (x.at ρ))else N2):=(rfl)
@[go_sem] theorem aXI{zero:AV}{m:aa}{k:aa}{ok:Bool}:vA H ρ (.look zero m k ok)=(match m.at ρ with
  |.mp o v=>match H[o]? with
   |some (.map v' es)=>if v'=v then
     match iB (k.at ρ) es 0 with
     |some (QQ (_,x))=>if ok then QQ (.tup [x,.bool QS])else QQ x
     |some N2=>if ok then QQ (.tup [zero,.bool QT])else QQ zero
     |none=>N2
    else N2
   |_=>N2
  |.fmp ks vs=>match iB (k.at ρ) (ks.zip vs) 0 with
   |some (QQ (_,x))=>if ok then QQ (.tup [x,.bool QS])else QQ x
   |some N2=>if ok then QQ (.tup [zero,.bool QT])else QQ zero
   |none=>N2
  |_=>N2):=(rfl)
@[go_sem] theorem aWb{k:Nat}{x:aa}{v:aa}:aD0 call H ρ site (.store k x v)=(if (v.at ρ).cells.length=k/\(v.at ρ).cells.all AV.ak then match storeCells H (v.at ρ).cells (x.at ρ)with
   |some (H',wr)=>QQ (.undef,H',wr)
   |none=>N2
  else N2):=(rfl)
@[go_sem] theorem aZl{k:Nat}{zs:LA}{n:Nat}{parts:List (Nat×aa)}:aD0 call H ρ site (.bsl k zs n parts)=(match site with
  |some id=>match mM ρ k (AX n zs) parts with
   |some rows=>if id<H.length then QQ (.sr id (bH H id) n,make H id (.vec · k rows),[id])else N2
   |none=>N2
  |none=>match xC ρ k H (AX n zs) parts with
   |some (rows,H',wr)=>QQ (.sl QS rows,H',wr)
   |none=>N2):=(rfl)
@[go_sem] theorem aZm{k:Nat}{bytes:Nat}{zs:LA}{len:aa}{cap:aa}:aD0 call H ρ site (.mks k bytes zs len cap)=(match len.at ρ,cap.at ρ with
  |.int _ n,.int _ c=>
   if 0<=n/\n=c/\bP n.toNat bytes then
    match site with
    |some id=>if id<H.length then QQ (.sr id (bH H id) n.toNat,make H id (.vec · k (AX n.toNat (zs.map AV.aj))),[id])else N2
    |none=>QQ (.sl QS (AX n.toNat (zs.map AV.aj)),H,[])
   else match site with
    |some id=>if n=0/\0<c/\bP c.toNat bytes/\id<H.length then QQ (.sr id (bH H id) 0,make H id (.vec · k []),[id])else N2
    |none=>N2
  |_,_=>N2):=(rfl)
@[go_sem] theorem aXJ{tab:List (Nat×Nat)}{x:aa}{args:List aa}:aD0 call H ρ site (.nb tab x args)=(match x.at ρ with
  |.ifc t v=>match tab.lookup t with
   |some f=>cX call H site (.fn f [v] []) (args.map (aa.at ρ))
   |none=>N2
  |_=>N2):=(rfl)
@[go_sem] theorem aZn{k:Nat}{x:aa}{y:aa}:aD0 call H ρ site (.cpy k x y)=(match x.at ρ with
  |.srv o v n k' lo=>match H[o]? with
   |some (.vec v' k2 rows)=>match cG H (y.at ρ)with
    |some new=>if new.isEmpty then QQ (.int .i64 0,H,[])else if v'=v/\rows.length=n/\k2=k/\k'=k/\dF k new/\lo+new.length<=n then
      QQ (.int .i64 (new.length:Nat),H.set o (.vec v k (rows.take lo++new++rows.drop (lo+new.length))),[o])
     else N2
    |none=>N2
   |_=>N2
  |_=>N2):=(rfl)
@[go_sem] theorem aWc  : aD0 call H ρ site (.jn)=(match site with
  |some id=>if id<H.length then QQ (.mp id (bH H id),make H id (.map · []),[id])else N2
  |none=>N2):=(rfl)
@[go_sem] theorem aZo{m:aa}{k:aa}{v:aa}:aD0 call H ρ site (.ins m k v)=(match m.at ρ,k.at ρ with
  |.mp o ver,key=>match H[o]? with
   |some (.map v' es)=>
    if v'=ver/\(aJK key key).isSome/\(v.at ρ).strip.cells.all AV.still then
     match iB key es 0 with
     |some (QQ (i,_))=>QQ (.undef,H.set o (.map ver (es.set i (key,(v.at ρ).strip))),[o])
     |some N2=>QQ (.undef,H.set o (.map ver (es++[(key,(v.at ρ).strip)])),[o])
     |none=>N2
    else N2
   |_=>N2
  |_,_=>N2):=(rfl)
@[go_sem] theorem aWd{u0:Nat}{u1:Bool}{x:aa}:aCc ρ (.load u0 u1 x)=(match x.at ρ with
  |.ptr o _ _=>[o]
  |.vp o _ _ _ _ _=>[o]
  |_=>[]):=(rfl)
@[go_sem] theorem aOJ{k:DK}{x:aa}:aCc ρ (.conv (.toInt k) x)=[]:=(rfl)
@[go_sem] theorem aQY{x:aa}:aCc ρ (.conv .b2s x)=(match x.at ρ with
  |.sr o _ _=>[o]
  |.srv o _ _ _ _=>[o]
  |.srw o _ _ _=>[o]
  |_=>[]):=(rfl)
end
def aIo:LN->Nat->Nat->Option Nat | [],_,_=>N2 | t::ts,i,d=>if t=d then QQ i else aIo ts (i+1) d
theorem idxOf?_siteIn(d:Nat):∀(l:LN) (i:Nat),(l.idxOf? d).map (i + ·)=aIo l i d
 | [],i=>by simp[aIo]
 |t::ts,i=>by
  rw[List.idxOf?_cons];unfold aIo;by_cases h:t=d
  ·simp[h]
  have hb:(t==d)=false:=by simpa using h
  rw[Zx h,<- idxOf?_siteIn d ts (i+1),hb];cases ts.idxOf? d<;>simp<;>omega
@[go_sem] theorem aXK{b d:Nat}{l:LN}:Ctx.site ⟨b,l⟩ (QQ d)=(aIo l 0 d).map (b + ·):=by rw[<- idxOf?_siteIn];show (l.idxOf? d).map (b + ·)=_;simp_all
@[go_sem] theorem aXL{c:Ctx}:c.site N2=none:=(rfl)
attribute [go_sem] aIo
@[go_sem] theorem aUl{α β:Type}{f:α->β}{a:α}:(QQ a).map f=QQ (f a):=(rfl)
@[go_sem] theorem aUm{α β:Type}{f:α->β}:(N2:Option α).map f=none:=(rfl)
@[go_sem] theorem aSY{α β:Type}{b:β}{f:α->β}{a:α}:(QQ a).elim b f=f a:=(rfl)
attribute [go_sem] List.length_append Nat.add_lt_add_iff_left Nat.lt_add_right_iff_pos
theorem aEa(a b:Nat):(a==b)=decide (a=b):=rfl
@[go_sem] theorem bAK{x a b:Nat}:(x+a==x+b)=(a==b):=by grind
@[go_sem] theorem aZp{x a:Nat}:(x+a==x)=(a==0):=by grind
@[go_sem] theorem aZq{x a:Nat}:(x==x+a)=(0==a):=by grind
@[go_sem] theorem bBX:(QT==QS)=false:=(rfl)
@[go_sem] theorem bBY:(QS==QT)=false:=(rfl)
attribute [go_sem] Bool.false_eq_true
attribute [go_sem] Int.cast_ofNat_Int Int.lt_irrefl
attribute [go_sem] Int.natCast_nonneg Int.ofNat_lt Int.ofNat_le Int.toNat_natCast
@[go_sem] theorem aZr{H:LO}{site:Option Nat}{k bytes:Nat}{full:Bool}{rows:List LA}{x:AV}:eX H site k bytes (.sl full rows) x=(match cG H x with
 |none=>N2
 |some new=>
  if !dF k new then N2 else
   if new.isEmpty then QQ (.sl full rows,H,[])
   else if full&&dF k rows&&bP (rows.length+new.length) bytes then
    match site with
    |some id=>if id<H.length then QQ (.sr id (bH H id) (rows.length+new.length),make H id (.vec · k (rows++new)),[id])else N2
    |none=>N2
   else N2):=(rfl)
@[go_sem] theorem aZs{H:LO}{site:Option Nat}{k bytes o v n:Nat}{x:AV}:eX H site k bytes (.sr o v n) x=(match cG H x with
 |none=>N2
 |some new=>
  if !dF k new then N2 else
   match H[o]? with
   |some (.vec v' k' rows)=>
    if v'=v/\rows.length=n/\k'=k/\bP (n+new.length) bytes then
     if new.isEmpty then QQ (.sr o v n,H,[])else
     QQ (.sr o v (n+new.length),H.set o (.vec v k (rows++new)),[o])
    else N2
   |_=>N2):=(rfl)
@[go_sem] theorem aWe{k:Nat}:dF k []=true:=(rfl)
@[go_sem] theorem aCj{k:Nat}{r:LA}{rows:List LA}:dF k (r::rows)=(r.length==k):=(rfl)
attribute [go_sem] aJK iB bC storeCells cG dO nV aD4 aVH mK nZ mM xC mmV aEE mm2
attribute [go_sem] List.drop_zero List.drop_succ_cons List.drop_nil List.take_zero List.take_succ_cons List.take_nil List.getElem?_cons_zero List.getElem?_cons_succ List.getElem?_nil List.set_cons_zero List.set_cons_succ List.set_nil List.nil_append List.cons_append List.append_nil List.all_cons List.all_nil List.map_cons List.map_nil List.length_cons List.length_nil List.replicate_succ List.replicate_zero List.length_set List.length_map List.getElem?_set_self List.set_set List.take_length List.isEmpty_nil List.isEmpty_cons List.contains_cons List.contains_nil Bool.or_false Bool.false_or Bool.or_true Bool.true_or Option.getD_some Option.getD_none Nat.add_zero Nat.zero_add and_true true_and and_false false_and Zv Zu ite_true ite_false Bool.and_true Bool.true_and Bool.and_false Bool.false_and BT BF decide_true decide_false Zz NA NL ND
abbrev z0:AV:=.int .i64 0
abbrev yq3:LN:=[3,2,1,0]
abbrev yq4:LN:=4::yq3
abbrev yq5:LN:=5::yq4
abbrev yq6:LN:=6::yq5
abbrev yq7:LN:=7::yq6
abbrev yq8:LN:=8::yq7
abbrev yq9:LN:=9::yq8
abbrev bBZ:LN:=10::yq9
abbrev u:=aa.tmp
abbrev ui(n:Int):aa:=.const (.int .i64 n)
abbrev uc:=aa.const
abbrev uF:aa:=.const (.bool QT)
abbrev uT:aa:=.const (.bool QS)
abbrev uf(f:Nat):aa:=.const (.fn f [] [])
abbrev om(x:Nat):df:=.mov (.tmp x)
abbrev omc(v:AV):df:=.mov (.const v)
abbrev ol(k x:Nat):df:=.load k QT (.tmp x)
abbrev ola(k x:Nat):df:=.load k QS (.tmp x)
abbrev of(o x:Nat):df:=.fa o (.tmp x)
abbrev ob(o:MZ)(x y:Nat):df:=.bin o .no (.tmp x) (.tmp y)
abbrev obi(o:MZ)(x:Nat)(n:Int):df:=.bin o .no (.tmp x) (.const (.int .i64 n))
abbrev oi(x i k:Nat):df:=.iaV (.tmp x) (.tmp i) k
abbrev on(x:Nat):df:=.qk (.tmp x)
abbrev op(x y:Nat):df:=.pick (.tmp x) (.tmp y) (.const (.bool QT))
abbrev oa(k b x y:Nat):df:=.app k b (.tmp x) (.tmp y)
abbrev os(k x y:Nat):df:=.store k (.tmp x) (.tmp y)
abbrev oc(f:Nat)(l:List aa):df:=.dm (.const (.fn f [] [])) l
abbrev qq(d:Nat)(o:df):ae:=⟨QQ d,o,N2,[]⟩
abbrev qz(o:df):ae:=⟨N2,o,N2,[]⟩
abbrev qT(d g:Nat)(o:df):ae:=⟨QQ d,o,QQ (QQ g,QS),[]⟩
abbrev qF(d g:Nat)(o:df):ae:=⟨QQ d,o,QQ (QQ g,QT),[]⟩
abbrev qm(d x:Nat):ae:=⟨QQ d,.mov (.tmp x),N2,[]⟩
abbrev qmc(d:Nat)(v:AV):ae:=⟨QQ d,.mov (.const v),N2,[]⟩
abbrev ql(d k x:Nat):ae:=⟨QQ d,.load k QT (.tmp x),N2,[]⟩
abbrev qla(d k x:Nat):ae:=⟨QQ d,.load k QS (.tmp x),N2,[]⟩
abbrev qf(d o x:Nat):ae:=⟨QQ d,.fa o (.tmp x),N2,[]⟩
abbrev qb(d:Nat)(o:MZ)(x y:Nat):ae:=⟨QQ d,.bin o .no (.tmp x) (.tmp y),N2,[]⟩
abbrev qbi(d:Nat)(o:MZ)(x:Nat)(n:Int):ae:=⟨QQ d,.bin o .no (.tmp x) (.const (.int .i64 n)),N2,[]⟩
abbrev qi(d x i k:Nat):ae:=⟨QQ d,.iaV (.tmp x) (.tmp i) k,N2,[]⟩
abbrev qn(d x:Nat):ae:=⟨QQ d,.qk (.tmp x),N2,[]⟩
abbrev qx(d k x:Nat):ae:=⟨QQ d,.box k (.tmp x),N2,[]⟩
abbrev qp(d x y:Nat):ae:=⟨QQ d,.pick (.tmp x) (.tmp y) (.const (.bool QT)),N2,[]⟩
abbrev qa(d k b x y:Nat):ae:=⟨QQ d,.app k b (.tmp x) (.tmp y),N2,[]⟩
abbrev qs(k x y:Nat):ae:=⟨N2,.store k (.tmp x) (.tmp y),N2,[]⟩
abbrev qc(d f:Nat)(l:List aa):ae:=⟨QQ d,.dm (.const (.fn f [] [])) l,N2,[]⟩
abbrev qS(l:List ae)(c:ag):ag:=.seq (.region QT l) c
abbrev qR(l:List ae):ag:=.region QT l
abbrev qC(x:Nat)(a b:ag):ag:=.cond (.tmp x) a b
@[go_sem] theorem aWf{a:AV}{r:LA}:pO (a::r) 0=a:=(rfl)
@[go_sem] theorem aWg{a:AV}{r:LA}{n:Nat}:pO (a::r) (n+1)=pO r n:=(rfl)
@[go_sem] theorem aXM{n:Nat}:pO [] n=.undef:=(rfl)
attribute [go_sem] Option.isSome_some Option.isSome_none BT BF
mutual
def AV.data:AV->Bool
 |.bool _ | .int _ _ | .str _ | .bx | .nilPtr=>QS
 |.sl f rows => !f&&gG rows
 |.agg cs=>iX cs
 |_=>QT
def iX:LA->Bool
 | []=>QS
 |v::r=>v.ak&&v.data&&iX r
def gG:List LA->Bool
 | []=>QS
 |l::r=>iX l&&gG r
end
mutual
theorem aJa:∀{v:AV} {n:Nat},v.data=QS->v.under n=QS
 |.bool _,_,_ | .int _ _,_,_ | .str _,_,_ | .bx,_,_ | .nilPtr,_,_=>rfl
 |.sl f rows,n,h=>by
  simp only[AV.data,AI]at h;simp only[AV.under];exact aA h.2
 |.agg cs,n,h=>by
  simp only[AV.data]at h;simp only[AV.under];exact dC h
 |.undef,_,h | .fn ..,_,h | .ptr ..,_,h | .vp ..,_,h | .ep ..,_,h | .sr ..,_,h | .mp ..,_,h | .own ..,_,h | .tup ..,_,h=>by simp[AV.data]at h
theorem dC:∀{l:LA} {n:Nat},iX l=QS->dJ n l=QS
 | [],_,_=>rfl
 |v::r,n,h=>by
  simp only[iX,AI]at h;simp only[dJ,AI];exact⟨aJa h.1.2,dC h.2⟩
theorem aA:∀{l:List LA} {n:Nat},gG l=QS->eR n l=QS
 | [],_,_=>rfl
 |v::r,n,h=>by
  simp only[gG,AI]at h;simp only[eR,AI];exact⟨dC h.1,aA h.2⟩
end
theorem tT{v:AV}(h:v.data=QS):v.aj=v:=by
 cases v<;>try rfl
 rename_i f rows;simp only[AV.data,AI,Bool.not_eq_true']at h;rw[h.1];rfl
theorem aAm:∀{l:LA},iX l=QS->∀v∈l,v.data=QS/\v.ak=QS
 | [],_,v,hv=>by cases hv
 |a::r,h,v,hv=>by
  simp only[iX,AI]at h;rcases BD.1 hv with rfl | hv
  ·grind
  exact aAm h.2 v hv
theorem aK{l:LA}(h:iX l=QS):l.map AV.aj=l:=by
 conv=>rhs;rw[<- List.map_id l]
 grind [List.map_congr_left,tT,aAm]
theorem aJb{v:AV}(h:v.data=QS)(h2:v.ak=QS):v.still=true:=by cases v<;>first | rfl | exact Zw (show QT=QS from h2) ED | exact Zw (show QT=QS from h) ED
theorem bR{l:LA}(h:iX l=QS):l.all AV.still=true:=by grind [AO,aJb,aAm]
theorem bQ{l:LA}(h:iX l=QS):l.all AV.ak=true:=by rw[AO];intro v hv;exact (aAm h v hv).2
theorem aBf:∀{l:List LA},gG l=QS->∀v∈l,iX v=QS
 | [],_,v,hv=>by cases hv
 |a::r,h,v,hv=>by
  simp only[gG,AI]at h;rcases BD.1 hv with rfl | hv
  ·exact h.1
  exact aBf h.2 v hv
theorem aGl:∀{l:List LA},(∀v∈l,iX v=QS)->gG l=QS
 | [],_=>rfl
 |a::r,h=>by
  simp only[gG,AI];exact⟨h a List.mem_cons_self,aGl fun v hv=>h v (BZ _ hv)⟩
theorem aT{rows:List LA}(h:gG rows=QS):(rows.all fun r=>r.all AV.still)=true:=by grind [AO,bR,aBf]
theorem xH{H:LO}{v:AV}(h:v.data=QS)(h2:v.ak=QS):aA2 H v=QQ (v,[]):=by cases v<;>first | rfl | exact Zw (show QT=QS from h2) ED | exact Zw (show QT=QS from h) ED
theorem aS{H:LO}:∀{l:LA},iX l=QS->aIQ H l=QQ (l,[])
 | [],_=>rfl
 |v::r,h=>by
  simp only[iX,AI]at h;unfold aIQ;rw[xH h.1.2 h.1.1,aS h.2];rfl
theorem aEb{base:Nat}{v:AV}{H:LO}{wr:LN}(h:v.under base=QS)(h2:(wr.all fun o=>match H[o]? with | some x=>x.under base | none=>QS)=QS):cJ base (v,H,wr)=(v,H.take base,wr):=by unfold cJ;grind
@[go_sem] theorem xI{base o:Nat}{v:AV}{H:LO}{x:ah}(h:v.under base=QS)(h1:H[o]? = QQ x)(h2:x.under base=QS):cJ base (v,H,[o])=(v,H.take base,[o]):=
 aEb h (by grind)
@[go_sem] theorem aBg{n v:Nat}{cs:LA}:ah.under n (.box v cs)=dJ n cs:=(rfl)
@[go_sem] theorem aWh{n:Nat}{b:Bool}:AV.under n (.bool b)=true:=(rfl)
@[go_sem] theorem aPu{n:Nat}{k:DK}{i:Int}:AV.under n (.int k i)=true:=(rfl)
@[go_sem] theorem aXN{n:Nat}{l:List UInt8}:AV.under n (.str l)=true:=(rfl)
@[go_sem] theorem aZt{n:Nat}{f:Bool}{rows:List LA}:AV.under n (.sl f rows)=eR n rows:=(rfl)
@[go_sem] theorem aXO{n:Nat}{cs:LA}:AV.under n (.agg cs)=dJ n cs:=(rfl)
@[go_sem] theorem aXP{n:Nat}{cs:LA}:AV.under n (.tup cs)=dJ n cs:=(rfl)
@[go_sem] theorem aXQ{n k:Nat}{rows:List LA}:AV.under n (.own k rows)=eR n rows:=(rfl)
@[go_sem] theorem aNX{n:Nat}:dJ n []=true:=(rfl)
@[go_sem] theorem aLO{n:Nat}{v:AV}{r:LA}:dJ n (v::r)=(v.under n&&dJ n r):=(rfl)
@[go_sem] theorem aUn{n:Nat}:eR n []=true:=(rfl)
@[go_sem] theorem aSZ{n:Nat}{v:LA}{r:List LA}:eR n (v::r)=(dJ n v&&eR n r):=(rfl)
@[go_sem] theorem qQ{base:Nat}{v:AV}{H:LO}(h:v.under base=QS):cJ base (v,H,[])=(v,H.take base,[]):=by unfold cJ;grind
def aRz(base:Nat)(rs:List ou)(K:AV->LO->LN->Prop)(tg:Tg K):bf->bN->LO->LN->Prop:=aVI base rs K
section
variable {base:Nat}{ρ:bN}{H:LO}{wr:LN}{K:AV->LO->LN->Prop}{rs:List ou}
@[go_sem] theorem aZu{t:Tg K}:aRz base rs K t .ret ρ H wr=bnd (iE base rs ρ H wr) fun r=>bnd (QQ (cJ base r)) fun r=>K r.1 r.2.1 r.2.2:=by unfold aRz aVI;dsimp only;cases iE base rs ρ H wr<;>rfl
@[go_sem] theorem aUo{t:Tg K}:aRz base rs K t .normal ρ H wr=bnd (iE base rs ρ H wr) fun r=>bnd (QQ (cJ base r)) fun r=>K r.1 r.2.1 r.2.2:=by unfold aRz aVI;dsimp only;cases iE base rs ρ H wr<;>rfl
@[go_sem] theorem aUp{t:Nat}:iE base [.tmp t] ρ H wr=match aDR base H (ρ t)with
  |some (v',H',l)=>QQ (v',H',bE base wr l)
  |none=>none:=(rfl)
@[go_sem] theorem aT0{t k:Nat}{agg:Bool}:iE base [.cell t k agg] ρ H wr=match bC H k (ρ t)with
  |some cs=>match eD agg cs with
   |some v=>match aDR base H v with
    |some (v',H',l)=>QQ (v',H',bE base wr l)
    |none=>N2
   |none=>N2
  |none=>none:=by
 grind [iE,aEP,aNP,bC,eD]
@[go_sem] theorem aZv{k:DK}{n:Int}:aDR base H (.int k n)=QQ (.int k n,H,[]):=(rfl)
@[go_sem] theorem aXR{b:Bool}:aDR base H (.bool b)=QQ (.bool b,H,[]):=(rfl)
@[go_sem] theorem aZw{l:List UInt8}:aDR base H (.str l)=QQ (.str l,H,[]):=(rfl)
@[go_sem] theorem bAL{f:Bool}{rows:List LA}:aDR base H (.sl f rows)=QQ (.sl QT rows,H,[]):=(rfl)
@[go_sem] theorem aZx{cs:LA}:aDR base H (.agg cs)=fix H (.agg cs):=(rfl)
@[go_sem] theorem aUq{o v n:Nat}:aDR base H (.sr o v n)=if o<base then QQ (.sr o v n,H,[])else match H[o]? with
  |some (.vec v' k rows)=>if v'=v/\rows.length=n/\base<=o/\rows.all (fun r=>r.all AV.still)then QQ (.own k rows,dL H [o],[o])else N2
  |_=>none:=(rfl)
@[go_sem] theorem aT1{n i:Nat}:(n+i<n)=False:=siT
@[go_sem] theorem aRA{n:Nat}:(n<n)=False:=siT
attribute [go_sem] Nat.le_refl Nat.le_add_right
end
theorem kN{A:af}{f:Nat}{args:LA}{H:LO}{fn:bw}{K:AV->LO->LN->Prop}(hf:A.fn f=QQ fn)(hp:(A.bq f).bind (· args H)=N2) (hN:args.length<=fn.ntmps) (hok:dK fn.ntmps ⟨H.length,fn.sites⟩ fn.body=QS) (h:wc A fn.ntmps ⟨H.length,fn.sites⟩ fn.body (pO args) (H++AX fn.sites.length (.gone 0)) [] (aRz H.length fn.results K ⟨⟩) ⟨⟩):∃v H' wr,aG A f args H=QQ (v,H',wr)/\K v H' wr:=aE1 hf hp hN hok h
structure Has(A:af)(g:SN)(name:String)(fn:bw):Prop where
 fn:A.fn (g name)=QQ fn
 bq:A.bq (g name)=N2
theorem Has.call{A:af}{g:SN}{name:String}{fn:bw}(h:Has A g name fn){args:LA}{H:LO}{v:AV}{H':LO}{wr:LN} (hw:wc A fn.ntmps ⟨H.length,fn.sites⟩ fn.body (pO args) (H++AX fn.sites.length (.gone 0)) [] (aRz H.length fn.results (fun v' H'' ba=>v'=v/\H''=H'/\ba=wr) ⟨⟩) ⟨⟩) (hN:Nat.ble args.length fn.ntmps=true:=by kernel_rfl) (hok:dK fn.ntmps ⟨H.length,fn.sites⟩ fn.body=true:=by kernel_rfl):aG A (g name) args H=QQ (v,H',wr):=by obtain⟨v1,H1,dc,h1,rfl,rfl,rfl⟩:=aE1 (K:=fun v' H'' ba=>v'=v/\H''=H'/\ba=wr) h.fn (by rw[h.bq];rfl) (MN hN) hok hw;exact h1
theorem Has.bp{A:af}{g:SN}{name:String}{fn:bw}(h:Has A g name fn){args:LA}{H:LO}{K:AV->LO->LN->Prop} (hw:wc A fn.ntmps ⟨H.length,fn.sites⟩ fn.body (pO args) (H++AX fn.sites.length (.gone 0)) [] (aRz H.length fn.results K ⟨⟩) ⟨⟩) (hN:Nat.ble args.length fn.ntmps=true:=by kernel_rfl) (hok:dK fn.ntmps ⟨H.length,fn.sites⟩ fn.body=true:=by kernel_rfl):∃v H' wr,aG A (g name) args H=QQ (v,H',wr)/\K v H' wr:=aE1 h.fn (by rw[h.bq];rfl) (MN hN) hok hw
def dY(site:Option Nat)(quiet:Bool)(H:LO):Out->Out
 |none=>N2
 |some (v,H',wr)=>
  if quiet then
   match v with
   |.own k rows=>
    match site with
    |some id=>if id<H'.length then QQ (.sr id (bH H' id) rows.length,make H' id (.vec · k rows),if wr.contains id then wr else id::wr)else N2
    |none=>QQ (.sl QT rows,H',wr)
   |v=>QQ (v,H',wr)
  else if wr.isEmpty&&decide (H'.length=H.length)&&v.atomic then QQ (v,H,[])else N2
@[go_sem] theorem aHy{site:Option Nat}{q:Bool}{H:LO}{v:AV}{H':LO}{wr:LN}:dY site q H (QQ (v,H',wr))=(if q then match v with
   |.own k rows=>
    match site with
    |some id=>if id<H'.length then QQ (.sr id (bH H' id) rows.length,make H' id (.vec · k rows),if wr.contains id then wr else id::wr)else N2
    |none=>QQ (.sl QT rows,H',wr)
   |v=>QQ (v,H',wr)
  else if wr.isEmpty&&decide (H'.length=H.length)&&v.atomic then QQ (v,H,[])else N2):=(rfl)
@[go_sem] theorem aWi{call:Nat->LA->LO->Out}{H:LO}{site:Option Nat}{f:Nat}{first ay args:LA}:cX call H site (.fn f first ay) args = match kA H (first++args++ay)with
  |none=>N2
  |some (args',lent)=>dY site lent.isEmpty H (call f (args'.map AV.strip) (dL H lent)):=by
 show (match kA H (first++args++ay)with
  |none=>N2
  |some (args',lent)=>_)=_
 cases kA H (first++args++ay)with
 |none=>rfl
 |some p=>
  dsimp only;cases call f (p.1.map AV.strip) (dL H p.2)with
  |none=>rfl
  |some r=>obtain⟨v,H',wr⟩:=r;cases v<;>rfl
@[go_sem] theorem aWj{call:Nat->LA->LO->Out}{H:LO}{site:Option Nat}{f:Nat}{first ay args:LA}:iN call H site (.fn f first ay) args = dY site QS H (call f (first++args++ay) H):=by
 show (match call f (first++args++ay) H with
  |none=>N2
  |some (v,H',wr)=>_)=_
 cases call f (first++args++ay) H with
 |none=>rfl
 |some r=>obtain⟨v,H',wr⟩:=r;cases v<;>rfl
theorem aMV{A:af}{f:Nat}{args:LA}{H H2 H3:LO}{site:Option Nat}{q:Bool}{k:AV×LO×LN×Option LN->Prop}{tg}{R:AV->LO->LN->Prop} (h:∃v H' wr,aG A f args H=QQ (v,H',wr)/\R v H' wr) (hk:∀v H' wr,R v H' wr->bnd (oD H3 (dY site q H2 (QQ (v,H',wr)))) k):aCi (oD H3 (dY site q H2 (aG A f args H))) k tg:=by obtain⟨v,H',wr,h1,h2⟩:=h;rw[h1];exact hk v H' wr h2
def bIA(ops:List ae):LN:=ops.filterMap ae.dst
def xJ:ag->LN | .region _ ops=>bIA ops | .seq a b=>xJ a++xJ b | .cond _ a b=>xJ a++xJ b | .block _ b=>xJ b | .loop b=>xJ b | .frz ts=>ts.map GQ | _=>[]
def dZ(W:LN)(l l':LA):Prop:=∀t,W.contains t=QT->l'[t]? = l[t]?
theorem dZ.refl{W:LN}{l:LA}:dZ W l l:=fun _ _=>rfl
theorem dZ.trans{W:LN}{l l' l'':LA}(h1:dZ W l l')(h2:dZ W l' l''):dZ W l l'':=fun t ht=>(h2 t ht).trans (h1 t ht)
theorem dZ.sub{W W':LN}{l l':LA}(h:dZ W l l')(hs:∀t∈W,t∈W'):dZ W' l l':=fun t ht=>h t (by
 grind)
theorem pW{o:ae}{l:LA}{v:AV}:dZ (bIA [o]) l (bg l o.dst v):=by intro t ht;grind [bg,bIA,CL]
theorem xK{o:ae}{r:List ae}:bIA (o::r)=bIA [o]++bIA r:=by unfold bIA;grind
theorem aCk{call:Nat->LA->LO->Out}{c:Ctx}:∀{ops:List ae} {s s':gp},jL call c ops s=QQ s'->dZ (bIA ops) s.ρ s'.ρ
 | [],_,_,h=>by cases h;exact .refl
 |o::r,s,s',h=>by
  rw[xK];unfold jL at h;split at h
  ·split at h
   ·split at h
    ·rename_i v H' wr he;exact (pW.sub (l':=bg s.ρ o.dst v) fun t ht=>CZ _ ht).trans ((aCk h).sub fun t ht=>CX _ ht)
    cases h
   exact (pW.sub (l':=bg s.ρ o.dst (.tup [])) fun t ht=>CZ _ ht).trans ((aCk h).sub fun t ht=>CX _ ht)
  cases h
theorem aAn{call:Nat->LA->LO->Out}{c:Ctx}:∀{ops:List ae} {i:Nat} {s s':gp} {log:Log},nT call c i ops s=QQ (s',log)->dZ (bIA ops) s.ρ s'.ρ
 | [],_,_,_,_,h=>by cases h;exact .refl
 |o::r,i,s,s',log,h=>by
  rw[xK];unfold nT at h;split at h
  ·split at h
   ·split at h
    ·rename_i v H' rd wr he;split at h
     ·rename_i s1 log1 hr;cases h;exact (pW.sub (l':=bg s.ρ o.dst v) fun t ht=>CZ _ ht).trans ((aAn hr).sub fun t ht=>CX _ ht)
     cases h
    cases h
   exact (pW.sub (l':=bg s.ρ o.dst (.tup [])) fun t ht=>CZ _ ht).trans ((aAn h).sub fun t ht=>CX _ ht)
  cases h
theorem qU{c:Ctx}:∀{ts:List (Nat×Nat)} {s s':gp},nX c s ts=QQ s'->dZ (ts.map GQ) s.ρ s'.ρ
 | [],_,_,h=>by cases h;exact .refl
 | (k+1,t)::r,s,s',h=>by
  have hs:∀u∈r.map GQ,u∈((k+1,t)::r).map GQ:=fun u hu=>BZ _ hu;unfold nX at h;split at h
  ·exact (qU h).sub hs
  split at h
  ·exact (qU h).sub hs
  split at h
  ·split at h
   ·split at h
    ·exact (qU h).sub hs
    cases h
   cases h
  cases h
 | (0,t)::r,s,s',h=>by
  unfold nX at h;split at h
  ·rename_i v H' l hf;have h1:=(qU h).sub (W':=((0,t)::r).map GQ) fun u hu=>BZ _ hu;refine dZ.trans (fun u hu=>?_) h1;refine CL fun e=>?_;grind
  cases h
theorem eQ{A:af}:∀(n:Nat) (c:Ctx) (x:ag) (s:gp) e s',cY A n c x s=QQ (e,s')->dZ (xJ x) s.ρ s'.ρ
 |0,c,x,s,e,s',h=>by rw[gT]at h;cases h
 |n+1,c,x,s,e,s',h=>by
  cases x with
  |skip=>rw[xB]at h;cases h;exact .refl
  |bad=>rw[qG]at h;cases h
  |region d ops=>
   rw[iS]at h;split at h
   ·rename_i s1 hr;cases h;unfold iO at hr;split at hr
    ·split at hr
     ·split at hr
      ·rename_i hd;split at hr
       ·cases hr;have h9:=aAn hd;exact h9
       cases hr
      cases hr
     cases hr
    split at hr
    ·cases hr
    exact aCk hr
   cases h
  |seq a b=>
   have ha:∀t∈xJ a,t∈xJ (.seq a b):=fun t ht=>CZ _ ht;have hb:∀t∈xJ b,t∈xJ (.seq a b):=fun t ht=>CX _ ht;rw[iD]at h;split at h
   ·rename_i s1 hr;exact ((eQ n _ _ _ _ _ hr).sub ha).trans ((eQ n _ _ _ _ _ h).sub hb)
   exact (eQ n _ _ _ _ _ h).sub ha
  |cond t a b=>
   have ha:∀u∈xJ a,u∈xJ (.cond t a b):=fun t ht=>CZ _ ht;have hb:∀u∈xJ b,u∈xJ (.cond t a b):=fun t ht=>CX _ ht;rw[iT]at h;split at h
   ·exact (eQ n _ _ _ _ _ h).sub ha
   ·exact (eQ n _ _ _ _ _ h).sub hb
   cases h
  |block id b=>
   rw[eP]at h;show dZ (xJ b) _ _;split at h
   ·rename_i hr;split at h<;>(cases h;exact eQ n _ _ _ _ _ hr)
   exact eQ n _ _ _ _ _ h
  |loop b=>
   rw[gU]at h;show dZ (xJ b) _ _;split at h
   ·rename_i s1 hr;have h9:=eQ n _ _ _ _ _ h;exact dZ.trans (eQ n _ _ _ _ _ hr) h9
   exact eQ n _ _ _ _ _ h
  |exit id=>rw[aCb]at h;cases h;exact .refl
  |ret=>rw[aDZ]at h;cases h;exact .refl
  |frz ts=>
   rw[vI]at h;split at h
   ·rename_i s1 hr;cases h;exact qU hr
   cases h
  |dz x ps body=>
   rw[iU]at h;split at h
   ·split at h
    ·split at h
     ·split at h
      ·split at h
       ·cases h;exact .refl
       cases h
      cases h
     cases h
    cases h
   cases h
theorem dZ.ck{W:LN}{l l':LA}(h:dZ W l l'):∀t,W.contains t=QT->ck l' t=ck l t:=fun t ht=>by
 unfold Go.AM.ck;rw[h t ht]
theorem Wp.bm{A:af}{N:Nat}{c:Ctx}{x:ag}{ρ:bN}{H:LO}{wr:LN}{Q}(h:Wp A N c x ρ H wr Q):Wp A N c x ρ H wr fun e ρ' H' ba=>Q e ρ' H' ba/\∀t,(xJ x).contains t=QT->ρ' t=ρ t:=fun l hl he=>by
 obtain⟨n,e,s',h1,h2,h3⟩:=h l hl he;refine⟨n,e,s',h1,h2,h3,fun t ht=>?_⟩;rw[<- he];exact (eQ n _ _ _ _ _ h1).ck t ht
abbrev aLP(W:LN)(ρ ρ':bN):Prop:=∀t,W.contains t=QT->ρ' t=ρ t
theorem aLP.mono{W W':LN}{ρ ρ':bN}(h:aLP W ρ ρ')(hs:∀t∈W,t∈W'):aLP W' ρ ρ':=fun t ht=>h t (by
 grind)
theorem aLP.trans{W:LN}{ρ ρ' ρ'':bN}(h1:aLP W ρ ρ')(h2:aLP W ρ' ρ''):aLP W ρ ρ'':=fun t ht=>(h2 t ht).trans (h1 t ht)
theorem aPv{o:ae}{ρ:bN}{v:AV}:aLP (bIA [o]) ρ (zX ρ o.dst v):=by
 intro t ht;unfold zX;cases hd:o.dst with
 |none=>rfl
 |some d=>refine aAk fun e=>?_;subst e;simp[bIA,hd]at ht
theorem aCl{call:Nat->LA->LO->Out}{c:Ctx}:∀{ops:List ae} {ρ:bN} {H:LO} {wr:LN} {K K':bN->LO->LN->Prop},(∀ρ' H' ba,K ρ' H' ba->aLP (bIA ops) ρ ρ'->K' ρ' H' ba)->aD3 call c ops ρ H wr K->aD3 call c ops ρ H wr K'
 | [],_,_,_,_,_,hk,h=>hk _ _ _ h fun _ _=>rfl
 |o::r,ρ,H,wr,K,K',hk,h=>by
  rw[xK]at hk;have go:∀v,aLP (bIA [o]++bIA r) ρ (zX ρ o.dst v):=fun v=>aPv.mono fun t ht=>CZ _ ht;have up:∀t∈bIA r,t∈bIA [o]++bIA r:=fun t ht=>CX _ ht;unfold aD3 at h ⊢;split at h
  ·cases h
  ·exact aCl (fun ρ' H' ba hh hf=>hk _ _ _ hh ((go _).trans (hf.mono up))) h
  split at h
  ·cases h
  exact aCl (fun ρ' H' ba hh hf=>hk _ _ _ hh ((go _).trans (hf.mono up))) h
theorem aGm{call:Nat->LA->LO->Out}{c:Ctx}{aq:LN}:∀{ops:List ae} {i:Nat} {ρ:bN} {H:LO} {wr:LN} {K K':bN->LO->LN->Log->Prop},(∀ρ' H' ba log,K ρ' H' ba log->aLP (bIA ops) ρ ρ'->K' ρ' H' ba log)->wpD call c aq i ops ρ H wr K->wpD call c aq i ops ρ H wr K'
 | [],_,_,_,_,_,_,hk,h=>hk _ _ _ _ h fun _ _=>rfl
 |o::r,i,ρ,H,wr,K,K',hk,h=>by
  rw[xK]at hk;have go:∀v,aLP (bIA [o]++bIA r) ρ (zX ρ o.dst v):=fun v=>aPv.mono fun t ht=>CZ _ ht;have up:∀t∈bIA r,t∈bIA [o]++bIA r:=fun t ht=>CX _ ht;unfold wpD at h ⊢;split at h
  ·cases h
  ·exact aGm (fun ρ' H' ba log hh hf=>hk _ _ _ _ hh ((go _).trans (hf.mono up))) h
  split at h
  ·cases h
  refine aGm (fun ρ' H' ba log hh hf=>?_) h;split at hh
  ·rename_i hc;rw[Zy hc];grind
  grind
theorem xL{c:Ctx}:∀{ts:List (Nat×Nat)} {ρ:bN} {H:LO} {wr:LN} {K K':bN->LO->LN->Prop},(∀ρ' H' ba,K ρ' H' ba->aLP (ts.map GQ) ρ ρ'->K' ρ' H' ba)->aD5 c ts ρ H wr K->aD5 c ts ρ H wr K'
 | [],_,_,_,_,_,hk,h=>hk _ _ _ h fun _ _=>rfl
 | (k+1,t)::r,ρ,H,wr,K,K',hk,h=>by
  have up:∀u∈r.map GQ,u∈((k+1,t)::r).map GQ:=fun u hu=>BZ _ hu;unfold aD5 at h ⊢;split at h
  ·rename_i hc;rw[Zy hc];exact xL (fun ρ' H' ba hh hf=>hk _ _ _ hh (hf.mono up)) h
  rename_i hc;rw[Zx hc];split at h
  ·exact xL (fun ρ' H' ba hh hf=>hk _ _ _ hh (hf.mono up)) h
  cases h
 | (0,t)::r,ρ,H,wr,K,K',hk,h=>by
  have up:∀u∈r.map GQ,u∈((0,t)::r).map GQ:=fun u hu=>BZ _ hu;have go:∀v,aLP (((0,t)::r).map GQ) ρ (upd ρ t v):=fun v u hu=>aAk fun e=>by subst e;simp at hu
  unfold aD5 at h ⊢;split at h
  ·exact xL (fun ρ' H' ba hh hf=>hk _ _ _ hh ((go _).trans (hf.mono up))) h
  cases h
theorem iF{A:af}{N:Nat}{c:Ctx}:∀{x:ag} {ρ:bN} {H:LO} {wr:LN} {Q Q':bf->bN->LO->LN->Prop},(∀e ρ' H' ba,Q e ρ' H' ba->aLP (xJ x) ρ ρ'->Q' e ρ' H' ba)->wpc A N c x ρ H wr Q->wpc A N c x ρ H wr Q'
 |.skip,ρ,H,wr,Q,Q',hq,h=>hq _ _ _ _ h fun _ _=>rfl
 |.bad,_,_,_,_,_,_,h=>h.elim
 |.region QT ops,ρ,H,wr,Q,Q',hq,h=>by
  rw[wpc]at h ⊢;exact aCl (fun ρ' H' ba hh hf=>hq _ _ _ _ hh hf) h
 |.region QS ops,ρ,H,wr,Q,Q',hq,h=>by
  rw[wpc]at h ⊢;split at h
  ·exact aGm (fun ρ' H' ba log hh hf=>⟨hh.1,hq _ _ _ _ hh.2 hf⟩) h
  exact h.elim
 |.seq a b,ρ,H,wr,Q,Q',hq,h=>by
  have ha:∀t∈xJ a,t∈xJ (.seq a b):=fun t ht=>CZ _ ht;have hb:∀t∈xJ b,t∈xJ (.seq a b):=fun t ht=>CX _ ht;rw[wpc]at h ⊢;refine iF (fun e ρ' H' ba hh hf=>?_) h;cases e with
  |normal=>exact iF (fun e ρ2 H2 en h2 cq=>hq _ _ _ _ h2 ((hf.mono ha).trans (cq.mono hb))) hh
  |ret=>exact hq _ _ _ _ hh (hf.mono ha)
  |exit id=>exact hq _ _ _ _ hh (hf.mono ha)
 |.cond t a b,ρ,H,wr,Q,Q',hq,h=>by
  have ha:∀u∈xJ a,u∈xJ (.cond t a b):=fun t ht=>CZ _ ht;have hb:∀u∈xJ b,u∈xJ (.cond t a b):=fun t ht=>CX _ ht;rw[wpc]at h ⊢;split at h
  ·exact iF (fun e ρ' H' ba hh hf=>hq _ _ _ _ hh (hf.mono ha)) h
  ·exact iF (fun e ρ' H' ba hh hf=>hq _ _ _ _ hh (hf.mono hb)) h
  exact h.elim
 |.block id b,ρ,H,wr,Q,Q',hq,h=>by
  rw[wpc]at h ⊢;refine iF (x:=b) (fun e ρ' H' ba hh hf=>?_) h;cases e with
  |normal=>exact hq _ _ _ _ hh hf
  |ret=>exact hq _ _ _ _ hh hf
  |exit id'=>
   dsimp only at hh ⊢;split at hh
   ·rename_i hc;rw[Zy hc];exact hq _ _ _ _ hh hf
   rename_i hc;rw[Zx hc];exact hq _ _ _ _ hh hf
 |.loop b,ρ,H,wr,Q,Q',hq,h=>by
  rw[wpc]at h ⊢;exact h.bm.mono fun e ρ' H' ba hh=>hq _ _ _ _ hh.1 hh.2
 |.dz x ps b,ρ,H,wr,Q,Q',hq,h=>by
  rw[wpc]at h ⊢;exact h.bm.mono fun e ρ' H' ba hh=>hq _ _ _ _ hh.1 hh.2
 |.exit id,ρ,H,wr,Q,Q',hq,h=>hq _ _ _ _ h fun _ _=>rfl
 |.ret,ρ,H,wr,Q,Q',hq,h=>hq _ _ _ _ h fun _ _=>rfl
 |.frz ts,ρ,H,wr,Q,Q',hq,h=>by
  rw[wpc]at h ⊢;exact xL (fun ρ' H' ba hh hf=>hq _ _ _ _ hh hf) h
def aZy(P:bN->LO->LN->Prop)(tg:Tg P):bf->bN->LO->LN->Prop:=fun e ρ H wr=>match e with
 |.normal=>P ρ H wr
 |_=>False
@[go_sem] theorem aUr{P:bN->LO->LN->Prop}{t:Tg P}{ρ:bN}{H:LO}{wr:LN}:aZy P t .normal ρ H wr=P ρ H wr:=(rfl)
theorem aPw{A:af}{N:Nat}{c:Ctx}{x:ag}{ρ:bN}{H:LO}{wr:LN}{Q:bf->bN->LO->LN->Prop}{tg}{W:LN}(P:bN->LO->LN->Prop) (hW:xJ x=W) (h1:wc A N c x ρ H wr (aZy P ⟨⟩) ⟨⟩) (h2:∀ρ' H' ba,P ρ' H' ba->(∀t,W.contains t=QT->ρ' t=ρ t)->Q .normal ρ' H' ba):wc A N c x ρ H wr Q tg:=by
 subst hW;refine iF (fun e ρ' H' ba hh hf=>?_) h1;cases e with
 |normal=>exact h2 _ _ _ hh hf
 |ret=>exact hh.elim
 |exit id=>exact hh.elim
def aUs(I:Nat->bN->LO->LN->Prop)(M i:Nat)(Q:bf->bN->LO->LN->Prop)(tg:Tg (I,Q)):bf->bN->LO->LN->Prop:=fun e ρ H wr=>match e with
 |.normal=>i<M/\I (i+1) ρ H wr
 |e=>Q e ρ H wr
section
variable {A:af}{N:Nat}{c:Ctx}{ρ ρ':bN}{H H':LO}{wr ba:LN}{Q:bf->bN->LO->LN->Prop}{I:Nat->bN->LO->LN->Prop}{M i:Nat}
@[go_sem] theorem aUt{t:Tg (I,Q)}:aUs I M i Q t .normal ρ H wr=(i<M/\I (i+1) ρ H wr):=(rfl)
@[go_sem] theorem aZz{t:Tg (I,Q)}:aUs I M i Q t .ret ρ H wr=Q .ret ρ H wr:=(rfl)
@[go_sem] theorem aXS{t:Tg (I,Q)}{id:Nat}:aUs I M i Q t (.exit id) ρ H wr=Q (.exit id) ρ H wr:=(rfl)
theorem aKt{b:ag}{tg:Tg (A,N,c,b,Q)}{W:LN}(I:Nat->bN->LO->LN->Prop)(M:Nat)(hok:dK N c b=QS)(hW:xJ b=W)(h0:I 0 ρ H wr) (hs:∀i ρ1 H1 dc,i<=M->I i ρ1 H1 dc->(∀t,W.contains t=QT->ρ1 t=ρ t)->wc A N c b ρ1 H1 dc (aUs I M i Q ⟨⟩) ⟨⟩):wl A N c b ρ H wr Q tg:=by
 have key:∀k i ρ1 H1 dc,i+k=M->I i ρ1 H1 dc->(∀t,W.contains t=QT->ρ1 t=ρ t)->Wp A N c (.loop b) ρ1 H1 dc Q:=by
  intro k
  induction k with
  |zero=>
   intro i ρ1 H1 dc hk hI hf l hl he;obtain⟨n,e,s',h1,h2,h3⟩:=kM (hs i ρ1 H1 dc omT hI hf) hok l hl he;by_cases hn:e=.normal
   ·subst hn;exact Zw h3.1 omT
   refine⟨n+1,e,s', ?_,h2, ?_⟩
   ·rw[gU,h1];grind
   cases e<;>first | exact h3 | grind
  |succ k ih=>
   intro i ρ1 H1 dc hk hI hf l hl he;obtain⟨n,e,s',h1,h2,h3⟩:=kM (hs i ρ1 H1 dc omT hI hf) hok l hl he;by_cases hn:e=.normal
   ·subst hn;have cq:∀t,W.contains t=QT->ck s'.ρ t=ρ t:=fun t ht=>by
     have:=(eQ n _ _ _ _ _ h1).ck t (by grind);simp_all
    obtain⟨m,e',s'',g1,g2,g3⟩:=ih (i+1) _ _ _ omT h3.2 cq s'.ρ h2 rfl;refine⟨max n m+1,e',s'', ?_,g2,g3⟩;rw[gU,eJ (Nat.le_max_left n m) _ _ _ _ h1];exact eJ (Nat.le_max_right n m) _ _ _ _ g1
   refine⟨n+1,e,s', ?_,h2, ?_⟩
   ·rw[gU,h1];grind
   cases e<;>first | exact h3 | grind
 exact key M 0 ρ H wr omT h0 fun _ _=>rfl
def aNY(id:Nat)(J:bN->LO->LN->Prop)(Q:bf->bN->LO->LN->Prop)(tg:Tg (J,Q)):bf->bN->LO->LN->Prop:=fun e ρ H wr=>match e with
 |.exit id'=>if id'=id then J ρ H wr else Q (.exit id') ρ H wr
 |e=>Q e ρ H wr
@[go_sem] theorem aWk{id:Nat}{J:bN->LO->LN->Prop}{t:Tg (J,Q)}:aNY id J Q t (.exit id) ρ H wr=J ρ H wr:=by unfold aNY;grind
@[go_sem] theorem aXT{id:Nat}{J:bN->LO->LN->Prop}{t:Tg (J,Q)}:aNY id J Q t .ret ρ H wr=Q .ret ρ H wr:=(rfl)
theorem bJ{b:ag}{tg:Tg (A,N,c,b,Q)}{W:LN}{id:Nat}(I:Nat->bN->LO->LN->Prop)(M:Nat)(J:bN->LO->LN->Prop)(hok:dK N c b=QS)(hW:xJ b=W)(h0:I 0 ρ H wr) (hs:∀i ρ1 H1 dc,i<=M->I i ρ1 H1 dc->(∀t,W.contains t=QT->ρ1 t=ρ t)->wc A N c b ρ1 H1 dc (aUs I M i (aNY id J Q ⟨⟩) ⟨⟩) ⟨⟩) (hQ:∀ρ' H' ba,J ρ' H' ba->(∀t,W.contains t=QT->ρ' t=ρ t)->Q (.exit id) ρ' H' ba):wl A N c b ρ H wr Q tg:=by
 refine aKt I M hok hW h0 fun i ρ1 H1 dc hi hI hf=>?_;refine iF (fun e ρ' H' ba hh xb=>?_) (hs i ρ1 H1 dc hi hI hf);cases e with
 |normal=>exact hh
 |ret=>exact hh
 |exit id'=>
  by_cases he:id'=id
  all_goals simp_all [aUs,aNY,Zv,Zx]
end
abbrev Str:=List UInt8
structure mr where
 gg:Int
 text:Str
 deriving DecidableEq
inductive Expr where
 |mk (op n:Int) (kids:List Expr)
structure Shape where
 kind:Int
 points:List (Int×Int)
 deriving DecidableEq
structure ct where
 step:Int
 length:Int
 alter:Int
 deriving DecidableEq
structure Block where
 kind:Int
 runs:List mr
 expr:Expr
 dn:Int
 eg:List Int
 cd:List (List Str)
 w:Int
 h:Int
 aw:List Shape
 bo:List (List (List ct))
 lines:List Str
structure Fact where
 kind:Int
 block:Int
 a:Int
 b:Int
 deriving DecidableEq
structure Question where
 kind:Int
 lk:List mr
 options:List Str
 cy:List Int
 key:Str
 points:Int
 dv:List Str
 deriving DecidableEq
structure Item where
 name:Str
 blocks:List Block
 facts:List Fact
 ask:List Question
structure jm where
 title:Str
 items:List Item
@[reducible] def vi(n:Int):AV:=.int .i64 n
def aN(s:Str):LA:=[.str s]
def bF(n:Int):LA:=[vi n]
def cZ(r:mr):LA:=[vi r.gg,.str r.text]
mutual
def aF:Expr->LA
 |.mk op n kids=>[vi op,vi n,.sl QT (gO kids)]
def gO:List Expr->List LA
 | []=>[]
 |e::r=>aF e::gO r
end
def bL(p:Int×Int):LA:=[vi p.1,vi p.2]
def aH(s:Shape):LA:=[vi s.kind,.sl QT (s.points.map bL)]
def bV(n:ct):LA:=[vi n.step,vi n.length,vi n.alter]
def gH(l:List ct):LA:=[.sl QT (l.map bV)]
def bS(l:List (List ct)):LA:=[.sl QT (l.map gH)]
def bY(l:List Str):LA:=[.sl QT (l.map aN)]
def aE(b:Block):LA:=[vi b.kind,.sl QT (b.runs.map cZ)]++aF b.expr++[vi b.dn,.sl QT (b.eg.map bF),.sl QT (b.cd.map bY),vi b.w,vi b.h,.sl QT (b.aw.map aH),.sl QT (b.bo.map bS),.sl QT (b.lines.map aN)]
def aI(f:Fact):LA:=[vi f.kind,vi f.block,vi f.a,vi f.b]
def gR(q:Question):LA:=[vi q.kind,.sl QT (q.lk.map cZ),.sl QT (q.options.map aN),.sl QT (q.cy.map bF),.str q.key,vi q.points,.sl QT (q.dv.map aN)]
def aO(x:Item):LA:=[.str x.name,.sl QT (x.blocks.map aE),.sl QT (x.facts.map aI),.sl QT (x.ask.map gR)]
def dE(x:jm):AV:=.agg [.str x.title,.sl QT (x.items.map aO)]
theorem aC{α:Type}{f:α->LA}(h:∀a,iX (f a)=QS):∀l:List α,gG (l.map f)=QS
 | []=>rfl
 |a::r=>by simp only[BI,gG,h a,aC h r,Bool.and_self]
section
attribute [local simp] iX AV.data AV.ak vi
theorem bO(s:Str):iX (aN s)=true:=by simp[aN]
theorem aU(s:Int):iX (bF s)=true:=by simp[bF]
theorem cA(s:mr):iX (cZ s)=true:=by simp[cZ]
mutual
theorem aV:∀e:Expr,iX (aF e)=QS
 |.mk op n kids=>by
  unfold aF;simp[aIp kids]
theorem aIp:∀l:List Expr,gG (gO l)=QS
 | []=>rfl
 |e::r=>by
  unfold gO gG;rw[aV e,aIp r];rfl
end
theorem aIq(s:Int×Int):iX (bL s)=true:=by simp[bL]
theorem bW(s:Shape):iX (aH s)=true:=by simp[aH,aC aIq]
theorem aD9(s:ct):iX (bV s)=true:=by simp[bV]
theorem aFA(s:List ct):iX (gH s)=true:=by simp[gH,aC aD9]
theorem cR(s:List (List ct)):iX (bS s)=true:=by simp[bS,aC aFA]
theorem cU(s:List Str):iX (bY s)=true:=by simp[bY,aC bO]
theorem aEW:∀{a b:LA},iX (a++b)=(iX a&&iX b)
 | [],b=>by simp
 |x::a,b=>by simp[aEW (a:=a) (b:=b),Bool.and_assoc]
theorem bG(s:Block):iX (aE s)=true:=by simp only[aE,aEW,aV];simp[aC cA,aC aU,aC cU,aC bW,aC cR,aC bO]
theorem eL(s:Fact):iX (aI s)=true:=by simp[aI]
theorem aBI(s:Question):iX (gR s)=true:=by simp[gR,aC cA,aC bO,aC aU]
theorem dV(s:Item):iX (aO s)=true:=by simp[aO,aC bG,aC eL,aC aBI]
end
abbrev eA(n:Int):Prop := -9223372036854775808<=n/\n<=9223372036854775807
abbrev lI(s:Str):Prop:=s.length<=1000
structure mr.Ok(r:mr):Prop where
 gg:eA r.gg
 text:lI r.text
mutual
def gY:Expr->Nat
 |.mk _ _ kids=>cP kids+1
def cP:List Expr->Nat
 | []=>0
 |e::r=>gY e+cP r
end
inductive Expr.Ok:Expr->Prop where
 |mk (op n:Int) (kids:List Expr):eA op->eA n->kids.length<=16->(∀e∈kids,Expr.Ok e)->Expr.Ok (.mk op n kids)
structure Shape.Ok(s:Shape):Prop where
 kind:eA s.kind
 len:s.points.length<=16
 points:∀p∈s.points,eA p.1/\eA p.2
structure ct.Ok(n:ct):Prop where
 step:eA n.step
 length:eA n.length
 alter:eA n.alter
structure Block.Ok(b:Block):Prop where
 kind:eA b.kind
 vw:b.runs.length<=16
 runs:∀r∈b.runs,r.Ok
 expr:b.expr.Ok
 size:gY b.expr<=1000
 dn:eA b.dn
 tj:b.eg.length<=16
 eg:∀n∈b.eg,eA n
 uu:b.cd.length<=16
 cd:∀r∈b.cd,r.length<=16/\∀s∈r,lI s
 w:eA b.w
 h:eA b.h
 fg:b.aw.length<=16
 aw:∀s∈b.aw,s.Ok
 uv:b.bo.length<=16
 bo:∀h∈b.bo,h.length<=16/\∀l∈h,l.length<=16/\∀n∈l,n.Ok
 vz:b.lines.length<=16
 lines:∀s∈b.lines,lI s
structure Fact.Ok(f:Fact):Prop where
 kind:eA f.kind
 block:eA f.block
 a:eA f.a
 b:eA f.b
structure Question.Ok(q:Question):Prop where
 kind:eA q.kind
 fg:q.lk.length<=16
 lk:∀r∈q.lk,r.Ok
 Q3:q.options.length<=16
 options:∀s∈q.options,lI s
 Q4:q.cy.length<=16
 cy:∀n∈q.cy,eA n
 key:lI q.key
 points:eA q.points
 vw:q.dv.length<=16
 dv:∀s∈q.dv,lI s
structure Item.Ok(x:Item):Prop where
 name:lI x.name
 zq:x.blocks.length<=16
 blocks:∀b∈x.blocks,b.Ok
 B1:x.facts.length<=16
 facts:∀f∈x.facts,f.Ok
 tj:x.ask.length<=16
 ask:∀q∈x.ask,q.Ok
structure jm.Ok(x:jm):Prop where
 title:lI x.title
 G8:x.items.length<=16
 items:∀i∈x.items,i.Ok
def bEW{α:Type}(f:Nat->α->α)(l:List α)(i:Nat):List α:=l.mapIdx fun j a=>if j<i then f j a else a
section
variable {α:Type}{f:Nat->α->α}{l:List α}{i:Nat}
theorem bEY:bEW f l 0=l:=by unfold bEW;apply HN;intro j;rw[Ah];cases l[j]?<;>simp
@[go_sem] theorem bHo:(bEW f l i).length=l.length:=by unfold bEW;simp
theorem bGA(h:i<l.length):(bEW f l i)[i]? = QQ l[i]:=by unfold bEW;rw[Ah];simp[h]
theorem bGB(h:i<l.length):(bEW f l i).set i (f i l[i])=bEW f l (i+1):=by
 unfold bEW;apply HN;intro j;rw[Ah];by_cases e:i=j
 ·subst e;rw[BW (by simpa using h)];simp[h]
 rw[CL e,Ah];have:(j<i+1)↔(j<i):=omT;simp only[this]
theorem bFE:bEW f l l.length=l.mapIdx f:=by
 unfold bEW;apply HN;intro j;rw[Ah,Ah];by_cases e:j<l.length
 ·simp[e]
 simp[List.getElem?_eq_none (by omega:l.length<=j)]
theorem bDs{β:Type}{enc:α->β}(h:i<l.length){x:β}(hx:x=enc (f i l[i])):((bEW f l i).map enc).set i x=(bEW f l (i+1)).map enc:=by rw[hx,<- List.map_set,bGB h]
theorem bCN{β:Type}{enc:α->β}(h:i<l.length):((bEW f l i).map enc)[i]? = QQ (enc l[i]):=by rw[BN,bGA h];rfl
end
theorem getElem?_map_of{α β:Type}{f:α->β}{l:List α}{i:Nat}(h:i<l.length):(l.map f)[i]? = QQ (f l[i]):=by rw[BN,AP h];rfl
theorem bEd{α β:Type}(f:α->β)(l:List α):l.mapIdx (fun _ a=>f a)=l.map f:=by apply HN;intro i;rw[Ah,BN]
theorem dW{i:Nat}(h:i<4611686018427387904):GA .i64 ((i:Int)+1)=((i+1:Nat):Int):=by rw[wrap_i64 omT omT];rfl
def dec(n:Nat):Str:=if n<10 then [CN (48+n)] else dec (n / 10)++[CN (48+n % 10)]
decreasing_by omega
theorem aGn:∀(k n:Nat),n<10 ^ (k+1)->(dec n).length<=k+1
 |0,n,h=>by
  unfold dec;rw[Zy omT];exact AQ _
 |k+1,n,h=>by
  unfold dec;split
  ·simp
  have:=aGn k (n / 10) (by rw[Nat.pow_succ]at h;omega);simp only[BA,AW,AZ];omega
abbrev aJc(A:af)(g:SN):Prop:=∀(n:Nat) (H:LO),n<1000000->aG A (g "g") [vi n] H=QQ (.str (dec n),H,[])
def bFk(k bytes:Nat)(zs:LA):bw:=⟨8,[7],[.tmp 2],
 qS [qmc 2 (.sl QS [])] <|.seq (qS [qm 3 0,
  qq 4 (.ky QT (u 3))] <|
 qC 4 (qS [qmc 2 (.sl QS [])] <|.ret)
  (.skip)) <|
 qS [qq 5 (.bsl k zs 0 []),
  qm 6 0,
  qa 7 k bytes 5 6,
  qm 2 7] <|.ret⟩
structure ke(A:af)(f k bytes:Nat):Prop where
 nil:∀H,aG A f [.sl QT []] H=QQ (.sl QT [],H,[])
 cons:∀(r:LA) (rows:List LA) (H:LO),r.length=k->gG (r::rows)=QS->(rows.length+1)*(bytes+1)<=1099511627776->aG A f [.sl QT (r::rows)] H=QQ (.own k (r::rows),H,[])
theorem dT{A:af}{f:Nat}{args:LA}{H:LO}{v:AV}(h:(A.bq f).bind (· args H)=QQ (v,[],[])):aG A f args H=QQ (v,H,[]):=
 oL (n:=0) (by unfold dD qL;rw[h];simp[cT,eU])
theorem bEB{A:af}{f:Nat}{k bytes:Nat}{zs:LA}(hf:A.fn f=QQ (bFk k bytes zs)) (hp:∀args H,(A.bq f).bind (· args H)=match args with | [.sl _ []]=>QQ (.sl QT [],[],[]) | _=>N2):ke A f k bytes:=by
 refine⟨fun H=>dT (by rw[hp]), ?_⟩;intro r rows H hk hd ed;obtain⟨v1,H1,dc,h1,rfl,rfl,rfl⟩:=kN (args:=[.sl QT (r::rows)]) (H:=H) (K:=fun v' H'' ba=>v'=.own k (r::rows)/\H''=H/\ba=[]) hf (by rw[hp]) (by simp[bFk]) rfT (by
  simp only[bFk];have hr:bP (rows.length+1) bytes=true:=by unfold bP;simpa using ed
  have hs:(List.all r AV.still&&rows.all fun r=>r.all AV.still)=true:=by have:=aT hd;simpa using this
  simp only[gG,AI]at hd;simp only[go_sem,seval,hk,hr,hs,dC hd.1,aA hd.2])
 exact h1
def eqL{α:Type}(e:α->α->Bool):List α->List α->Bool
 | [],[]=>QS
 |a::x,b::y=>e a b&&eqL e x y
 |_,_=>QT
theorem aJd{α:Type}{e:α->α->Bool}:∀{x y:List α},x.length≠y.length->eqL e x y=QT
 | [],[],h=>Zw rfl h
 | [],_::_,_=>rfl
 |_::_,[],_=>rfl
 |a::x,b::y,h=>by
  unfold eqL;rw[aJd (by simpa using h),MC]
theorem aBh{α:Type}{e:α->α->Bool}{x y:List α}{i:Nat}(hx:i<x.length)(hy:i<y.length):eqL e (x.drop i) (y.drop i)=(e x[i] y[i]&&eqL e (x.drop (i+1)) (y.drop (i+1))):=by rw[FD hx,FD hy];rfl
def asV(agg:Bool)(cs:LA):AV:=if agg then .agg cs else cs.headD .undef
abbrev aXU(k:Nat)(agg:Bool)(ek:vd):ag:=
 qS [qb 14 .lss 13 12] <|.seq (qC 14 (.skip)
  (.exit 0)) <|.seq (.block 1 (qS [qm 15 13,
   qm 5 15] <|.seq (.region QS [qm 16 0,
 qm 17 5,⟨QQ 18,oi 16 17 k,N2,[0,1]⟩,⟨QQ 19,.load k agg (u 18),N2,[2,0,1]⟩,
 qm 20 1,
 qm 21 5,⟨QQ 22,oi 20 21 k,N2,[4,5]⟩,⟨QQ 23,.load k agg (u 22),N2,[6,4,5]⟩,⟨QQ 24,.bin .neq ek (u 19) (u 23),N2,[3,2,0,1,7,6,4,5]⟩]) <|
  qC 24 (qS [qmc 4 (.bool QT)] <|.ret)
   (.skip))) <|.region QT [qbi 25 .add 13 1,
  qm 13 25]
def oE(k:Nat)(agg:Bool)(ek:vd):bw:=⟨26,[],[.tmp 4],
 qS [qmc 4 (.bool QT)] <|.seq (qS [qm 6 0,
  qn 7 6,
  qm 8 1,
  qn 9 8,
  qb 10 .neq 7 9] <|
 qC 10 (qS [qmc 4 (.bool QT)] <|.ret)
  (.skip)) <|.seq (qS [qm 11 0,
  qn 12 11,
  qmc 13 z0] <|.block 0 (.loop (aXU k agg ek))) <|
 qS [qmc 4 (.bool QS)] <|.ret⟩
def aPx{α:Type}(A:af)(f:Nat)(enc:α->LA)(e:α->α->Bool):Prop:=
 ∀(x y:List α) (H:LO),x.length<4611686018427387904->aG A f [.sl QT (x.map enc),.sl QT (y.map enc)] H=QQ (.bool (eqL e x y),H,[])
theorem vO{α:Type}{A:af}{f k:Nat}{agg:Bool}{ek:vd}{enc:α->LA}{e:α->α->Bool}(hf:A.fn f=QQ (oE k agg ek))(hp:A.bq f=N2) (hk:∀a,(enc a).length=k) (ho:∀a,eD agg (enc a)=QQ (asV agg (enc a))) (Eu:∀a b,kJ .neq ek (asV agg (enc a)) (asV agg (enc b))=QQ (.bool !(e a b))):aPx A f enc e:=by
 intro x y H hx;obtain⟨v1,H1,dc,h1,rfl,rfl,rfl⟩:=kN (args:=[.sl QT (x.map enc),.sl QT (y.map enc)]) (H:=H) (K:=fun v' H'' ba=>v'=.bool (eqL e x y)/\H''=H/\ba=[]) hf (by rw[hp];rfl) (by simp[oE]) rfT (by
  simp only[oE];simp only[go_sem,seval];refine aD (fun hb=>?_) (fun hb=>?_)
  ·have bl:x.length≠y.length:=by grind
   simp only[go_sem,seval,aJd bl]
  have Ig:x.length=y.length:=by grind
  simp only[go_sem,seval];refine aKt (fun i ρ1 H1 wr=>wr=[]/\ρ1 13=vi i/\H1=H/\eqL e x y=eqL e (x.drop i) (y.drop i)) x.length rfT rfl ⟨rfl,rfl,by grind,rfl⟩ ?_;rintro i ρ1 H1 dc mg ⟨rfl,Ev,rfl,hi⟩ hf;have f0:ρ1 0=.sl QT (x.map enc):=by rw[hf 0 rfl];simp only[go_sem,seval]
  have f1:ρ1 1=.sl QT (y.map enc):=by rw[hf 1 rfl];simp only[go_sem,seval]
  have f12:ρ1 12=vi x.length:=by rw[hf 12 rfl];simp only[go_sem,seval]
  simp only[go_sem,seval,f12,Ev];refine aD (fun hb=>?_) (fun hb=>?_)
  ·have hlt:i<x.length:=by simpa using hb
   have sf:i<y.length:=omT;simp only[go_sem,seval,Ev];refine aY (aq:=[]) rfT rfT ?_;simp only[go_sem,seval,f0,f1,hlt,getElem?_map_of hlt,getElem?_map_of sf,hk,ho,Eu,CH];refine aD (fun hb=>?_) (fun hb=>?_)
   ·have he:e x[i] y[i]=false:=by simpa using hb
    simp only[go_sem,seval,hi,aBh hlt sf,he]
   have he:e x[i] y[i]=true:=by simpa using hb
   simp only[go_sem,seval,Ev];rw[dW omT];exact⟨hlt,rfl,by rw[hi,aBh hlt sf,he,BR]⟩
  have hlt:i=x.length:=by grind
  subst hlt;rw[DH (AQ _),DH omT]at hi;simp only[go_sem,seval,hi,eqL])
 exact h1
abbrev bCh(k:Nat)(zs:LA):ag:=
 qS [qb 18 .lss 17 16] <|.seq (qC 18 (.skip)
  (.exit 0)) <|.seq (.block 1 (qS [qm 19 17,
   qi 20 15 17 k,
   qla 21 k 20,
   qq 8 (.alloc zs),
   qm 7 19,
   qs k 8 21] <|
  qS [qm 22 1,
   qm 23 7,
   qi 24 22 23 k,
   qla 25 k 24,
   qq 9 (.alloc zs),
   qs k 9 25] <|
  qS [qm 26 2,
   qla 27 k 8,
   qla 28 k 9,
   qq 29 (.dm (u 26) [(.tmp 27),(.tmp 28)]),
   qq 30 (.un .not (u 29))] <|
  qC 30 (qS [qmc 6 (.bool QT)] <|.ret)
   (.skip))) <|.region QT [qbi 31 .add 17 1,
  qm 17 31]
def aLQ(k:Nat)(zs:LA):bw:=⟨32,[8,9],[.tmp 6],
 qS [qmc 6 (.bool QT)] <|.seq (qS [qm 10 0,
  qn 11 10,
  qm 12 1,
  qn 13 12,
  qb 14 .neq 11 13] <|
 qC 14 (qS [qmc 6 (.bool QT)] <|.ret)
  (.skip)) <|.seq (qS [qm 15 0,
  qn 16 15,
  qmc 17 z0] <|.block 0 (.loop (bCh k zs))) <|
 qS [qmc 6 (.bool QS)] <|.ret⟩
abbrev bAM:ag:=qS [qb 18 .lss 17 16]<|.seq (qC 18 (.skip) (.exit 0))<|.seq (.block 1 (qS [qm 19 17,qi 20 15 17 1,ql 21 1 20,qm 7 19,qm 8 21]<|qS [qm 22 1,qm 23 7,qi 24 22 23 1,ql 25 1 24,qm 9 25]<|qS [qm 26 2,qm 27 8,qm 28 9,qq 29 (.dm (u 26) [(.tmp 27),(.tmp 28)]),qq 30 (.un .not (u 29))]<|qC 30 (qS [qmc 6 (.bool QT)]<|.ret) (.skip)))<|.region QT [qbi 31 .add 17 1,qm 17 31]
def aGo:bw:=⟨32,[],[.tmp 6],qS [qmc 6 (.bool QT)]<|.seq (qS [qm 10 0,qn 11 10,qm 12 1,qn 13 12,qb 14 .neq 11 13]<|qC 14 (qS [qmc 6 (.bool QT)]<|.ret) (.skip))<|.seq (qS [qm 15 0,qn 16 15,qmc 17 z0]<|.block 0 (.loop bAM))<|qS [qmc 6 (.bool QS)]<|.ret⟩
def aLR{α:Type}(A:af)(f:Nat)(v:α->AV)(e:α->α->Bool)(P:α->Prop):Prop:=∀(a b:α) (H:LO),P a->aG A f [v a,v b] H=QQ (.bool (e a b),H,[])
def aJe{α:Type}(A:af)(f h:Nat)(enc:α->LA)(e:α->α->Bool)(P:α->Prop):Prop:=
 ∀(x y:List α) (H:LO),x.length<4611686018427387904->(∀a∈x,P a)->aG A f [.sl QT (x.map enc),.sl QT (y.map enc),.fn h [] []] H=QQ (.bool (eqL e x y),H,[])
theorem aRB{α:Type}{A:af}{f h k:Nat}{zs:LA}{enc:α->LA}{e:α->α->Bool}{P:α->Prop}(hf:A.fn f=QQ (aLQ k zs))(hp:A.bq f=N2)(hz:zs.length=k) (hk:∀a,(enc a).length=k) (hd:∀a,iX (enc a)=QS) (hc:aLR A h (fun a=>.agg (enc a)) e P):aJe A f h enc e P:=by
 intro x y H hx hP;obtain⟨v1,H1,dc,h1,rfl,rfl,rfl⟩:=kN (args:=[.sl QT (x.map enc),.sl QT (y.map enc),.fn h [] []]) (H:=H) (K:=fun v' H'' ba=>v'=.bool (eqL e x y)/\H''=H/\ba=[]) hf (by rw[hp];rfl) (by simp[aLQ]) rfT (by
  simp only[aLQ];simp only[go_sem,seval];refine aD (fun hb=>?_) (fun hb=>?_)
  ·have bl:x.length≠y.length:=by grind
   simp only[go_sem,seval,aJd bl]
  have Ig:x.length=y.length:=by grind
  simp only[go_sem,seval];refine aKt (fun i ρ1 H1 wr=>wr=[]/\ρ1 17=vi i/\(∃o1 o2,H1=H++[o1,o2])/\eqL e x y=eqL e (x.drop i) (y.drop i)) x.length rfT rfl ⟨rfl,by simp only[go_sem,seval],⟨_,_,rfl⟩,rfl⟩ ?_;rintro i ρ1 H1 dc mg ⟨rfl,Q5,⟨o1,o2,rfl⟩,hi⟩ hf;have f1:ρ1 1=.sl QT (y.map enc):=by rw[hf 1 rfl];simp only[go_sem,seval]
  have f2:ρ1 2=.fn h [] []:=by rw[hf 2 rfl];simp only[go_sem,seval]
  have f15:ρ1 15=.sl QT (x.map enc):=by rw[hf 15 rfl];simp only[go_sem,seval]
  have f16:ρ1 16=vi x.length:=by rw[hf 16 rfl];simp only[go_sem,seval]
  simp only[go_sem,seval,f16,Q5];refine aD (fun hb=>?_) (fun hb=>?_)
  ·have hlt:i<x.length:=by simpa using hb
   have sf:i<y.length:=omT;have sx:=fun H=>hc x[i] y[i] H (hP _ (AS hlt));have pk:∀a,List.take k (enc a)=enc a:=fun a=>CH (by grind);have sh:List.drop k zs=[]:=List.drop_of_length_le (by grind);simp only[go_sem,seval,f1,f2,f15,Q5,hlt,getElem?_map_of hlt,getElem?_map_of sf,hk,hz,pk,sh,aS (hd _),aK (hd _),bQ (hd _),sx];refine aD (fun hb=>?_) (fun hb=>?_)
   ·have he:e x[i] y[i]=false:=by simpa using hb
    simp only[go_sem,seval,hi,aBh hlt sf,he]
   have he:e x[i] y[i]=true:=by simpa using hb
   simp only[go_sem,seval,Q5];rw[dW omT];exact⟨hlt,rfl,⟨_,_,rfl⟩,by rw[hi,aBh hlt sf,he,BR]⟩
  have hlt:i=x.length:=by grind
  subst hlt;rw[DH (AQ _),DH omT]at hi;simp only[go_sem,seval,hi,eqL])
 exact h1
theorem aPy{α:Type}{A:af}{f h:Nat}{v:α->AV}{enc:α->LA}{e:α->α->Bool}{P:α->Prop}(hf:A.fn f=QQ (aGo))(hp:A.bq f=N2) (hv:∀a,enc a=[v a]) (hd:∀a,(v a).data=QS) (O9:∀a,(v a).ak=QS) (hc:aLR A h v e P):aJe A f h enc e P:=by
 intro x y H hx hP;obtain⟨v1,H1,dc,h1,rfl,rfl,rfl⟩:=kN (args:=[.sl QT (x.map enc),.sl QT (y.map enc),.fn h [] []]) (H:=H) (K:=fun v' H'' ba=>v'=.bool (eqL e x y)/\H''=H/\ba=[]) hf (by rw[hp];rfl) (by simp[aGo]) rfT (by
  simp only[aGo];simp only[go_sem,seval];refine aD (fun hb=>?_) (fun hb=>?_)
  ·have bl:x.length≠y.length:=by grind
   simp only[go_sem,seval,aJd bl]
  have Ig:x.length=y.length:=by grind
  simp only[go_sem,seval];refine aKt (fun i ρ1 H1 wr=>wr=[]/\ρ1 17=vi i/\H1=H/\eqL e x y=eqL e (x.drop i) (y.drop i)) x.length rfT rfl ⟨rfl,by simp only[go_sem,seval],by grind,rfl⟩ ?_;rintro i ρ1 H1 dc mg ⟨rfl,Q5,rfl,hi⟩ hf;have f1:ρ1 1=.sl QT (y.map enc):=by rw[hf 1 rfl];simp only[go_sem,seval]
  have f2:ρ1 2=.fn h [] []:=by rw[hf 2 rfl];simp only[go_sem,seval]
  have f15:ρ1 15=.sl QT (x.map enc):=by rw[hf 15 rfl];simp only[go_sem,seval]
  have f16:ρ1 16=vi x.length:=by rw[hf 16 rfl];simp only[go_sem,seval]
  simp only[go_sem,seval,f16,Q5];refine aD (fun hb=>?_) (fun hb=>?_)
  ·have hlt:i<x.length:=by simpa using hb
   have sf:i<y.length:=omT;have sx:=fun H=>hc x[i] y[i] H (hP _ (AS hlt));have bd:∀a,(v a).strip=v a:=fun a=>by
    have h1:=tT (hd a);cases Af:v a<;>first | rfl | skip
    all_goals first | (rw[Af]at h1;exact h1)|(have:=O9 a;rw[Af]at this;cases this)
   have hle:∀a (H:LO),dw H (v a)=QQ (v a,[]):=fun a H=>by
    have h1:=xH (H:=H) (hd a) (O9 a);cases Af:v a<;>first | rfl | skip
    all_goals first | (rw[Af]at h1;exact h1)|(have:=O9 a;rw[Af]at this;cases this)
   simp only[go_sem,seval,f1,f2,f15,Q5,hlt,getElem?_map_of hlt,getElem?_map_of sf,hv,bd,hle,sx];refine aD (fun hb=>?_) (fun hb=>?_)
   ·have he:e x[i] y[i]=false:=by simpa using hb
    simp only[go_sem,seval,hi,aBh hlt sf,he]
   have he:e x[i] y[i]=true:=by simpa using hb
   simp only[go_sem,seval,Q5];rw[dW omT];exact⟨hlt,rfl,by rw[hi,aBh hlt sf,he,BR]⟩
  have hlt:i=x.length:=by grind
  subst hlt;rw[DH (AQ _),DH omT]at hi;simp only[go_sem,seval,hi,eqL])
 exact h1
def qV(g:SN):bw:=⟨24,[2,3],[.tmp 4],qS [qx 2 3 0,qx 3 3 1,qmc 4 (.bool QT)]<|qS [qf 5 0 2,ql 6 1 5,qf 7 0 3,ql 8 1 7,qb 9 .eql 6 8,qm 10 9,qT 11 10 (of 1 2),qT 12 10 (ol 1 11),qT 13 10 (of 1 3),qT 14 10 (ol 1 13),qT 15 10 (ob .eql 12 14),qp 16 10 15,qm 17 16,qT 18 17 (of 2 2),qT 19 17 (ol 1 18),qT 20 17 (of 2 3),qT 21 17 (ol 1 20),qT 22 17 (oc (g "bW") [u 19,u 21,uf (g "am")]),qp 23 17 22,qm 4 23]<|.ret⟩
def sW(g:SN):bw:=⟨17,[2,3],[.tmp 4],qS [qx 2 2 0,qx 3 2 1,qmc 4 (.bool QT)]<|qS [qf 5 0 2,ql 6 1 5,qf 7 0 3,ql 8 1 7,qb 9 .eql 6 8,qm 10 9,qT 11 10 (of 1 2),qT 12 10 (ol 1 11),qT 13 10 (of 1 3),qT 14 10 (ol 1 13),qT 15 10 (oc (g "dA") [u 12,u 14]),qp 16 10 15,qm 4 16]<|.ret⟩
def sX(g:SN):bw:=⟨8,[],[.tmp 4],qS [qmc 4 (.bool QT)]<|qS [qm 5 0,qm 6 1,qc 7 (g "dt") [u 5,u 6,uf (g "cW")],qm 4 7]<|.ret⟩
def zG(g:SN):bw:=⟨98,[2,3],[.tmp 4],qS [qx 2 13 0,qx 3 13 1,qmc 4 (.bool QT)]<|qS [qmc 5 (.fn (g "cG") [] [])]<|qS [qmc 6 (.fn (g "cH") [] [])]<|qS [qf 7 0 2,ql 8 1 7,qf 9 0 3,ql 10 1 9,qb 11 .eql 8 10,qm 12 11,qT 13 12 (of 1 2),qT 14 12 (ol 1 13),qT 15 12 (of 1 3),qT 16 12 (ol 1 15),qT 17 12 (oc (g "cc") [u 14,u 16]),qp 18 12 17,qm 19 18,qT 20 19 (of 2 2),qT 21 19 (ola 3 20),qT 22 19 (of 2 3),qT 23 19 (ola 3 22),qT 24 19 (oc (g "am") [u 21,u 23]),qp 25 19 24,qm 26 25,qT 27 26 (of 5 2),qT 28 26 (of 0 27),qT 29 26 (ol 1 28),qT 30 26 (of 5 3),qT 31 26 (of 0 30),qT 32 26 (ol 1 31),qT 33 26 (ob .eql 29 32),qp 34 26 33,qm 35 34,qT 36 35 (of 5 2),qT 37 35 (of 1 36),qT 38 35 (ol 1 37),qT 39 35 (of 5 3),qT 40 35 (of 1 39),qT 41 35 (ol 1 40),qT 42 35 (oc (g "cX") [u 38,u 41]),qp 43 35 42,qm 44 43,qT 45 44 (of 7 2),qT 46 44 (of 0 45),qT 47 44 (ol 1 46),qT 48 44 (of 7 3),qT 49 44 (of 0 48),qT 50 44 (ol 1 49),qT 51 44 (oc (g "du") [u 47,u 50,uf (g "aq")]),qp 52 44 51,qm 53 52,qT 54 53 (of 8 2),qT 55 53 (of 0 54),qT 56 53 (ol 1 55),qT 57 53 (of 8 3),qT 58 53 (of 0 57),qT 59 53 (ol 1 58),qT 60 53 (ob .eql 56 59),qp 61 53 60,qm 62 61,qT 63 62 (of 8 2),qT 64 62 (of 1 63),qT 65 62 (ol 1 64),qT 66 62 (of 8 3),qT 67 62 (of 1 66),qT 68 62 (ol 1 67),qT 69 62 (ob .eql 65 68),qp 70 62 69,qm 71 70,qT 72 71 (of 8 2),qT 73 71 (of 2 72),qT 74 71 (ol 1 73),qT 75 71 (of 8 3),qT 76 71 (of 2 75),qT 77 71 (ol 1 76),qT 78 71 (om 5),qT 79 71 (oc (g "dy") [u 74,u 77,u 78]),qp 80 71 79,qm 81 80,qT 82 81 (of 11 2),qT 83 81 (of 0 82),qT 84 81 (ol 1 83),qT 85 81 (of 11 3),qT 86 81 (of 0 85),qT 87 81 (ol 1 86),qT 88 81 (om 6),qT 89 81 (oc (g "ds") [u 84,u 87,u 88]),qp 90 81 89,qm 91 90,qT 92 91 (of 12 2),qT 93 91 (ol 1 92),qT 94 91 (of 12 3),qT 95 91 (ol 1 94),qT 96 91 (oc (g "aq") [u 93,u 95]),qp 97 91 96,qm 4 97]<|.ret⟩
def bIL(g:SN):bw:=⟨52,[2,3],[.tmp 4],qS [qx 2 7 0,qx 3 7 1,qmc 4 (.bool QT)]<|qS [qf 5 0 2,ql 6 1 5,qf 7 0 3,ql 8 1 7,qb 9 .eql 6 8,qm 10 9,qT 11 10 (of 4 2),qT 12 10 (ol 1 11),qT 13 10 (of 4 3),qT 14 10 (ol 1 13),qT 15 10 (ob .eql 12 14),qp 16 10 15,qm 17 16,qT 18 17 (of 5 2),qT 19 17 (ol 1 18),qT 20 17 (of 5 3),qT 21 17 (ol 1 20),qT 22 17 (ob .eql 19 21),qp 23 17 22,qm 24 23,qT 25 24 (of 1 2),qT 26 24 (ol 1 25),qT 27 24 (of 1 3),qT 28 24 (ol 1 27),qT 29 24 (oc (g "cc") [u 26,u 28]),qp 30 24 29,qm 31 30,qT 32 31 (of 2 2),qT 33 31 (ol 1 32),qT 34 31 (of 2 3),qT 35 31 (ol 1 34),qT 36 31 (oc (g "aq") [u 33,u 35]),qp 37 31 36,qm 38 37,qT 39 38 (of 3 2),qT 40 38 (ol 1 39),qT 41 38 (of 3 3),qT 42 38 (ol 1 41),qT 43 38 (oc (g "cX") [u 40,u 42]),qp 44 38 43,qm 45 44,qT 46 45 (of 6 2),qT 47 45 (ol 1 46),qT 48 45 (of 6 3),qT 49 45 (ol 1 48),qT 50 45 (oc (g "aq") [u 47,u 49]),qp 51 45 50,qm 4 51]<|.ret⟩
def bIZ(g:SN):bw:=⟨31,[2,3],[.tmp 4],qS [qx 2 4 0,qx 3 4 1,qmc 4 (.bool QT)]<|qS [qf 5 0 2,ql 6 1 5,qf 7 0 3,ql 8 1 7,qb 9 .eql 6 8,qm 10 9,qT 11 10 (of 1 2),qT 12 10 (ol 1 11),qT 13 10 (of 1 3),qT 14 10 (ol 1 13),qT 15 10 (oc (g "dv") [u 12,u 14,uf (g "bP")]),qp 16 10 15,qm 17 16,qT 18 17 (of 2 2),qT 19 17 (ol 1 18),qT 20 17 (of 2 3),qT 21 17 (ol 1 20),qT 22 17 (oc (g "dz") [u 19,u 21]),qp 23 17 22,qm 24 23,qT 25 24 (of 3 2),qT 26 24 (ol 1 25),qT 27 24 (of 3 3),qT 28 24 (ol 1 27),qT 29 24 (oc (g "dx") [u 26,u 28,uf (g "cI")]),qp 30 24 29,qm 4 30]<|.ret⟩
def bJ6(g:SN):bw:=⟨17,[2,3],[.tmp 4],qS [qx 2 2 0,qx 3 2 1,qmc 4 (.bool QT)]<|qS [qf 5 0 2,ql 6 1 5,qf 7 0 3,ql 8 1 7,qb 9 .eql 6 8,qm 10 9,qT 11 10 (of 1 2),qT 12 10 (ol 1 11),qT 13 10 (of 1 3),qT 14 10 (ol 1 13),qT 15 10 (oc (g "dw") [u 12,u 14,uf (g "cA")]),qp 16 10 15,qm 4 16]<|.ret⟩
noncomputable def eqv{α:Type}(a b:α):Bool:=@decide (a=b) (Classical.propDecidable _)
theorem fO{α:Type}{a b:α}:eqv a b=QS↔a=b:=by unfold eqv;simp
theorem aRC{α:Type}{a:α}:eqv a a=true:=fO.2 rfl
theorem aKu{α:Type}{a b:α}(h:a≠b):eqv a b=false:=by unfold eqv;simp[h]
theorem aEc{α:Type}[BEq α][LawfulBEq α]{a b:α}:(a==b)=eqv a b:=by rw[DS,fO];simp
theorem aKv{a b:Int}:(a==b)=eqv a b:=aEc
theorem bJL{a b:List UInt8}:(a==b)=eqv a b:=aEc
theorem aLS{α:Type}:∀{x y:List α},eqL eqv x y=eqv x y
 | [],[]=>aRC.symm
 | [],_::_=>by rw[aKu siT];rfl
 |_::_,[]=>by rw[aKu siT];rfl
 |a::x,b::y=>by
  unfold eqL;rw[aLS,DS,AI,fO,fO,fO];simp
theorem aUu{a b:mr}:eqv a b=(eqv a.gg b.gg&&eqv a.text b.text):=by rw[DS,AI,fO,fO,fO];cases a;cases b;simp
theorem aPz{a b:Int×Int}:eqv a b=(eqv a.1 b.1&&eqv a.2 b.2):=by rw[DS,AI,fO,fO,fO];grind
theorem aKw{a b:Shape}:eqv a b=(eqv a.kind b.kind&&eqv a.points b.points):=by rw[DS,AI,fO,fO,fO];cases a;cases b;simp
theorem aRD{a b:ct}:eqv a b=(eqv a.step b.step&&(eqv a.length b.length&&eqv a.alter b.alter)):=by rw[DS];simp only[AI,fO];cases a;cases b;simp
theorem aRE{a b:Fact}:eqv a b=(eqv a.kind b.kind&&(eqv a.block b.block&&(eqv a.a b.a&&eqv a.b b.b))):=by rw[DS];simp only[AI,fO];cases a;cases b;simp
def pX{α:Type}(A:af)(f:Nat)(v:α->AV)(P:α->Prop):Prop:=aLR A f v eqv P
abbrev aEd{α:Type}(A:af)(f:Nat)(enc:α->LA):Prop:=∀(x y:List α) (H:LO),x.length<4611686018427387904->aG A f [.sl QT (x.map enc),.sl QT (y.map enc)] H=QQ (.bool (eqv x y),H,[])
abbrev aJf{α:Type}(A:af)(f h:Nat)(enc:α->LA)(P:α->Prop):Prop:=
 ∀(x y:List α) (H:LO),x.length<4611686018427387904->(∀a∈x,P a)->aG A f [.sl QT (x.map enc),.sl QT (y.map enc),.fn h [] []] H=QQ (.bool (eqv x y),H,[])
theorem aPx.eqv{α:Type}{A:af}{f:Nat}{enc:α->LA}(h:aPx A f enc eqv):aEd A f enc:=fun x y H hx=>by rw[h x y H hx,aLS]
theorem aJe.eqv{α:Type}{A:af}{f f2:Nat}{enc:α->LA}{P:α->Prop}(h:aJe A f f2 enc eqv P):aJf A f f2 enc P:=fun x y H hx hP=>by rw[h x y H hx hP,aLS]
theorem aXV{A:af}{f:Nat}(hf:A.fn f=QQ (oE 1 QT .no))(hp:A.bq f=N2):aEd A f bF:=
 (vO hf hp (fun _=>rfl) (fun _=>rfl) (fun a b=>by rw[<- aEc];simp[asV,bF,aUi,bne])).eqv
theorem aT2{A:af}{f:Nat}(hf:A.fn f=QQ (oE 1 QT .no))(hp:A.bq f=N2):aEd A f aN:=
 (vO hf hp (fun _=>rfl) (fun _=>rfl) (fun a b=>by rw[<- aEc];simp[asV,aN,aRy,bne])).eqv
theorem aGp{ts:List Tag}{x y:LA}{b:Bool}(h:lP ts x y=QQ b):kJ .neq (.cells ts) (.agg x) (.agg y)=QQ (.bool !b):=by simp[kJ,tN,h]
theorem aXW{A:af}{f:Nat}(hf:A.fn f=QQ (oE 2 QS (.cells [.int,.str])))(hp:A.bq f=N2):aEd A f cZ:=
 (vO hf hp (fun _=>rfl) (fun _=>rfl) (fun a b=>aGp (by
  rw[aUu];simp only[cZ,lP,aCO,Zv,aEc];grind))).eqv
theorem aRF{A:af}{f:Nat}(hf:A.fn f=QQ (oE 2 QS (.cells [.int,.int])))(hp:A.bq f=N2):aEd A f bL:=
 (vO hf hp (fun _=>rfl) (fun _=>rfl) (fun a b=>aGp (by
  rw[aPz];simp only[bL,lP,aCO,Zv,aEc];grind))).eqv
theorem aUv{A:af}{f:Nat}(hf:A.fn f=QQ (oE 3 QS (.cells [.int,.int,.int])))(hp:A.bq f=N2):aEd A f bV:=
 (vO hf hp (fun _=>rfl) (fun _=>rfl) (fun a b=>aGp (by
  rw[aRD];simp only[bV,lP,aCO,Zv,aEc];grind))).eqv
theorem bK6{A:af}{f:Nat}(hf:A.fn f=QQ (oE 4 QS (.cells [.int,.int,.int,.int])))(hp:A.bq f=N2):aEd A f aI:=
 (vO hf hp (fun _=>rfl) (fun _=>rfl) (fun a b=>aGp (by
  rw[aRE];simp only[aI,lP,aCO,Zv,aEc];grind))).eqv
theorem aJg{α:Type}{A:af}{f h:Nat}{v:α->AV}{enc:α->LA}{P:α->Prop}(hf:A.fn f=QQ aGo)(hp:A.bq f=N2)(hv:∀a,enc a=[v a])(hd:∀a,(v a).data=QS)(O9:∀a,(v a).ak=QS) (hc:pX A h v P):aJf A f h enc P:=(aPy hf hp hv hd O9 hc).eqv
theorem aPA{α:Type}{A:af}{f h k:Nat}{zs:LA}{enc:α->LA}{P:α->Prop}(hf:A.fn f=QQ (aLQ k zs))(hp:A.bq f=N2)(hz:zs.length=k)(hk:∀a,(enc a).length=k) (hd:∀a,iX (enc a)=QS) (hc:pX A h (fun a=>.agg (enc a)) P):aJf A f h enc P:=(aRB hf hp hz hk hd hc).eqv
abbrev Len{α:Type}(l:List α):Prop:=l.length<4611686018427387904
theorem aZ:∀l:List Expr,gO l=l.map aF
 | []=>rfl
 |e::r=>by rw[gO,aZ r];rfl
theorem cF(b:Block):(aE b).length=13:=by obtain⟨_,_,⟨_,_,_⟩,_,_,_,_,_,_,_,_⟩:=b;rfl
theorem dP(e:Expr):(aF e).length=3:=by cases e;rfl
theorem aJh{A:af}{g:SN}(h:Has A g "am" (qV g)) (hf:A.fn (g "bW")=QQ (aLQ 3 [.int .i64 0,.int .i64 0,.sl QS []])) (hp:A.bq (g "bW")=N2):pX A (g "am") (fun e=>.agg (aF e)) Expr.Ok:=by
 have key:∀n:Nat,pX A (g "am") (fun e=>.agg (aF e)) (fun e=>Expr.Ok e/\SizeOf.sizeOf e<n):=by
  intro n
  induction n with
  |zero=>intro a b H ha;grind
  |succ n ih=>
   intro a b H ha;have hk:=aPA (enc:=aF) hf hp rfl dP aV ih;obtain⟨op,n1,kids⟩:=a;obtain⟨op',n1',kids'⟩:=b;obtain⟨⟨_,_,_,_,_,hl,E7⟩,gd⟩:=ha;have pt:=fun H=>hk kids kids' H omT (fun e he=>⟨E7 e he,by
    have:=List.sizeOf_lt_of_mem he;grind⟩)
   have hE:eqv (Expr.mk op n1 kids) (Expr.mk op' n1' kids')=(eqv op op'&&(eqv n1 n1'&&eqv kids kids')):=by rw[DS];simp only[AI,fO];simp
   refine h.call ?_;simp only[qV,aF,aZ];cases e1:eqv op op' with
   |false=>simp only[go_sem,seval,aKv,hE,e1]
   |true=>cases e2:eqv n1 n1' with
    |false=>simp only[go_sem,seval,aKv,hE,e1,e2]
    |true=>simp only[go_sem,seval,aKv,hE,e1,e2,pt]
 intro a b H ha;exact key (SizeOf.sizeOf a+1) a b H ⟨ha,omT⟩
structure HasSameB(A:af)(g:SN):Prop where
 block:Has A g "bP" (zG g)
 xy:Has A g "cG" (sW g)
 xz:Has A g "cH" (sX g)
 expr:Has A g "am" (qV g)
 B2:Has A g "dy" (aLQ 2 [z0,(.sl QS [])])
 K9:Has A g "bW" (aLQ 3 [z0,z0,(.sl QS [])])
 L0:Has A g "dt" aGo
 B3:Has A g "ds" aGo
 L4:Has A g "du" aGo
 L5:Has A g "dA" (oE 2 QS (.cells [.int,.int]))
 note:Has A g "cW" (oE 3 QS (.cells [.int,.int,.int]))
 run:Has A g "cc" (oE 2 QS (.cells [.int,.str]))
 int:Has A g "cX" (oE 1 QT .no)
 str:Has A g "aq" (oE 1 QT .no)
structure wx(A:af)(g:SN):Prop extends HasSameB A g where
 same:Has A g "as" (bJ6 g)
 X9:Has A g "cA" (bIZ g)
 jd:Has A g "cI" (bIL g)
 X6:Has A g "dw" (aLQ 4 [.str [],.sl QS [],.sl QS [],.sl QS []])
 H7:Has A g "dv"
  (aLQ 13 [z0,(.sl QS []),z0,z0,(.sl QS []),z0,(.sl QS []),(.sl QS []),z0,z0,(.sl QS []),(.sl QS []),(.sl QS [])])
 xr:Has A g "dx"
  (aLQ 7 [z0,(.sl QS []),(.sl QS []),(.sl QS []),(.str []),z0,(.sl QS [])])
 fact:Has A g "dz" (oE 4 QS (.cells [.int,.int,.int,.int]))
section
variable {A:af}{g:SN}(h:HasSameB A g)
include h
theorem aNZ:pX A (g "cG") (fun s=>.agg (aH s)) Shape.Ok:=by
 intro a b H ha;have hP:=aRF h.L5.fn h.L5.bq;have hp:=fun H=>hP a.points b.points H (by have:=ha.len;omega);refine h.xy.call ?_;simp only[sW,aH];cases e1:eqv a.kind b.kind with
 |false=>simp only[go_sem,seval,aKv,aKw,e1]
 |true=>simp only[go_sem,seval,aKv,aKw,e1,hp]
theorem aRG:pX A (g "cW") (fun l:List ct=>.sl QT (l.map bV)) (fun l=>l.length<=16):=by intro a b H ha;exact aUv h.note.fn h.note.bq a b H omT
theorem aPB:pX A (g "cH") (fun l:List (List ct)=>.sl QT (l.map gH)) (fun l=>l.length<=16/\∀b∈l,b.length<=16):=by intro a b H ha;have hE:=aJg (enc:=gH) h.L0.fn h.L0.bq (fun _=>rfl) (fun _=>aC aD9 _) (fun _=>rfl) (aRG h);have hp:=fun H=>hE a b H (by grind) ha.2;refine h.xz.call ?_;simp only[sX];simp only[go_sem,seval,hp]
theorem aRH:pX A (g "aq") (fun l:List Str=>.sl QT (l.map aN)) (fun l=>l.length<=16):=by intro a b H ha;exact aT2 h.str.fn h.str.bq a b H omT
end
section
variable {A:af}{g:SN}(h:wx A g)
include h
theorem bJc:pX A (g "cI") (fun q=>.agg (gR q)) Question.Ok:=by
 intro a b H ha;have h1:=fun H=>aXW h.run.fn h.run.bq a.lk b.lk H (by have:=ha.fg;omega);have h2:=fun H=>aT2 h.str.fn h.str.bq a.options b.options H (by have:=ha.Q3;omega);have h3:=fun H=>aXV h.int.fn h.int.bq a.cy b.cy H (by have:=ha.Q4;omega);have h4:=fun H=>aT2 h.str.fn h.str.bq a.dv b.dv H (by have:=ha.vw;omega);have hE:eqv a b=(eqv a.kind b.kind&&(eqv a.key b.key&&(eqv a.points b.points&&(eqv a.lk b.lk&&(eqv a.options b.options&&(eqv a.cy b.cy&&eqv a.dv b.dv)))))):=by rw[DS];simp only[AI,fO];cases a;cases b;simp;grind
 refine h.jd.call ?_;simp only[bIL,gR];cases e1:eqv a.kind b.kind with
 |false=>simp only[go_sem,seval,aKv,hE,e1]
 |true=>
  cases e2:eqv a.key b.key with
  |false=>simp only[go_sem,seval,aKv,bJL,hE,e1,e2]
  |true=>
   cases e3:eqv a.points b.points with
   |false=>simp only[go_sem,seval,aKv,bJL,hE,e1,e2,e3]
   |true=>
    cases e4:eqv a.lk b.lk with
    |false=>simp only[go_sem,seval,aKv,bJL,hE,e1,e2,e3,h1,e4]
    |true=>
     cases e5:eqv a.options b.options with
     |false=>simp only[go_sem,seval,aKv,bJL,hE,e1,e2,e3,h1,e4,h2,e5]
     |true=>
      cases e6:eqv a.cy b.cy with
      |false=>simp only[go_sem,seval,aKv,bJL,hE,e1,e2,e3,h1,e4,h2,e5,h3,e6]
      |true=>simp only[go_sem,seval,aKv,bJL,hE,e1,e2,e3,h1,e4,h2,e5,h3,e6,h4]
end
section
variable {A:af}{g:SN}(h:HasSameB A g)
include h
theorem aO0:pX A (g "bP") (fun q=>.agg (aE q)) Block.Ok:=by
 intro a b H ha;have h1:=fun H=>aXW h.run.fn h.run.bq a.runs b.runs H (by have:=ha.vw;omega);have h2:=fun H=>aJh h.expr h.K9.fn h.K9.bq a.expr b.expr H ha.expr;have h3:=fun H=>aXV h.int.fn h.int.bq a.eg b.eg H (by have:=ha.tj;omega);have h4:=fun H=>(aJg (enc:=bY) h.L4.fn h.L4.bq (fun _=>rfl) (fun _=>aC bO _) (fun _=>rfl) (aRH h)) a.cd b.cd H (by have:=ha.uu;omega) (fun r hr=>(ha.cd r hr).1);have h5:=fun H=>(aPA (enc:=aH) h.B2.fn h.B2.bq rfl (fun _=>rfl) bW (aNZ h)) a.aw b.aw H (by have:=ha.fg;omega) ha.aw;have h6:=fun H=>(aJg (enc:=bS) h.B3.fn h.B3.bq (fun _=>rfl) (fun _=>aC aFA _) (fun _=>rfl) (aPB h)) a.bo b.bo H (by have:=ha.uv;omega)
  (fun r hr=>⟨(ha.bo r hr).1,fun l hl=>((ha.bo r hr).2 l hl).1⟩)
 have h7:=fun H=>aT2 h.str.fn h.str.bq a.lines b.lines H (by have:=ha.vz;omega);have hE:eqv a b=(eqv a.kind b.kind&&(eqv a.runs b.runs&&(eqv a.expr b.expr&&(eqv a.dn b.dn&&(eqv a.eg b.eg&&(eqv a.cd b.cd&&(eqv a.w b.w&&(eqv a.h b.h&&(eqv a.aw b.aw&&(eqv a.bo b.bo&&eqv a.lines b.lines)))))))))):=by rw[DS];simp only[AI,fO];cases a;cases b;simp
 cases Ew:a.expr with | mk op n kids=>
 cases nz:b.expr with | mk op' n' kids'=>
 rw[Ew,nz]at h2;rw[Ew,nz]at hE;simp only[aF,aZ]at h2;refine h.block.call ?_;simp only[zG,aE,Ew,nz,aF,aZ];cases e1:eqv a.kind b.kind with
 |false=>simp only[go_sem,seval,aKv,hE,e1]
 |true=>
  cases e2:eqv a.runs b.runs with
  |false=>simp only[go_sem,seval,aKv,hE,e1,h1,e2]
  |true=>
   cases e3:eqv (Expr.mk op n kids) (Expr.mk op' n' kids')with
   |false=>simp only[go_sem,seval,aKv,hE,e1,h1,e2,h2,e3]
   |true=>
    cases e4:eqv a.dn b.dn with
    |false=>simp only[go_sem,seval,aKv,hE,e1,h1,e2,h2,e3,e4]
    |true=>
     cases e5:eqv a.eg b.eg with
     |false=>simp only[go_sem,seval,aKv,hE,e1,h1,e2,h2,e3,e4,h3,e5]
     |true=>
      cases e6:eqv a.cd b.cd with
      |false=>simp only[go_sem,seval,aKv,hE,e1,h1,e2,h2,e3,e4,h3,e5,h4,e6]
      |true=>
       cases e7:eqv a.w b.w with
       |false=>simp only[go_sem,seval,aKv,hE,e1,h1,e2,h2,e3,e4,h3,e5,h4,e6,e7]
       |true=>
        cases e8:eqv a.h b.h with
        |false=>simp only[go_sem,seval,aKv,hE,e1,h1,e2,h2,e3,e4,h3,e5,h4,e6,e7,e8]
        |true=>
         cases e9:eqv a.aw b.aw with
         |false=>simp only[go_sem,seval,aKv,hE,e1,h1,e2,h2,e3,e4,h3,e5,h4,e6,e7,e8,h5,e9]
         |true=>
          cases e10:eqv a.bo b.bo with
          |false=>simp only[go_sem,seval,aKv,hE,e1,h1,e2,h2,e3,e4,h3,e5,h4,e6,e7,e8,h5,e9,h6,e10]
          |true=>simp only[go_sem,seval,aKv,hE,e1,h1,e2,h2,e3,e4,h3,e5,h4,e6,e7,e8,h5,e9,h6,e10,h7]
end
section
variable {A:af}{g:SN}(h:wx A g)
include h
theorem bJM:pX A (g "cA") (fun q=>.agg (aO q)) Item.Ok:=by
 intro a b H ha;have h1:=fun H=>(aPA (enc:=aE) h.H7.fn h.H7.bq rfl cF bG (aO0 h.toHasSameB)) a.blocks b.blocks H (by have:=ha.zq;omega) ha.blocks;have h2:=fun H=>bK6 h.fact.fn h.fact.bq a.facts b.facts H (by have:=ha.B1;omega);have h3:=fun H=>(aPA (enc:=gR) h.xr.fn h.xr.bq rfl (fun _=>rfl) aBI (bJc h)) a.ask b.ask H (by have:=ha.tj;omega) ha.ask;have hE:eqv a b=(eqv a.name b.name&&(eqv a.blocks b.blocks&&(eqv a.facts b.facts&&eqv a.ask b.ask))):=by rw[DS];simp only[AI,fO];cases a;cases b;simp
 refine h.X9.call ?_;simp only[bIZ,aO];cases e1:eqv a.name b.name with
 |false=>simp only[go_sem,seval,bJL,hE,e1]
 |true=>
  cases e2:eqv a.blocks b.blocks with
  |false=>simp only[go_sem,seval,bJL,hE,e1,h1,e2]
  |true=>
   cases e3:eqv a.facts b.facts with
   |false=>simp only[go_sem,seval,bJL,hE,e1,h1,e2,h2,e3]
   |true=>simp only[go_sem,seval,bJL,hE,e1,h1,e2,h2,e3,h3]
theorem bJN:pX A (g "as") dE jm.Ok:=by
 intro a b H ha;have h1:=fun H=>(aPA (enc:=aO) h.X6.fn h.X6.bq rfl (fun _=>rfl) dV (bJM h)) a.items b.items H (by have:=ha.G8;omega) ha.items;have hE:eqv a b=(eqv a.title b.title&&eqv a.items b.items):=by rw[DS];simp only[AI,fO];cases a;cases b;simp
 refine h.same.call ?_;simp only[bJ6,dE];cases e1:eqv a.title b.title with
 |false=>simp only[go_sem,seval,bJL,hE,e1]
 |true=>simp only[go_sem,seval,bJL,hE,e1,h1]
end
def xM(g:SN):bw:=⟨15,[],[.tmp 6],qS [qmc 6 (.bool QT)]<|qS [qm 7 0,qm 8 1,qb 9 .geq 7 8,qm 10 9,qT 11 10 (om 0),qT 12 10 (om 2),qT 13 10 (ob .leq 11 12),qp 14 10 13,qm 6 14]<|.ret⟩
def wi(n a b:Int):Bool:=decide (n ≥ a)&&decide (n<=b)
abbrev eO(A:af)(g:SN):Prop:=∀(n a b:Int) (H:LO),aG A (g "d") [vi n,vi a,vi b] H=QQ (.bool (wi n a b),H,[])
theorem kO{A:af}{g:SN}(h:Has A g "d" (xM g)):eO A g:=by
 intro n a b H;refine h.call ?_;simp only[xM];cases e1:decide (n ≥ a)with
 |false=>simp only[go_sem,↓aB,seval,e1,wi,BQ,BB]
 |true=>simp only[go_sem,↓aB,seval,e1,wi,BR,Zz]
structure mv{α:Type}(k:Nat)(agg:Bool)(enc:α->LA):Prop where
 len:∀a,(enc a).length=k
 data:∀a,iX (enc a)=QS
 one:agg=QT->k=1
section
variable {α:Type}{k:Nat}{agg:Bool}{enc:α->LA}
theorem mv.of(h:mv k agg enc)(a:α):eD agg (enc a)=QQ (asV agg (enc a)):=by
 cases agg with
 |true=>rfl
 |false=>
  have h1:=(h.len a).trans (h.one rfl)
  match he:enc a,h1 with
  | [v],_=>rfl
theorem mv.dw(h:mv k agg enc)(a:α)(H:LO):dw H (asV agg (enc a))=QQ (asV agg (enc a),[]):=by
 cases agg with
 |true=>show dw H (.agg (enc a))=_;rw[aRx,aS (h.data a)];rfl
 |false=>
  have h1:=(h.len a).trans (h.one rfl);have h2:=h.data a
  match he:enc a,h1 with
  | [v],_=>rw[he]at h2;simp only[iX,AI]at h2;have:=xH (H:=H) h2.1.2 h2.1.1;show dw H v=QQ (v,[]);cases v<;>first | exact this | exact Zw h2.1.1 ED
theorem mv.strip(h:mv k agg enc)(a:α):(asV agg (enc a)).strip=asV agg (enc a):=by
 cases agg with
 |true=>show AV.agg ((enc a).map AV.aj)=_;rw[aK (h.data a)];rfl
 |false=>
  have h1:=(h.len a).trans (h.one rfl);have h2:=h.data a
  match he:enc a,h1 with
  | [v],_=>rw[he]at h2;simp only[iX,AI]at h2;have:=tT h2.1.2;show v.strip=v;cases v<;>first | exact this | exact Zw h2.1.1 ED
theorem mv.take(h:mv k agg enc)(a:α):(enc a).take k=enc a:=CH (by rw[h.len];grind)
theorem mv.still(h:mv k agg enc)(a:α):(enc a).all AV.still=true:=bR (h.data a)
theorem mv.ga(h:mv k agg enc)(a:α):(enc a).map AV.aj=enc a:=aK (h.data a)
end
structure jc(ay:LA):Prop where
 dw:∀H,kA H ay=QQ (ay,[])
 strip:ay.map AV.strip=ay
 aj:ay.map AV.aj=ay
 still:ay.all AV.still=QS
theorem cQ:jc []:=⟨fun _=>rfl,rfl,rfl,rfl⟩
theorem jc.ep{ay:LA}(h:jc ay)(row:LA)(off:Nat):jc (.ep row off::ay):=by
 refine⟨fun H=>?_, ?_, ?_, ?_⟩
 ·show (match kA H ay with | none=>N2 | some (r',l')=>QQ (AV.ep row off::r',[]++l'))=_;rw[h.dw];rfl
 ·rw[BI,h.strip];rfl
 ·rw[BI,h.aj];rfl
 rw[ES,h.still];rfl
theorem jc.ptr{ay:LA}(h:jc ay)(o v off:Nat):jc (.ptr o v off::ay):=by
 refine⟨fun H=>?_, ?_, ?_, ?_⟩
 ·show (match kA H ay with | none=>N2 | some (r',l')=>QQ (AV.ptr o v off::r',[]++l'))=_;rw[h.dw];rfl
 ·rw[BI,h.strip];rfl
 ·rw[BI,h.aj];rfl
 rw[ES,h.still];rfl
def aMW{α:Type}(p:α->Bool)(l:List α):Int:=match l.findIdx? p with
 |some i=>(i:Int)
 |none => -1
theorem aLT{α:Type}{p:α->Bool}{l:List α}{i:Nat}(h:i<l.length)(hp:p l[i]=QS)(hn:∀j (hj:j<i),p (l[j]'omT)=QT):aMW p l=i:=by grind [aMW,List.findIdx?_eq_some_iff_getElem]
theorem aGq{α:Type}{p:α->Bool}{l:List α}(hn:∀j (hj:j<l.length),p l[j]=QT):aMW p l = -1:=by
 unfold aMW;rw[List.findIdx?_eq_none_iff.2 fun x hx=>by
  obtain⟨j,hj,rfl⟩:=List.getElem_of_mem hx;exact hn j hj]
theorem aLU{α:Type}{p:α->Bool}{l:List α}:decide (aMW p l ≥ 0)=l.any p:=by unfold aMW;grind
abbrev bCi(k:Nat)(agg:Bool):ag:=
 qS [qb 9 .lss 8 7] <|.seq (qC 9 (.skip)
  (.exit 0)) <|.seq (.block 1 (qS [qm 10 8,
   qm 5 10] <|
  qS [qm 11 1,
   qm 12 0,
   qm 13 5,
   qi 14 12 13 k,
   qq 15 (.load k agg (u 14)),
   qq 16 (.dm (u 11) [(.tmp 15)])] <|
  qC 16 (qS [qm 17 5,
    qm 4 17] <|.ret)
   (.skip))) <|.region QT [qbi 18 .add 8 1,
  qm 8 18]
def aKx(k:Nat)(agg:Bool):bw:=⟨19,[],[.tmp 4],
 qS [qmc 4 z0] <|.seq (qS [qm 6 0,
  qn 7 6,
  qmc 8 z0] <|.block 0 (.loop (bCi k agg))) <|
 qS [qmc 4 (.int .i64 (-1))] <|.ret⟩
def aLV(fi:Nat):bw:=⟨9,[],[.tmp 4],
 qS [qmc 4 (.bool QT)] <|
 qS [qm 5 0,
  qm 6 1,
  qc 7 fi [u 5,u 6],
  qbi 8 .geq 7 0,
  qm 4 8] <|.ret⟩
def aRI(fw fc f1:Nat):bw:=⟨20,[],[.tmp 8],
 qS [qx 7 1 3,
  qmc 8 (.bool QT)] <|
 qS [qm 9 0,
  qn 10 9,
  qm 11 1,
  qm 12 2,
  qc 13 fw [u 10,u 11,u 12],
  qm 14 13,
  qT 15 14 (om 0),
  qT 16 14 (.mkf f1 [] [(.tmp 7)]),
  qT 17 14 (oc fc [u 15,u 16]),
  qT 18 14 (.un .not (u 17)),
  qp 19 14 18,
  qm 8 19] <|.ret⟩
def aRJ(k:Nat):bw:=⟨8,[],[.tmp 3],
 qS [qx 2 k 0,
  qmc 3 (.bool QT)] <|
 qS [ql 4 1 1,
  qla 5 k 2,
  qq 6 (.dm (u 4) [(.tmp 5)]),
  qq 7 (.un .not (u 6)),
  qm 3 7] <|.ret⟩
def aRK:bw:=⟨8,[],[.tmp 3],qS [qmc 3 (.bool QT)]<|qS [ql 4 1 1,qm 5 0,qq 6 (.dm (u 4) [(.tmp 5)]),qq 7 (.un .not (u 6)),qm 3 7]<|.ret⟩
section
variable {α:Type}{A:af}{k:Nat}{agg:Bool}{enc:α->LA}{ay:LA}{q:α->Bool}{l:List α}{H:LO}{f1:Nat}
abbrev aRL{α:Type}(l:List α):Prop:=l.length<4611686018427387904
abbrev aUw(A:af)(f1:Nat)(ay:LA)(v:α->AV)(q:α->Bool)(l:List α)(H:LO):Prop:=∀a∈l,aG A f1 (v a::ay) H=QQ (.bool (q a),H,[])
theorem aDa{f:Nat}(hf:A.fn f=QQ (aKx k agg))(hp:A.bq f=N2)(he:mv k agg enc)(hc:jc ay)(hl:aRL l)(h:aUw A f1 ay (fun a=>asV agg (enc a)) q l H):aG A f [.sl QT (l.map enc),.fn f1 [] ay] H=QQ (vi (aMW q l),H,[]):=by
 obtain⟨v1,H1,dc,h1,rfl,rfl,rfl⟩:=kN (args:=[.sl QT (l.map enc),.fn f1 [] ay]) (H:=H) (K:=fun v' H'' ba=>v'=vi (aMW q l)/\H''=H/\ba=[]) hf (by rw[hp];rfl) (by simp[aKx]) rfT (by
  simp only[aKx];simp only[go_sem,↓aB,seval,AF];refine bJ (id:=0) (fun i ρ1 H1 wr=>wr=[]/\H1=H/\ρ1 8=vi i/\∀j (hj:j<i) (hl:j<l.length),q l[j]=QT) l.length
   (fun ρ1 H1 wr=>wr=[]/\H1=H/\∀j (hl:j<l.length),q l[j]=QT)
   rfT rfl ⟨rfl,siT,rfl,fun j hj=>omT⟩ ?_ ?_
  ·rintro i ρ1 H1 dc mg ⟨rfl,rfl,e8,hn⟩ hf;have e0:ρ1 0=.sl QT (l.map enc):=hf 0 rfl;have e1:ρ1 1=.fn f1 [] ay:=hf 1 rfl;have e7:ρ1 7=vi l.length:=hf 7 rfl;simp only[go_sem,↓aB,seval,e8,e7];refine aD (fun hb=>?_) (fun hb=>?_)
   ·have hlt:i<l.length:=by simpa using hb
    have hg:(l.map enc)[i]? = QQ (enc l[i]):=getElem?_map_of hlt;have gq:(0:Int)<=(i:Int):=omT;have kx:((i:Int)).toNat=i:=omT;have Qe:=wS (i:=i) omT;have az:=h l[i] (AS hlt);cases hq:q l[i]with
    |true=>rw[hq]at az;simp only[go_sem,↓aB,seval,e0,e1,e8,hg,gq,kx,he.len,he.take,he.of,he.dw,he.strip,hc.dw,hc.strip,BI,az];exact (aLT (p:=q) hlt hq fun j hj=>hn j hj omT).symm ▸ rfl
    |false=>rw[hq]at az;simp only[go_sem,↓aB,seval,e0,e1,e8,hg,gq,kx,he.len,he.take,he.of,he.dw,he.strip,hc.dw,hc.strip,BI,az,Qe];grind
   have hi:i=l.length:=by grind
   subst hi;simp only[go_sem,seval];grind
  rintro ρ' H' ba ⟨rfl,rfl,hn⟩ hf;simp only[go_sem,↓aB,seval,aGq (p:=q) hn])
 exact h1
theorem aGr{f fi:Nat}(hf:A.fn f=QQ (aLV fi))(hp:A.bq f=N2)(hc:jc ay)(hi:aG A fi [.sl QT (l.map enc),.fn f1 [] ay] H=QQ (vi (aMW q l),H,[])):aG A f [.sl QT (l.map enc),.fn f1 [] ay] H=QQ (.bool (l.any q),H,[]):=by
 obtain⟨v1,H1,dc,h1,rfl,rfl,rfl⟩:=kN (args:=[.sl QT (l.map enc),.fn f1 [] ay]) (H:=H) (K:=fun v' H'' ba=>v'=.bool (l.any q)/\H''=H/\ba=[]) hf (by rw[hp];rfl) (by simp[aLV]) rfT (by
  simp only[aLV];simp only[go_sem,↓aB,seval,hi,aLU])
 exact h1
theorem aO1{f f2:Nat}(hf:A.fn f=QQ (aRJ k))(hp:A.bq f=N2)(he:mv k QS enc)(hc:jc ay)(h:aUw A f2 ay (fun a=>.agg (enc a)) q l H):aUw A f [.ep [.fn f2 [] ay] 0] (fun a=>.agg (enc a)) (fun a => !q a) l H:=by
 intro a ha;obtain⟨v1,H1,dc,h1,rfl,rfl,rfl⟩:=kN (args:=[.agg (enc a),.ep [.fn f2 [] ay] 0]) (H:=H) (K:=fun v' H'' ba=>v'=.bool (!q a)/\H''=H/\ba=[]) hf (by rw[hp];rfl) (by simp[aRJ]) rfT (by
  have hl:=he.dw a H;have bd:=he.strip a;simp only[asV,Zv]at hl bd;have az:=h a ha;simp only[aRJ];simp only[go_sem,↓aB,seval,he.len,he.take,he.still,hl,bd,hc.dw,hc.strip,BI,az])
 exact h1
theorem aO2{f f2:Nat}(hf:A.fn f=QQ aRK)(hp:A.bq f=N2)(he:mv 1 QT enc)(hc:jc ay)(h:aUw A f2 ay (fun a=>asV QT (enc a)) q l H):aUw A f [.ep [.fn f2 [] ay] 0] (fun a=>asV QT (enc a)) (fun a => !q a) l H:=by
 intro a ha;obtain⟨v1,H1,dc,h1,rfl,rfl,rfl⟩:=kN (args:=[asV QT (enc a),.ep [.fn f2 [] ay] 0]) (H:=H) (K:=fun v' H'' ba=>v'=.bool (!q a)/\H''=H/\ba=[]) hf (by rw[hp];rfl) (by simp[aRK]) rfT (by
  have az:=h a ha;simp only[aRK];simp only[go_sem,↓aB,seval,he.dw,he.strip,hc.dw,hc.strip,BI,az])
 exact h1
theorem aPC{α:Type}{q:α->Bool}{l:List α}:l.any (fun a => !q a) = !l.all q:=by grind
theorem aPD{g:SN}{f fc g1:Nat}(hf:A.fn f=QQ (aRI (g "d") fc g1))(hp:A.bq f=N2)(hw:eO A g){lo hi:Int}(hl:aRL l) (h:wi l.length lo hi=QS->aG A fc [.sl QT (l.map enc),.fn g1 [] [.ep [.fn f1 [] ay] 0]] H=QQ (.bool (l.any fun a => !q a),H,[])):aG A f [.sl QT (l.map enc),vi lo,vi hi,.fn f1 [] ay] H=QQ (.bool (wi l.length lo hi&&l.all q),H,[]):=by
 obtain⟨v1,H1,dc,h1,rfl,rfl,rfl⟩:=kN (args:=[.sl QT (l.map enc),vi lo,vi hi,.fn f1 [] ay]) (H:=H) (K:=fun v' H'' ba=>v'=.bool (wi l.length lo hi&&l.all q)/\H''=H/\ba=[]) hf (by rw[hp];rfl) (by simp[aRI]) rfT (by
  simp only[aRI];have dy:=hw l.length lo hi;cases e:wi l.length lo hi with
  |false=>rw[e]at dy;simp only[go_sem,↓aB,seval,AF,dy,BB,BQ]
  |true=>
   rw[e]at dy;have hh:=h e;rw[aPC]at hh;simp only[go_sem,↓aB,seval,AF,dy,Zz,BR,hh,Bool.not_not])
 exact h1
end
structure fe(A:af)(g:SN)(k:Nat)(agg:Bool)(fa:Nat):Prop where
 ex:∃fc fi f1,(A.fn fa=QQ (aRI (g "d") fc f1)/\A.bq fa=N2)/\(A.fn fc=QQ (aLV fi)/\A.bq fc=N2)/\(A.fn fi=QQ (aKx k agg)/\A.bq fi=N2) /\
  (A.fn f1=QQ (if agg then aRJ k else aRK)/\A.bq f1=N2)
theorem fe.spec{α:Type}{A:af}{g:SN}{k:Nat}{agg:Bool}{fa:Nat}(h:fe A g k agg fa)(hw:eO A g){enc:α->LA}(he:mv k agg enc){ay:LA}(hc:jc ay){l:List α}(hl:aRL l){H:LO}{f1:Nat}{q:α->Bool}{lo hi:Int} (hs:wi l.length lo hi=QS->aUw A f1 ay (fun a=>asV agg (enc a)) q l H):aG A fa [.sl QT (l.map enc),vi lo,vi hi,.fn f1 [] ay] H=QQ (.bool (wi l.length lo hi&&l.all q),H,[]):=by
 obtain⟨fc,fi,g1,⟨a1,a2⟩,⟨b1,b2⟩,⟨c1,c2⟩,⟨d1,d2⟩⟩:=h.ex;refine aPD a1 a2 hw hl fun e=>aGr b1 b2 (cQ.ep _ _) (aDa c1 c2 he (cQ.ep _ _) hl ?_);cases agg with
 |true=>exact aO1 d1 d2 he hc (hs e)
 |false=>have:=he.one rfl;subst this;exact aO2 d1 d2 he hc (hs e)
def aAo(g:SN):bw:=⟨6,[1],[.tmp 2],qS [qx 1 4 0,qmc 2 (.bool QT)]<|qS [qf 3 3 1,ql 4 1 3,qbi 5 .eql 4 0,qm 2 5]<|.ret⟩
def aWl(fd:Nat):aIP:=fun args H=>match args with
 | [.sr o v n,.fn f [] []]=>match H[o]? with
  |some (.vec v' 4 [[.int .i64 a,.int .i64 b,.int .i64 c,.int .i64 e]])=>if v'=v/\n=1/\f=fd then
    (if e=0 then QQ (.sl QT [],[(o,.gone v)],[])else QQ (.sr o v 1,[],[]))
   else N2
  |_=>N2
 |_=>N2
def aO3:af:=⟨fun f=>if f=120 then QQ (aKx 4 QS)else if f=75 then QQ (aAo fun _=>0)else N2,fun _=>N2⟩
open Go.Proofs Go.RowKit
theorem aPE{ab:cu}:Go.AM.Good Tryz.prog ab aO3 where
 mixed:=bIv
 A5:=⟨bIv,rfl⟩
 bq:=fun f p h=>by cases h
 fn:=fun f fn h=>by
  simp only[aO3]at h;split at h
  ·rename_i e;subst e;cases h;exact .inl ⟨_,_,fun _=>[],QT,[],[],Tryz.func120,bIv,rfl,bIv,bIv,bIv⟩
  split at h
  ·rename_i e;subst e;cases h;exact .inl ⟨_,_,fun _=>[],QT,[],[],Tryz.func75,bIv,rfl,bIv,bIv,bIv⟩
  cases h
theorem aRM(a b c e:Int)(H:LO):aG aO3 75 [.agg [.int .i64 a,.int .i64 b,.int .i64 c,.int .i64 e]] H=QQ (.bool (e==0),H,[]):=by have h:Has aO3 (fun _=>75) "" (aAo fun _=>0):=⟨rfl,rfl⟩;refine h.call (g:=fun _=>75) (name:= "") ?_;simp only[aAo];simp only[go_sem,↓aB,seval,AD,AA,AE,AB]
abbrev bC0(p:Int×Int×Int×Int):LA:=[vi p.1,vi p.2.1,vi p.2.2.1,vi p.2.2.2]
theorem aRN:mv 4 QS bC0:=⟨fun _=>rfl,fun _=>rfl,fun h=>by cases h⟩
theorem aRO(a b c e:Int)(H:LO):aG aO3 120 [.sl QT [[vi a,vi b,vi c,vi e]],.fn 75 [] []] H=QQ (vi (if e=0 then 0 else -1),H,[]):=by
 have h:=aDa (A:=aO3) (f:=120) (f1:=75) (ay:=[]) (l:=[(a,b,c,e)]) (q:=fun p:Int×Int×Int×Int=>p.2.2.2==0) (enc:=bC0) (H:=H) rfl rfl aRN cQ (by show (1:Nat)<_;decide) (fun p _=>aRM p.1 p.2.1 p.2.2.1 p.2.2.2 H);have e1:aMW (fun p:Int×Int×Int×Int=>p.2.2.2==0) [(a,b,c,e)]=if e=0 then 0 else -1:=by
  by_cases h0:e=0
  ·simp[aMW,h0]
  simp[aMW,h0]
 rw[e1]at h;exact h
theorem aRP{ab:cu}{g:G}{H:LO}{w:BL}(hw:WF g H w)(hg:bM Tryz.prog ab g){o v:Nat}{a b c e:Int}{l:Loc}(hb:au g H o l (.vec v 4 [[vi a,vi b,vi c,vi e]])){x:BE}(hx:ai g (.sr o v 1) x):FV Tryz.prog 120 #[x,.func (.func 75) #[] #[]] w fun ex w'=>ex=.returned (.int .i64 (if e=0 then 0 else -1))/\Step g H w g H w' []:=by
 have hl:dw H (.sr o v 1)=QQ (.sl QT [[vi a,vi b,vi c,vi e]],[o]):=by show aA2 H (.sr o v 1)=_;unfold aA2;simp[hb.Pr,AV.still]
 obtain⟨yl,dj⟩:=aDU hw hl hx;obtain⟨g1,h1,h2⟩:=iR [o] g H hw (fun o' ho=>.inl (yl o' ho));have hv:=dj g1 h2;obtain⟨n,hn⟩:=oM (aRO a b c e (dL H [o]));have hs:=(sU (aPE (ab:=ab)) n).1 120 _ _ _ _ _ hn g1 w [x,.func (.func 75) #[] #[]] h1.wf (hg.mono h1.le) ⟨rfl,fun i y z hy hz=>?_⟩
 ·refine hs.2.mono ?_;intro ex w' hr
  match ex,hr with
  |.returned z,hr=>
   obtain⟨g2,h3,h4⟩:=hr;have h5:z=.int .i64 (if e=0 then 0 else -1):=by cases h4;rfl
   refine⟨by rw[h5],aJZ hw ?_ h3⟩;rw[h1.le.io];exact hw.whole.io
 match i,hy,hz with
 |0,hy,hz=>cases hy;cases hz;exact hv
 |1,hy,hz=>cases hy;cases hz;exact .fn 75 [] [] #[] #[] rfl rfl (fun _ _ _ h=>by simp at h) (fun _ _ _ h=>by simp at h)
 |i+2,hy,hz=>simp at hy
end Go.AM
end
section
namespace Go.Proofs.Sa
open Go Go.AM Go.Proofs Go.RowKit Go.Lib
theorem aRQ(b c:Nat)(w:BL)(R:BL->Prop)(ti:FV Tryz.prog 120 #[.slice (QQ ⟨b,0,N2⟩) 1 c,.func (.func 75) #[] #[]] w fun ex w'=>ex=.returned (.int .i64 (-1))/\R w'):FV Tryz.prog 74 #[.slice (QQ ⟨b,0,N2⟩) 1 c,.func (.func 75) #[] #[]] w fun ex w'=>ex=.returned (.slice (QQ ⟨b,0,N2⟩) 1 c)/\R w':=by
 have mixed:Tryz.prog.follows .mixedOrders=true:=bIv;have e120:∀args w,(callFunc 120 args).run Tryz.prog w=.ok (.enter 120 args) w:=enters_of Tryz.func120 bIv rfl
 go_enter Tryz.func74,Tryz.ntmps74
 go_wp2_with (go_at_fn 120;refine ti.mono ?_;rintro e w' ⟨rfl,hR⟩)
 go_wp2
 go_ret
 exact⟨rfl,hR⟩
theorem aUx(b c:Nat)(w:BL)(R R2:BL->Prop)(ti:FV Tryz.prog 120 #[.slice (QQ ⟨b,0,N2⟩) 1 c,.func (.func 75) #[] #[]] w fun ex w'=>ex=.returned (.int .i64 0)/\R w') (Ex:∀w1,R w1->∃w2,R2 w2/\∀ty,(KA #[36] ty #[.slice (QQ ⟨b,0,N2⟩) 1 c]).run Tryz.prog w1=.ok (.tuple #[]) w2):FV Tryz.prog 74 #[.slice (QQ ⟨b,0,N2⟩) 1 c,.func (.func 75) #[] #[]] w fun ex w'=>ex=.returned (.slice (QQ ⟨b,0,N2⟩) 0 c)/\R2 w':=by
 have mixed:Tryz.prog.follows .mixedOrders=true:=bIv;have e120:∀args w,(callFunc 120 args).run Tryz.prog w=.ok (.enter 120 args) w:=enters_of Tryz.func120 bIv rfl
 go_enter Tryz.func74,Tryz.ntmps74
 go_wp2_with (go_at_fn 120;refine ti.mono ?_;rintro e w' ⟨rfl,hR⟩)
 go_wp2
 obtain⟨w2,La,kq⟩:=Ex _ hR;refine wp_loop_once ?_
 go_wp2
 go_ret
 exact⟨rfl,La⟩
theorem aPF(b c:Nat)(w:BL)(hc:∀j,j<4->(w.cell? ⟨b,j,N2⟩).isSome=QS)(hf:∀j,j<4->w.frozen? ⟨b,j,N2⟩=QT)(ty:BP):(KA #[36] ty #[.slice (QQ ⟨b,0,N2⟩) 1 c]).run Tryz.prog w=.ok (.tuple #[]) (w.setCells b 0 (AX 4 (.int .i64 0))):=by have hv:∀W,(zeroValue 92).run Tryz.prog W=.ok (.agg #[.int .i64 0,.int .i64 0,.int .i64 0,.int .i64 0]) W:=fun W=>Tryz.zeroValue92 W;have hz:(Builtin.zeroCells (Value.agg #[.int .i64 0,.int .i64 0,.int .i64 0,.int .i64 0]).cells 1).toList=AX 4 (.int .i64 0):=bIv;have bd:=run_storeCells_cells (P:=Tryz.prog) b 0 (AX 4 (.int .i64 0)) 0 w (by simpa using hc) (by simpa using hf) (by intro v P5;rw[List.eq_of_mem_replicate P5];rfl);simp only[DU]at bd;simp only[AX]at hz bd;simp[KA,BH Tryz.underlying36,hv,hz,bd,AX]
end Go.Proofs.Sa
namespace Go.AM
open Go.Proofs Go.Proofs.Sa
theorem aXX{ab:cu}:gS Tryz.prog ab fun f' args H=>if f'=74 then (aWl 75 args H).map (cT H)else none:=by
 refine oC ⟨Tryz.f74,Tryz.func74,bIv,bIv⟩ fun args H v ws ns hp g w xs hw hg hx=>?_;unfold aWl at hp;split at hp;rotate_left
 ·cases hp
 rename_i o ve n f;split at hp;rotate_left
 ·cases hp
 rename_i v' a b c e ho;split at hp;rotate_left
 ·cases hp
 rename_i hc;obtain⟨rfl,rfl,rfl⟩:=hc;obtain⟨x,y,rfl,h1,h2⟩:=nH hx;have hy:y=.func (.func 75) #[] #[]:=by
  cases h2 with
  |fn f first ay vf vc hf hc h1 h2=>
   have e1:vf = #[]:=by apply JQ;simpa using hf.symm
   have e2:vc = #[]:=by apply JQ;simpa using hc.symm
   rw[e1,e2]
 subst hy;obtain⟨l,cap,hb,rfl⟩:∃l cap,au g H o l (.vec v' 4 [[vi a,vi b,vi c,vi e]])/\x=.slice (QQ ⟨l.b,0,N2⟩) 1 cap:=by
  cases h1 with
  |sr _ _ _ l ad cap hl hv hn jg h=>
   have bd:l.st=v':=by have:=hw.st o _ l ho hl;simp only[ah.ver]at this;omega
   have hb:au g H o l (.vec v' 4 [[vi a,vi b,vi c,vi e]]):=⟨ho,rfl,hl,bd⟩;have h0:=(hw.obj o l _ hb).1;exact⟨l,cap,hb,by rw[(h bd h0).1]⟩
 have ti:=aRP hw hg hb h1;obtain⟨_,_,_,dr,_,eh,bc⟩:=hw.obj o l _ hb;by_cases e0:e=0
 ·rw[Zy e0]at hp ti;simp only[AG,BK]at hp;obtain⟨rfl,rfl,rfl⟩:=hp;refine (aUx l.b cap w (fun w'=>Step g H w g H w' []) (fun w'=>Step g H w g (H.set o (.gone v')) w' [o]) ti fun w1 hs=>?_).mono ?_
  ·obtain⟨_,_,_,dr,_,eh,bc⟩:=hs.wf.obj o l _ hb;have Cj:∀j,j<4->(w1.cell? ⟨l.b,j,N2⟩).isSome=true:=fun j hj=>by
    have Ey:j<([vi a,vi b,vi c,vi e]:LA).length:=hj;obtain⟨_,y,hy,_⟩:=bc 0 j [vi a,vi b,vi c,vi e] _ rfl (AP Ey);rw[Nat.zero_mul,BC]at hy;rw[hy];rfl
   refine⟨_, ?_,fun ty=>aPF l.b cap w1 Cj (fun j hj=>dr j (Cj j hj)) ty⟩;obtain⟨h5,h6⟩:=lE l.b (AX 4 (.int .i64 0)) 0 w1;exact hs.trans (Step.K8 hs.wf hb h5 h6 (nY _ _ _ _))
  rintro ex w' ⟨rfl,hs⟩;refine⟨g,by simpa [eU]using hs, ?_⟩;exact .sl QT [] l.b 0 cap 4 (FF _) siT (fun _ h=>by simp at h) (fun _ h=>by simp at h) (fun i j h=>by simp at h) (fun i j row a x h=>by simp at h)
 rw[Zx e0]at hp ti;simp only[AG,BK]at hp;obtain⟨rfl,rfl,rfl⟩:=hp;refine (aRQ l.b cap w (fun w'=>Step g H w g H w' []) ti).mono ?_;rintro ex w' ⟨rfl,hs⟩;exact⟨g,by simpa [eU]using hs,h1⟩
end Go.AM
end
section
namespace Go.AM
open Go
def aHz(te:Nat):aIP:=fun args _=>match args with
 | [.str s]=>if s.length<=1000000 then match LS s with
   |.ok v=>QQ (.tup [.int .i64 v,.bj],[],[])
   |.range=>QQ (.tup [.int .i64 (QV s),.ifc te .undef],[],[])
   |_=>QQ (.tup [.int .i64 0,.ifc te .undef],[],[])
  else N2
 |_=>N2
end Go.AM
namespace Go.Proofs.Sa
open Go Go.AM Go.Proofs Go.RowKit Go.Lib
theorem aT3{g:G}{H:LO}{w:BL}(hw:WF g H w){ab:cu}{n te:Nat}(cn:ab.row n=QQ [.ifc te .undef])(hg:bM Tryz.prog ab g):∃ev,w.cell? ⟨n,0,N2⟩=QQ ev/\(ev=.nilIface∨∃te pe,ev=.iface te pe):=by
 obtain⟨h1,_⟩:=hg.row n _ cn;cases h1 with
 |ep _ _ _ _ bd hp h=>
  have h2:=hp 0 siT;cases hx:g.perm n (0+0)with
  |none=>simp[hx]at h2
  |some x=>have h3:=h 0 _ x rfl hx;refine⟨x,hw.perm n 0 x hx,.inr ?_⟩;cases h3;exact⟨_,_,rfl⟩
theorem aEe{g:G}{H:LO}{w w':BL}(hw:WF g H w)(h:Below w.heap.size w w'):Step g H w g H w' []:=Step.nf hw h.size h.block ⟨h.os,h.output⟩
theorem G9{ab:cu}{te:Nat}(h6:ab.row 6=QQ [.ifc te .undef])(h7:ab.row 7=QQ [.ifc te .undef]):gS Tryz.prog ab fun f' args H=>if f'=144 then (aHz 341 args H).map (cT H)else none:=by
 refine oC ⟨Tryz.f144,Tryz.func144,bIv,bIv⟩ fun args H v ws ns hp g w xs hw hg hx=>?_;have two:∀{a b:AV} {x y:BE},ai g a x->ai g b y->ai g (.tup [a,b]) (.tuple #[x,y]):=fun h1 h2=>.tup _ _ rfl fun i a x ha hx=>by
  match i with
  |0=>simp at ha hx;subst ha;subst hx;exact h1
  |1=>simp at ha hx;subst ha;subst hx;exact h2
  |i+2=>simp at ha
 unfold aHz at hp;split at hp
 ·rename_i s;obtain⟨x,rfl,hv⟩:=aBc hx;split at hp
  ·rename_i hl;cases hv with
   |str b=>
    have hb:b.size<=1000000:=by simpa using hl
    cases ha:LS b.data.toList with
    |ok n=>
     rw[ha]at hp;simp only[AG,BK]at hp;obtain⟨rfl,rfl,rfl⟩:=hp;refine (Tryz.strconv_Atoi_ok b omT n ha w).mono ?_;rintro e w' ⟨rfl,tv⟩;refine⟨g, ?_,two (.int _ _) .bj⟩;have:Step g H w g H w' []:=aEe hw (by
      rcases tv with rfl | ⟨t,rfl⟩
      ·exact Below.refl _ _
      exact Lib.bytesWorld_below _ _ _)
     simpa [eU]using this
    |range=>rw[ha]at hp;simp only[AG,BK]at hp;obtain⟨rfl,rfl,rfl⟩:=hp;obtain⟨ev,Ez,V7⟩:=aT3 hw h7 hg;refine (Tryz.strconv_Atoi_range b omT ha ev w Ez V7).mono ?_;rintro e w' ⟨N,rfl,_,_,zo⟩;refine⟨g, ?_,two (.int _ _) (.ifc _ _ _ rfl (.undef _))⟩;simpa [eU]using aEe hw zo
    |_=>rw[ha]at hp;simp only[AG,BK]at hp;obtain⟨rfl,rfl,rfl⟩:=hp;obtain⟨ev,Ez,V7⟩:=aT3 hw h6 hg;refine (Tryz.strconv_Atoi_syntax b omT ha ev w Ez V7).mono ?_;rintro e w' ⟨N,rfl,_,_,zo⟩;refine⟨g, ?_,two (.int _ _) (.ifc _ _ _ rfl (.undef _))⟩;simpa [eU]using aEe hw zo
  cases hp
 cases hp
end Go.Proofs.Sa
end
section
namespace Go.AM
open Go
def aXY(f:Nat):LN:=match f with
 |3=>[9,12]
 |4=>[2,22,4,7,10,58,13,81,98,104]
 |5=>[4,8,31,11,63,78,89,119,41]
 |6=>[1,2,8,12,26,7]
 |7=>[2,3]
 |8=>[1,2,3,5,8,59,66]
 |9=>[6,9,38,43]
 |11=>[1,6,8,11,36,37,52,53,68,69,86,87]
 |12=>[3]
 |14=>[4,5]
 |15=>[4,6,9]
 |16=>[3]
 |17=>[4,5,28,58,68]
 |19=>[3,6,32,43,51,55,64,71,80,86,104,112,12,19]
 |20=>[3,6,21,23,30,35]
 |21=>[7]
 |22=>[7]
 |23=>[8,9]
 |24=>[2,3]
 |25=>[8,9]
 |26=>[2,3]
 |28=>[8,9]
 |29=>[2,3]
 |30=>[6]
 |35=>[8]
 |37=>[5]
 |39=>[2,7]
 |40=>[2,5,32]
 |42=>[28]
 |43=>[4,5]
 |44=>[2]
 |45=>[2,3,29,34]
 |46=>[81,83,2,3,18,35,58,69,84]
 |47=>[2,3,12,57,61,66]
 |48=>[23]
 |51=>[2,3]
 |57=>[2,3]
 |61=>[8,9]
 |65=>[3]
 |66=>[5]
 |67=>[5,16]
 |68=>[13]
 |72=>[13,5,7,9,11]
 |74=>[7]
 |75=>[1]
 |78=>[4]
 |82=>[5,6,7,25,34]
 |84=>[4,6,8]
 |85=>[2,3,6,8]
 |91=>[8]
 |92=>[4,7,46]
 |94=>[8,9]
 |95=>[5,23]
 |96=>[1]
 |97=>[9,16,23,28,39,46]
 |98=>[4,22,5,25,6]
 |99=>[5,6,7,8]
 |105=>[3]
 |109=>[1]
 |111=>[1]
 |115=>[9,11]
 |117=>[3]
 |118=>[14]
 |121=>[5]
 |122=>[5]
 |123=>[5]
 |131=>[2,5,32,4]
 |146=>[1,7,10,11,15,16,21,22,26,27,33,34,50,51,55,56,60,61,65,66]
 |150=>[14]
 |153=>[6]
 |154=>[2]
 |155=>[26]
 |158=>[2,3]
 |161=>[2]
 |162=>[2,4,47]
 |164=>[30,36]
 |165=>[2]
 |166=>[2,4,5,3]
 |168=>[26,32]
 |169=>[2]
 |170=>[2,3,37,42,48]
 |172=>[16]
 |173=>[2]
 |174=>[4,3]
 |176=>[4,5,9,6]
 |179=>[1,2,3,4,5,7]
 |180=>[1,3,9,4]
 |187=>[2,3]
 |189=>[9]
 |206=>[9,11]
 |208=>[5]
 |209=>[5]
 |210=>[9]
 |226=>[21,33,39,57]
 |227=>[7,20,21,27,28]
 |228=>[1,13,27,28]
 |229=>[7,19,20]
 |230=>[7,19,20]
 |231=>[1,15,63,66,67]
 |232=>[1,12,27,28,8,71,74,75]
 |233=>[5]
 |236=>[7,18,30,39,44,54,69,85]
 |237=>[2,3,4,13]
 |241=>[34,35,36,48,49,22]
 |242=>[2,3,4]
 |243=>[12]
 |274=>[2,7,5,11]
 |277=>[10]
 |278=>[10]
 |279=>[15]
 |280=>[15]
 |281=>[5,8]
 |285=>[12,98]
 |287=>[10]
 |288=>[10]
 |290=>[3,4,5,6]
 |293=>[31]
 |307=>[94,11]
 |310=>[5]
 |318=>[14,20]
 |319=>[2,3]
 |321=>[3]
 |333=>[9]
 |334=>[13]
 |341=>[9]
 |342=>[17,7,27]
 |343=>[2,4,5]
 |350=>[16]
 |351=>[100,101,163,210,230]
 |352=>[2]
 |388=>[5]
 |391=>[5]
 |397=>[85]
 |401=>[11]
 |402=>[11]
 |403=>[2]
 |404=>[14]
 |418=>[6]
 |439=>[27]
 |_=>[]
def bC1(f r:Nat):List (Nat×Nat):=match f,r with
 |5,25=>[(4,11)]
 |6,12=>[(0,5)]
 |9,14=>[(0,7)]
 |46,13=>[(1,94)]
 |166,3=>[(1,3)]
 |231,10=>[(0,5)]
 |232,15=>[(0,6)]
 |293,18=>[(0,9)]
 |_,_=>[]
def nlK(f:Nat):Bool:=match f with
 |11 | 35 | 72 | 206 | 217 | 274 | 287 | 307 | 397=>QS
 |_=>QT
def tyK(f:Nat):LN:=match f with
 |72=>[187,189,5]
 |118=>[187,189,5]
 |150=>[187,189,5]
 |287=>[187,189,5]
 |_=>[]
def aXZ:LN:=[236,288,318,342,35,74]
def aO4(f:Nat):Option aIP:=match f with
 |211=>QQ (fB 187 189)
 |119=>QQ (aAh 5)
 |149=>QQ (aNR 187 5)
 |91=>QQ aKm
 |323=>QQ aYu
 |316=>QQ aE7
 |305=>QQ aAi
 |86=>QQ sC
 |21=>QQ Go.Proofs.Sa.Qa
 |22=>QQ Go.Proofs.Sa.Qa
 |342=>QQ oN
 |144=>QQ (aHz 341)
 |74=>QQ (aWl 75)
 |_=>N2
def vi0(n:Int):AV:=.int .i64 n
def bAN:LA:=[[119,104,111,108,101],[101,110,116,114,121],[105,110,115,105,100,101],[108,101,102,116],[108,111,110,103,101,114],[98,97,114],[114,111,119]].map AV.str
def bAO:LA:=[vi0 0,vi0 999999,vi0 4,.int .u8 0,vi0 0,vi0 25,vi0 4,.int .u8 0,vi0 1,vi0 0,vi0 3,.int .u8 45,vi0 2,vi0 0,vi0 1,.int .u8 43,vi0 2,vi0 0,vi0 1,.int .u8 45,vi0 2,vi0 0,vi0 2,.int .u8 42,vi0 2,vi0 0,vi0 2,.int .u8 47,vi0 2,vi0 0,vi0 3,.int .u8 94,vi0 1,vi0 0,vi0 4,.int .u8 82,vi0 2,vi0 0,vi0 0,.int .u8 61,vi0 2,vi0 0,vi0 0,.int .u8 60]
def bAP:LA:=[[],[],[110,101,103],[43],[45],[42],[47],[94],[114,111,111,116],[61],[60]].map AV.str
def bAQ:LA:=[[100,111,116],[108,105,110,101],[97,114,101,97]].map AV.str
def bAR:LA:=[[99,104,111,105,99,101],[99,111,117,110,116],[111,112,101,110]].map AV.str
def aT4(b:Int)(f:Nat):AV:=.agg [vi0 b,.fn f [] []]
def aUy:LA:=[.fmp [vi0 0,vi0 1,vi0 2,vi0 3,vi0 4,vi0 5,vi0 6] [aT4 (-1) 406,aT4 (3) 408,aT4 (4) 410,aT4 (4) 412,aT4 (4) 413,aT4 (5) 414,aT4 (6) 416]]
def aZA(n:Nat):Option LA:=match n with
 |1=>QQ bAN
 |5=>QQ bAO
 |2=>QQ bAP
 |3=>QQ bAQ
 |4=>QQ bAR
 |0=>QQ aUy
 |6=>QQ [.ifc 400 .undef]
 |7=>QQ [.ifc 400 .undef]
 |8=>QQ (EB.map fun z=>AV.int .u64 z)
 |_=>N2
def aBx:cu:=⟨aZA,QT,[],aXZ⟩
noncomputable def fnK(f:Nat):Option bw:=match f with
 |306=>QQ nI
 |f=>match Go.Proofs.Tryz.prog.funcs[f]? with
  |some F=>match F.body,aNz Go.Proofs.Tryz.prog F.results.toList with
   |some b,QQ rs=>QQ ⟨F.ntmps,aXY f,rs,nR Go.Proofs.Tryz.prog { aBx with nl:=nlK f,typed:=tyK f } (bC1 f) b⟩
   |_,_=>N2
  |none=>N2
noncomputable def AK:af:=⟨fnK,aO4⟩
theorem aRR:(Go.Proofs.Tryz.prog.funcs.toList.all fun F => !(F.name == "runtime.NumGoroutine"))=true:=bIv
theorem aUz{f:Nat}{F:Func}(h:Go.Proofs.Tryz.prog.funcs[f]? = QQ F):(F.name == "runtime.NumGoroutine")=false:=by have:=AO.1 aRR F (by rw[Array.mem_toList_iff];exact Array.mem_of_getElem? h);simpa using this
theorem aY0{f:Nat}{fn:bw}(bl:f≠306)(h:fnK f=QQ fn):aMT Go.Proofs.Tryz.prog aBx f fn:=by
 unfold fnK at h;split at h
 ·exact Zw rfl bl
 split at h
 ·rename_i F hF;split at h
  ·rename_i b rs hb hr;cases h;exact⟨F,b,bC1 f,nlK f,tyK f,aXZ,hF,aUz hF,hb,rfl,rfl,hr⟩
  cases h
 cases h
theorem bC2:Go.Proofs.Tryz.prog.globalNamed "internal/strconv.uint64pow10" = QQ 8:=bIv
theorem aRS:Good Go.Proofs.Tryz.prog aBx AK where
 mixed:=bIv
 A5:=⟨bIv,bIv⟩
 fn:=fun f fn h=>by
  by_cases e:f=306
  ·subst e;exact .inr (Go.Proofs.Sa.yu rfl rfl)
  exact .inl (aY0 e h)
 bq:=fun f p h=>by
  have h:aO4 f=QQ p:=h;unfold aO4 at h;split at h
  ·cases h;exact Go.Proofs.Sa.uq
  ·cases h;exact Go.Proofs.Sa.zn
  ·cases h;exact Go.Proofs.Sa.G5
  ·cases h;exact Go.Proofs.Sa.G2
  ·cases h;exact Go.Proofs.Sa.A9
  ·cases h;exact Go.Proofs.Sa.A8
  ·cases h;exact Go.Proofs.Sa.vv
  ·cases h;exact Go.Proofs.Sa.G4 bC2 rfl
  ·cases h;exact Go.Proofs.Sa.Qp ⟨Go.Proofs.Tryz.f21,Go.Proofs.Tryz.func21,bIv,bIv⟩ Go.Proofs.Sa.u4 Go.Proofs.Sa.yr
  ·cases h;exact Go.Proofs.Sa.Qp ⟨Go.Proofs.Tryz.f22,Go.Proofs.Tryz.func22,bIv,bIv⟩ Go.Proofs.Sa.w9 Go.Proofs.Sa.zr
  ·cases h;exact Go.Proofs.Sa.xx bC2 rfl
  ·cases h;exact Go.Proofs.Sa.G9 rfl rfl
  ·cases h;exact aXX
  cases h
def aJi:AV->LO->LN->Bool:=fun v H wr=>match v,H,wr with | .bool QS,[],[]=>QS | _,_,_=>QT
def aRT:AV->LO->LN->Bool:=fun v H wr=>match v,H,wr with | .str [53],[],[]=>QS | _,_,_=>QT
def aKy:LA:=[.agg [.int .i64 (0),.sl QT [[.int .i64 (0),.str [97,32,126]],[.int .i64 (1),.str [98]]],.int .i64 (0),.int .i64 (0),.sl QT [],.int .i64 (0),.sl QT [],.sl QT [],.int .i64 (0),.int .i64 (0),.sl QT [],.sl QT [],.sl QT []],.str [97,32,126,126,126,124,98]]
def aKz:LA:=[.agg [.int .i64 (2),.sl QT [],.int .i64 (0),.int .i64 (0),.sl QT [],.int .i64 (3),.sl QT [[.int .i64 (12)],[.int .i64 (7)]],.sl QT [],.int .i64 (0),.int .i64 (0),.sl QT [],.sl QT [],.sl QT []],.str [43,32,49,50,32,55]]
def aKA:LA:=[.agg [.int .i64 (3),.sl QT [],.int .i64 (0),.int .i64 (0),.sl QT [],.int .i64 (0),.sl QT [],.sl QT [[.sl QT [[.str [97]],[.str [98,59]]]],[.sl QT [[.str []],[.str [124]]]]],.int .i64 (0),.int .i64 (0),.sl QT [],.sl QT [],.sl QT []],.str [97,124,98,126,59,59,124,126,124]]
def aKB:LA:=[.agg [.int .i64 (6),.sl QT [],.int .i64 (0),.int .i64 (0),.sl QT [],.int .i64 (0),.sl QT [],.sl QT [],.int .i64 (0),.int .i64 (0),.sl QT [],.sl QT [],.sl QT [[.str [120]],[.str []],[.str [126]]]],.str [120,126,124,126,124,126,126]]
def aKC:LA:=[.agg [.int .i64 (5),.sl QT [],.int .i64 (0),.int .i64 (0),.sl QT [],.int .i64 (0),.sl QT [],.sl QT [],.int .i64 (0),.int .i64 (0),.sl QT [],.sl QT [[.sl QT [[.sl QT [[.int .i64 (21),.int .i64 (2),.int .i64 (0)],[.int .i64 (-1),.int .i64 (1),.int .i64 (0)]]],[.sl QT [[.int .i64 (3),.int .i64 (4),.int .i64 (1)]]]]]],.sl QT []],.str [99,51,50,32,114,49,124,102,35,48,52]]
def aIr:LA:=[.agg [.int .i64 (1),.sl QT [],.sl QT [],.sl QT [[.int .i64 (0)],[.int .i64 (2)]],.str [],.int .i64 (0),.sl QT []],.sl QT [[.str [97,49,50,98,51]],[.str [57]],[.str [57,57,48]]]]
end Go.AM
end
