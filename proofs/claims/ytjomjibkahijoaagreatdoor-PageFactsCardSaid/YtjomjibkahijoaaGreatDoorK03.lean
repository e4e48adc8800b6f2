/- Part 3: lemmas for the last text. -/
import Derived.Test.YtjomjibkahijoaaGreatDoorK01
import Derived.Test.YtjomjibkahijoaaGreatDoorK02
import Derived.Lib.Bytealg
import Derived.Shelf.Strings.Builder1
import Derived.Shelf.Strings.Builder2
import Derived.Shelf.Strings.OnBuilder
import Derived.Shelf.Small.Strs
import Derived.Shelf.Strconv.Itoa0
import Derived.Shelf.Strconv.Itoa1
import Derived.Shelf.LaysM
import Derived.Shelf.Strconv.Itoa2
import Derived.Shelf.Strconv.Itoa3
import Derived.Shelf.Strings.Search1
import Derived.Shelf.Strings.Search2
import Derived.Shelf.Strings.Search3
import Derived.Shelf.Strings.Count
import Derived.Shelf.Strings.Shaped
import Derived.Shelf.Strconv.AppendUint10
import Derived.Shelf.Unicode.DecodeSlow
import Derived.Test.YtjomjibkahijoaaGreatDoorProg
import Derived.WalkKit
import Derived.Lib.Walk
import Derived.Lib.SliceRun
import Derived.Lib.Builder
import Derived.Lib.UnsafeStr
import Derived.Lib.MakeNoZero
import Derived.Lib.ItoaNum
import Derived.Laws.LoneSync
import Derived.Laws.Externs
import Derived.Laws.IdiomCopy
import Derived.Shelf.RegionOpenPlain
import Derived.RegionTactic
import Derived.RegionCalls
import Derived.Deep.Draws
import Derived.Tactics
import Derived.Tactics2
import Derived.Defers
import Derived.Laws.Pointers
import Derived.ChangeAlike
import Derived.ProofKit
set_option linter.unusedVariables false
set_option linter.unusedSimpArgs false
set_option maxHeartbeats 12800000
set_option maxRecDepth 100000
open Array renaming getD_eq_getD_getElem? -> CR, getElem?_setIfInBounds -> HL, ext_getElem? -> MS, getElem?_modify -> DJ, getElem?_eq_some_iff -> KM, replicate -> NW, getElem?_eq_none -> DV, size_push -> OA, getElem?_push -> FE, size_replicate -> HG
open Bool renaming and_eq_true -> AI, false_eq_true -> BX, false_and -> BQ, true -> Qt, false -> Qu
open ByteArray renaming empty -> Hm
open Go renaming Program -> CU, World -> BL, Value -> BE, Deferred -> HU, undef -> EE, Calls -> FV, Addr -> IA, run_callFunc_extern -> OU, run_call_load -> Hn, run_call_mark0 -> PY, run_call_marked -> PV, run_convert_to_unsafe -> NZ, bodyPost_ret -> J5, results_none -> La, IntKind -> DK, TypeId -> BP, run_underlying -> BH
open Go.Act renaming eval -> Mq
open Go.Addr.mk renaming injEq -> OB
open Go.Builtin renaming unsafeSliceData_ -> KN, unsafeString_ -> LM, append_ -> DA
open Go.Code renaming roundsIn -> LL
open Go.Deferred renaming ofValue -> JF
open Go.Exit renaming inBlock -> G9
open Go.Extern.AbiNoEscape renaming same -> NY
open Go.Extern.BytealgMakeNoZero renaming makeNoZero -> MA
open Go.Fence renaming wide -> FJ
open Go.Instr renaming enterLoop -> JZ
open Go.IntKind renaming i64 -> AR, wrap_i64 -> MU
open Go.Lib renaming indexByte -> EV, countByte -> PC, join -> OT, TabIs -> OL, pow10Tab -> EB, itoa -> MT, pow10Tab_length -> DW, decDigits -> DT, cell_of_heap -> ID, alloc_old -> PD, frozen_of_heap -> NK, byteCells -> HZ, nDigits -> GO, zeros24 -> GP, decDigits_length -> MW
open Go.Obj.cells renaming injEq -> J4
open Go.Oper renaming upon_value -> KF
open Go.Program renaming arrayLen -> MV
open Go.Result renaming andThen -> DL, andThen_ok -> BJ
open Go.Sem renaming run_bind -> BS, run_pure -> CB
open Go.Shelf renaming Ren -> HK
open Go.Sort renaming grow -> LF
open Go.Value renaming int -> EJ
open Go.World renaming putObj_heap_other -> GK, cell? -> EF, setCell -> FR, setCells -> IZ, putObj_heap_same -> LR, shape? -> LU, size_setCell -> JE, cell?_setCell_other -> KR
open Int renaming eq_ofNat_of_zero_le -> DN
open List renaming getElem?_map -> BN, getElem?_eq_none -> CY, rec -> IU, getElem?_cons_succ -> CT, replicate -> AX, range' -> FM, mem_cons -> BD, mem_append -> AY, getElem?_append_left -> BM, not_mem_nil -> CC, getElem?_eq_getElem -> AP, append_nil -> AJ, all_eq_true -> AO, nil_append -> CW, getElem?_eq_some_iff -> AH, map_cons -> BI, map_nil -> BY, set_cons_succ -> GL, set_cons_zero -> GM, getElem?_cons_zero -> BG, length_map -> AF, length_nil -> AZ
open List.cons renaming injEq -> JG
open Nat renaming beq -> EY, le_max_left -> GJ, le_max_right -> GC, eq_of_beq_eq_true -> ET, le_refl -> AQ, add_zero -> DU, strongRecOn -> KK, lt_succ_self -> HR, zero_add -> BC, lt_or_ge -> MH, mul_one -> FK, add_assoc -> EU
open Option renaming rec -> JA, map_some -> DE, map_eq_some_iff -> EL, getD_some -> EN, some -> Qr, none -> Qs
open Option.some renaming injEq -> AG
open Prod.mk renaming injEq -> BK
open UInt8 renaming ofNat -> CN
open Bool renaming not_true -> BT
section
namespace Go.AM
open Go
theorem aG8(b:Nat)(s:LN)(d:Option Nat):((Ctx.mk b s).site d).isSome=((Ctx.mk 0 s).site d).isSome:=by
 unfold Ctx.site;cases d with
 |none=>rfl
 |some t=>cases h:s.idxOf? t<;>simp[h]
theorem aES{s s':Option Nat}(h:s.isSome=s'.isSome)(op:df):looks s op=looks s' op:=by cases op<;>first | rfl | (simp only[looks,h])
theorem aG9(b:Nat)(s:LN)(o:ae):aBG ⟨b,s⟩ o=aBG ⟨0,s⟩ o:=by
 have h:=aG8 b s o.dst;unfold aBG;generalize (Ctx.mk b s).site o.dst=x at h ⊢;generalize (Ctx.mk 0 s).site o.dst=y at h ⊢;cases x<;>cases y<;>simp at h
 ·rfl
 cases o.op<;>rfl
theorem aGa(b:Nat)(s:LN)(aq:LN)(o:ae)(i:Nat)(p:ae)(j:Nat):aG4 ⟨b,s⟩ aq o i p j=aG4 ⟨0,s⟩ aq o i p j:=by unfold aG4;rw[aG9 b,aG9 b,aES (aG8 b s o.dst),aES (aG8 b s p.dst)]
theorem aGb(b:Nat)(s:LN)(ops:List ae):aBH ⟨b,s⟩ ops=aBH ⟨0,s⟩ ops:=by unfold aBH;simp only[aGa b]
theorem aET(b:Nat)(s:LN)(aq:LN):∀(ops:List ae) (i:Nat),aCd ⟨b,s⟩ aq i ops=aCd ⟨0,s⟩ aq i ops
 | [],_=>rfl
 |o::r,i=>by
  unfold aCd;simp only[aGa b];rw[aET b s aq r]
theorem iV(N b:Nat)(s:LN):∀x:ag,dK N ⟨b,s⟩ x=dK N ⟨0,s⟩ x
 |.region d ops=>by simp only[dK,aGb b,aET b]
 |.seq x y=>by simp only[dK,iV N b s x,iV N b s y]
 |.cond _ x y=>by simp only[dK,iV N b s x,iV N b s y]
 |.block _ x=>by simp only[dK,iV N b s x]
 |.loop x=>by simp only[dK,iV N b s x]
 |.frz _ | .skip | .bad | .exit _ | .ret | .dz _ _ _=>rfl
abbrev KE:=bf->KT->LO->LN->Bool
noncomputable def aRo(ih:KT->LO->LN->KE->Bool)(m:Nat):KT->LO->LN->KE->Bool:=
 Nat.rec (motive:=fun _=>KT->LO->LN->KE->Bool) (fun _ _ _ _=>Qu)
  (fun _ again tr H wr Q=>ih tr H wr fun e tr H wr=>bf.casesOn (motive:=fun _=>Bool) e (again tr H wr Q) (fun id=>Q (.exit id) tr H wr) (Q .ret tr H wr)) m
noncomputable def aTQ(x:aa)(ρ:bN)(a b:Bool):Bool:=match x.at ρ with
 |.bool t=>bif t then a else b
 |_=>Qu
noncomputable def aLH(K:pV)(c:Ctx)(d:Bool)(ops:List ae)(tr:KT)(H:LO)(wr:LN)(Q:KE):Bool:=
 bif d then aFz (cS c H ops) fun H0=>aRn K c (aBH ⟨0,c.sites⟩ ops) ops 0 tr H0 wr fun tr H wr log=>eH (fun j=>((ops[j]?).map ae.pre).getD []) log&&Q .normal tr H wr
 else aYt K c ops tr H wr (Q .normal)
def aPc(N:Nat)(ρ:bN):LA:=(List.range N).map ρ
theorem aPd{N:Nat}{l:LA}(hl:l.length=N):aPc N (ck l)=l:=by
 subst hl;apply List.ext_getElem?;intro i;unfold aPc;rw[BN];by_cases h:i<l.length
 ·rw[List.getElem?_range h];simp[ck,h]
 rw[CY (by simpa using h),CY (by omega)];rfl
noncomputable def aPe(K:pV)(N:Nat)(c:Ctx)(x:aa)(ps:LN)(body:ag)(tr:KT)(H:LO)(wr:LN)(Q:KE):Bool:=
 match x.at (toF tr)with
 |.fn f first ay=>aFz (c.site ps.head?) fun id=>bif decide (id<H.length)&&eZ c H then
   K f (first++.yld id (bH H id)::ay) (make H id fun v=>.rnd v c.base c.sites ps body (aPc N (toF tr)) Qu Qs) fun _ H2 ba=>
    match H2[id]? with
    |some (.rnd v _ _ _ _ _ Qu pend)=>bif EY v (bH H id)&&eZ c H2 then Q (pend.getD .normal) tr (H2.set id (.gone v)) (bE c.base wr (id::ba))else Qu
    |_=>Qu
  else Qu
 |_=>Qu
noncomputable def aHv(K:pV)(m N:Nat)(c:Ctx)(x:ag):KT->LO->LN->KE->Bool:=
 ag.rec (motive:=fun _=>KT->LO->LN->KE->Bool)
  (fun tr H wr Q=>Q .normal tr H wr)
  (fun _ _ _ _=>Qu)
  (fun d ops tr H wr Q=>aLH K c d ops tr H wr Q)
  (fun _ _ iha ihb tr H wr Q=>iha tr H wr fun e tr H wr=>bf.casesOn (motive:=fun _=>Bool) e (ihb tr H wr Q) (fun id=>Q (.exit id) tr H wr) (Q .ret tr H wr))
  (fun x _ _ iha ihb tr H wr Q=>aTQ x (toF tr) (iha tr H wr Q) (ihb tr H wr Q))
  (fun id _ ih tr H wr Q=>ih tr H wr fun e tr H wr=>bf.casesOn (motive:=fun _=>Bool) e (Q .normal tr H wr) (fun id'=>bif EY id' id then Q .normal tr H wr else Q (.exit id') tr H wr) (Q .ret tr H wr))
  (fun _ ih tr H wr Q=>aRo ih m tr H wr Q)
  (fun id tr H wr Q=>Q (.exit id) tr H wr)
  (fun tr H wr Q=>Q .ret tr H wr)
  (fun ts tr H wr Q=>aTP c ts tr H wr (Q .normal))
  (fun x ps body _ tr H wr Q=>aPe K N c x ps body tr H wr Q) x
section
variable {A:af}{K:pV}{m:Nat}{c:Ctx}{N:Nat}
def toQ(Q:KE):bf->bN->LO->LN->Prop:=fun e ρ H wr=>∃tr,ρ=toF tr/\Q e tr H wr=Qt
theorem aGc{b:ag}{ih:KT->LO->LN->KE->Bool}(hok:dK N c b=Qt) (hb:∀{tr:KT} {H:LO} {wr:LN} {Q:KE},ih tr H wr Q=Qt->Wp A N c b (toF tr) H wr (toQ Q)):∀(m:Nat) {tr:KT} {H:LO} {wr:LN} {Q:KE},aRo ih m tr H wr Q=Qt->Wp A N c (.loop b) (toF tr) H wr (toQ Q)
 |0,tr,H,wr,Q,h=>by cases h
 |m+1,tr,H,wr,Q,h=>by
  have h1:=hb (show ih tr H wr (fun e tr H wr=>bf.casesOn (motive:=fun _=>Bool) e (aRo ih m tr H wr Q) (fun id=>Q (.exit id) tr H wr) (Q .ret tr H wr))=Qt from h);intro l hl he;obtain⟨n,e,s',g1,g2,tr1,g3,g4⟩:=h1 l hl he;cases e with
  |normal=>obtain⟨n2,e',s'',k1,k2,k3⟩:=aGc hok hb m g4 s'.ρ g2 g3;refine⟨max n n2+1,e',s'', ?_,k2,k3⟩;rw[gU,eJ (GJ n n2) _ _ _ _ g1];exact eJ (GC n n2) _ _ _ _ k1
  |exit id=>exact⟨n+1,.exit id,s',by rw[gU,g1],g2,tr1,g3,g4⟩
  |ret=>exact⟨n+1,.ret,s',by rw[gU,g1],g2,tr1,g3,g4⟩
theorem iW(hK:KOk A K):∀(x:ag) {tr:KT} {H:LO} {wr:LN} {Q:KE},dK N c x=Qt->aHv K m N c x tr H wr Q=Qt->Wp A N c x (toF tr) H wr (toQ Q)
 |.skip,tr,H,wr,Q,hok,h=>fun l hl he=>⟨1,.normal,⟨l,H,wr⟩,rfl,hl,tr,he,h⟩
 |.bad,tr,H,wr,Q,hok,h=>by cases h
 |.region d ops,tr,H,wr,Q,hok,h=>by
  have h':aLH K c d ops tr H wr Q=true:=h;refine kM ?_ hok;unfold aLH at h';cases d with
  |false=>simp only[cond_false]at h';rw[wpc];exact aE2 hK ops h'
  |true=>simp only[cond_true]at h';obtain⟨H0,h1,h2⟩:=fX h';rw[wpc,h1];dsimp only;have e:c=⟨c.base,c.sites⟩:=rfl;rw[show aBH c ops=aBH ⟨0,c.sites⟩ ops from aGb c.base c.sites ops];refine aCf hK ops (fun tr H wr log hh=>?_) h2;rw[AI]at hh;exact⟨hh.1,tr,rfl,hh.2⟩
 |.seq a b,tr,H,wr,Q,hok,h=>by
  simp only[dK,AI]at hok;have h':aHv K m N c a tr H wr (fun e tr H wr=>bf.casesOn (motive:=fun _=>Bool) e (aHv K m N c b tr H wr Q) (fun id=>Q (.exit id) tr H wr) (Q .ret tr H wr))=true:=h;intro l hl he;obtain⟨n,e,s',g1,g2,tr1,g3,g4⟩:=iW hK a hok.1 h' l hl he;cases e with
  |normal=>obtain⟨n2,e',s'',k1,k2,k3⟩:=iW hK b hok.2 g4 s'.ρ g2 g3;refine⟨max n n2+1,e',s'', ?_,k2,k3⟩;rw[iD,eJ (GJ n n2) _ _ _ _ g1];exact eJ (GC n n2) _ _ _ _ k1
  |exit id=>exact⟨n+1,.exit id,s',by rw[iD,g1],g2,tr1,g3,g4⟩
  |ret=>exact⟨n+1,.ret,s',by rw[iD,g1],g2,tr1,g3,g4⟩
 |.cond x a b,tr,H,wr,Q,hok,h=>by
  simp only[dK,AI]at hok;have h':aTQ x (toF tr) (aHv K m N c a tr H wr Q) (aHv K m N c b tr H wr Q)=true:=h;unfold aTQ at h';split at h'
  ·rename_i t hx;intro l hl he;have ht:x.ev l=x.at (toF tr):=by rw[<- he];exact x.ka l
   cases t with
   |true=>obtain⟨n,e,s',g1,g2⟩:=iW hK a hok.1 h' l hl he;exact⟨n+1,e,s',by rw[iT];dsimp only;rw[ht,hx];exact g1,g2⟩
   |false=>obtain⟨n,e,s',g1,g2⟩:=iW hK b hok.2 h' l hl he;exact⟨n+1,e,s',by rw[iT];dsimp only;rw[ht,hx];exact g1,g2⟩
  cases h'
 |.block id b,tr,H,wr,Q,hok,h=>by
  simp only[dK]at hok;have h':aHv K m N c b tr H wr (fun e tr H wr=>bf.casesOn (motive:=fun _=>Bool) e (Q .normal tr H wr) (fun id'=>bif EY id' id then Q .normal tr H wr else Q (.exit id') tr H wr) (Q .ret tr H wr))=true:=h;intro l hl he;obtain⟨n,e,s',g1,g2,tr1,g3,g4⟩:=iW hK b hok h' l hl he;cases e with
  |normal=>exact⟨n+1,.normal,s',by rw[eP,g1],g2,tr1,g3,g4⟩
  |ret=>exact⟨n+1,.ret,s',by rw[eP,g1],g2,tr1,g3,g4⟩
  |exit id'=>
   dsimp only at g4;cases hb:EY id' id with
   |true=>rw[hb]at g4;exact⟨n+1,.normal,s',by rw[eP,g1];dsimp only;rw[Zy (ET hb)],g2,tr1,g3,g4⟩
   |false=>rw[hb]at g4;exact⟨n+1,.exit id',s',by rw[eP,g1];dsimp only;rw[Zx (Nat.ne_of_beq_eq_false hb)],g2,tr1,g3,g4⟩
 |.loop b,tr,H,wr,Q,hok,h=>by
  simp only[dK]at hok;exact aGc hok (fun h=>iW hK b hok h) m (show aRo (aHv K m N c b) m tr H wr Q=Qt from h)
 |.exit id,tr,H,wr,Q,hok,h=>fun l hl he=>⟨1,.exit id,⟨l,H,wr⟩,rfl,hl,tr,he,h⟩
 |.ret,tr,H,wr,Q,hok,h=>fun l hl he=>⟨1,.ret,⟨l,H,wr⟩,rfl,hl,tr,he,h⟩
 |.frz ts,tr,H,wr,Q,hok,h=>fun l hl he=>by
  have h':aTP c ts tr H wr (Q .normal)=true:=h;obtain⟨s',tr',h1,h2,h3,h4⟩:=vK ts he h' (by rw[hl];exact hok);exact⟨1,.normal,s',by rw[vI,h1],by rw[h2,hl],tr',h3,h4⟩
 |.dz x ps body,tr,H,wr,Q,hok,h=>fun l hl he=>by
  have h':aPe K N c x ps body tr H wr Q=true:=h;unfold aPe at h';have hx:x.ev l=x.at (toF tr):=by rw[<- he];exact x.ka l
  split at h'
  ·rename_i f first ay ta
   obtain⟨id,hid,h1⟩:=fX h';cases hc:decide (id<H.length)&&eZ c H with
   |false=>simp only[hc,cond_false]at h1;cases h1
   |true=>
    simp only[hc,cond_true]at h1;rw[AI,decide_eq_true_eq]at hc;obtain⟨v,H2,ba,h2,h3⟩:=hK _ _ _ _ h1;obtain⟨n,hn⟩:=oM h2;rw[<- he,aPd hl]at hn;split at h3
    ·rename_i v2 b' s' p' c' r' pend hH2;cases hv:EY v2 (bH H id)&&eZ c H2 with
     |false=>simp only[hv,cond_false]at h3;cases h3
     |true=>simp only[hv,cond_true]at h3;rw[AI]at hv;have qy:=ET hv.1;refine⟨n+1,pend.getD .normal,⟨l,H2.set id (.gone v2),bE c.base wr (id::ba)⟩, ?_,hl,tr,he,h3⟩;rw[iU];dsimp only;rw[hx,ta,hid];dsimp only;rw[Zy hc,hn];dsimp only;rw[hH2];dsimp only;rw[Zy ⟨qy,hv.2⟩]
    cases h3
  cases h'
end
noncomputable def aIe(args:LA):Nat->KT->KT:=
 IU (motive:=fun _=>Nat->KT->KT) (fun _ t=>t) (fun a _ ih i t=>ih (i+1) (aTN (aG6 i) a t)) args
theorem aIf:∀(args:LA) (i:Nat) (t:KT),toF (aIe args i t)=fun j=>if i<=j/\j<i+args.length then (args[j - i]?).getD .undef else toF t j
 | [],i,t=>by
  funext j;show toF t j=_;rw[Zx (by simp)]
 |a::r,i,t=>by
  have h:toF (aIe r (i+1) (aLF (Qr i) a t))=_:=aIf r (i+1) (aLF (Qr i) a t);show toF (aIe r (i+1) (aLF (Qr i) a t))=_;rw[h,aBb];funext j;simp only[zX,upd,List.length_cons];by_cases h1:i+1<=j/\j<i+1+r.length
  ·rw[Zy h1,Zy (by omega),show j - i=(j - (i+1))+1 by omega,CT]
  rw[Zx h1];by_cases h2:j=i
  ·subst h2;rw[Zy rfl,Zy (by omega),Nat.sub_self];rfl
  rw[Zx h2,Zx (by omega)]
theorem aKi(args:LA):toF (aIe args 0 .e)=pO args:=by
 rw[aIf];funext j;unfold pO;by_cases h:j<args.length
 ·rw[Zy (by omega),Nat.sub_zero]
 rw[Zx (by omega),CY (by omega)];exact aMM _
noncomputable def aMR{α:Type}(l:List α)(k:List α->Bool):Bool:=
 IU (motive:=fun _=>(List α->Bool)->Bool) (fun k=>k []) (fun a _ ih k=>ih fun r=>k (a::r)) l k
theorem aKj{α:Type}:∀(l:List α) (k:List α->Bool),aMR l k=k l
 | [],_=>rfl
 |a::r,k=>aKj r fun r=>k (a::r)
noncomputable def bA6(base:Nat)(rs:List ou)(k:AV->LO->LN->Bool):KE:=fun e tr H wr=>
 bf.casesOn (motive:=fun _=>Bool) e (aFz (iE base rs (toF tr) H wr) fun r=>aMR (cJ base r).2.1 fun H'=>k (cJ base r).1 H' (cJ base r).2.2) (fun _=>Qu)
  (aFz (iE base rs (toF tr) H wr) fun r=>aMR (cJ base r).2.1 fun H'=>k (cJ base r).1 H' (cJ base r).2.2)
noncomputable def kFn(K:pV)(m:Nat)(fn:bw)(args:LA)(H:LO)(k:AV->LO->LN->Bool):Bool:=
 dK fn.ntmps ⟨0,fn.sites⟩ fn.body&&Nat.ble args.length fn.ntmps &&
  aHv K m fn.ntmps ⟨H.length,fn.sites⟩ fn.body (aIe args 0 .e) (H++AX fn.sites.length (.gone 0)) [] (bA6 H.length fn.results k)
def aPf:bf->Bool
 |.normal=>Qt
 |_=>Qu
def aWX:bf->Option bf
 |.normal=>Qs
 |e=>Qr e
noncomputable def aMS(K:pV)(m:Nat)(args:LA)(H:LO)(k:AV->LO->LN->Bool):Bool:=match args with
 |.own 0 []::.yld o v::xs=>match H[o]? with
  |some (.rnd v' base sites ps (.seq asg body) ρ Qu Qs)=>
   bif EY v' v&&EY xs.length ps.length&&(dK ρ.length ⟨0,sites++[YF+o,YF+v]⟩ asg&&dK ρ.length ⟨0,sites++[YF+o,YF+v]⟩ body)then
    aHv K m ρ.length ⟨base,sites++[YF+o,YF+v]⟩ asg (aIe (dH ρ ps xs) 0 .e) H [] fun e0 tr0 H0 wr0=>bif aPf e0 then match H0[o]? with
     |some (.rnd v1 b1 t1 p1 c1 r1 Qu Qs)=>bif EY v1 v then
      aHv K m ρ.length ⟨base,sites++[YF+o,YF+v]⟩ body tr0 (H0.set o (.rnd v b1 t1 p1 c1 r1 Qt Qs)) wr0 fun e tr H' wr=>match H'[o]? with
       |some (.rnd v2 b2 s2 p2 c2 r2 Qt Qs)=>bif EY v2 v then k (.bool (aPf e)) (H'.set o (.rnd v b2 s2 p2 c2 r2 Qu (aWX e))) (FM base (H.length - base)++(o::wr))else Qu
       |_=>Qu
      else Qu
     |_=>Qu
     else Qu
   else Qu
  |_=>Qu
 |_=>Qu
theorem aAf:∀(ps:LN) (xs ρ:LA),(dH ρ ps xs).length=ρ.length
 | [],_,_=>by simp[dH]
 |_::_,[],_=>by simp[dH]
 |t::ps,x::xs,ρ=>by rw[dH,aAf ps xs];simp
theorem aKk{A:af}{K:pV}(hK:KOk A K){m:Nat}{f:Nat}{args:LA}{H:LO}{k}(hp:(A.bq f).bind (· args H)=Qs)(hf:A.fn f=Qs)(h:aMS K m args H k=Qt):∃v H' wr,aG A f args H=Qr (v,H',wr)/\k v H' wr=true:=by
 unfold aMS at h;split at h
 ·rename_i o v xs;split at h
  ·rename_i v' base sites ps asg body ρ hH;cases hc:EY v' v&&EY xs.length ps.length&&(dK ρ.length ⟨0,sites++[YF+o,YF+v]⟩ asg&&dK ρ.length ⟨0,sites++[YF+o,YF+v]⟩ body)with
   |false=>rw[hc]at h;cases h
   |true=>
    rw[hc,cond_true]at h;simp only[AI]at hc;obtain⟨⟨c1,c2⟩,c0,c3⟩:=hc;have e1:=ET c1;have e2:=ET c2;subst e1;have hok:dK ρ.length ⟨base,sites++[YF+o,YF+v']⟩ body=true:=by rw[iV];exact c3
    have Eh:dK ρ.length ⟨base,sites++[YF+o,YF+v']⟩ asg=true:=by rw[iV];exact c0
    have hw:=iW (N:=ρ.length) hK asg Eh h;rw[aKi]at hw;have Ei:ck (dH ρ ps xs)=pO (dH ρ ps xs):=by have:=aE0 (dH ρ ps xs) 0;simpa using this
    obtain⟨n0,e0,s0,a1,a2,tr0,a3,a4⟩:=hw (dH ρ ps xs) (aAf _ _ _) Ei;cases e0 with
    |exit id=>cases a4
    |ret=>cases a4
    |normal=>
    dsimp only[aPf,cond_true]at a4;split at a4;rotate_left
    ·cases a4
    rename_i v1 b1 t1 p1 c1' r1 xu;cases qy:EY v1 v' with
    |false=>rw[qy]at a4;cases a4
    |true=>
    rw[qy,cond_true]at a4;have:=ET qy;subst this;obtain⟨n1,e,s',h1,h2,tr,h3,h4⟩:=iW (N:=ρ.length) hK body hok a4 s0.ρ a2 a3;dsimp only at h4;split at h4
    ·rename_i v2 b2 s2 p2 c2' r2 hs;cases hv:EY v2 v1 with
     |false=>rw[hv]at h4;cases h4
     |true=>rw[hv,cond_true]at h4;have:=ET hv;subst this;refine⟨_,_,_,oL (n:=max n0 n1) ?_,h4⟩;unfold dD qL;rw[hp,hf];dsimp only;rw[aAe,hH];dsimp only;rw[Zy ⟨rfl,e2⟩,eJ (GJ n0 n1) _ _ _ _ a1];dsimp only;rw[xu];dsimp only;rw[Zy rfl,eJ (GC n0 n1) _ _ _ _ h1];dsimp only;rw[hs];dsimp only;rw[Zy rfl];cases e<;>rfl
    cases h4
  cases h
 cases h
noncomputable def aE3(A:af)(m n:Nat):pV:=
 Nat.rec (motive:=fun _=>pV) (fun _ _ _ _=>Qu)
  (fun _ K f args H k=>JA (JA (aMS K m args H k) (fun fn=>kFn K m fn args H k) (A.fn f)) (fun r=>k (cT H r).1 (cT H r).2.1 (cT H r).2.2) ((A.bq f).bind (· args H))) n
theorem xG(A:af)(m:Nat):∀n,KOk A (aE3 A m n)
 |0,f,args,H,k,h=>by cases h
 |n+1,f,args,H,k,h=>by
  have h':(JA (JA (aMS (aE3 A m n) m args H k) (fun fn=>kFn (aE3 A m n) m fn args H k) (A.fn f)) (fun r=>k (cT H r).1 (cT H r).2.1 (cT H r).2.2) ((A.bq f).bind (· args H)):Bool)=true:=h;cases hp:(A.bq f).bind (· args H)with
  |some r=>rw[hp]at h';refine⟨_,_,_,oL (n:=0) ?_,h'⟩;unfold dD qL;rw[hp]
  |none=>
   rw[hp]at h';cases hf:A.fn f with
   |none=>rw[hf]at h';exact aKk (xG A m n) hp hf h'
   |some fn=>
    rw[hf]at h';have h2:kFn (aE3 A m n) m fn args H k=true:=h';unfold kFn at h2;simp only[AI]at h2;obtain⟨⟨hok,hN⟩,hc⟩:=h2;have Ej:dK fn.ntmps ⟨H.length,fn.sites⟩ fn.body=true:=by rw[iV];exact hok
    have Dv:args.length<=fn.ntmps:=Nat.le_of_ble_eq_true hN;have hw:=iW (N:=fn.ntmps) (xG A m n) fn.body Ej hc;rw[aKi]at hw;obtain⟨n1,e,s',h1,h2,tr,h3,h4⟩:=hw (args++AX (fn.ntmps - args.length) .undef) (by simp;omega) (aE0 _ _);have key:∀r,iE H.length fn.results (toF tr) s'.H s'.wr=Qr r->aA4 H.length fn s'=Qr r:=by intro r hr;rw[<- h3]at hr;unfold iE at hr;unfold aA4;rw[aJ6];exact hr
    have fin:(e=.normal∨e=.ret)->aFz (iE H.length fn.results (toF tr) s'.H s'.wr) (fun r=>aMR (cJ H.length r).2.1 fun H'=>k (cJ H.length r).1 H' (cJ H.length r).2.2)=Qt ->
      ∃v H' wr,aG A f args H=Qr (v,H',wr)/\k v H' wr=true:=by
     intro he hk;obtain⟨r,hr,hk⟩:=fX hk;rw[aKj]at hk;exact⟨_,_,_,oL (oU hp hf h1 he (key _ hr) Dv),hk⟩
    cases e with
    |normal=>exact fin (.inl rfl) h4
    |ret=>exact fin (.inr rfl) h4
    |exit id=>cases h4
section
variable {P:CU}{ab:cu}{g g':G}{H H':LO}{w w':BL}{W:LN}
theorem aCg{l0:Nat}{r0:Loop}(h:w.heap[l0]? = Qr (.loop r0))(fn:FuncId)(tmps:Array BE)(ps:Array Tmp)(assign body:Code):(JZ fn tmps ps assign body (Qr l0)).run P w = .ok (w.heap.size,[]) (w.alloc (.loop { state:=.ready,pending:=Qs,fn,tmps,params:=ps,assign,body,defers:=r0.defers })):=by unfold JZ;simp only[BS,run_newObj_alloc,DL,CB,run_getLoop h]
theorem Step.xw(h:WF g H w)(x:Obj):Step g H w { g with whole:=fun b=>if b=w.heap.size then Qr x else g.whole b } H (w.alloc x) []:=by
 have e:(w.alloc x).heap=w.heap.push x:=rfl;have hle:g.le { g with whole:=fun b=>if b=w.heap.size then Qr x else g.whole b }:=by
  refine⟨fun _ _ _ hx=>hx,fun o l hl=>⟨l,hl,AQ _,fun _=>⟨AQ _,fun _=>rfl⟩⟩,fun b y hy=>?_,rfl,rfl⟩;have:=h.whole.lt hy;have bl:b≠w.heap.size:=by omega
  simp only[bl,Zu];exact hy
 have dx:∀o l y,au { g with whole:=fun b=>if b=w.heap.size then Qr x else g.whole b } H o l y->au g H o l y:=fun o l y hb=>⟨hb.Pr,hb.alive,hb.loc,hb.st⟩;refine⟨hle,⟨fun b i y hy=>?_,h.lt,fun o l hl=>?_,h.st,fun o l y hb=>?_,fun o l y hb=>h.jh o l y (dx o l y hb),fun o o' l l' y y' hb du=>h.inj o o' l l' y y' (dx _ _ _ hb) (dx _ _ _ du),⟨fun b y hy=>?_,h.whole.io⟩⟩,⟨by rw[e];simp,fun b hb _=>cK e hb⟩,fun _ _ _=>rfl,AQ _,fun _ l' hl=>.inr ⟨l',hl,rfl⟩,fun _ _ _=>rfl⟩
 ·rw[cell_of_heap (cK e (h.ko hy))];exact h.perm b i y hy
 ·have:=h.blk o l hl;rw[e];simp;omega
 ·exact (h.obj o l y (dx o l y hb)).aq hle (cK e (h.blk o l hb.loc))
 by_cases hb:b=w.heap.size
 ·subst hb;simp only[Zv,AG]at hy;subst hy;refine⟨by rw[e];simp,fun o l z hz hE=>?_⟩;have:=h.blk o l hz.loc;omega
 simp only[hb,Zu]at hy;obtain⟨h1,h2⟩:=h.whole.blocks b y hy;exact⟨by rw[cK e (h.whole.lt hy)];exact h1,fun o l z hz=>h2 o l z (dx o l z hz)⟩
theorem Step.put(h:WF g H w){o:Nat}{l:Loc}{x x':ah}(hb:au g H o l x)(hv:x'.ver=x.ver)(j8:x'.alive=Qt)(ob:Obj) (la:g.le (g.setObj o l)->aBw (g.setObj o l) (w.putObj l.b ob) l x'):Step g H w (g.setObj o l) (H.set o x') (w.putObj l.b ob) [o]:=by refine Step.update h o x' l (h.lt o l hb.loc) (by simp) (fun b _ bl=>GK (Ne.symm (bl l x hb))) (by simpa using h.blk o l hb.loc) (.inr ⟨l,x,hb,rfl⟩) (by rw[hv];exact hb.st) j8 (fun l0 sz=>?_) la;rw[hb.loc]at sz;cases sz;exact⟨AQ _,fun _=>⟨AQ _,fun _=>rfl⟩⟩
theorem Step.F8(h:WF g H w){o:Nat}{l:Loc}{x:ah}(hb:au g H o l x)(ob:Obj):Step g H w g (H.set o (.gone x.ver)) (w.putObj l.b ob) [o]:=by
 obtain⟨h1,h2⟩:=Step.drop h hb;have hh:∀b,b≠l.b->(w.putObj l.b ob).heap[b]? = w.heap[b]? := fun b bl=>GK bl;have pj:=h1.wf;refine⟨G.le.refl g,⟨fun b i y hy=>?_,pj.lt,fun o' l' hl=>by simpa using pj.blk o' l' hl,pj.st,fun o' l' y du=>(pj.obj o' l' y du).aq (G.le.refl g) (hh _ (h2 o' l' y du)),pj.jh,pj.inj,⟨fun b y hy=>?_,pj.whole.io⟩⟩,⟨by simp,fun b du hw=>hh b fun e=>hw o (by simp) l hb.loc e.symm⟩,h1.same,h1.len,fun o' l' hl=>.inr ⟨l',hl,rfl⟩,fun _ _ _=>rfl⟩
 ·have bl:b≠l.b:=fun e=>by
   have:=h.jh o l x hb i;rw[<- e,hy]at this;cases this
  rw[cell_of_heap (hh b bl)];exact pj.perm b i y hy
 have bl:b≠l.b:=fun e=>(h.whole.blocks b y hy).2 o l x hb e.symm;obtain⟨a1,a2⟩:=pj.whole.blocks b y hy;exact⟨by rw[hh b bl];exact a1,a2⟩
def oV(w:BL):LN->BL
 | []=>w
 |b::bs=>oV (w.putObj b (.deferred Qs)) bs
theorem oW:∀(bs:LN) (w:BL) {b:Nat},b∉bs->(oV w bs).heap[b]? = w.heap[b]?
 | [],_,_,_=>rfl
 |c::bs,w,b,h=>by
  simp only[BD,not_or]at h;rw[oV,oW bs _ h.2,GK h.1]
theorem aCh:∀(bs:LN) (w:BL),(oV w bs).heap.size=w.heap.size
 | [],_=>rfl
 |c::bs,w=>by rw[oV,aCh bs];simp
theorem aGd:∀(bs:LN) (w:BL),(oV w bs).os=w.os/\(oV w bs).output=w.output
 | [],_=>⟨rfl,rfl⟩
 |c::bs,w=>by rw[oV];exact aGd bs _
def G.jb(g:G)(bs:LN):G:={ g with whole:=fun b=>if b∈bs then Qs else g.whole b }
theorem ai.jb{bs:LN}(ss:∀b∈bs,g.whole b=Qr (.deferred (Qr []))){a:AV}{x:BE}(h:ai g a x):ai (g.jb bs) a x:=by
 induction h with
 |undef x=>exact .undef x
 |bool b=>exact .bool b
 |int k n=>exact .int k n
 |str s=>exact .str s
 |fn f first ay vf vc hf hc h1 h2 ih1 ih2=>exact .fn f first ay vf vc hf hc ih1 ih2
 |bx=>exact .bx
 |ptr o v off l a hl hv h=>exact .ptr o v off l a hl hv h
 |vp o v n k i off l a hl hv hn h=>exact .vp o v n k i off l a hl hv hn h
 |nilPtr=>exact .nilPtr
 |bj=>exact .bj
 |ifc t v x hv h ih=>exact .ifc t v x hv ih
 |ep row off b base bd hp h ih=>exact .ep row off b base bd hp ih
 |kn full=>exact .kn full
 |sl full rows b off cap k cm jo hk bd hp h ih=>exact .sl full rows b off cap k cm jo hk bd hp ih
 |sr o v n l a cap hl hv hn jg h=>exact .sr o v n l a cap hl hv hn jg h
 |srv o v n k lo l a cap hl hv hn gr h=>exact .srv o v n k lo l a cap hl hv hn gr h
 |srw o v n hi l a cap hl hv hn tf h=>exact .srw o v n hi l a cap hl hv hn tf h
 |ar=>exact .ar
 |mp o v l r hl hv h=>exact .mp o v l r hl hv h
 |fmp ks vs r entries clock xs hw hp hk hv h1 h2 ih1 ih2=>refine .fmp ks vs r entries clock xs ?_ hp hk hv ih1 ih2;show (if r∈bs then Qs else g.whole r)=_;rw[Zx fun hm=>by rw[ss r hm]at hw;cases hw];exact hw
 |yld o v l r hl hv h=>exact .yld o v l r hl hv h
 |agg cs vs hs h ih=>exact .agg cs vs hs ih
 |tup cs vs hs h ih=>exact .tup cs vs hs ih
theorem aBw.jb{bs:LN}(ss:∀b∈bs,g.whole b=Qr (.deferred (Qr []))){l:Loc}{x:ah}(hb:w'.heap[l.b]? = w.heap[l.b]?)(h:aBw g w l x):aBw (g.jb bs) w' l x:=by
 cases x with
 |gone v=>trivial
 |box v cells=>obtain⟨h1,h2,h3⟩:=h;refine⟨h1,h2.of_heap hb,fun j a ha=>?_⟩;obtain⟨y,hy,hr⟩:=h3 j a ha;exact⟨y,by rw[cell_of_heap hb];exact hy,hr.jb ss⟩
 |cw v ty cells=>obtain⟨h1,⟨cs,h2,zc⟩,h3⟩:=h;refine⟨h1,⟨cs,by rw[hb];exact h2,zc⟩,fun j a ha=>?_⟩;obtain⟨y,hy,hr⟩:=h3 j a ha;exact⟨y,by rw[cell_of_heap hb];exact hy,hr.jb ss⟩
 |vec v k rows=>obtain⟨h1,h2,h3,h4,h5,h6,h7⟩:=h;refine⟨h1,h2,h3,h4.of_heap hb,h5,fun j hj=>by rw[cell_of_heap hb];exact h6 j hj,fun i j row a hr ha=>?_⟩;obtain⟨hs,y,hy,hv⟩:=h7 i j row a hr ha;exact⟨hs,y,by rw[cell_of_heap hb];exact hy,hv.jb ss⟩
 |gl v ty k rows=>obtain⟨⟨h1,h2,h3,h4,h5,h6,h7⟩,cs,h8⟩:=h;refine⟨?_,cs,by rw[hb];exact h8⟩;refine⟨h1,h2,h3,h4.of_heap hb,h5,fun j hj=>by rw[cell_of_heap hb];exact h6 j hj,fun i j row a hr ha=>?_⟩;obtain⟨hs,y,hy,hv⟩:=h7 i j row a hr ha;exact⟨hs,y,by rw[cell_of_heap hb];exact hy,hv.jb ss⟩
 |map v es=>obtain⟨h1,entries,clock,h2,h3,h4⟩:=h;exact⟨h1,entries,clock,by rw[hb];exact h2,h3,fun i k v e hk he=>⟨(h4 i k v e hk he).1.jb ss,(h4 i k v e hk he).2.jb ss⟩⟩
 |rnd v base sites ps body ρ busy pend=>obtain⟨h1,r,h2,h3,h4,h5,h6,h7,h8,h9⟩:=h;exact⟨h1,r,by rw[hb];exact h2,h3,h4,h5,h6,h7,h8,fun t=>(h9 t).jb ss⟩
theorem Step.marks{g0:G}{H0:LO}{w0:BL}(h0:WF g0 H0 w0)(h:Step g0 H0 w0 g H w W){bs:LN}(ss:∀b∈bs,w0.heap.size<=b/\g.whole b=Qr (.deferred (Qr []))):Step g0 H0 w0 (g.jb bs) H (oV w bs) W:=by
 have dp:∀b∈bs,g.whole b=Qr (.deferred (Qr [])):=fun b hb=>(ss b hb).2;have dx:∀o l y,au (g.jb bs) H o l y->au g H o l y:=fun o l y hb=>⟨hb.Pr,hb.alive,hb.loc,hb.st⟩;have yh:∀o l y,au g H o l y->l.b∉bs:=fun o l y hb hm=>(h.wf.whole.blocks l.b _ (dp _ hm)).2 o l y hb rfl;refine⟨⟨fun b i x hx=>h.le.perm b i x hx,fun o l hl=>h.le.obj o l hl,fun b x hx=>?_,h.le.io,h.le.code⟩,⟨fun b i y hy=>?_,h.wf.lt,fun o l hl=>by rw[aCh];exact h.wf.blk o l hl,h.wf.st,fun o l y hb=>?_,fun o l y hb=>h.wf.jh o l y (dx _ _ _ hb),fun o o' l l' y y' hb du=>h.wf.inj o o' l l' y y' (dx _ _ _ hb) (dx _ _ _ du),⟨fun b y hy=>?_, ?_⟩⟩,⟨by rw[aCh];exact h.frame.1,fun b hb hw=>?_⟩,h.same,h.len,h.mc,h.aq⟩
 ·have:=h0.whole.lt hx;show (if b∈bs then Qs else g.whole b)=_;rw[Zx fun hm=>by have:=(ss b hm).1;omega];exact h.le.whole b x hx
 ·have hp:=h.wf.perm b i y hy;have bl:b∉bs:=fun hm=>by
   have:=(h.wf.whole.blocks b _ (dp b hm)).1;simp[EF,this]at hp
  rw[cell_of_heap (oW bs w bl)];exact hp
 ·exact (h.wf.obj o l y (dx _ _ _ hb)).jb dp (oW bs w (yh o l y (dx _ _ _ hb)))
 ·have Ek:(if b∈bs then Qs else g.whole b)=Qr y:=hy;split at Ek
  ·cases Ek
  rename_i bl;obtain⟨a1,a2⟩:=h.wf.whole.blocks b y Ek;exact⟨by rw[oW bs w bl];exact a1,fun o l z hz=>a2 o l z (dx o l z hz)⟩
 ·have:=h.wf.whole.io;rw[(aGd bs w).1,(aGd bs w).2];exact this
 rw[oW bs w fun hm=>by have:=(ss b hm).1;omega];exact h.frame.2 b hb hw
theorem aEU{fn:Func}{tmps:Array BE}{R:Ending->BL->Prop}:∀(bs:LN) (w:BL),bs.Nodup->(∀b∈bs,w.heap[b]? = Qr (.deferred (Qr []))) ->(∃v,(results fn tmps).run P (oV w bs)=.ok v (oV w bs)/\R (.returned v) (oV w bs)) ->LeavesInM FJ 0 P fn tmps R (bs.map fun b=>⟨.collected b,#[]⟩) .returning w
 | [],w,_,_,h=>h
 |b::bs,w,hn,hb,h=>by
  refine⟨by simp,.inl ⟨b,_,rfl,run_takeDeferred (hb b (by simp)), ?_⟩⟩;rw[List.nodup_cons]at hn;exact aEU bs _ hn.2 (fun c hc=>by
   have bl:c≠b:=fun e=>hn.1 (e ▸ hc);rw[GK bl];exact hb c (by simp[hc])) h
theorem aEV:∀(ps:LN) (xs:LA) (vs:List BE) {ρ:LA} {tmps:Array BE},aX g ρ tmps->fU g xs vs->xs.length=ps.length ->aX g (dH ρ ps xs) ((ps.zip vs).foldl (fun t (p:Nat×BE)=>t.setIfInBounds p.1 p.2) tmps)
 | [],[],vs,ρ,tmps,hs,hx,_=>by simpa [dH]using hs
 |t::ps,x::xs,[],ρ,tmps,hs,hx,_=>by have:=hx.1;simp at this
 |t::ps,x::xs,v::vs,ρ,tmps,hs,hx,hl=>by
  simp only[dH,List.zip_cons_cons,List.foldl_cons];refine aEV ps xs vs ⟨by simpa using hs.1,fun t'=>?_⟩ ⟨by have:=hx.1;simpa using this,fun i a y e1 e2=>hx.2 (i+1) a y (by simpa using e1) (by simpa using e2)⟩ (by simpa using hl);have h1:=hs.1;by_cases e:t=t'
  ·subst e;by_cases hlt:t<ρ.length
   ·have:=hx.2 0 x v rfl rfl;simpa [hlt,h1 ▸ hlt,CR,HL]using this
   have:(ρ.set t x)[t]? = none:=CY (by simp;omega);rw[this];exact .undef _
  rw[getElem?_set_ne' _ _ e];have:=hs.2 t';simpa [CR,HL,e]using this
 | [],x::xs,vs,_,_,_,_,hl=>by simp at hl
 |t::ps,[],vs,_,_,_,_,hl=>by simp at hl
end
section
variable {P:CU}{ab:cu}{A:af}
def aMT(P:CU)(ab:cu)(f:Nat)(fn:bw):Prop:=
 ∃F body frz nl ty rs,P.funcs[f]? = Qr F/\(F.name == "runtime.NumGoroutine")=Qu/\F.body=Qr body /\
  fn.body=nR P { ab with nl:=nl,typed:=ty,refs:=rs } frz body/\fn.ntmps=F.ntmps/\aNz P F.results.toList=Qr fn.results
def aWY(P:CU)(ab:cu)(A:af)(f:Nat):Prop:=
 ∀n,(∀m,m<n->oT P ab (dD A m))->gS P ab fun f' args H=>if f'=f then dD A n f args H else Qs
structure Good(P:CU)(ab:cu)(A:af):Prop where
 mixed:P.follows .mixedOrders=Qt
 A5:A.fn YF=Qs/\A.bq YF=Qs
 fn:∀f fn,A.fn f=Qr fn->aMT P ab f fn∨aWY P ab A f
 bq:∀f p,A.bq f=Qr p->gS P ab fun f' args H=>if f'=f then (p args H).map (cT H)else Qs
def bf.real:bf->Exit
 |.normal=>.normal
 |.exit id=>.exit id
 |.ret=>.ret
def aHw(g:G)(n0:Nat)(ds d:List HU):Prop:=
 ∃bs:LN,ds=bs.map (fun b=>⟨.collected b,#[]⟩)++d/\(∀b∈bs,n0<=b/\g.whole b=Qr (.deferred (Qr [])))/\bs.Nodup
theorem aHw.refl{g:G}{n0:Nat}{d:List HU}:aHw g n0 d d:=⟨[],rfl,fun b h=>by simp at h,List.nodup_nil⟩
theorem aHw.trans{g1 g2:G}{n0 n1:Nat}{d1 d2 d:List HU}(h1:aHw g1 n0 d1 d)(hle:g1.le g2)(hn:n0<=n1)(hlt:∀b x,g1.whole b=Qr x->b<n1)(h2:aHw g2 n1 d2 d1):aHw g2 n0 d2 d:=by
 obtain⟨b1,e1,f1,u1⟩:=h1;obtain⟨b2,e2,f2,u2⟩:=h2;refine⟨b2++b1,by rw[e2,e1,List.map_append,List.append_assoc],fun b hb=>?_,List.nodup_append.2 ⟨u2,u1,fun x hx y hy e=>?_⟩⟩
 ·rcases AY.1 hb with hb | hb
  ·exact⟨Nat.le_trans hn (f2 b hb).1,(f2 b hb).2⟩
  exact⟨(f1 b hb).1,hle.whole _ _ (f1 b hb).2⟩
 subst e;have:=(f2 x hx).1;have:=hlt x _ (f1 x hy).2;omega
def aGe(P:CU)(ab:cu)(base:Nat)(g:G)(H:LO)(w:BL)(d:List HU)(s':gp)(a':Act)(w':BL):Prop:=
 ∃g' W,Step g H w g' s'.H w' W/\(∀o∈W,o<base->o∈s'.wr)/\aX g' s'.ρ a'.tmps/\aHw g' w.heap.size a'.defers d/\bM P ab g'
theorem aA9.to{base:Nat}{g:G}{H:LO}{w:BL}{d:List HU}{s':gp}{a':Act}{w':BL}(h:aA9 P ab base g H w d s' a' w'):aGe P ab base g H w d s' a' w':=by obtain⟨g',W,h1,h2,h3,h4,h5⟩:=h;exact⟨g',W,h1,h2,h3,h4 ▸ aHw.refl,h5⟩
theorem aGe.refl{base:Nat}{g:G}{w:BL}{a:Act}{s:gp}(hw:WF g s.H w)(hs:aX g s.ρ a.tmps)(hg:bM P ab g):aGe P ab base g s.H w a.defers s a w:=(aA9.refl hw hs hg).to
theorem aGe.join{base:Nat}{g g1:G}{H:LO}{w:BL}{d:List HU}{s1 s2:gp}{a1 a2:Act}{w1 w2:BL}{W:LN} (h1:Step g H w g1 s1.H w1 W) (h2:∀o∈W,o<base->o∈s1.wr) (h4:aHw g1 w.heap.size a1.defers d) (ma:∀o∈s1.wr,o∈s2.wr) (h:aGe P ab base g1 s1.H w1 a1.defers s2 a2 w2):aGe P ab base g H w d s2 a2 w2:=by
 obtain⟨g2,W',i1,i2,i3,i4,i5⟩:=h;refine⟨g2,W++W',h1.trans i1,fun o ho hb=>?_,i3,h4.trans i1.le h1.frame.1 (fun b x hx=>h1.wf.whole.lt hx) i4,i5⟩;rcases AY.1 ho with ho | ho
 ·exact ma o (h2 o ho hb)
 exact i2 o ho hb
theorem aKl{w:BL}{b off:Nat}{x:BE}(h:w.cell? ⟨b,off,Qs⟩=Qr x):w.setCell ⟨b,off,Qs⟩ x=w:=by
 have key:(w.heap.modify b fun
   |.cells c elem frozen=>.cells (c.setIfInBounds off x) elem frozen
   |o=>o)=w.heap:=by
  apply MS;intro i;rw[DJ];by_cases e:b=i
  ·subst e;rw[Zy rfl];simp only[EF]at h;cases hb:w.heap[b]? with
   |none=>rfl
   |some o=>
    rw[hb]at h;cases o with
    |cells c elem fz=>
     simp at h;have hlt:=(KM.1 h).1;have hx:=(KM.1 h).2;simp only[DE,AG,J4,and_self,and_true];apply MS;intro j;by_cases ej:off=j
     ·subst ej;simp[hlt,hx]
     simp[ej]
    |_=>rfl
  rw[Zx e]
 simp only[FR,Option.isSome_none,BX,Zu];exact congrArg (fun h=>{ w with heap:=h }) key
theorem aD6{w:BL}{b:Nat}:∀(vs:List BE) (off:Nat),(∀(j:Nat) v,vs[j]? = Qr v->w.cell? ⟨b,off+j,Qs⟩=Qr v)->w.setCells b off vs=w
 | [],_,_=>rfl
 |v::vs,off,h=>by
  have h0:=h 0 v rfl;simp only[DU]at h0;simp only[IZ];rw[aKl h0];exact aD6 vs (off+1) fun j x hx=>by
   have:=h (j+1) x (by simpa using hx)
   rwa [show off+(j+1)=off+1+j by omega]at this
theorem aAg{c:Ctx}{w:BL}{a:Act}:∀(ts:List (Nat×Nat)) (s s':gp),nX c s ts=Qr s'->∀(g:G),WF g s.H w->bM P ab g->aX g s.ρ a.tmps->aA9 P ab c.base g s.H w a.defers s' a w
 | [],s,s',h,g,hw,hg,hs=>by simp only[nX,AG]at h;subst h;exact .refl hw hs hg
 | (0,t)::ts,s,s',h,g,hw,hg,hs=>by
  unfold nX at h;split at h
  ·rename_i v H' l hf;obtain⟨g1,h1,h2⟩:=aI1 hw hf (hs.2 t);have lq:aX g1 (s.ρ.set t v) a.tmps:=by
    refine⟨by simpa using hs.1,fun t'=>?_⟩;by_cases e:t=t'
    ·subst e;by_cases hlt:t<s.ρ.length
     ·simpa [hlt]using h2
     have:(s.ρ.set t v)[t]? = none:=CY (by simp;omega);rw[this];exact .undef _
    rw[getElem?_set_ne' _ _ e];exact (hs.2 t').mono h1.le
   have h3:=aAg ts _ s' h g1 h1.wf (hg.mono h1.le) lq;obtain⟨g2,W,i1,i2,i3,i4,i5⟩:=h3;refine⟨g2,l++W,h1.trans i1,fun o ho hb=>?_,i3,i4,i5⟩;rcases AY.1 ho with ho | ho
   ·exact (sR ts _ s' h).2.1 o ((cE _ _ _).2 o ho hb)
   exact i2 o ho hb
  cases h
 | (k+1,t)::ts,s,s',h,g,hw,hg,hs=>by
  unfold nX at h;split at h
  ·exact aAg ts _ s' h g hw hg hs
  split at h
  ·rename_i H' l hk;obtain⟨g1,h1⟩:=aIY hw hk (hs.2 t);have h3:=aAg ts _ s' h g1 h1.wf (hg.mono h1.le) (hs.mono h1.le);obtain⟨g2,W,i1,i2,i3,i4,i5⟩:=h3;refine⟨g2,l++W,h1.trans i1,fun o ho hb=>?_,i3,i4,i5⟩;rcases AY.1 ho with ho | ho
   ·exact (sR ts _ s' h).2.1 o ((cE _ _ _).2 o ho hb)
   exact i2 o ho hb
  split at h
  ·rename_i cs hr;split at h
   ·rename_i cs' H' l hf;split at h
    ·rename_i H2 l2 bd;obtain⟨b,off,vs,e,ax,hl,hc⟩:=eI hw hr (hs.2 t);obtain⟨g1,h1,h2⟩:=aI1 hw hf (fU.agg (vs:=vs.toArray) (by simpa using hl));obtain⟨ys,e1,qe⟩:=h2.fu;cases e1;have O6:fU g1 cs' vs:=by simpa using qe
     obtain⟨b',off',e',_,_,h3⟩:=fF h1.wf bd ((hs.2 t).mono h1.le) O6;rw[e]at e';cases e';have Z5:w.setCells b off vs=w:=aD6 vs off fun j v hv=>hc j v hv;rw[Z5]at h3;have h4:=aAg ts _ s' h g1 h3.wf (hg.mono h1.le) (hs.mono h1.le);obtain⟨g2,W,i1,i2,i3,i4,i5⟩:=h4;refine⟨g2,(l++l2)++W,(h1.trans h3).trans i1,fun o ho hb=>?_,i3,i4,i5⟩;rcases AY.1 ho with ho | ho
     ·exact (sR ts _ s' h).2.1 o ((cE _ _ _).2 o ho hb)
     exact i2 o ho hb
    cases h
   cases h
  cases h
theorem WF.more{g:G}{H:LO}{w:BL}(h:WF g H w)(k:Nat):Step g H w g (H++AX k (.gone 0)) w []:=by
 have jk:∀o l x,au g (H++AX k (.gone 0)) o l x->au g H o l x:=fun o l x hb=>⟨by rw[<- BM (h.lt o l hb.loc)];exact hb.Pr,hb.alive,hb.loc,hb.st⟩;refine⟨G.le.refl g,⟨h.perm,fun o l hl=>by have:=h.lt o l hl;simp;omega,h.blk,fun o x l hx hl=>?_,fun o l x hb=>h.obj o l x (jk o l x hb),fun o l x hb=>h.jh o l x (jk o l x hb),
  fun o o' l l' x x' h1 h2=>h.inj o o' l l' x x' (jk _ _ _ h1) (jk _ _ _ h2),h.whole.aq rfl rfl ⟨rfl,rfl⟩ (fun _ _ _=>rfl) fun o l y hl=>.inr ⟨o,l,y,jk _ _ _ hl,rfl⟩⟩,aDS.refl _ _ _,fun o ho _=>BM ho,by simp,fun _ l' hl=>.inr ⟨l',hl,rfl⟩,fun _ _ _=>rfl⟩
 rw[BM (h.lt o l hl)]at hx;exact h.st o x l hx hl
def aE4(r:Option Nat)(c:Ctx)(g:G):Prop:=∀l,r=Qr l->∃o v,c.rd=Qr (o,v)/\ai g (.yld o v) (.func (.yield l) #[] #[])
theorem aE4.mono{r:Option Nat}{c:Ctx}{g g':G}(h:aE4 r c g)(hg:g.le g'):aE4 r c g':=fun l e=>let ⟨o,v,h1,h2⟩:=h l e;⟨o,v,h1,h2.mono hg⟩
theorem vL{g:G}{H:LO}{w:BL}(hw:WF g H w){o v:Nat}{l:Nat}(hx:ai g (.yld o v) (.func (.yield l) #[] #[])){base:Nat}{sites ps:LN}{body:ag}{ρ:LA}{busy:Bool}{pend:Option bf} (ho:H[o]? = Qr (.rnd v base sites ps body ρ busy pend)):∃lc,au g H o lc (.rnd v base sites ps body ρ busy pend)/\lc.b=l:=by
 cases hx with
 |yld _ _ lc r hl hv h=>
  have bd:lc.st=v:=by have:=hw.st o _ lc ho hl;simp only[ah.ver]at this;omega
  have hb:au g H o lc (.rnd v base sites ps body ρ busy pend):=⟨ho,rfl,hl,bd⟩;obtain⟨h0,_⟩:=hw.obj o lc _ hb;exact⟨lc,hb,(h bd h0).symm⟩
def aPg(P:CU)(ab:cu)(A:af)(n:Nat):Prop:=
 ∀(nl:Bool) (ty rs:LN) (c:Ctx) (frz:Nat->List (Nat×Nat)) (x:Code) (s:gp) e s',cY A n c (nR P { ab with nl:=nl,typed:=ty,refs:=rs } frz x) s=Qr (e,s')->∀(g:G) (a:Act) (w:BL),WF g s.H w->bM P ab g->aX g s.ρ a.tmps ->
  ∀Q:Exit->Act->BL->Prop,(∀a' w',aGe P ab c.base g s.H w a.defers s' a' w'->Q e.real a' w')->∀r:Option Nat,aE4 r c g->x.wpIn (fr r) 0 P Q a w/\∀b,x=.loop b->LL (fr r) 0 P b Q n a w
theorem aLI(A0:Good P ab A){n:Nat}(jz:aPg P ab A n):aOS P ab (dD A n):=by
 intro o v Pq H av H' wr h g w l xs hw hg hy hx;rcases sS h with⟨p,v1,hp,hv,hr⟩ | ⟨fn,s',e,r',hf,_⟩ | ⟨_,hr⟩
 ·rw[A0.A5.2]at hp;cases hp
 ·rw[A0.A5.1]at hf;cases hf
 obtain⟨o',v',as',base,sites,ps,asg,body,ρ,s0,b1,t1,p1,c1,r1,e,s,e1,hH,ax,xt,xu,je,b2,s2,p2,c2,r2,nu,pw⟩:=oK hr;simp only[JG,AV.yld.injEq,true_and]at e1;obtain⟨⟨rfl,rfl⟩,rfl⟩:=e1;simp only[BK]at pw;obtain⟨rfl,rfl,rfl⟩:=pw;obtain⟨lc,hb,rfl⟩:=vL hw hy hH;obtain⟨h0,rec,fb,bd,Cl,Hx,⟨ca,cb,Z6,Kl,ig⟩,_,gd,qt⟩:=hw.obj o lc _ hb;simp only[ag.seq.injEq]at Z6;obtain⟨rfl,rfl⟩:=Z6;have n9:=hx.1;have El:rec.params.size=xs.length:=by rw[<- Array.length_toList,Hx];omega
 refine⟨rec,fb,El, ?_⟩;obtain⟨nlA,tyA,rsA,frzA,rfl⟩:=(hg.code asg rec.assign).1 Kl;obtain⟨nlB,tyB,rsB,frzB,rfl⟩:=(hg.code body rec.body).1 ig;have zj:(Ctx.mk base (sites++[YF+o,YF+v])).rd=Qr (o,v):=by simp[Ctx.rd]
 have F9:aE4 (Qr lc.b) ⟨base,sites++[YF+o,YF+v]⟩ g:=fun l' e=>by
  cases e;exact⟨o,v,zj,hy⟩
 have se:aX g (dH ρ ps Pq) ((rec.params.zip xs.toArray).foldl (fun tmps (t,a)=>tmps.setIfInBounds t a) rec.tmps):=by have h1:=aEV (g:=g) ps Pq xs (tmps:=rec.tmps) ⟨gd,qt⟩ hx ax;rw[<- Array.foldl_toList,Array.toList_zip,Hx];exact h1
 refine roundIn_of_wpIn (F:=FJ) trivial ?_;refine (jz nlA tyA rsA _ frzA rec.assign _ .normal s0 xt g { tmps:=_,defers:=[] } w hw hg se _ (fun a1 w1 G1=>?_) (Qr lc.b) F9).1;obtain⟨g1,W1,j1,j2,j3,j4,j5⟩:=G1;obtain⟨lc1,fo,Em⟩:=vL j1.wf (hy.mono j1.le) xu;obtain⟨z0,rec1,zheap,zst,zpe,zps,zas,_,zsz,ztm⟩:=j1.wf.obj o lc1 _ fo;have s1:=Step.put (x':=.rnd v b1 t1 p1 c1 r1 Qt Qs) j1.wf fo rfl rfl (.loop { rec1 with state:=.busy }) fun hle=>⟨z0,{ rec1 with state:=.busy },LR (j1.wf.blk o lc1 fo.loc),by simp,zpe,zps,zas,trivial,zsz,fun t=>(ztm t).mono hle⟩;rw[Em]at zheap s1;refine⟨_,run_beginRound zheap (by simpa using zst), ?_⟩;have xm:aE4 (Qr lc.b) ⟨base,sites++[YF+o,YF+v]⟩ (g1.setObj o lc1):=fun l' e=>by
  cases e;exact⟨o,v,zj,(hy.mono j1.le).mono s1.le⟩
 refine (jz nlB tyB rsB _ frzB rec.body _ e s je _ a1 _ s1.wf (j5.mono s1.le) (j3.mono s1.le) (roundPost P lc.b _) (fun a' w' ku=>?_) (Qr lc.b) xm).1;obtain⟨g2,W,i1,i2,i3,i4,i5⟩:=ku;obtain⟨lc2,dp,Qn⟩:=vL i1.wf (((hy.mono j1.le).mono s1.le).mono i1.le) nu;obtain⟨q0,rec2,qheap,qst,qpe,qps,qas,qcd,qsz,qtm⟩:=i1.wf.obj o lc2 _ dp;rw[Qn]at qheap;have fin:∀(jump:Option Code) (pend:Option bf),jump=pend.map aIT->(decide (e=.normal))=jump.isNone->pend=(if e=.normal then Qs else Qr e) ->
   ∃v' w'',(Instr.endRound lc.b jump).run P w'=.ok v' w''/\∃g',Step g H w g' (s.H.set o (.rnd v b2 s2 p2 c2 r2 Qu (if e=.normal then Qs else Qr e))) w'' (FM base (H.length - base)++(o::s.wr))/\ai g' (.bool (decide (e=.normal))) v':=by
  intro jump pend hj hd hp;refine⟨_,_,run_endRound jump qheap, ?_⟩;have s3:=Step.put (x':=.rnd v b2 s2 p2 c2 r2 Qu pend) i1.wf dp rfl rfl (.loop { rec2 with state:=if jump.isNone then .ready else .done,pending:=jump }) fun hle=>⟨q0,{ rec2 with state:=if jump.isNone then .ready else .done,pending:=jump },LR (i1.wf.blk o lc2 dp.loc),by subst hj;cases pend<;>simp,hj,qps,qas,qcd,qsz,fun t=>(qtm t).mono hle⟩;rw[Qn]at s3;rw[<- hp];refine⟨_,(((j1.trans s1).trans i1).trans s3).narrow hw.lt fun q hq hlt=>?_,by rw[hd];exact .bool _⟩;simp only[AY,BD,CC,or_false]at hq;simp only[AY,BD,List.mem_range'_1];rcases hq with ((hq | rfl) | hq) | rfl
  ·by_cases P1:q<base
   ·exact .inr (.inr ((fJ _ _ _ _ _ _ je).2.1 q (j2 q hq P1)))
   exact .inl ⟨by omega,by omega⟩
  ·exact .inr (.inl rfl)
  ·by_cases P1:q<base
   ·exact .inr (.inr (i2 q hq P1))
   exact .inl ⟨by omega,by omega⟩
  exact .inr (.inl rfl)
 cases e with
 |normal=>exact fin Qs Qs rfl rfl rfl
 |ret=>exact fin (Qr .ret) (Qr .ret) rfl rfl rfl
 |exit id=>exact fin (Qr (.exit id)) (Qr (.exit id)) rfl rfl rfl
theorem aE5(A0:Good P ab A):∀(n:Nat),(∀m,m<=n->aPg P ab A m)->oT P ab (dD A n):=by
 intro n
 induction n using KK with
 |_ n ihc=>
 intro da;have jz:=da n (AQ _);refine⟨?_,aLI A0 jz⟩;intro f args H av H' wr h g w xs hw hg hx;rcases sS h with⟨p,v1,hp,hv,hr⟩ | ⟨fn,s',e,r',hf,he,vt,zk,hr,_⟩ | ⟨_,hrr⟩
 rotate_left 2
 ·obtain⟨o,v,Pq,_,_,_,_,_,_,_,_,_,_,_,_,_,_,rfl,_⟩:=oK hrr;obtain⟨y,hy⟩:∃y,xs[0]? = Qr y:=⟨xs[0]'(by have:=hx.1;simp at this;omega),AP _⟩;have:=hx.2 0 _ y rfl hy;cases this
 ·cases hr;exact A0.bq f p hp f args H _ _ _ (by simp[hv];rfl) g w xs hw hg hx
 rcases A0.fn f fn hf with nx | halt;rotate_left
 ·exact halt n (fun m hm=>ihc m hm fun k hk=>da k (by omega)) f args H av H' wr (by simpa using h) g w xs hw hg hx
 obtain⟨F,body,frz,nl,ty,rs,e1,e2,e3,e4,e5,e6⟩:=nx;refine⟨⟨F,e1,e2,by simp[e3]⟩,callsIn_wide.1 (callsIn_of_wp_marks (F:=FJ) (n:=0) e1 e3 trivial ?_)⟩;rw[e4]at he;have bd:=hw.more fn.sites.length;refine (jz nl ty rs _ frz body _ e s' he g _ w bd.wf hg ?_ _ (fun a' w' ku=>?_) Qs (fun l e=>by cases e)).1
 ·
  have ax:=hx.1;refine⟨by simp[nF,ax,e5],fun t=>?_⟩;simp only[nF];by_cases ht:t<args.length
  ·rw[BM ht,AP ht];have h1:(xs.toArray++NW (F.ntmps - xs.toArray.size) EE).getD t EE=xs[t]'(by omega):=by
    simp[CR,Array.getElem?_append,show t<xs.length by omega]
   rw[h1];exact hx.2 t _ _ (AP ht) (AP (by omega))
  rw[List.getElem?_append_right (by omega),List.getElem?_replicate];split<;>exact .undef _
 obtain⟨g0,W,j1,i2,j3,⟨bs,En,Z7,Eo⟩,j5⟩:=ku;have xu:Step g H w g0 s'.H w' W:=by simpa using bd.trans j1
 have Z8:∀b∈bs,g0.whole b=Qr (.deferred (Qr [])):=fun b hb=>(Z7 b hb).2;have lq:=Step.marks hw xu Z7;have i1:=lq;have i3:aX (g0.jb bs) s'.ρ a'.tmps:=⟨j3.1,fun t=>(j3.2 t).jb Z8⟩;generalize V4:g0.jb bs=g1 at lq i1 i3;have A6:(∃v,(results F a'.tmps).run P (oV w' bs)=.ok v (oV w' bs)/\(match Ending.returned v with | .returned v=>∃g',Step g H w g' H' (oV w' bs) wr/\pN g' H' w.heap.size (oV w' bs) av v | _=>False)) ->
   LeavesInM FJ 0 P F a'.tmps (fun e w'=>match e with | .returned v=>∃g',Step g H w g' H' w' wr/\pN g' H' w.heap.size w' av v | _=>False) a'.defers .returning w':=fun hh=>by
  rw[En,AJ];exact aEU bs w' Eo (fun b hb=>(xu.wf.whole.blocks b _ (Z8 b hb)).1) hh
 generalize gn:oV w' bs=w2 at lq i1 A6;obtain⟨vs,C8,r9⟩:=aEL zk;obtain⟨ys,tc,Cm⟩:=vH (P:=P) i1.wf i3 F.results.toList fn.results vs e6 C8;have cl:=aLD tc;have vu:∃g2,Step g H w g2 r'.2.1 w2 r'.2.2/\pN g2 r'.2.1 w.heap.size w2 r'.1 (aR8 ys):=by
  rcases r9 with⟨v,v',H2,l,rfl,yp,rfl⟩ | ⟨vs',H2,l,bl,yp,rfl⟩
  ·have hl:ys.length=1:=by have:=Cm.1;simpa using this.symm
   obtain⟨y,rfl⟩:=List.length_eq_one_iff.1 hl;have ki:∀o l,H.length<=o->g1.obj o=Qr l->w.heap.size<=l.b:=fun o l ho hl=>by
    rcases lq.mc o l hl with h1 | ⟨l0,h0,_⟩
    ·exact h1
    have:=hw.lt o l0 h0;omega
   obtain⟨g2,j1,j2⟩:=aI7 ki i1.wf yp (Cm.2 0 v y rfl rfl);refine⟨g2,(lq.trans j1).narrow hw.lt fun o ho hb=>?_,j2⟩;rcases AY.1 ho with ho | ho
   ·exact (cE _ _ _).1 o (i2 o ho hb)
   exact (cE _ _ _).2 o ho hb
  obtain⟨g2,j1,j2⟩:=aG3 i1.wf yp Cm;have ht:aR8 ys=.tuple ys.toArray:=by
   have:=Cm.1;cases ys with
   |nil=>rfl
   |cons y r=>cases r with
    |nil=>simp at this;omega
    |cons z r=>rfl
  rw[ht];refine⟨g2,(lq.trans j1).narrow hw.lt fun o ho hb=>?_, ?_⟩
  ·rcases AY.1 ho with ho | ho
   ·exact (cE _ _ _).1 o (i2 o ho hb)
   exact (cE _ _ _).2 o ho hb
  exact ai.tup vs' ys.toArray (by simpa using j2.1) fun i a x ha hx=>j2.2 i a x ha (by simpa using hx)
 have P3:∃g2,Step g H w g2 H' w2 wr/\pN g2 H' w.heap.size w2 av (aR8 ys):=by
  obtain⟨g2,k1,k2⟩:=vu;obtain⟨v3,H3,wr3⟩:=r';simp only[cJ]at hr;split at hr
  ·rename_i zl;simp only[AI]at zl;cases hr;refine⟨g2.cut H.length,Step.cut hw k1 fun o ho x hx=>?_,pN.cut k2 zl.1⟩;have:=AO.1 zl.2 o ho;rw[hx]at this;exact this
  cases hr;exact⟨g2,k1,k2⟩
 have hb:=A6 ⟨_,cl,P3⟩;rcases vt with rfl | rfl
 ·exact hb
 exact hb
theorem aNQ(A0:Good P ab A)(n:Nat):aPg P ab A n:=by
 induction n using KK with
 |_ n ihs=>
 cases n with
 |zero=>exact fun nl ty rs c frz x s e s' h=>by rw[gT]at h;cases h
 |succ n=>
  have ih:=ihs n (HR n);have az:=aE5 A0 n fun k hk=>ihs k (by omega);have my:sQ (dD A n):=aKa n;intro nl ty rs c frz x s e s' h g a w hw hg hs Q hQ r hR;have region:∀(m:Nat) (id:Nat) (ops:Array Oper) (d:Bool) (s s':gp) (g:G) (e:bf),oT P ab (dD A m)->WF g s.H w->aX g s.ρ a.tmps->bM P ab g->cY A (m+1) c (.region d (aTn d (aDQ P { ab with nl:=nl,typed:=ty,refs:=rs } ops.toList ops.toList []))) s=Qr (e,s') ->
    ∀Q:Exit->Act->BL->Prop,(∀a' w',aGe P ab c.base g s.H w a.defers s' a' w'->Q e.real a' w')->(Code.region id ops d).wpIn (fr r) 0 P Q a w:=by
   intro m id ops d s s' g e hc hw hs hg h Q hQ;rw[iS]at h;split at h
   ·rename_i s1 hr;cases h;cases d with
    |true=>exact aNM (ab:={ ab with nl:=nl,typed:=ty,refs:=rs }) A0.mixed hc (aKa m) hr hw hg hs fun a' w' h0=>hQ a' w' (aA9.to h0)
    |false=>simp only[iO,BQ,BX,Zu,aFW]at hr;exact aK2 (ab:={ ab with nl:=nl,typed:=ty,refs:=rs }) hc hr hw hg hs fun a' w' h0=>hQ a' w' (aA9.to h0)
   cases h
  have noloop:∀{y:Code},(∀b,y≠.loop b)->y.wpIn (fr r) 0 P Q a w->y.wpIn (fr r) 0 P Q a w/\∀b,y=.loop b->LL (fr r) 0 P b Q (n+1) a w:=fun bl Km=>⟨Km,fun b hb=>Zw hb (bl b)⟩;cases x with
  |skip=>refine noloop (fun b=>by simp) (wpIn_skip ?_);simp only[nR,xB,AG,BK]at h;obtain⟨rfl,rfl⟩:=h;exact hQ a w (.refl hw hs hg)
  |region id ops d=>
   refine noloop (fun b=>by simp) ?_;simp only[nR]at h;split at h
   ·exact region n id ops d s s' g e az hw hs hg h Q hQ
   rename_i ts _;rw[iD]at h;cases n with
   |zero=>rw[gT]at h;cases h
   |succ m=>
    rw[vI]at h;split at h
    ·rename_i s1 hz;split at hz
     ·rename_i s2 hf;cases hz;have ku:=aAg _ s s1 hf g (w:=w) (a:=a) hw hg hs;obtain⟨g1,W,i1,i2,i3,i4,i5⟩:=ku;have Kn:oT P ab (dD A m):=aE5 A0 m fun k hk=>ihs k (by omega);refine region m id ops d s1 s' g1 e Kn i1.wf i3 i5 h Q fun a' w' hr=>hQ a' w' ?_;obtain⟨g2,W',j1,j2,j3,j4,j5⟩:=hr;refine⟨g2,W++W',i1.trans j1,fun o ho hb=>?_,j3,j4,j5⟩;rcases AY.1 ho with ho | ho
      ·exact (fJ _ _ _ _ _ _ h).2.1 o (i2 o ho hb)
      exact j2 o ho hb
     cases hz
    rename_i bl;exfalso;split at h
    ·rename_i s2 hf;exact bl s2 (by rw[hf])
    cases h
  |seq x y=>
   refine noloop (fun b=>by simp) (wpIn_seq ?_);simp only[nR,iD]at h;split at h
   ·rename_i s1 h1;refine (ih nl ty rs c frz x s _ s1 h1 g a w hw hg hs _ (fun a1 w1 hr=>?_) r hR).1;obtain⟨g1,W,i1,i2,i3,i4,i5⟩:=hr;refine (ih nl ty rs c frz y s1 e s' h g1 a1 w1 i1.wf i5 i3 Q (fun a' w' pw=>hQ a' w' ?_) r (hR.mono i1.le)).1;exact aGe.join i1 i2 i4 (fJ _ _ _ _ _ _ h).2.1 pw
   rename_i bl;refine (ih nl ty rs c frz x s e s' h g a w hw hg hs _ (fun a1 w1 hr=>?_) r hR).1;cases e with
   |normal=>exact Zw h (bl s')
   |exit id=>exact hQ a1 w1 hr
   |ret=>exact hQ a1 w1 hr
  |cond t x y=>
   refine noloop (fun b=>by simp) ?_;cases t with
   |tmp t=>
    simp only[nR,iT]at h;have hv:=hs.2 t;split at h
    ·rename_i hb;simp only[aa.ev]at hb;rw[hb]at hv;have he:a.eval (.tmp t)=.bool true:=by cases P5  : a.tmps.getD t EE<;>rw[P5]at hv<;>cases hv;exact P5
     exact wpIn_cond_true he (ih nl ty rs c frz x s e s' h g a w hw hg hs Q hQ r hR).1
    ·rename_i hb;simp only[aa.ev]at hb;rw[hb]at hv;have he:a.eval (.tmp t)=.bool false:=by cases P5  : a.tmps.getD t EE<;>rw[P5]at hv<;>cases hv;exact P5
     exact wpIn_cond_false he (ih nl ty rs c frz y s e s' h g a w hw hg hs Q hQ r hR).1
    cases h
   |_=>simp only[nR,qG]at h;cases h
  |block id b=>
   refine noloop (fun b=>by simp) (wpIn_block ?_);simp only[nR,eP]at h;split at h
   ·rename_i id' s1 h1;refine (ih nl ty rs c frz b s _ s1 h1 g a w hw hg hs _ (fun a1 w1 hr=>?_) r hR).1;split at h
    ·rename_i hid;cases h;simp only[bf.real,G9,hid,Zv];exact hQ a1 w1 hr
    rename_i hid;cases h;simp only[bf.real,G9,hid,Zu];exact hQ a1 w1 hr
   rename_i bl;refine (ih nl ty rs c frz b s e s' h g a w hw hg hs _ (fun a1 w1 hr=>?_) r hR).1;cases e with
   |normal=>exact hQ a1 w1 hr
   |exit id'=>exact Zw h (bl id' s')
   |ret=>exact hQ a1 w1 hr
  |loop b=>
   have key:LL (fr r) 0 P b Q (n+1) a w:=by
    simp only[nR,gU]at h;rw[roundsIn_succ];split at h
    ·rename_i s1 h1;refine (ih nl ty rs c frz b s _ s1 h1 g a w hw hg hs _ (fun a1 w1 hr=>?_) r hR).1;obtain⟨g1,W,i1,i2,i3,i4,i5⟩:=hr;refine (ih nl ty rs c frz (.loop b) s1 e s' h g1 a1 w1 i1.wf i5 i3 Q (fun a' w' pw=>hQ a' w' ?_) r (hR.mono i1.le)).2 b rfl;exact aGe.join i1 i2 i4 (fJ _ _ _ _ _ _ h).2.1 pw
    rename_i bl;refine (ih nl ty rs c frz b s e s' h g a w hw hg hs _ (fun a1 w1 hr=>?_) r hR).1;cases e with
    |normal=>exact Zw h (bl s')
    |exit id=>exact hQ a1 w1 hr
    |ret=>exact hQ a1 w1 hr
   exact⟨wpIn_loop_rounds _ key,fun b' du=>by cases du;exact key⟩
  |exit id=>refine noloop (fun b=>by simp) (wpIn_exit ?_);simp only[nR,aCb,AG,BK]at h;obtain⟨rfl,rfl⟩:=h;exact hQ a w (.refl hw hs hg)
  |ret=>refine noloop (fun b=>by simp) (wpIn_ret ?_);simp only[nR,aDZ,AG,BK]at h;obtain⟨rfl,rfl⟩:=h;exact hQ a w (.refl hw hs hg)
  |rangeFunc gx ps assign body=>
   refine noloop (fun b=>by simp) ?_;simp only[nR]at h;split at h;rotate_left
   ·rw[qG]at h;cases h
   rename_i xo xa;rw[iU]at h;split at h;rotate_left
   ·cases h
   rename_i f first ay id O5 qh
   split at h;rotate_left
   ·cases h
   rename_i hc;obtain⟨hid,uo⟩:=hc;split at h;rotate_left
   ·cases h
   rename_i rv H2 wr kq;split at h;rotate_left
   ·cases h
   rename_i v b2 s2 p2 c2 r2 pend hH2;split at h;rotate_left
   ·cases h
   rename_i hv;obtain⟨rfl,Cn⟩:=hv;cases h;have D1:=aQ (P:=P) (ab:={ ab with nl:=nl,typed:=ty,refs:=rs }) xa hg hs;rw[O5]at D1;obtain⟨vf,vc,je,yo,hlc⟩:=D1.rm;have Rr:s.H[id]? = Qr s.H[id]:=by simp[hid]
   have nn:bH s.H id=s.H[id].ver+1:=by simp[bH,hid]
   obtain⟨l,mark,D,g0,w0,he,s0,Z9⟩:∃(l:Nat) (mark:List HU) (D:Nat) (g0:G) (w0:BL),
     (∀fn,(JZ fn a.tmps ps assign body (fr r).round).run P w=.ok (l,mark) (w0.alloc (.loop { state:=.ready,pending:=Qs,fn,tmps:=a.tmps,params:=ps,assign,body,defers:=D }))) /\
     (Step g s.H w g0 s.H w0 []/\l=w0.heap.size)/\(mark=[]∨(mark=[⟨.collected w.heap.size,#[]⟩]/\g0.whole w.heap.size=Qr (.deferred (Qr [])))):=by
    cases r with
    |none=>have h1:=Step.xw hw (.deferred (Qr []));exact⟨_,_,w.heap.size,_,_,fun fn=>run_enterLoop_outer fn a.tmps ps assign body,⟨h1,by simp[World.size_alloc]⟩,.inr ⟨rfl,by simp⟩⟩
    |some l0=>
     obtain⟨o,v,zj,hy⟩:=hR l0 rfl;simp only[eZ,zj]at uo;split at uo
     ·rename_i v' b3 s3 p3 c3 r3 Ko;have Kp:v'=v:=by simpa using uo
      subst Kp;obtain⟨lc,hb,rfl⟩:=vL hw hy Ko;obtain⟨_,rec,fb,_⟩:=hw.obj o lc _ hb;exact⟨_,_,rec.defers,g,w,fun fn=>aCg fb fn a.tmps ps assign body,⟨.refl hw,rfl⟩,.inl rfl⟩
     cases uo
   obtain⟨s0,rfl⟩:=s0;refine wpIn_rangeFunc fun fn _=>?_;generalize xp:(Obj.loop { state:=.ready,pending:=Qs,fn,tmps:=a.tmps,params:=ps,assign,body,defers:=D })=ob;have K7:=he fn;rw[xp]at K7;have e1:(w0.alloc ob).heap=w0.heap.push ob:=rfl;have jz:∃ca cb,ag.seq (nR P ⟨ab.row,nl,ty,rs⟩ frz assign) (nR P ⟨ab.row,nl,ty,rs⟩ frz body)=.seq ca cb/\g0.code ca assign/\g0.code cb body:=⟨_,_,rfl,((hg.mono s0.le).code _ _).2 ⟨nl,ty,rs,frz,rfl⟩,((hg.mono s0.le).code _ _).2 ⟨nl,ty,rs,frz,rfl⟩⟩;have s1:=Step.update (w':=w0.alloc ob) s0.wf id (.rnd (bH s.H id) c.base c.sites ps.toList (.seq (nR P ⟨ab.row,nl,ty,rs⟩ frz assign) (nR P ⟨ab.row,nl,ty,rs⟩ frz body)) s.ρ Qu Qs) ⟨w0.heap.size,bH s.H id,0,0,0⟩ hid (by rw[e1];simp) (fun b hb _=>cK e1 hb) (by rw[e1];simp) (.inl (AQ _)) rfl rfl (fun l hl=>by
     have:=s0.wf.st id _ l Rr hl;exact⟨by show l.st<=bH s.H id;omega,fun e=>by have e':bH s.H id=l.st:=e;omega⟩)
    fun hle=>⟨rfl,{ state:=.ready,pending:=Qs,fn,tmps:=a.tmps,params:=ps,assign,body,defers:=D },by rw[e1,<- xp];simp,rfl,rfl,rfl,jz,trivial,hs.1,fun t=>((hs.2 t).mono s0.le).mono hle⟩
   have Hy:ai (g0.setObj id ⟨w0.heap.size,bH s.H id,0,0,0⟩) (.yld id (bH s.H id)) (.func (.yield w0.heap.size) #[] #[]):=.yld id _ _ _ (by simp[G.setObj];rfl) (AQ _) fun _ _=>rfl;have A7:g.le (g0.setObj id ⟨w0.heap.size,bH s.H id,0,0,0⟩):=s0.le.trans s1.le;have hargs:fU (g0.setObj id ⟨w0.heap.size,bH s.H id,0,0,0⟩) (first++.yld id (bH s.H id)::ay) (vf.toList++.func (.yield w0.heap.size) #[] #[]::vc.toList):=by
    refine (yo.mono A7).append (fU.append (Pq:=[.yld id (bH s.H id)]) (xs:=[.func (.yield w0.heap.size) #[] #[]]) ⟨rfl,fun i c x h1 h2=>?_⟩ (hlc.mono A7));cases i with
    |zero=>simp at h1 h2;subst h1;subst h2;exact Hy
    |succ i=>simp at h1
   obtain⟨⟨Fn,ta,jq,gh⟩,kr⟩:=az.1 f _ _ rv H2 wr kq _ (w0.alloc ob) _ s1.wf (hg.mono A7) hargs;have Hz:¬(Fn.name = "runtime.NumGoroutine"):=by simpa using jq
   have V5:¬(Fn.body=Qs):=fun e=>by rw[e]at gh;simp at gh
   have rq:(vf ++ #[Value.func (.yield w0.heap.size) #[] #[]]++vc)=(vf.toList++.func (.yield w0.heap.size) #[] #[]::vc.toList).toArray:=by apply Array.ext';simp
   refine⟨w0.heap.size,mark,w0.alloc ob,⟨.fn (.func f) vc,vf ++ #[.func (.yield w0.heap.size) #[] #[]]⟩,w0.alloc ob,f,(vf.toList++.func (.yield w0.heap.size) #[] #[]::vc.toList).toArray,w0.alloc ob,K7, ?_,fun _ _=>trivial, ?_,fun h=>(by simp[fr,FJ]at h), ?_⟩
   ·have hy:a.eval (.const (.func (.yield w0.heap.size) #[] #[]))=.func (.yield w0.heap.size) #[] #[]:=rfl;simp[resolve,je,hy,JF]
   ·simp only[invoke,callFunc];rw[rq];simp[ta,Hz,V5]
   have hC:CallsIn FJ (0 - 1) P f _ (w0.alloc ob) _:=callsIn_wide.2 kr;refine CallsIn.mono (F:=fr r) hC fun e w3 vu=>?_;cases e with
   |panicked ch=>exact vu.elim
   |outgrown=>exact vu.elim
   |returned rvv=>
    obtain⟨g2,s3,_⟩:=vu;obtain⟨lc2,dp,Qn⟩:=vL s3.wf (Hy.mono s3.le) hH2;obtain⟨q0,rec2,qheap,qst,qpe,_⟩:=s3.wf.obj id lc2 _ dp;rw[Qn]at qheap;have s4:=Step.F8 s3.wf dp (.loop { rec2 with state:=.exhausted });rw[Qn]at s4;have yh:rec2.state≠.busy:=by rw[qst];cases pend<;>simp
    have ku:aGe P ab c.base g s.H w a.defers ⟨s.ρ,H2.set id (.gone (bH s.H id)),bE c.base s.wr (id::wr)⟩ { a with defers:=mark++a.defers } (w3.putObj w0.heap.size (.loop { rec2 with state:=.exhausted })):=by
     refine⟨g2,_,((s0.trans s1).trans s3).trans s4,fun o ho hb=>(cE _ _ _).2 o ?_ hb,hs.mono (A7.trans s3.le), ?_,hg.mono (A7.trans s3.le)⟩
     ·simp only[AY,CW,BD,CC,or_false]at ho;simp only[BD];rcases ho with (rfl | ho) | rfl
      ·exact .inl rfl
      ·exact .inr ho
      exact .inl rfl
     rcases Z9 with rfl | ⟨rfl,Ep⟩
     ·exact aHw.refl
     exact⟨[w.heap.size],rfl,fun b hb=>by rw[List.mem_singleton]at hb;subst hb;exact⟨AQ _,(s1.le.trans s3.le).whole _ _ Ep⟩,by simp⟩
    refine⟨pend.map aIT,w3.putObj w0.heap.size (.loop { rec2 with state:=.exhausted }),by rw[run_endLoop qheap yh,<- qpe], ?_⟩;cases pend with
    |none=>exact hQ _ _ ku
    |some e=>
     cases e with
     |normal=>exact wpIn_skip (hQ _ _ ku)
     |ret=>exact wpIn_ret (hQ _ _ ku)
     |exit id'=>exact wpIn_exit (hQ _ _ ku)
  |_=>simp only[nR,qG]at h;cases h
theorem sU(A0:Good P ab A)(n:Nat):oT P ab (dD A n):=aE5 A0 n fun m _=>aNQ A0 m
end
def fB(tB tP:Nat):aIP:=fun args H=>match args with
 | [.ptr o v 0]=>match H[o]? with
  |some (.cw v' ty [.nilPtr,c])=>if v'=v/\(ty=tB∨ty=tP)then Qr (.tup [],[(o,.cw v ty [.ptr o v 0,c])],[])else Qs
  |some (.cw v' _ [.ptr o' v2 0,_])=>if v'=v/\o'=o/\v2=v then Qr (.tup [],[],[])else Qs
  |_=>Qs
 |_=>Qs
def aE6:List LA->Bool
 | []=>Qt
 | [.int .u8 n]::r=>decide (0<=n)&&decide (n<256)&&aE6 r
 |_=>Qu
def aAh(tb:Nat):aIP:=fun args H=>match args with
 | [.ptr o v 0]=>match H[o]? with
  |some (.cw v' _ [_,.ar])=>if v'=v then Qr (.str [],[],[])else Qs
  |some (.cw v' _ [_,.sr o2 v2 n])=>if v'=v then match H[o2]? with
    |some (.gl v3 t3 1 rows)=>if v3=v2/\t3=tb/\rows.length=n/\n≠0/\o2≠o/\n<=1000000000/\aE6 rows then match cM rows with
      |some l=>Qr (.str l,[(o2,.gone v2)],[])
      |none=>Qs
     else Qs
    |_=>Qs
   else Qs
  |_=>Qs
 |_=>Qs
def aNR(tB tb:Nat):aIP:=fun args H=>match args with
 | [.ptr o v 0,.int .i64 n]=>match H[o]? with
  |some (.cw v' ty [.nilPtr,.ar])=>if v'=v/\ty=tB/\0<n/\n<=1000000 then Qr (.tup [],[(o,.cw v tB [.ptr o v 0,.sr H.length 1 0])],[.gl 1 tb 1 []])else Qs
  |_=>Qs
 |_=>Qs
def aJ7(sep:List UInt8):List LA->Option (List UInt8)
 | []=>Qr []
 | [[.str s]]=>Qr s
 | [.str s]::r=>match aJ7 sep r with
  |some t=>Qr (s++sep++t)
  |none=>Qs
 |_=>Qs
def aKm:aIP:=fun args _=>match args with
 | [.sl _ rows,.str sep]=>match aJ7 sep rows with
  |some s=>if s.length<=140737488355328/\rows.length<=140737488355328 then Qr (.str s,[],[])else Qs
  |none=>Qs
 |_=>Qs
def aYu:aIP:=fun args _=>match args with
 | [.str s,.int .u8 c]=>Qr (.int .i64 (EV s c.toNat.toUInt8),[],[])
 |_=>Qs
def aE7:aIP:=fun args _=>match args with
 | [.str s,.str [c]]=>Qr (.int .i64 (PC s c),[],[])
 |_=>Qs
def aAi:aIP:=fun args H=>match args with
 | [p]=>match bC H 1 p with
  |some [.int .u32 n]=>Qr (.bool (n != 0),[],[])
  |_=>Qs
 |_=>Qs
def nC:Nat->Nat->List UInt8
 |0,_=>[]
 |k+1,n=>if n<10 then [CN (48+n)] else nC k (n / 10)++[CN (48+n % 10)]
def sC:aIP:=fun args _=>match args with
 | [.int .i64 n]=>if 0<=n/\n<1000000 then Qr (.str (nC 7 n.toNat),[],[])else if n<0 /\ -1000000<n then Qr (.str (45::nC 7 (-n).toNat),[],[])else Qs
 |_=>Qs
section
variable {P:CU}{ab:cu}
theorem oC{f:Nat}{p:aIP}(hf:∃F,P.funcs[f]? = Qr F/\(F.name == "runtime.NumGoroutine")=Qu/\F.body.isNone=Qu) (h:∀args H v ws ns,p args H=Qr (v,ws,ns)->∀g w xs,WF g H w->bM P ab g->fU g args xs->FV P f xs.toArray w fun e w'=>match e with
   |.returned x=>∃g',Step g H w g' (eU H ws++ns) w' (ws.map Prod.fst)/\pN g' (eU H ws++ns) w.heap.size w' v x
   |_=>False):gS P ab fun f' args H=>if f'=f then (p args H).map (cT H)else none:=by
 intro f' args H av H' wr hh g w xs hw hg hx;dsimp only at hh;split at hh
 ·rename_i e;subst e;cases hp:p args H with
  |none=>rw[hp]at hh;cases hh
  |some r=>obtain⟨v,ws,ns⟩:=r;rw[hp]at hh;simp only[DE,cT,AG,BK]at hh;obtain⟨rfl,rfl,rfl⟩:=hh;exact⟨hf,h args H v ws ns hp g w xs hw hg hx⟩
 cases hh
theorem Step.nf{g:G}{H:LO}{w w':BL}(hw:WF g H w)(gd:w.heap.size<=w'.heap.size)(da:∀b,b<w.heap.size->w'.heap[b]? = w.heap[b]?)(io:w'.os=w.os/\w'.output=w.output):Step g H w g H w' []:=by
 refine⟨G.le.refl g,⟨fun b i x hx=>?_,hw.lt,fun o l hl=>Nat.lt_of_lt_of_le (hw.blk o l hl) gd,hw.st,fun o l x hb=>?_,hw.jh,hw.inj,hw.whole.aq rfl rfl io (fun b hb _=>da b hb) fun o l y hl=>.inr ⟨o,l,y,hl,rfl⟩⟩,⟨gd,fun b hb _=>da b hb⟩,fun _ _ _=>rfl,AQ _,fun _ l' hl=>.inr ⟨l',hl,rfl⟩,fun _ _ _=>rfl⟩
 ·rw[cell_of_heap (da b (hw.ko hx))];exact hw.perm b i x hx
 exact (hw.obj o l x hb).aq (G.le.refl g) (da l.b (hw.blk o l hb.loc))
theorem aBc{g:G}{a:AV}{xs:List BE}(h:fU g [a] xs):∃x,xs=[x]/\ai g a x:=by
 obtain⟨h1,h2⟩:=h
 match xs,h1 with
 | [x],_=>exact⟨x,rfl,h2 0 a x rfl rfl⟩
theorem nH{g:G}{a b:AV}{xs:List BE}(h:fU g [a,b] xs):∃x y,xs=[x,y]/\ai g a x/\ai g b y:=by
 obtain⟨h1,h2⟩:=h
 match xs,h1 with
 | [x,y],_=>exact⟨x,y,rfl,h2 0 a x rfl rfl,h2 1 b y rfl rfl⟩
theorem aGf{g:G}{H:LO}{w:BL}(hw:WF g H w){o v v' ty:Nat}{cells:LA}(ho:H[o]? = Qr (.cw v' ty cells))(hv:v'=v){x:BE}(hx:ai g (.ptr o v 0) x):∃l cs,au g H o l (.cw v ty cells)/\x=.pointer (Qr ⟨l.b,0,Qs⟩)/\w.heap[l.b]? = Qr (.cells cs ty (0,0))/\fU g cells cs.toList:=by
 subst hv;cases hx with
 |ptr _ _ _ l a hl hv h=>
  have bd:l.st=v':=by have:=hw.st o _ l ho hl;simp only[ah.ver]at this;omega
  have hb:au g H o l (.cw v' ty cells):=⟨ho,rfl,hl,bd⟩;obtain⟨h0,⟨cs,h1,h2⟩,h3⟩:=hw.obj o l _ hb;refine⟨l,cs,hb,by rw[h bd h0],h1,by simpa using h2.symm,fun i a x e1 e2=>?_⟩;obtain⟨y,hy,hr⟩:=h3 i a e1;simp only[EF,h1]at hy;have e2':cs[i]? = Qr x:=by simpa using e2
  rw[e2']at hy;simp at hy;subst hy;exact hr
theorem Step.K8{g:G}{H:LO}{w w':BL}(hw:WF g H w){o:Nat}{l:Loc}{x:ah}(hb:au g H o l x)(gd:w'.heap.size=w.heap.size)(ju:∀b,b≠l.b->w'.heap[b]? = w.heap[b]?)(io:w'.os=w.os/\w'.output=w.output):Step g H w g (H.set o (.gone x.ver)) w' [o]:=by
 obtain⟨h1,h2⟩:=Step.drop hw hb;have pj:=h1.wf;refine⟨h1.le,⟨fun b i y hy=>?_,pj.lt,fun o' l' hl=>by rw[gd];exact pj.blk o' l' hl,pj.st,fun o' l' x' du=>(pj.obj o' l' x' du).aq (G.le.refl g) (ju l'.b (h2 o' l' x' du)),pj.jh,pj.inj,⟨fun b y hy=>⟨?_,(pj.whole.blocks b y hy).2⟩,by rw[io.1,io.2];exact hw.whole.io⟩⟩,⟨by omega,fun b _ bl=>ju b (Ne.symm (bl o (by simp) l hb.loc))⟩,h1.same,h1.len,fun o' l' hl=>.inr ⟨l',hl,rfl⟩,fun _ _ _=>rfl⟩
 ·have bl:b≠l.b:=fun e=>by subst e;have:=hw.jh o l x hb i;rw[hy]at this;cases this
  rw[cell_of_heap (ju b bl)];exact hw.perm b i y hy
 rw[ju b (Ne.symm ((hw.whole.blocks b y hy).2 o l x hb))];exact (hw.whole.blocks b y hy).1
theorem Step.Aa{g:G}{H:LO}{w w':BL}(hw:WF g H w){o v ty:Nat}{l:Loc}{cells dh:LA}{cs':Array BE}(hb:au g H o l (.cw v ty cells))(gd:w'.heap.size=w.heap.size) (ju:∀b,b≠l.b->w'.heap[b]? = w.heap[b]?) (ld:w'.heap[l.b]? = Qr (.cells cs' ty (0,0))) (hl:fU g dh cs'.toList) (io:w'.os=w.os/\w'.output=w.output):Step g H w g (H.set o (.cw v ty dh)) w' [o]:=by
 have hg:g.setObj o l=g:=by
  cases g with
  |mk p ob wh io=>
   have:=hb.loc;simp only[G.setObj,G.mk.injEq,true_and,and_true];funext o';by_cases e:o'=o
   ·subst e;simpa using this.symm
   simp[e]
 have h0:=(hw.obj o l _ hb).1;have:=Step.update (w':=w') hw o (.cw v ty dh) l (hw.lt o l hb.loc) (by omega)
  (fun b _ bl=>ju b (Ne.symm (bl l _ hb))) (by rw[gd];exact hw.blk o l hb.loc) (.inr ⟨l,_,hb,rfl⟩) hb.st rfl
  (fun l0 h0=>by rw[hb.loc]at h0;cases h0;exact⟨AQ _,fun _=>⟨AQ _,fun _=>rfl⟩⟩)
  (fun _=>by
   rw[hg];refine⟨h0,⟨cs',ld,by simpa using hl.1.symm⟩,fun j a ha=>?_⟩;have hj:j<dh.length:=(AH.1 ha).1;have ax:=hl.1;simp at ax;exact⟨cs'[j]'(by omega),by simp[EF,ld],hl.2 j a _ ha (by simp)⟩) io
 rwa [hg]at this
end
end Go.AM
end
section
namespace Go.Proofs
open Go.Shelf
def Tryz.lays156_ren:HK:=⟨fun | 156=>89 | 165=>167 | 166=>120 | 169=>76 | 240=>127 | 241=>231 | 276=>213 | 277=>267 | n=>n,fun | 31=>39 | 9=>9 | 3=>3 | 4=>4 | 0=>0 | 20=>20 | 72=>141 | 76=>198 | 70=>139 | 37=>92 | 75=>150 | 127=>208 | 164=>281 | 5=>5 | 80=>111 | n=>n,fun | n=>n⟩
theorem Tryz.lays156:Go.Proofs.Lays.n156 Tryz.prog Tryz.lays156_ren:=by refine' { .. }<;>first | kernel_rfl | (intro _;kernel_rfl)
theorem Tryz.Builder_Extra_156:Builder.Extra Tryz.prog Tryz.lays156_ren:=by refine' { neB5:=by decide,.. }<;>first | kernel_rfl | (intro _;kernel_rfl)
open Go.RowKit in
theorem Tryz.strings_Join_none(a:Option IA)(c:Nat)(sep:ByteArray)(w:BL):FV Tryz.prog 89 #[.slice a 0 c,.string sep] w fun e w'=>e=.returned (.string ⟨#[]⟩)/\w'=w:=Any.strings_Join_none Tryz.lays156 Tryz.Builder_Extra_156 a c sep w
open Go.RowKit in
theorem Tryz.strings_Join(bk o c:Nat)(xs:List ByteArray)(sep:ByteArray)(w:BL)(jy:∀(j:Nat) x,xs[j]? = Qr x->w.cell? ⟨bk,o+j,Qs⟩=Qr (.string x))(dx:bk<w.heap.size)(hN:xs.length<=140737488355328)(cm:xs.length<=c)(ax:(OT (xs.map (·.data.toList)) sep.data.toList).length<=140737488355328):FV Tryz.prog 89 #[.slice (Qr ⟨bk,o,Qs⟩) xs.length c,.string sep] w fun e w'=>e=.returned (.string ⟨(OT (xs.map (·.data.toList)) sep.data.toList).toArray⟩)/\Below w.heap.size w w':=Any.strings_Join Tryz.lays156 Tryz.Builder_Extra_156 bk o c xs sep w jy dx hN cm ax
def Tryz.laysM171_ren:HK:=⟨fun | 171=>126 | 243=>212 | 246=>251 | 283=>278 | 284=>279 | 285=>280 | 286=>281 | 129=>306 | 317=>305 | 318=>307 | 319=>308 | 320=>309 | 337=>329 | 338=>330 | n=>n,fun | 3=>3 | 9=>9 | 2=>2 | 4=>4 | 171=>357 | 0=>0 | 53=>358 | 37=>92 | 5=>5 | 173=>361 | 212=>392 | 51=>267 | 20=>20 | 213=>393 | 46=>370 | 232=>424 | 233=>425 | n=>n,fun | 17=>7 | 18=>12 | 19=>13 | n=>n⟩
theorem Tryz.laysM171:Go.Proofs.LaysM.n171 Tryz.prog Tryz.laysM171_ren:=by refine' { .. }<;>first | kernel_rfl | (intro _;kernel_rfl)
open Go.RowKit Go.Sort Go.Lib in
theorem Tryz.strconv_Itoa(n:Int)(h0 : -9223372036854775808<=n)(h1:n<=9223372036854775807)(w:BL)(cx:OL Tryz.prog w "internal/strconv.uint64pow10" .u64 EB):FV Tryz.prog 126 #[.int .i64 n] w fun e w'=>e=.returned (.string ⟨(MT n).toArray⟩)/\∃k os,w'=grow (w.drewN k) os:=Any.strconv_Itoa Tryz.laysM171 n h0 h1 w cx
def Tryz.lays217_ren:HK:=⟨fun | 217=>289 | 266=>315 | n=>n,fun | 9=>9 | 5=>5 | 3=>3 | n=>n,fun | n=>n⟩
theorem Tryz.lays217:Go.Proofs.Lays.n217 Tryz.prog Tryz.lays217_ren:=by refine' { .. }<;>first | kernel_rfl | (intro _;kernel_rfl)
open Go.RowKit Go.Lib in
theorem Tryz.stringslite_IndexByte(s:ByteArray)(c:Int)(w:BL):FV Tryz.prog 289 #[.string s,.int .u8 c] w fun e w'=>e=.returned (.int .i64 (EV s.data.toList c.toNat.toUInt8))/\w'=w:=Any.stringslite_IndexByte Tryz.lays217 s c w
def Tryz.lays138_ren:HK:=⟨fun | 138=>282 | 195=>310 | 218=>311 | 143=>225 | 219=>261 | 217=>289 | 225=>290 | 224=>291 | 267=>292 | 266=>315 | 314=>316 | n=>n,fun | 9=>9 | 3=>3 | 4=>4 | 5=>5 | 0=>0 | 46=>370 | 146=>397 | 51=>267 | n=>n,fun | 1=>6 | n=>n⟩
theorem Tryz.lays138:Go.Proofs.Lays.n138 Tryz.prog Tryz.lays138_ren:=by refine' { .. }<;>first | kernel_rfl | (intro _;kernel_rfl)
open Go.RowKit Go.Lib in
theorem Tryz.strings_Count_one(s:ByteArray)(c:UInt8)(w:BL):FV Tryz.prog 282 #[.string s,.string ⟨#[c]⟩] w fun e w'=>e=.returned (.int .i64 (PC s.data.toList c))/\w'=w:=Any.strings_Count_one Tryz.lays138 s c w
open Go.RowKit Go.Lib in
def Tryz.laysM288_ren:HK:=⟨fun | 288=>313 | 283=>278 | 284=>279 | 285=>280 | 286=>281 | 129=>306 | 317=>305 | 318=>307 | 319=>308 | 320=>309 | 337=>329 | 338=>330 | n=>n,fun | 37=>92 | 53=>358 | 3=>3 | 4=>4 | 9=>9 | 171=>357 | 0=>0 | 173=>361 | 212=>392 | 51=>267 | 5=>5 | 20=>20 | 213=>393 | 46=>370 | 232=>424 | 233=>425 | n=>n,fun | 17=>7 | 18=>12 | 19=>13 | n=>n⟩
theorem Tryz.laysM288:Go.Proofs.LaysM.n288 Tryz.prog Tryz.laysM288_ren:=by refine' { .. }<;>first | kernel_rfl | (intro _;kernel_rfl)
end Go.Proofs
end
section
namespace Go.Proofs.Sa
open Go Go.AM Go.Proofs Go.RowKit Go.Lib
theorem aPh(b:Nat)(w:BL)(h0:w.cell? ⟨b,0,Qs⟩=Qr (.pointer (Qr ⟨b,0,Qs⟩))):FV Tryz.prog 127 #[.pointer (Qr ⟨b,0,Qs⟩)] w fun e w'=>e=.returned (.tuple #[])/\w'=w:=by
 obtain⟨j,hj,_⟩:=EL.1 (show (Tryz.prog.info? 141).map (·.size)=Qr 2 by kernel_rfl)
 go_enter Tryz.func127,Tryz.ntmps127
 go_wp2
 rw[Lib.run_neq_ptr_same w _ Tryz.underlying139 hj]
 go_wp2
 go_end0
 exact⟨rfl,rfl⟩
theorem aIg(b t:Nat)(ht:t=141∨t=143)(w:BL)(h0:w.cell? ⟨b,0,Qs⟩=Qr (.pointer Qs))(vg:w.shape? b=Qr (t,2))(Kq:w.frozen? ⟨b,0,Qs⟩=Qu):FV Tryz.prog 127 #[.pointer (Qr ⟨b,0,Qs⟩)] w fun e w'=>e=.returned (.tuple #[])/\w'=w.setCell ⟨b,0,Qs⟩ (.pointer (Qr ⟨b,0,Qs⟩)):=by
 obtain⟨j,hj,Kr⟩:=EL.1 (show (Tryz.prog.info? 141).map (·.size)=Qr 2 by kernel_rfl);have Ab:liesAt Tryz.prog Tryz.prog.depth t (2 / Tryz.prog.cellsOf t) 0 141 1=true:=by
  rcases ht with rfl | rfl
  ·kernel_rfl
  kernel_rfl
 go_enter Tryz.func127,Tryz.ntmps127
 go_wp2
 rw[Lib.run_to_unsafe w ⟨b,0,Qs⟩ Tryz.underlying139 Tryz.underlying281 hj (by rw[Kr];decide) vg (Nat.zero_lt_succ 1)];simp only[DL];rw[KF]
 go_wp2
 rw[OU Tryz.func213 (by kernel_rfl) (by kernel_rfl) (by kernel_rfl) (e:=NY) (by kernel_rfl)];rw[Lib.run_noEscape];simp only[DL];rw[KF]
 go_wp2
 rw[Lib.run_from_unsafe w ⟨b,0,Qs⟩ Tryz.underlying281 Tryz.underlying139 hj vg Ab];simp only[DL];rw[KF]
 go_wp2
 go_end0
 exact⟨rfl,rfl⟩
theorem aPi(a:IA)(n:Int)(w:BL)(hc:w.cell? a=Qr (.int .u32 n)):FV Tryz.prog 248 #[.pointer (Qr a)] w fun e w'=>e=.returned (.bool (n != 0))/\w'=w:=by
 have hl:=Hn (P:=Tryz.prog) Tryz.func272 (by kernel_rfl) (by kernel_rfl) (by kernel_rfl) .u32 (by kernel_rfl) (w:=w) (a:=a) (x:=n) hc
 go_enter Tryz.func248,Tryz.ntmps248
 go_wp2
 go_ret
 exact⟨rfl,rfl⟩
theorem aNS(b:Nat)(w:BL)(h1:w.cell? ⟨b,1,Qs⟩=Qr (.slice Qs 0 0)):FV Tryz.prog 76 #[.pointer (Qr ⟨b,0,Qs⟩)] w fun e w'=>e=.returned (.string .empty)/\w'=w.drew:=by
 have c1:w.drew.cell? ⟨b,1,Qs⟩=Qr (.slice Qs 0 0):=h1;have mixed:Tryz.prog.follows .mixedOrders=true:=by kernel_rfl
 have Ks:(KN #[92] 208 #[.slice Qs 0 0]).run Tryz.prog w.drew=.ok (.pointer Qs) w.drew:=Lib.run_unsafeSliceData_nil _ _ _ _ _;have Kt:(LM #[208,3] 9 #[.pointer Qs,.int .i64 0]).run Tryz.prog w.drew=.ok (.string .empty) w.drew:=rfl
 go_enter Tryz.func76,Tryz.ntmps76
 go_wp2
 go_region_o
 all_goals (go_wp2;go_ret;exact⟨rfl,rfl⟩)
theorem aNT(b g cap:Nat)(l:List UInt8)(cur:Array BE)(w:BL)(h0:l≠[])(cm:l.length<=cap)(zm:l.length<=9223372036854775807)(h1:w.cell? ⟨b,1,Qs⟩=Qr (.slice (Qr ⟨g,0,Qs⟩) l.length cap)) (hg:w.heap[g]? = Qr (.cells cur 5 (0,0))) (hn:l.length<=cur.size) (bc:∀j x,l[j]? = Qr x->w.cell? ⟨g,j,Qs⟩=Qr (.int .u8 x.toNat)):FV Tryz.prog 76 #[.pointer (Qr ⟨b,0,Qs⟩)] w fun e w'=>e=.returned (.string ⟨l.toArray⟩)/\w'=w.drew.freeze ⟨g,0,Qs⟩ l.length:=by
 have sz:l.length≠0:=by simpa using h0
 have mixed:Tryz.prog.follows .mixedOrders=true:=by kernel_rfl
 have c1:w.drew.cell? ⟨b,1,Qs⟩=Qr (.slice (Qr ⟨g,0,Qs⟩) l.length cap):=h1;have Ks:(KN #[92] 208 #[.slice (Qr ⟨g,0,Qs⟩) l.length cap]).run Tryz.prog w.drew=.ok (.pointer (Qr ⟨g,0,Qs⟩)) w.drew:=
  Lib.run_unsafeSliceData_row _ _ _ _ _ _ (by omega)
 have Kt:(LM #[208,3] 9 #[.pointer (Qr ⟨g,0,Qs⟩),.int .i64 l.length]).run Tryz.prog w.drew=.ok (.string ⟨l.toArray⟩) (w.drew.freeze ⟨g,0,Qs⟩ l.length):=
  Lib.run_unsafeString_row w.drew 208 3 9 5 Tryz.underlying208 (by kernel_rfl) g cur.size (by have eu:w.drew.heap[g]? = Qr (.cells cur 5 (0,0)):=hg;simp[LU,eu]) l h0 hn zm
   (fun j x hx=>by rw[Addr.add_lit,BC];exact bc j x hx)
 go_enter Tryz.func76,Tryz.ntmps76
 go_wp2
 go_region_o
 all_goals (go_wp2;go_ret;exact⟨rfl,rfl⟩)
theorem bBr{g:G}{x:BE}(h:ai g .nilPtr x):x=.pointer none:=by cases h;rfl
theorem mX{α:Type}{cs:Array α}{x y:α}(h:cs.toList=[x,y]):cs = #[x,y]:=by cases cs;simpa using h
theorem uq{ab:cu}:gS Tryz.prog ab fun f' args H=>if f'=127 then (fB 141 143 args H).map (cT H)else none:=by
 refine oC ⟨Tryz.f127,Tryz.func127,by kernel_rfl,by kernel_rfl⟩ fun args H v ws ns hp g w xs hw hg hx=>?_;unfold fB at hp;split at hp
 ·rename_i o ve;obtain⟨x,rfl,hv⟩:=aBc hx;split at hp
  ·rename_i v' ty c ho;split at hp
   ·rename_i hc;simp only[AG,BK]at hp;obtain⟨rfl,rfl,rfl⟩:=hp;obtain⟨l,cs,hb,rfl,ld,hl⟩:=aGf hw ho hc.1 hv;obtain⟨x1,x2,e,r1,r2⟩:=nH hl;have ecs:=mX e;subst ecs;have e1:=bBr r1;subst e1;refine (aIg l.b ty hc.2 w (by simp[EF,ld]) (by simp[LU,ld]) (by simp[World.frozen?,ld])).mono ?_;rintro e w' ⟨rfl,rfl⟩;refine⟨g, ?_,ai.skip g⟩;simp only[eU,AJ,BI,BY];refine Step.Aa (cs' := #[.pointer (Qr ⟨l.b,0,Qs⟩),x2]) hw hb (JE _ _ _) (fun b hb=>?_) ?_ ?_ (vG _ _ _)
    ·simp[FR,DJ,Ne.symm hb]
    ·simp[FR,DJ,ld]
    refine⟨rfl,fun i a x e1 e2=>?_⟩
    match i with
    |0=>simp at e1 e2;subst e1;subst e2;exact .ptr o ve 0 l _ hb.loc (by rw[hb.st];exact AQ _) fun _ _=>rfl
    |1=>simp at e1 e2;subst e1;subst e2;exact r2
    |i+2=>simp at e1
   cases hp
  ·rename_i v' ty o' v2 c ho;split at hp
   ·rename_i hc;simp only[AG,BK]at hp;obtain⟨rfl,rfl,rfl⟩:=hp;obtain⟨l,cs,hb,rfl,ld,hl⟩:=aGf hw ho hc.1 hv;obtain⟨x1,x2,e,r1,r2⟩:=nH hl;have ecs:=mX e;subst ecs;obtain⟨rfl,rfl,rfl⟩:=hc;have e1:x1=.pointer (Qr ⟨l.b,0,Qs⟩):=by
     cases r1 with
     |ptr _ _ _ l2 a iq D7 h=>rw[hb.loc]at iq;cases iq;rw[h hb.st (hw.obj _ _ _ hb).1]
    subst e1;refine (aPh l.b w (by simp[EF,ld])).mono ?_;rintro e w' ⟨rfl,rfl⟩;exact⟨g,by simpa [eU]using Step.refl hw,ai.skip g⟩
   cases hp
  cases hp
 cases hp
theorem vv{ab:cu}:gS Tryz.prog ab fun f' args H=>if f'=248 then (aAi args H).map (cT H)else none:=by
 refine oC ⟨Tryz.f248,Tryz.func248,by kernel_rfl,by kernel_rfl⟩ fun args H v ws ns hp g w xs hw hg hx=>?_;unfold aAi at hp;split at hp
 ·rename_i p;obtain⟨x,rfl,hv⟩:=aBc hx;split at hp
  ·rename_i n hr;simp only[AG,BK]at hp;obtain⟨rfl,rfl,rfl⟩:=hp;obtain⟨b,off,vs,rfl,ax,hl,hc⟩:=eI hw hr hv;obtain⟨y,rfl,hy⟩:=aBc hl;cases hy;refine (aPi ⟨b,off,Qs⟩ n w (hc 0 _ rfl)).mono ?_;rintro e w' ⟨rfl,rfl⟩;exact⟨g,by simpa [eU]using Step.refl hw,.bool _⟩
  cases hp
 cases hp
theorem aKn{g:G}{H:LO}{w w':BL}(hw:WF g H w)(h:Below w.heap.size w w'):Step g H w g H w' []:=Step.nf hw h.size h.block ⟨h.os,h.output⟩
theorem A8{ab:cu}:gS Tryz.prog ab fun f' args H=>if f'=282 then (aE7 args H).map (cT H)else none:=by
 refine oC ⟨Tryz.f282,Tryz.func282,by kernel_rfl,by kernel_rfl⟩ fun args H v ws ns hp g w xs hw hg hx=>?_;unfold aE7 at hp;split at hp
 ·rename_i s c;simp only[AG,BK]at hp;obtain⟨rfl,rfl,rfl⟩:=hp;obtain⟨x,y,rfl,h1,h2⟩:=nH hx;obtain⟨s',rfl,hs⟩:=h1.fp;obtain⟨c',rfl,hc⟩:=h2.fp;have ec:c'=⟨#[c]⟩:=by cases c' with | mk d=>cases d;simp at hc;simp[hc]
  subst ec;refine (Tryz.strings_Count_one s' c w).mono ?_;rintro e w' ⟨rfl,rfl⟩;refine⟨g,by simpa [eU]using Step.refl hw, ?_⟩;rw[hs];exact .int _ _
 cases hp
theorem A9{ab:cu}:gS Tryz.prog ab fun f' args H=>if f'=289 then (aYu args H).map (cT H)else none:=by
 refine oC ⟨Tryz.f289,Tryz.func289,by kernel_rfl,by kernel_rfl⟩ fun args H v ws ns hp g w xs hw hg hx=>?_;unfold aYu at hp;split at hp
 ·rename_i s c;simp only[AG,BK]at hp;obtain⟨rfl,rfl,rfl⟩:=hp;obtain⟨x,y,rfl,h1,h2⟩:=nH hx;obtain⟨s',rfl,hs⟩:=h1.fp;cases h2;refine (Tryz.stringslite_IndexByte s' c w).mono ?_;rintro e w' ⟨rfl,rfl⟩;refine⟨g,by simpa [eU]using Step.refl hw, ?_⟩;rw[hs];exact .int _ _
 cases hp
theorem aKo(w:BL)(g n:Nat):(w.freeze ⟨g,0,Qs⟩ n).heap.size=w.heap.size/\(∀b,b≠g->(w.freeze ⟨g,0,Qs⟩ n).heap[b]? = w.heap[b]?) /\ (w.freeze ⟨g,0,Qs⟩ n).os=w.os/\(w.freeze ⟨g,0,Qs⟩ n).output=w.output:=by
 unfold World.freeze;split
 ·exact⟨rfl,fun _ _=>rfl,rfl,rfl⟩
 refine⟨by simp,fun b hb=>?_,rfl,rfl⟩;simp[DJ,Ne.symm hb]
theorem aIh:∀(rows:List LA) (l:List UInt8),cM rows=Qr l->rows.length=l.length/\∀(j:Nat) x,l[j]? = Qr x->∃n:Int,rows[j]? = Qr [.int .u8 n]/\x=CN n.toNat
 | [],l,h=>by cases h;exact⟨rfl,fun j x h=>by simp at h⟩
 |r::rows,l,h=>by
  unfold cM at h;split at h
  ·rename_i e;cases e
  ·rename_i n r' e;cases e;cases hb:cM rows with
   |none=>rw[hb]at h;cases h
   |some l'=>
    rw[hb]at h;cases h;obtain⟨h1,h2⟩:=aIh rows l' hb;refine⟨by simp[h1],fun j x hj=>?_⟩;cases j with
    |zero=>simp at hj;exact⟨n,rfl,hj.symm⟩
    |succ j=>exact h2 j x (by simpa using hj)
  cases h
theorem aIi:∀(rows:List LA),aE6 rows=Qt->∀(j:Nat) (n:Int),rows[j]? = Qr [.int .u8 n]->0<=n/\n<256
 | [],h,j,n,e=>by simp at e
 |r::rows,h,j,n,e=>by
  unfold aE6 at h;split at h
  ·rename_i e';cases e'
  ·rename_i m r' e';cases e';simp only[AI,decide_eq_true_eq]at h;cases j with
   |zero=>simp at e;subst e;exact h.1
   |succ j=>exact aIi rows h.2 j n (by simpa using e)
  cases h
theorem zn{ab:cu}:gS Tryz.prog ab fun f' args H=>if f'=76 then (aAh 5 args H).map (cT H)else none:=by
 refine oC ⟨Tryz.f76,Tryz.func76,by kernel_rfl,by kernel_rfl⟩ fun args H v ws ns hp g w xs hw hg hx=>?_;unfold aAh at hp;split at hp
 ·rename_i o ve;obtain⟨x,rfl,hv⟩:=aBc hx;split at hp
  ·rename_i v' ty c ho;split at hp
   ·rename_i hc;simp only[AG,BK]at hp;obtain⟨rfl,rfl,rfl⟩:=hp;obtain⟨l,cs,hb,rfl,ld,hl⟩:=aGf hw ho hc hv;obtain⟨x1,x2,e,r1,r2⟩:=nH hl;have ecs:=mX e;subst ecs;cases r2;refine (aNS l.b w (by simp[EF,ld])).mono ?_;rintro e w' ⟨rfl,rfl⟩;exact⟨g,by simpa [eU]using Step.of_heap (w':=w.drew) hw rfl,.str Hm⟩
   cases hp
  ·rename_i v' ty c o2 v2 n ho;split at hp
   ·rename_i hc;split at hp
    ·rename_i v3 t3 rows Ia;split at hp
     ·rename_i nc;obtain⟨rfl,rfl,ax,gq,bl,E1,td⟩:=nc;split at hp
      ·rename_i lb Co;simp only[AG,BK]at hp;obtain⟨rfl,rfl,rfl⟩:=hp;obtain⟨l,cs,hb,rfl,ld,hl⟩:=aGf hw ho hc hv;obtain⟨x1,x2,e,r1,r2⟩:=nH hl;have ecs:=mX e;subst ecs;cases r2 with
       |sr _ _ _ l2 a cap iq D7 xh jg hh=>
        have bd:l2.st=v3:=by have:=hw.st o2 _ l2 Ia iq;simp only[ah.ver]at this;omega
        have dp:au g H o2 l2 (.gl v3 5 1 rows):=⟨Ia,rfl,iq,bd⟩;obtain⟨⟨h0,ow,cm,dr,hk,eh,bc⟩,cur,Ac⟩:=hw.obj o2 l2 _ dp;obtain⟨rfl,rfl⟩:=hh bd (by omega);obtain⟨zo,V6⟩:=aIh rows lb Co;have iv:∀j,j<rows.length->(w.cell? ⟨l2.b,j,Qs⟩).isSome=true:=fun j hj=>eh j (by omega);have ru:lb.length<=cur.size:=by
         rcases MH cur.size lb.length with h | h
         ·have:=iv cur.size (by omega);simp[EF,Ac]at this
         exact h
        have kq:∀j x,lb[j]? = Qr x->w.cell? ⟨l2.b,j,Qs⟩=Qr (.int .u8 x.toNat):=fun j x hj=>by
         obtain⟨m,e1,e2⟩:=V6 j x hj;obtain⟨_,y,hy,hr⟩:=bc j 0 _ _ e1 rfl;cases hr;rw[FK,DU]at hy;obtain⟨q1,q2⟩:=aIi rows td j m e1;obtain⟨k,rfl⟩:=DN q1;rw[hy,e2,Int.toNat_natCast];have:(CN k).toNat=k:=by rw[UInt8.toNat_ofNat'];exact Nat.mod_eq_of_lt (by omega)
         rw[this]
        have O4:n=lb.length:=by omega
        subst O4;refine (aNT l.b l2.b l2.cap lb cur w (fun e=>gq (by rw[e];rfl)) (by omega) (by omega) (by simp[EF,ld]) Ac ru kq).mono ?_;rintro e w' ⟨rfl,rfl⟩;obtain⟨f1,f2,f3,f4⟩:=aKo w.drew l2.b lb.length;have hs:=Step.K8 (w':=w.drew.freeze ⟨l2.b,0,Qs⟩ lb.length) hw dp f1 f2 ⟨f3,f4⟩;exact⟨g,by simpa [eU,ah.ver]using hs,.str ⟨lb.toArray⟩⟩
      cases hp
     cases hp
    cases hp
   cases hp
  cases hp
 cases hp
theorem aIj{sep:List UInt8}:∀(rows:List LA) (s:List UInt8),aJ7 sep rows=Qr s->∃ls:List (List UInt8),rows=ls.map (fun l=>[AV.str l])/\s=OT ls sep
 | [],s,h=>by cases h;exact⟨[],rfl,rfl⟩
 | [r],s,h=>by
  unfold aJ7 at h;split at h
  ·rename_i e;cases e
  ·rename_i l e;injection e with e1 e2;subst e1;injection h with h;subst h;exact⟨[l],rfl,by simp[OT]⟩
  ·rename_i l r' bl e;cases e;exact (bl rfl).elim
  cases h
 |r::r2::rows,s,h=>by
  unfold aJ7 at h;split at h
  ·rename_i e;cases e
  ·rename_i l e;cases e
  ·rename_i l r' bl e;cases e;split at h
   ·rename_i t ht;cases h;obtain⟨ls,e1,e2⟩:=aIj (r2::rows) t ht;refine⟨l::ls,by rw[BI,<- e1], ?_⟩;cases ls with
    |nil=>simp at e1
    |cons a ls=>rw[e2];simp[OT]
   cases h
  cases h
theorem G2{ab:cu}:gS Tryz.prog ab fun f' args H=>if f'=89 then (aKm args H).map (cT H)else none:=by
 refine oC ⟨Tryz.f89,Tryz.func89,by kernel_rfl,by kernel_rfl⟩ fun args H v ws ns hp g w xs hw hg hx=>?_;unfold aKm at hp;split at hp
 ·rename_i fl rows sep;split at hp
  ·rename_i s hs;split at hp
   ·rename_i hc;simp only[AG,BK]at hp;obtain⟨rfl,rfl,rfl⟩:=hp;obtain⟨x,y,rfl,h1,h2⟩:=nH hx;obtain⟨sep',rfl,Ad⟩:=h2.fp;obtain⟨ls,e1,e2⟩:=aIj rows s hs;rcases aA7 hw (av:=.sl fl rows) rfl h1 with⟨rfl,cap,rfl⟩ | ⟨b,off,cap,k,cells,rfl,cm,hrr,bd,bc⟩
    ·have:ls=[]:=by simpa using e1.symm
     subst this;refine (Tryz.strings_Join_none Qs cap sep' w).mono ?_;rintro e w' ⟨rfl,rfl⟩;refine⟨g,by simpa [eU]using Step.refl hw, ?_⟩;rw[e2];exact .str ⟨#[]⟩
    have gu:rows.length=ls.length:=by rw[e1];simp
    by_cases bl:ls=[]
    ·subst bl;rw[gu]at *;refine (Tryz.strings_Join_none (Qr ⟨b,off,Qs⟩) cap sep' w).mono ?_;rintro e w' ⟨rfl,rfl⟩;refine⟨g,by simpa [eU]using Step.refl hw, ?_⟩;rw[e2];exact .str ⟨#[]⟩
    have hk:k=1:=by
     cases ls with
     |nil=>exact Zw rfl bl
     |cons a ls=>exact (hrr.row [.str a] (by rw[e1];simp)).symm
    subst hk;have kq:∀(j:Nat) x,(ls.map fun l=>(⟨l.toArray⟩:ByteArray))[j]? = Qr x->w.cell? ⟨b,off+j,Qs⟩=Qr (.string x):=fun j x hj=>by
     rw[BN]at hj;cases hq:ls[j]? with
     |none=>simp[hq]at hj
     |some l=>
      simp[hq]at hj;have hlt:j<rows.length:=by rw[gu];exact (AH.1 hq).1
      have Ib:j<cells.length:=by rw[hrr.len];omega
      have hr:=hrr.rel j 0 [.str l] (.str l) cells[j] (by rw[e1,BN,hq];rfl) rfl (by simp[Ib]);obtain⟨bs,e3,e4⟩:=hr.fp;have:=bc j cells[j] (by simp[Ib]);rw[this,e3,<- hj];congr 2;cases bs with
      |mk d=>simp at e4;simp[<- e4]
    have Ae:(ls.map fun l=>(⟨l.toArray⟩:ByteArray)).map (·.data.toList)=ls:=by simp[Function.comp_def]
    have qw:b<w.heap.size:=by
     cases ls with
     |nil=>exact Zw rfl bl
     |cons a ls=>exact World.block_lt_of_cell? (a:=⟨b,off+0,Qs⟩) w (kq 0 _ rfl)
    have hj:=Tryz.strings_Join b off cap (ls.map fun l=>(⟨l.toArray⟩:ByteArray)) sep' w kq qw (by simpa [gu]using hc.2) (by simpa [gu]using cm) (by rw[Ae,Ad,<- e2];exact hc.1);rw[Ae,Ad,<- e2]at hj;rw[show (ls.map fun l=>(⟨l.toArray⟩:ByteArray)).length=rows.length by simp[gu]]at hj;refine hj.mono ?_;rintro e w' ⟨rfl,Ku⟩;exact⟨g,by simpa [eU]using aKn hw Ku,.str ⟨s.toArray⟩⟩
   cases hp
  cases hp
 cases hp
theorem aSR{tab:Nat}{g:G}{H:LO}{w:BL}(hw:WF g H w)(G3:Tryz.prog.globalNamed "internal/strconv.uint64pow10" = Qr tab) {ab:cu} (cn:ab.row tab=Qr (EB.map fun z=>AV.int .u64 z)) (hg:bM Tryz.prog ab g):OL Tryz.prog w "internal/strconv.uint64pow10" .u64 EB:=by
 obtain⟨h1,cs,t,fz,h2,h3⟩:=hg.row tab (EB.map fun z=>AV.int .u64 z) cn;obtain⟨h4,_⟩:=hw.whole.blocks tab _ h2;obtain⟨b,off,vs,e,hl,hr,hc⟩:=eI hw (k:=20) (pv:=.ep (EB.map fun z=>AV.int .u64 z) 0) (cs:=EB.map fun z=>AV.int .u64 z) (by
  simp only[bC];rw[Zy (by simp[DW])];rw[List.drop_zero,List.take_of_length_le (by simp[DW])]) h1
 cases e;unfold OL World.var?;rw[G3];simp only[Option.bind_some,h4,AG];apply MS;intro j;by_cases hj:j<20
 ·have ax:vs.length=20:=by rw[<- hr.1];simp[DW]
  have hv:vs[j]? = Qr vs[j]:=AP (by omega);have bc:=hc j _ hv;have ha:(EB.map fun z=>AV.int .u64 z)[j]? = Qr (AV.int .u64 (EB[j]'(by rw[DW];exact hj))):=by rw[BN,AP (by rw[DW];exact hj)];rfl
  have dj:=hr.2 j _ _ ha hv;have hx:cs[j]? = Qr vs[j]:=by simpa [EF,h4]using bc
  rw[hx];simp only[List.getElem?_toArray,BN,AP (show j<EB.length by rw[DW];exact hj),DE,AG];generalize vs[j]=v at dj;cases dj;rfl
 rw[DV (by rw[h3];simp[DW];omega),DV (by simp[DW];omega)]
theorem aJ8:∀(k n:Nat),n<10 ^ k->0<k->nC k n=DT n
 |0,n,h,h0=>by omega
 |k+1,n,h,_=>by
  unfold nC;rw[DT];by_cases h1:n<10
  ·rw[Zy h1,dif_pos h1]
  rw[Zx h1,dif_neg h1];cases k with
  |zero=>omega
  |succ k=>rw[aJ8 (k+1) (n / 10) (by rw[Nat.pow_succ]at h;omega) (by omega)]
theorem G4{ab:cu}{tab:Nat}(G3:Tryz.prog.globalNamed "internal/strconv.uint64pow10" = Qr tab)(cn:ab.row tab=Qr (EB.map fun z=>AV.int .u64 z)):gS Tryz.prog ab fun f' args H=>if f'=126 then (sC args H).map (cT H)else none:=by
 refine oC ⟨Tryz.f126,Tryz.func126,by kernel_rfl,by kernel_rfl⟩ fun args H v ws ns hp g w xs hw hg hx=>?_;unfold sC at hp;split at hp
 ·rename_i n;obtain⟨x,rfl,hv⟩:=aBc hx;cases hv;have fin:∀s,s=MT n -> -9223372036854775808<=n/\n<=9223372036854775807->FV Tryz.prog 126 #[.int .i64 n] w fun e w'=>match e with
    |.returned x=>∃g',Step g H w g' (eU H []++[]) w' []/\pN g' (eU H []++[]) w.heap.size w' (.str s) x
    |_=>False:=fun s hs hb=>by
   refine (Tryz.strconv_Itoa n hb.1 hb.2 w (aSR hw G3 cn hg)).mono ?_;rintro e w' ⟨rfl,k,os,rfl⟩;refine⟨g, ?_, ?_⟩
   ·have:Step g H w g H (LF (w.drewN k) os) []:=Step.nf hw (by simp[LF]) (fun b hb=>by
     simp only[LF,World.heap_drewN];rw[Array.getElem?_append_left hb]) ⟨rfl,rfl⟩
    simpa [eU]using this
   rw[hs];exact .str ⟨(MT n).toArray⟩
  split at hp
  ·rename_i hc;simp only[AG,BK]at hp;obtain⟨rfl,rfl,rfl⟩:=hp;refine fin _ ?_ ⟨by omega,by omega⟩;rw[aJ8 7 _ (by omega) (by omega),MT,Zx (by omega)]
  split at hp
  ·rename_i hc;simp only[AG,BK]at hp;obtain⟨rfl,rfl,rfl⟩:=hp;refine fin _ ?_ ⟨by omega,by omega⟩;rw[aJ8 7 _ (by omega) (by omega),MT,Zy (by omega),show (-n).toNat=n.natAbs by omega]
  cases hp
 cases hp
end Go.Proofs.Sa
end
section
namespace Go.Proofs.Sa
open Go Go.AM Go.Proofs Go.RowKit Go.Lib
structure lj(w:BL)(b n:Nat)(w':BL):Prop where
 size:w'.heap.size=w.heap.size+1
 other:∀k,k≠b->k<w.heap.size->w'.heap[k]? = w.heap[k]?
 blk:∃cs:Array BE,n<=cs.size/\w'.heap[b]? = Qr (.cells #[.pointer (Qr ⟨b,0,Qs⟩),.slice (Qr ⟨w.heap.size,0,Qs⟩) 0 cs.size] 141 (0,0))/\w'.heap[w.heap.size]? = Qr (.cells cs 5 (0,0))
 io:w'.os=w.os/\w'.output=w.output
theorem aPj{w:BL}{b n:Nat}{cs:Array BE}(dx:w.heap[b]? = Qr (.cells #[.pointer (Qr ⟨b,0,Qs⟩),.slice Qs 0 0] 141 (0,0)))(hn:n<=cs.size):lj w b n ((w.setCell ⟨b,1,Qs⟩ (.slice (Qr ⟨w.heap.size,0,Qs⟩) 0 cs.size)).alloc (.cells cs 5)):=by
 have hlt:b<w.heap.size:=by
  rcases MH b w.heap.size with h | h
  ·exact h
  simp[DV h]at dx
 have e:∀v,((w.setCell ⟨b,1,Qs⟩ v).alloc (.cells cs 5)).heap=(w.setCell ⟨b,1,Qs⟩ v).heap.push (.cells cs 5):=fun _=>rfl;have hs:∀v,(w.setCell ⟨b,1,Qs⟩ v).heap.size=w.heap.size:=fun v=>JE _ _ _;refine⟨by rw[e,OA,hs],fun k hk zp=>?_,⟨cs,hn, ?_, ?_⟩,vG w ⟨b,1,Qs⟩ (.slice (Qr ⟨w.heap.size,0,Qs⟩) 0 cs.size)⟩
 ·rw[e,FE,Zx (by rw[hs];omega)];simp only[FR,DJ];rw[Zx (Ne.symm hk)]
 ·rw[e,FE,Zx (by rw[hs];omega)];simp[FR,DJ,dx]
 rw[e,FE,Zy (hs _).symm]
theorem lj.of{w W X:BL}{b n:Nat}(h:lj w b n X)(e:W.heap=X.heap)(io:W.os=X.os/\W.output=X.output):lj w b n W:=⟨by rw[e];exact h.size,fun k h1 h2=>by rw[e];exact h.other k h1 h2,by rw[e];exact h.blk,io.1.trans h.io.1,io.2.trans h.io.2⟩
theorem aPk(b n:Nat)(w:BL)(dx:w.heap[b]? = Qr (.cells #[.pointer (Qr ⟨b,0,Qs⟩),.slice Qs 0 0] 141 (0,0)))(hn:n<=281474976710656):FV Tryz.prog 231 #[.pointer (Qr ⟨b,0,Qs⟩),.int .i64 n] w fun e w'=>e=.returned (.tuple #[])/\lj w b n w':=by
 obtain⟨cs,cl,hle,zm⟩:=Lib.run_makeNoZero (P:=Tryz.prog) w.drew #[3] 92 5 Tryz.underlying92 n hn;have hw:AR.wrap (AR.wrap 0+(n:Int))=n:=by rw[MU,MU];omega
 have az:(callFunc 267 #[.int .i64 (AR.wrap (AR.wrap 0+(n:Int)))]).run Tryz.prog w.drew=.ok (.value (.slice (Qr ⟨w.drew.heap.size,0,Qs⟩) n cs.size)) (w.drew.drew.drew.alloc (.cells cs 5)):=by rw[hw,OU Tryz.func267 (by kernel_rfl) (by kernel_rfl) (by kernel_rfl) (e:=MA #[3] #[92]) (by kernel_rfl),cl];rfl
 have c1:w.drew.cell? ⟨b,1,Qs⟩=Qr (.slice Qs 0 0):=by have:w.drew.heap[b]? = _:=dx;rw[ID this];rfl
 have hlt:b<w.heap.size:=by
  rcases MH b w.heap.size with h' | h'
  ·exact h'
  simp[DV h']at dx
 have c2:(w.alloc (.cells cs 5)).cell? ⟨b,1,Qs⟩=Qr (.slice Qs 0 0):=by have:(w.alloc (.cells cs 5)).heap[b]? = _:=(PD w _ b hlt).trans dx;rw[ID this];rfl
 have f2:(w.alloc (.cells cs 5)).frozen? ⟨b,1,Qs⟩=false:=NK ((PD w _ b hlt).trans dx) 1;have Ic:∀W:BL,(Builtin.copy_ #[92,92] 3 #[.slice (Qr ⟨w.heap.size,0,Qs⟩) 0 cs.size,.slice Qs 0 0]).run Tryz.prog W=.ok (goInt 0) W:=
  fun W=>run_copy_none W 92 92 3 5 _ _ 0 cs.size 0 0 Tryz.underlying92 (by kernel_rfl) rfl
 clear hw;have mixed:Tryz.prog.follows .mixedOrders=true:=by kernel_rfl
 go_enter Tryz.func231,Tryz.ntmps231
 go_wp2
 have zk:=aPj dx hle
 go_region_o
 all_goals (go_wp2;go_end0;exact⟨rfl,zk.of rfl ⟨rfl,rfl⟩⟩)
theorem aNU(b n:Nat)(w:BL)(dx:w.heap[b]? = Qr (.cells #[.pointer Qs,.slice Qs 0 0] 141 (0,0)))(gq:0<n)(hn:n<=281474976710656):FV Tryz.prog 167 #[.pointer (Qr ⟨b,0,Qs⟩),.int .i64 n] w fun e w'=>e=.returned (.tuple #[])/\lj (w.setCell ⟨b,0,Qs⟩ (.pointer (Qr ⟨b,0,Qs⟩))) b n w':=by
 have P7:(w.setCell ⟨b,0,Qs⟩ (.pointer (Qr ⟨b,0,Qs⟩))).heap[b]? = Qr (.cells #[.pointer (Qr ⟨b,0,Qs⟩),.slice Qs 0 0] 141 (0,0)):=by simp[FR,DJ,dx]
 have c1:(w.setCell ⟨b,0,Qs⟩ (.pointer (Qr ⟨b,0,Qs⟩))).cell? ⟨b,1,Qs⟩=Qr (.slice Qs 0 0):=by rw[ID P7];rfl
 have mixed:Tryz.prog.follows .mixedOrders=true:=by kernel_rfl
 have e127:∀args w,(callFunc 127 args).run Tryz.prog w=.ok (.enter 127 args) w:=enters_of Tryz.func127 (by kernel_rfl) rfl;have e231:∀args w,(callFunc 231 args).run Tryz.prog w=.ok (.enter 231 args) w:=enters_of Tryz.func231 (by kernel_rfl) rfl;have c1':(w.setCell ⟨b,0,Qs⟩ (.pointer (Qr ⟨b,0,Qs⟩))).drew.cell? ⟨b,1,Qs⟩=Qr (.slice Qs 0 0):=c1
 go_enter Tryz.func167,Tryz.ntmps167
 go_wp2_with (go_at_fn 127;refine (aIg b 141 (.inl rfl) w (by rw[ID dx];rfl) (by simp[LU,dx]) (NK dx 0)).mono ?_;rintro e w' ⟨rfl,rfl⟩)
 go_region_o
 all_goals go_wp2_with (go_at_fn 231;refine (aPk b n (w.setCell ⟨b,0,Qs⟩ (.pointer (Qr ⟨b,0,Qs⟩))).drew P7 hn).mono ?_;rintro e w' ⟨rfl,hp⟩)
 all_goals first
  | (go_end0;exact⟨rfl,hp.size,hp.other,hp.blk,hp.io⟩)
  | (exfalso;omega)
end Go.Proofs.Sa
end
section
namespace Go.Proofs.Sa
open Go Go.AM Go.Proofs Go.RowKit Go.Lib
theorem G5{ab:cu}:gS Tryz.prog ab fun f' args H=>if f'=167 then (aNR 141 5 args H).map (cT H)else none:=by
 refine oC ⟨Tryz.f167,Tryz.func167,by kernel_rfl,by kernel_rfl⟩ fun args H v ws ns hp g w xs hw hg hx=>?_;unfold aNR at hp;split at hp
 ·rename_i o ve n;obtain⟨x,y,rfl,hv,hy⟩:=nH hx;cases hy;split at hp
  ·rename_i v' ty ho;split at hp
   ·rename_i hc;obtain⟨Er,rfl,gq,lx⟩:=hc;simp only[AG,BK]at hp;obtain⟨rfl,rfl,rfl⟩:=hp;obtain⟨l,cs,hb,rfl,ld,hl⟩:=aGf hw ho Er hv;obtain⟨x1,x2,e,r1,r2⟩:=nH hl;have ecs:=mX e;subst ecs;have e1:=bBr r1;subst e1;cases r2;obtain⟨m,rfl⟩:=DN (Int.le_of_lt gq);refine (aNU l.b m w ld (by omega) (by omega)).mono ?_;rintro e w' ⟨rfl,hp⟩;obtain⟨cb,hle,fo,dp⟩:=hp.blk;have hlt:l.b<w.heap.size:=hw.blk o l hb.loc;have xu:∀v,(w.setCell ⟨l.b,0,Qs⟩ v).heap.size=w.heap.size:=fun v=>JE _ _ _;have uj:∀k,k≠l.b->k<w.heap.size->w'.heap[k]? = w.heap[k]? := fun k h1 h2=>by
     rw[hp.other k h1 (by rw[xu];exact h2)];simp[FR,DJ,Ne.symm h1]
    rw[xu]at fo dp;have gd:=hp.size;rw[xu]at gd;have K1:o<H.length:=hw.lt o l hb.loc
    let w1:BL:=w.alloc (.cells cb 5)
    have dy:w1.heap=w.heap.push (.cells cb 5):=rfl;have s1:=hw.more 1;have hid:H.length<(H++AX 1 (ah.gone 0)).length:=by simp
    obtain⟨g',s2,J9⟩:=Step.yk (rows:=[]) (k:=1) (cap:=cb.size) s1.wf hid dy (g:=g) ⟨rfl,by simp,by simp⟩ rfl (Nat.zero_le _) (by omega);have nn:bH (H++AX 1 (ah.gone 0)) H.length=1:=by simp[bH,ah.ver]
    have Cp:make (H++AX 1 (ah.gone 0)) H.length (.gl · 5 1 [])=H++[.gl 1 5 1 []]:=by simp[make,ah.ver]
    rw[nn]at J9;rw[Cp]at s2;have du:au g' (H++[.gl 1 5 1 []]) o l (.cw v' 141 [.nilPtr,.ar]):=by refine⟨by rw[BM K1];exact ho,rfl, ?_,by rw[Er];exact hb.st⟩;rw[s2.aq o (by simp;omega) (by simp;omega)];exact hb.loc
    have s3:=Step.Aa (w':=w') (dh:=[.ptr o ve 0,.sr H.length 1 0]) (cs' := #[.pointer (Qr ⟨l.b,0,Qs⟩),.slice (Qr ⟨w.heap.size,0,Qs⟩) 0 cb.size]) s2.wf du (by rw[gd,dy,OA])
     (fun b Es=>by
      rcases Nat.lt_trichotomy b w.heap.size with h | h | h
      ·rw[uj b Es h,dy,FE,Zx (by omega)]
      ·subst h;rw[dp,dy];simp
      rw[DV (by omega),DV (by rw[dy];simp;omega)])
     fo
     (by
      refine⟨rfl,fun i a x e1 e2=>?_⟩
      match i with
      |0=>simp at e1 e2;subst e1;subst e2;exact .ptr o ve 0 l _ du.loc (by rw[hb.st];exact AQ _) fun _ _=>rfl
      |1=>simp at e1 e2;subst e1;subst e2;exact J9
      |i+2=>simp at e1) ⟨hp.io.1.trans (vG w ⟨l.b,0,Qs⟩ _).1,hp.io.2.trans (vG w ⟨l.b,0,Qs⟩ _).2⟩
    refine⟨g', ?_,ai.skip g'⟩;have:=Step.narrow (wr:=[o]) hw.lt ((s1.trans s2).trans s3) (fun i hi sw=>by
     simp at hi;rcases hi with h | h
     ·omega
     simp[h])
    simpa [eU,List.set_append,K1,Er]using this
   cases hp
  cases hp
 cases hp
end Go.Proofs.Sa
end
section
namespace Go.Proofs.Sa
open Go Go.AM Go.Proofs Go.RowKit Go.Lib
theorem disable(w:BL):(callFunc 320 #[]).run Tryz.prog w=.ok (.value (.tuple #[])) w:=PY Tryz.func320 (by kernel_rfl) (by kernel_rfl) (by kernel_rfl) .disable (by kernel_rfl) w
theorem enable(w:BL):(callFunc 322 #[]).run Tryz.prog w=.ok (.value (.tuple #[])) w:=PY Tryz.func322 (by kernel_rfl) (by kernel_rfl) (by kernel_rfl) .enable (by kernel_rfl) w
theorem acquire(a:IA)(w:BL):(callFunc 323 #[.pointer (Qr a)]).run Tryz.prog w=.ok (.value (.tuple #[])) w:=PV Tryz.func323 (by kernel_rfl) (by kernel_rfl) (by kernel_rfl) .acquire (by kernel_rfl) a w
theorem releaseMerge(a:IA)(w:BL):(callFunc 325 #[.pointer (Qr a)]).run Tryz.prog w=.ok (.value (.tuple #[])) w:=PV Tryz.func325 (by kernel_rfl) (by kernel_rfl) (by kernel_rfl) .releaseMerge (by kernel_rfl) a w
theorem aHx(a:IA)(x:BE)(u:FrameMode)(w:BL)(hc:w.cell? a=Qr x)(hz:w.frozen? a=Qu):CallsD Tryz.prog 275 #[.pointer (Qr a),.bool Qt] u w fun e u' w'=>u'=u/\(e=.returned (.tuple #[])/\w'=w.drew.setCell a (.int .u32 1)):=by
 have P8:w.drew.cell? a=Qr x:=by go_simp
 have Kv:w.drew.frozen? a=false:=by go_simp
 have bd:=run_call_store (P:=Tryz.prog) Tryz.func301 (by kernel_rfl) (by kernel_rfl) (by kernel_rfl) (by kernel_rfl) (k:=.u32) (y:=1) P8 Kv
 go_enter_d Tryz.func275,Tryz.ntmps275
 go_wp2
 go_region_calls
 all_goals (go_end0;exact⟨rfl,rfl⟩)
theorem aLJ(a:IA)(w:BL)(hc:w.cell? a=Qr (.int .i32 1))(hz:w.frozen? a=Qu):FV Tryz.prog 300 #[.pointer (Qr a)] w fun e w'=>e=.returned (.tuple #[])/\w'=w.setCell a (.int .i32 0):=by
 have hd:=disable;have he:=enable;have hr:=releaseMerge;have ji:=run_call_add (P:=Tryz.prog) Tryz.func326 (by kernel_rfl) (by kernel_rfl) (by kernel_rfl) .i32 (by kernel_rfl) (y := -1) (s:=0) hc hz (by simp[go_sem];rfl);have Kw:=NZ (P:=Tryz.prog) (src:=404) (dst:=281) Tryz.underlying404 Tryz.underlying281 (by kernel_rfl) hc
 go_enter Tryz.func300,Tryz.ntmps300
 go_wp2
 go_end0
 go_wp2
theorem aGg(a:IA)(u:FrameMode)(w:BL)(hc:w.cell? a=Qr (.int .i32 1))(hz:w.frozen? a=Qu):CallsD Tryz.prog 274 #[.pointer (Qr a)] u w fun e u' w'=>u'=u/\(e=.returned (.tuple #[])/\w'=w.setCell a (.int .i32 0)):=by
 have e300:∀args w,(callFunc 300 args).run Tryz.prog w=.ok (.enter 300 args) w:=enters_of Tryz.func300 (by kernel_rfl) rfl
 go_enter_d Tryz.func274,Tryz.ntmps274
 go_wp2_with (go_at_fn 300;refine (aLJ a _ hc hz).mono ?_;rintro e w' ⟨rfl,rfl⟩)
 all_goals (go_end0;exact⟨rfl,rfl⟩)
theorem aTR(a:IA)(w:BL)(hc:w.cell? a=Qr (.int .i32 0))(hz:w.frozen? a=Qu):FV Tryz.prog 299 #[.pointer (Qr a)] w fun e w'=>e=.returned (.tuple #[])/\w'=w.setCell a (.int .i32 1):=by
 have hd:=disable;have he:=enable;have ha:=acquire;have Kx:=run_call_cas_hit (P:=Tryz.prog) Tryz.func321 (by kernel_rfl) (by kernel_rfl) (by kernel_rfl) .i32 (by kernel_rfl) (y:=1) hc hz;have P8:(w.setCell a (.int .i32 1)).cell? a=Qr (.int .i32 1):=World.cell?_setCell_same w a _ hc;have Kw:=NZ (P:=Tryz.prog) (src:=404) (dst:=281) Tryz.underlying404 Tryz.underlying281 (by kernel_rfl) P8
 go_enter Tryz.func299,Tryz.ntmps299
 go_wp2
 first | go_end0 | (simp only[G9,Exit.then];refine J5 (La rfl _ _ _) rfl ?_) | refine J5 (La rfl _ _ _) rfl ?_
 go_wp2
theorem aPl(a:IA)(w:BL)(hc:w.cell? a=Qr (.int .i32 0))(hz:w.frozen? a=Qu):FV Tryz.prog 273 #[.pointer (Qr a)] w fun e w'=>e=.returned (.tuple #[])/\w'=w.setCell a (.int .i32 1):=by
 have e299:∀args w,(callFunc 299 args).run Tryz.prog w=.ok (.enter 299 args) w:=enters_of Tryz.func299 (by kernel_rfl) rfl
 go_enter Tryz.func273,Tryz.ntmps273
 go_wp2_with (go_at_fn 299;refine (aTR a _ hc hz).mono ?_;rintro e w' ⟨rfl,rfl⟩)
 all_goals (go_end0;exact⟨rfl,rfl⟩)
end Go.Proofs.Sa
end
section
namespace Go.Proofs.Sa
open Go Go.AM Go.Proofs Go.RowKit Go.Lib
theorem aPm(b off fid:Nat)(vf vc xs:Array BE)(w:BL)(R:BL->Prop) (iv:∀w,(callFunc fid xs).run Tryz.prog w=.ok (.enter fid xs) w) (re:vf++vc=xs) (h0:w.cell? ⟨b,off,Qs⟩=Qr (.int .u32 0)) (h1:w.cell? ⟨b,off+1,Qs⟩=Qr (.int .i32 0)) (f1:w.frozen? ⟨b,off+1,Qs⟩=Qu) (hf:FV Tryz.prog fid xs (w.setCell ⟨b,off+1,Qs⟩ (.int .i32 1)) fun e w'=>(∃x,e=.returned x)/\R w') (hR:∀w',R w'->(∃x,w'.cell? ⟨b,off,Qs⟩=Qr x)/\w'.frozen? ⟨b,off,Qs⟩=Qu/\w'.cell? ⟨b,off+1,Qs⟩=Qr (.int .i32 1)/\w'.frozen? ⟨b,off+1,Qs⟩=Qu):FV Tryz.prog 249 #[.pointer (Qr ⟨b,off,Qs⟩),.func (.func fid) vf vc] w fun e w'=>e=.returned (.tuple #[]) /\ ∃w2,R w2/\w'=(w2.drew.setCell ⟨b,off,Qs⟩ (.int .u32 1)).setCell ⟨b,off+1,Qs⟩ (.int .i32 0):=by
 have hl:=Hn (P:=Tryz.prog) Tryz.func272 (by kernel_rfl) (by kernel_rfl) (by kernel_rfl) .u32 (by kernel_rfl) (w:=w.setCell ⟨b,off+1,Qs⟩ (.int .i32 1)) (a:=⟨b,off,Qs⟩) (x:=0) ((KR _ ⟨b,off+1,Qs⟩ ⟨b,off,Qs⟩ _ (by simp)).trans h0);have xr:∀(x:Bool) (w:BL),(Op.unary .not (.bool x)).run Tryz.prog w=.ok (.bool (!x)) w:=fun _ _=>rfl;have e273:∀args w,(callFunc 273 args).run Tryz.prog w=.ok (.enter 273 args) w:=enters_of Tryz.func273 (by kernel_rfl) rfl;subst re
 go_enter_defers Tryz.func249,Tryz.ntmps249
 go_wp2_with (go_at_fn 273;refine (aPl ⟨b,off+1,Qs⟩ _ (by go_simp) (by go_simp)).mono ?_;rintro e w' ⟨rfl,rfl⟩)
 go_wp2
 refine hf.mono ?_;rintro e w' ⟨⟨x,rfl⟩,tv⟩;obtain⟨⟨x0,jr⟩,z0,lz,z1⟩:=hR w' tv
 go_wp2
 all_goals try go_end0
 all_goals try go_wp2
 refine leaves_cons (f:=275) (args := #[.pointer (Qr ⟨b,off,Qs⟩),.bool Qt]) (by simp) (by simp[go_sem]) ?_;refine (aHx ⟨b,off,Qs⟩ x0 .returning _ jr z0).mono ?_;rintro e u' w'' ⟨rfl,rfl,rfl⟩;refine leaves_cons (f:=274) (args := #[.pointer (Qr ⟨b,off+1,Qs⟩)]) (by simp[settle]) (by simp[go_sem]) ?_;refine (aGg ⟨b,off+1,Qs⟩ _ _ ?_ (by simp[z1])).mono ?_
 ·refine (KR _ ⟨b,off,Qs⟩ ⟨b,off+1,Qs⟩ _ (by simp)).trans ?_;rw[World.cell?_drew];exact lz
 rintro e u' w'' ⟨rfl,rfl,rfl⟩;simp[Leaves,settle,results,Tryz.results249];exact⟨w',tv,rfl⟩
end Go.Proofs.Sa
end
section
namespace Go.AM
open Go
def aWZ(off:Nat)(k:DK)(m:Int):ag:=.seq (.region Qu [⟨Qr 1,.fld 0 1 Qu (.tmp 0),Qs,[]⟩,⟨Qr 1,.fa off (.tmp 1),Qs,[]⟩,⟨Qr 1,.load 1 Qu (.tmp 1),Qs,[]⟩,⟨Qr 1,.bin .eql .no (.tmp 1) (.const (.int k m)),Qs,[]⟩]) (.cond (.tmp 1) .skip .bad)
def aX0(off:Nat)(k:DK)(m:Int):ag:=.region Qu [⟨Qr 1,.fld 0 1 Qu (.tmp 0),Qs,[]⟩,⟨Qr 1,.fa off (.tmp 1),Qs,[]⟩,⟨Qs,.store 1 (.tmp 1) (.const (.int k m)),Qs,[]⟩]
def aTS:ag:=.region Qu [⟨Qr 1,.fld 1 1 Qu (.tmp 0),Qs,[]⟩,⟨Qr 1,.dm (.tmp 1) [],Qs,[]⟩]
def aRp:ag:=.seq (aWZ 0 .u32 0)<|.seq (aWZ 1 .i32 0)<|.seq (aX0 1 .i32 1)<|.seq aTS<|.seq (aWZ 1 .i32 1)<|.seq (aX0 0 .u32 1) (aX0 1 .i32 0)
def nI:bw:=⟨2,[],[],.seq (.region Qu [⟨Qr 0,.cz (.tmp 0),Qs,[]⟩,⟨Qr 1,.cz (.tmp 1),Qs,[]⟩,⟨Qr 0,.build [.undef,.undef] [(0,1,.tmp 0),(1,1,.tmp 1)],Qs,[]⟩]) aRp⟩
section
variable {P:CU}{ab:cu}{A:af}{g:G}{H:LO}{w:BL}
def aTT(fid:Nat)(vf vc:List BE):Oper:=⟨Qs,.call { callee:=.value (.const (.func (.func fid) vf.toArray vc.toArray)),args := #[],argTypes := #[] },0,"",#[],Qs⟩
theorem aLK{fid:Nat}{first ay:LA}{vf vc:List BE}(yo:fU g first vf)(hlc:fU g ay vc){call:Nat->LA->LO->Out}(az:oT P ab call){site:Option Nat} {av:AV} {H':LO} {wr:List Nat} (h:cX call H site (.fn fid first ay) []=Qr (av,H',wr)) (hw:WF g H w) (hg:bM P ab g):(∀w,(callFunc fid (vf++vc).toArray).run P w=.ok (.enter fid (vf++vc).toArray) w) /\ FV P fid (vf++vc).toArray w fun e w'=>(∃x,e=.returned x)/\∃g',Step g H w g' H' w' wr:=by
 have hF:∃Fn,P.funcs[fid]? = Qr Fn/\(Fn.name == "runtime.NumGoroutine")=Qu/\Fn.body.isNone=false:=by
  have h:=h;simp only[cX]at h;split at h
  ·cases h
  rename_i args' lent vn;split at h
  ·cases h
  rename_i v H2 en hc;have hargs:fU g (first++[]++ay) (vf++[]++vc):=(yo.append ⟨rfl,fun i a x h=>by simp at h⟩).append hlc;obtain⟨l1,l2⟩:=pU hw vn hargs;obtain⟨g1,jj,vo⟩:=iR lent g H hw fun o ho=>.inl (l1 o ho);exact (az.1 fid _ _ v H2 en hc g1 w _ jj.wf (hg.mono jj.le) (l2 g1 vo).strip).1
 obtain⟨Fn,ta,jq,gh⟩:=hF;have hn:¬(Fn.name = "runtime.NumGoroutine"):=by simpa using jq
 have hb:¬(Fn.body=Qs):=fun e=>by rw[e]at gh;simp at gh
 refine⟨fun w=>by simp[callFunc,ta,hn,hb], ?_⟩;have cl:(execOp (Mq { tmps := #[],defers:=[] }) (aTT fid vf vc)).run P w=.ok (.enter fid (vf++vc).toArray) w:=by simp[aTT,execOp,resolve,Mq,JF,invoke,callFunc,ta,hn,hb]
 have hd:=aDV (o:=aTT fid vf vc) (a:={ tmps := #[],defers:=[] })
  (vx:=[]) yo ⟨rfl,fun i a x h=>by simp at h⟩ hlc az h hw hg fun Fn' _ _ _=>by simpa using cl
 rcases hd with⟨v,w',hr,_⟩ | ⟨w',hr,_⟩ | ⟨f,args,w1,hr,hR⟩ | ⟨l,f,t,b,c,w1,hr,_⟩
 ·rw[cl]at hr;cases hr
 ·rw[cl]at hr;cases hr
 ·rw[cl]at hr;cases hr;refine hR.mono fun e w' he=>?_;cases e with
  |panicked c=>exact he.elim
  |outgrown=>exact he.elim
  |returned x=>exact⟨⟨x,rfl⟩,by obtain⟨g',h1,_⟩:=he;exact⟨g',h1⟩⟩
 rw[cl]at hr;cases hr
def faV(off:Nat):AV->Option AV
 |.ptr o v off0=>Qr (.ptr o v (off0+off))
 |.vp o v n k i off0=>Qr (.vp o v n k i (off0+off))
 |.ep row off0=>Qr (.ep row (off0+off))
 |_=>Qs
theorem bCa{a a':AV}(h:faV 0 a=Qr a'):a'=a:=by cases a<;>first | (simp only[faV,AG,DU]at h;exact h.symm) | cases h
theorem aPn{off b o2:Nat}{a a':AV}(h:faV off a=Qr a')(hv:ai g a (.pointer (Qr ⟨b,o2,Qs⟩))):ai g a' (.pointer (Qr ⟨b,o2+off,Qs⟩)):=by
 cases hv with
 |ptr o v off0 l ad hl hv hh=>simp only[faV,AG]at h;subst h;exact .ptr o v _ l _ hl hv fun e1 e2=>by have:=hh e1 e2;simp only[OB]at this;rw[this.1,this.2.1]
 |vp o v n k i off0 l ad hl hv hn hh=>simp only[faV,AG]at h;subst h;exact .vp o v n k i _ l _ hl hv hn fun e1 e2=>by have:=hh e1 e2;simp only[OB]at this;rw[this.1,this.2.1,EU]
 |ep row off0 b' base bd hp hh=>
  simp only[faV,AG]at h;subst h;have:=ai.ep row (off0+off) b base bd hp hh
  rwa [<- EU]at this
 |undef=>cases h
theorem aKp{b:Nat}{d:Option Nat}:(⟨b,[]⟩:Ctx).site d=none:=by cases d<;>simp[Ctx.site]
theorem opR{call:Nat->LA->LO->Out}{b:Nat}{o:ae}{r:List ae}{s s':gp}(xg:o.guard=Qs)(hW:isW Qs Qu o.op=Qu) (h:jL call ⟨b,[]⟩ (o::r) s=Qr s'):∃v,evR s.H s.ρ o.op=Qr v/\jL call ⟨b,[]⟩ r ⟨bg s.ρ o.dst v,s.H,s.wr⟩=Qr s':=by
 simp only[jL,pF,wanted,xg,Zv,aOI,aKp,hW,BX,Zu]at h;split at h
 ·rename_i v H' wr h1;split at h1
  ·rename_i v2 h2;cases h1;exact⟨_,h2,h⟩
  cases h1
 cases h
theorem opW{call:Nat->LA->LO->Out}{b:Nat}{o:ae}{r:List ae}{s s':gp}(xg:o.guard=Qs)(hW:isW Qs Qu o.op=Qt) (h:jL call ⟨b,[]⟩ (o::r) s=Qr s'):∃v H' l,evW call s.H s.ρ Qs o.op=Qr (v,H',l)/\jL call ⟨b,[]⟩ r ⟨bg s.ρ o.dst v,H',bE b s.wr l⟩=Qr s':=by
 simp only[jL,pF,wanted,xg,Zv,aOI,aKp,hW]at h;split at h
 ·rename_i v H' wr h1;exact⟨_,_,_,h1,h⟩
 cases h
theorem aAj{n:Nat}{c:Ctx}{x y:ag}{s:gp}{e s'}(hx:∀m e s1,cY A m c x s=Qr (e,s1)->e=.normal)(h:cY A n c (.seq x y) s=Qr (e,s')):∃m s1,m<n/\cY A m c x s=Qr (.normal,s1)/\cY A m c y s1=Qr (e,s'):=by
 cases n with
 |zero=>rw[gT]at h;cases h
 |succ m=>
  rw[iD]at h;split at h
  ·rename_i s1 h1;exact⟨m,s1,HR m,h1,h⟩
  rename_i tp;obtain rfl:=hx m e s' h;exact Zw h (tp s')
theorem aE8{n:Nat}{c:Ctx}{ops:List ae}{s:gp}{e s'}(h:cY A n c (.region Qu ops) s=Qr (e,s')):e=.normal/\∃m,m<n/\jL (dD A m) c ops s=Qr s':=by
 cases n with
 |zero=>rw[gT]at h;cases h
 |succ m=>
  rw[iS]at h;simp only[iO,BQ,BX,Zu]at h;split at h
  ·rename_i s1 h1;cases h;exact⟨rfl,m,HR m,h1⟩
  cases h
theorem aTU{x:AV}{k:DK}{m:Int}(h:kJ .eql .no x (.int k m)=Qr (.bool Qt)):x=.int k m:=by
 cases x with
 |int k' m'=>
  simp only[kJ]at h;split at h
  ·rename_i hk;subst hk;simp at h;rw[h]
  cases h
 |_=>change Qs=Qr _ at h;cases h
theorem aE9{n b off:Nat}{k:DK}{m:Int}{p f y:AV}{H:LO}{wr:List Nat}{e s'}(h:cY A n ⟨b,[]⟩ (aWZ off k m) ⟨[.agg [p,f],y],H,wr⟩=Qr (e,s')):e=.normal/\∃p' z,faV off p=Qr p'/\bC H 1 p'=Qr [.int k m]/\s'=⟨[.agg [p,f],z],H,wr⟩:=by
 obtain⟨n1,s1,_,h1,h2⟩:=aAj (fun m e s1 h=>(aE8 h).1) h;obtain⟨_,n2,_,h1⟩:=aE8 h1;obtain⟨v1,e1,h1⟩:=opR rfl rfl h1;obtain⟨v2,e2,h1⟩:=opR rfl rfl h1;obtain⟨v3,e3,h1⟩:=opR rfl rfl h1;obtain⟨v4,e4,h1⟩:=opR rfl rfl h1;simp only[jL,AG]at h1;subst h1;simp[evR,aa.ev,eD]at e1;subst e1;simp only[evR,bg,aa.ev,GL,GM,CT,BG,EN]at e2 e3 e4;have e2':faV off p=Qr v2:=by cases p<;>simp_all [faV]
 cases n1 with
 |zero=>rw[gT]at h2;cases h2
 |succ n1=>
  rw[iT]at h2;simp only[bg,aa.ev,GL,GM,CT,BG,EN]at h2;split at h2
  ·cases n1 with
   |zero=>rw[gT]at h2;cases h2
   |succ n1=>
    rw[xB]at h2;cases h2;refine⟨rfl,v2,.bool Qt,e2', ?_,rfl⟩;split at e3
    ·rename_i cs hr;have hc:cs=[v3]:=by
      simp only[eD,BX,Zu]at e3;split at e3
      ·cases e3;rfl
      cases e3
     subst hc;rw[hr,aTU e4]
    cases e3
  ·cases n1 with
   |zero=>rw[gT]at h2;cases h2
   |succ n1=>rw[qG]at h2;cases h2
  cases h2
theorem aPo{call:Nat->LA->LO->Out}{H H':LO}{ρ:LA}{x:aa}{k:DK}{m:Int}{a:AV}{l:List Nat}(h:evW call H ρ Qs (.store 1 x (.const (.int k m)))=Qr (a,H',l)):storeCells H [.int k m] (x.ev ρ)=Qr (H',l):=by
 have e:evW call H ρ Qs (.store 1 x (.const (.int k m)))=(match storeCells H [.int k m] (x.ev ρ)with | some (H',wr)=>Qr (.undef,H',wr) | none=>Qs):=rfl;rw[e]at h;split at h
 ·rename_i h1;cases h;exact h1
 cases h
theorem aKq{H:LO}{ρ:LA}{x:aa}{v:AV}(h:evR H ρ (.cz x)=Qr v):v=x.ev ρ/\v.cells=[v]/\v≠.undef/\∀o w,v≠.yld o w:=by simp only[evR]at h;split at h<;>first | (cases h;rename_i e;exact⟨e.symm,rfl,by simp,by simp⟩) | cases h
theorem aPp{H:LO}{ρ:LA}{p f v:AV}(hp:ρ[0]? = Qr p)(hf:ρ[1]? = Qr f)(cp:p.cells=[p])(cf:f.cells=[f]) (h:evR H ρ (.build [.undef,.undef] [(0,1,.tmp 0),(1,1,.tmp 1)])=Qr v):v=.agg [p,f]:=by
 simp only[evR,iA,aa.ev,hp,hf,EN,cp,cf]at h;split at h
 ·split at h
  ·simpa [nV]using h.symm
  cases h
 cases h
theorem aGh{n b off:Nat}{k:DK}{m:Int}{p f y:AV}{H:LO}{wr:List Nat}{e s'}(h:cY A n ⟨b,[]⟩ (aX0 off k m) ⟨[.agg [p,f],y],H,wr⟩=Qr (e,s')):e=.normal/\∃p' z H' l,faV off p=Qr p'/\storeCells H [.int k m] p'=Qr (H',l)/\s'=⟨[.agg [p,f],z],H',bE b wr l⟩:=by
 obtain⟨he,n2,_,h1⟩:=aE8 h;obtain⟨v1,e1,h1⟩:=opR rfl rfl h1;obtain⟨v2,e2,h1⟩:=opR rfl rfl h1;obtain⟨v3,H3,l,e3,h1⟩:=opW rfl rfl h1;simp only[jL,AG]at h1;subst h1;simp[evR,aa.ev,eD]at e1;subst e1;have e3:=aPo e3;simp only[evR,bg,aa.ev,GL,GM,CT,BG,EN]at e2 e3;have e2':faV off p=Qr v2:=by cases p<;>simp_all [faV]
 exact⟨he,v2,v2,H3,l,e2',e3,rfl⟩
theorem aMU{n b:Nat}{p f y:AV}{H:LO}{wr:List Nat}{e s'}(h:cY A n ⟨b,[]⟩ aTS ⟨[.agg [p,f],y],H,wr⟩=Qr (e,s')):e=.normal/\∃m z H' l,m<n/\cX (dD A m) H Qs f []=Qr (z,H',l)/\s'=⟨[.agg [p,f],z],H',bE b wr l⟩:=by obtain⟨he,n2,hn,h1⟩:=aE8 h;obtain⟨v1,e1,h1⟩:=opR rfl rfl h1;obtain⟨v3,H3,l,e3,h1⟩:=opW rfl rfl h1;simp only[jL,AG]at h1;subst h1;simp[evR,aa.ev,eD]at e1;subst e1;simp only[evW,bg,aa.ev,GL,GM,CT,BG,EN,BY]at e3;exact⟨he,n2,v3,H3,l,hn,e3,rfl⟩
theorem aRq{n:Nat}{args:LA}{H:LO}{r:AV×LO×List Nat}(hp:A.bq 249=Qs)(hf:A.fn 249=Qr nI)(h:dD A n 249 args H=Qr r):∃p f q0 q1 m z H1 H2 H3 H4 l1 l2 l3 l4,args=[p,f]/\(∀o v,f≠.yld o v)/\m<n/\faV 0 p=Qr q0/\faV 1 p=Qr q1/\bC H 1 q0=Qr [.int .u32 0]/\bC H 1 q1=Qr [.int .i32 0] /\ storeCells H [.int .i32 1] q1=Qr (H1,l1)/\cX (dD A m) H1 Qs f []=Qr (z,H2,l2)/\bC H2 1 q1=Qr [.int .i32 1] /\ storeCells H2 [.int .u32 1] q0=Qr (H3,l3)/\storeCells H3 [.int .i32 0] q1=Qr (H4,l4) /\ r=cJ H.length (.tup [],H4,bE H.length (bE H.length (bE H.length (bE H.length [] l1) l2) l3) l4):=by
 rcases sS h with⟨p,v1,xn,_⟩ | ⟨fn,s',e,r',xb,he,vt,zk,hr,hN⟩ | ⟨xb,_⟩
 rotate_left 2
 ·rw[hf]at xb;cases xb
 ·rw[hp]at xn;cases xn
 rw[hf]at xb;cases xb;obtain⟨n1,s1,lx,h1,he⟩:=aAj (fun m e s1 h=>(aE8 h).1) he;obtain⟨_,_,_,h1⟩:=aE8 h1;obtain⟨u1,d1,h1⟩:=opR rfl rfl h1;obtain⟨u2,d2,h1⟩:=opR rfl rfl h1;obtain⟨v1,e1,h1⟩:=opR rfl rfl h1;simp only[jL,AG]at h1;subst h1;obtain⟨d1,c1,u1',_⟩:=aKq d1;obtain⟨d2,c2,u2',y2⟩:=aKq d2
 match args,d1,d2,e1,hN with
 | [],d1,_,e1,_=>exact Zw (by simpa [nF,nI,aa.ev]using d1) u1'
 | [p],d1,d2,e1,_=>exact Zw (by simpa [nF,nI,aa.ev,bg]using d2) u2'
 |p::f::x::r,d1,d2,e1,hN=>simp[nI]at hN
 | [p,f],d1,d2,e1,hN=>
  simp[nF,nI,aa.ev,bg]at d1 d2;subst d1;subst d2;have qy:v1=.agg [u1,u2]:=aPp (by simp[nF,nI,bg]) (by simp[nF,nI,bg]) c1 c2 e1;subst qy;have he:cY A n1 ⟨H.length,[]⟩ aRp ⟨[.agg [u1,u2],u2],H,[]⟩=Qr (e,s'):=by simpa [nF,bg,nI]using he
  unfold aRp at he;obtain⟨n3,s3,Ck,h3,he⟩:=aAj (fun m e s1 h=>(aE9 h).1) he;obtain⟨_,q0,z0,a1,a2,rfl⟩:=aE9 h3;obtain⟨n4,s4,Ob,h4,he⟩:=aAj (fun m e s1 h=>(aE9 h).1) he;obtain⟨_,q1,z1,b1,b2,rfl⟩:=aE9 h4;obtain⟨n5,s5,Oc,h5,he⟩:=aAj (fun m e s1 h=>(aGh h).1) he;obtain⟨_,q1',z2,H1,l1,c1,c2,rfl⟩:=aGh h5;obtain⟨n6,s6,Od,h6,he⟩:=aAj (fun m e s1 h=>(aMU h).1) he;obtain⟨_,m,z3,H2,l2,hm,d1,rfl⟩:=aMU h6;obtain⟨n7,s7,Oe,h7,he⟩:=aAj (fun m e s1 h=>(aE9 h).1) he;obtain⟨_,q2,z4,f1,f2,rfl⟩:=aE9 h7;obtain⟨n8,s8,Of,h8,he⟩:=aAj (fun m e s1 h=>(aGh h).1) he;obtain⟨_,q3,z5,H3,l3,g1,g2,rfl⟩:=aGh h8;obtain⟨_,q4,z6,H4,l4,i1,i2,rfl⟩:=aGh he;rw[b1]at c1 f1 i1;rw[a1]at g1;cases c1;cases f1;cases i1;cases g1;refine⟨u1,u2,q0,q1,m,z3,H1,H2,H3,H4,l1,l2,l3,l4,rfl,y2,by omega,a1,b1,a2,b2,c2,d1,f2,g2,i2, ?_⟩;rw[hr];simp[aA4,aIS,aBv,nI,bE]at zk;rw[<- zk]
end
end Go.AM
namespace Go.Proofs.Sa
open Go Go.AM Go.Proofs Go.RowKit Go.Lib
theorem yu{ab:cu}{A:af}(hp:A.bq 249=Qs)(hf:A.fn 249=Qr nI):aWY Tryz.prog ab A 249:=by
 intro n hm f' args H av H' wr hh g w xs hw hg hx;dsimp only at hh;split at hh;rotate_left
 ·cases hh
 rename_i e;subst e;refine⟨⟨Tryz.f249,Tryz.func249,by kernel_rfl,by kernel_rfl⟩, ?_⟩;obtain⟨p,f,q0,q1,m,z,H1,H2,H3,H4,l1,l2,l3,l4,rfl,Ky,Kz,a0,a1,r0,r1,s1,d1,r2,s3,s4,hr⟩:=aRq hp hf hh;obtain⟨x,y,rfl,hv,hy⟩:=nH hx;have jr:∃b off,x=.pointer (Qr ⟨b,off,Qs⟩):=by have e:=bCa a0;subst e;obtain⟨b,off,_,e,_⟩:=eI hw r0 hv;exact⟨b,off,e⟩
 obtain⟨b,off,rfl⟩:=jr;have v0:=aPn a0 hv;have v1:=aPn a1 hv;obtain⟨b0,o0,vs0,e0,k0,t0,c0⟩:=eI hw r0 v0;cases e0;obtain⟨b1,o1,vs1,e1,k1,t1,c1⟩:=eI hw r1 v1;cases e1;have jg:w.cell? ⟨b,off,Qs⟩=Qr (.int .u32 0):=by
  obtain⟨hl,hr⟩:=t0
  match vs0,hl with
  | [y0],_=>have:=hr 0 _ _ rfl rfl;cases this;exact c0 0 _ rfl
 have mj:w.cell? ⟨b,off+1,Qs⟩=Qr (.int .i32 0):=by
  obtain⟨hl,hr⟩:=t1
  match vs1,hl with
  | [y0],_=>have:=hr 0 _ _ rfl rfl;cases this;exact c1 0 _ rfl
 have one:∀{g:G} (k:DK) (n:Int),fU g [.int k n] [.int k n]:=fun k n=>⟨rfl,fun i a x e1 e2=>by
  match i with
  |0=>simp at e1 e2;subst e1;subst e2;exact .int k n
  |i+1=>simp at e1⟩
 obtain⟨b2,o2,e2,i2,f2,st1⟩:=fF hw s1 v1 (one .i32 1);cases e2;have rr:=f2 0 (by simp);cases f with
 |fn fid first ay=>
  obtain⟨vf,vc,ey,yo,hlc⟩:=hy.rm;subst ey;have az:=hm m Kz;obtain⟨iv,kr⟩:=aLK (P:=Tryz.prog) (yo.mono st1.le) (hlc.mono st1.le) az d1 st1.wf (hg.mono st1.le);refine (aPm b off fid vf vc _ w (fun w'=>∃g',Step g H1 (w.setCells b (off+1) [.int .i32 1]) g' H2 w' l2) iv (by simp) jg mj rr ?_ ?_).mono ?_
  ·simpa [IZ]using kr
  ·rintro w' ⟨g',st2⟩;have hle:=st1.le.trans st2.le;obtain⟨b3,o3,e3,i3,f3,st3⟩:=fF st2.wf s3 (v0.mono hle) (one .u32 1);cases e3;obtain⟨b4,o4,e4,i4,f4,st4⟩:=fF st3.wf s4 (v1.mono hle) (one .i32 0);cases e4;obtain⟨b5,o5,vs5,e5,k5,t5,c5⟩:=eI st2.wf r2 (v1.mono hle);cases e5;refine⟨?_,f3 0 (by simp), ?_, ?_⟩
   ·have:=i3 0 (by simp);exact Option.isSome_iff_exists.1 this
   ·obtain⟨hl,hr⟩:=t5
    match vs5,hl with
    | [y0],_=>have:=hr 0 _ _ rfl rfl;cases this;exact c5 0 _ rfl
   have:=f4 0 (by simp);simpa [IZ]using this
  rintro e w' ⟨rfl,w2,⟨g',st2⟩,rfl⟩;have st2':=st2.trans (Step.of_heap (w':=w2.drew) st2.wf rfl);have hle:=st1.le.trans st2'.le;obtain⟨b3,o3,e3,i3,f3,st3⟩:=fF st2'.wf s3 (v0.mono hle) (one .u32 1);cases e3;obtain⟨b4,o4,e4,i4,f4,st4⟩:=fF st3.wf s4 (v1.mono hle) (one .i32 0);cases e4;have da:=((st1.trans st2').trans st3).trans st4;have B0:=Step.narrow (wr:=bE H.length (bE H.length (bE H.length (bE H.length [] l1) l2) l3) l4) hw.lt da (fun o ho hb=>by
   simp only[AJ,AY]at ho;rcases ho with ((ho | ho) | ho) | ho
   ·exact (cE _ _ _).1 o ((cE _ _ _).1 o ((cE _ _ _).1 o ((cE _ _ _).2 o ho hb)))
   ·exact (cE _ _ _).1 o ((cE _ _ _).1 o ((cE _ _ _).2 o ho hb))
   ·exact (cE _ _ _).1 o ((cE _ _ _).2 o ho hb)
   exact (cE _ _ _).2 o ho hb)
  simp only[IZ]at B0;simp only[cJ]at hr;split at hr
  ·rename_i zl;simp only[AI]at zl;cases hr;refine⟨g'.cut H.length,Step.cut hw B0 fun o ho x hx=>?_,ai.skip _⟩;have:=AO.1 zl.2 o ho;rw[hx]at this;exact this
  cases hr;exact⟨g',B0,ai.skip _⟩
 |yld o v=>exact Zw rfl (Ky o v)
 |_=>simp[cX]at d1
end Go.Proofs.Sa
end
section
namespace Go.Proofs
open Go.Shelf Go.RowKit Go.Sort Go.Lib
variable {P:CU}{ρ:Ren}
theorem vM{ops:Array Oper}{rest:List Oper}{o:Oper}{a:Act}{w:BL}{Q:Exit->Act->BL->Prop}(xg:o.guard=Qs)(sl x:Operand)(t u:BP) (ho:o.op=.call { callee:=.builtin .append,args := #[sl,x],argTypes := #[t,u] }) (v xv v':BE) (w':BL) (hs:a.eval sl=v) (hx:a.eval x=xv) (hr:(DA #[t,u] o.type #[v,xv]).run P w=.ok v' w') (h:wpList P ops Q rest (a.put o.dst v') w'):wpList P ops Q (o::rest) a w:=by refine wpList_plain xg fun K hK=>?_;unfold Oper.wp execOp;simp only[ho,resolve,invoke,builtin,BS,CB,BJ,List.map_toArray,BI,BY,hs,hx,hr];exact hK _ _ h
theorem aNV(L:LaysM.n288 P ρ)(u:Nat)(hu:u<100)(sv v':BE)(w w1:BL)(cl:∀ty,(DA #[ρ.t 37,ρ.t 9] ty #[sv,.string ⟨(DT u).toArray⟩]).run P w=.ok v' w1):FV P (ρ.f 288) #[sv,.int .u64 u,.int .i64 10] w fun e w'=>e=.returned v'/\w'=w1:=by
 have mixed:=L.mixed;have t5:=L.t5;have a5:=L.a5;have z5:=L.z5;have v5:=L.v5;have t37:=L.t37;have u37:=BH L.t37;have a37:=L.a37;have z37:=L.z37;have v37:=L.v37;have t53:=L.t53;have a53:=L.a53;have z53:=L.z53;have v53:=L.v53;have t3:=L.t3;have a3:=L.a3;have z3:=L.z3;have v3:=L.v3;have t4:=L.t4;have a4:=L.a4;have z4:=L.z4;have v4:=L.v4;have t9:=L.t9;have a9:=L.a9;have z9:=L.z9;have v9:=L.v9;have t171:=L.t171;have a171:=L.a171;have z171:=L.z171;have v171:=L.v171;have t0:=L.t0;have a0:=L.a0;have z0:=L.z0;have v0:=L.v0;have t173:=L.t173;have a173:=L.a173;have z173:=L.z173;have v173:=L.v173;have e283:∀args w,(callFunc (ρ.f 283) args).run P w=.ok (.enter (ρ.f 283) args) w:=enters_of L.f283 (by kernel_rfl) rfl
 go_enter L.f288,Body.n288_ntmps ρ
 go_wp2_with (first
  | (go_at_fn (ρ.f 283);refine (Any.internal_strconv_small { L with } u hu _).mono ?_;rintro e w' ⟨rfl,rfl⟩)
  | (at_builtin;refine vM rfl _ _ (ρ.t 37) (ρ.t 9) rfl _ _ _ _ rfl rfl (cl _) ?_))
 go_wp2
 go_ret
 exact⟨rfl,rfl⟩
theorem aRr(L:LaysM.n288 P ρ)(u:Nat)(hu:100<=u)(P9:u<18446744073709551616)(sv:BE)(w:BL)(cx:OL P w "internal/strconv.uint64pow10" .u64 EB) (Q:BE->BL->Prop) (db:∀w2:BL,w.heap.size<=w2.heap.size->(∀b,b<w.heap.size->w2.heap[b]? = w.heap[b]?)->w2.os=w.os/\w2.output=w.output ->(∀j u',(HZ (DT u))[j]? = Qr u'->w2.cell? ⟨w.heap.size,j,Qs⟩=Qr u') ->∃v' w',(∀ty,(DA #[ρ.t 37,ρ.t 37] ty #[sv,.slice (Qr ⟨w.heap.size,0,Qs⟩) (GO u) 24]).run P w2=.ok v' w')/\Q v' w'):FV P (ρ.f 288) #[sv,.int .u64 u,.int .i64 10] w fun e w'=>∃v',e=.returned v'/\Q v' w':=by
 have mixed:=L.mixed;have t5:=L.t5;have a5:=L.a5;have z5:=L.z5;have v5:=L.v5;have t37:=L.t37;have u37:=BH L.t37;have a37:=L.a37;have z37:=L.z37;have v37:=L.v37;have t53:=L.t53;have a53:=L.a53;have z53:=L.z53;have v53:=L.v53;have t3:=L.t3;have a3:=L.a3;have z3:=L.z3;have v3:=L.v3;have t4:=L.t4;have a4:=L.a4;have z4:=L.z4;have v4:=L.v4;have t9:=L.t9;have a9:=L.a9;have z9:=L.z9;have v9:=L.v9;have t171:=L.t171;have a171:=L.a171;have z171:=L.z171;have v171:=L.v171;have t0:=L.t0;have a0:=L.a0;have z0:=L.z0;have v0:=L.v0;have t173:=L.t173;have a173:=L.a173;have z173:=L.z173;have v173:=L.v173;have e284:∀args w,(callFunc (ρ.f 284) args).run P w=.ok (.enter (ρ.f 284) args) w:=enters_of L.f284 (by kernel_rfl) rfl;have e285:∀args w,(callFunc (ρ.f 285) args).run P w=.ok (.enter (ρ.f 285) args) w:=enters_of L.f285 (by kernel_rfl) rfl;have yi:1<=u:=by omega
 have Ie:GO u<=20:=by have:=Lib.numDigits_eq u yi P9;split at this<;>omega
 have j8:P.arrayLen (ρ.t 171)=24:=by simp[MV,L.t171]
 have G6:∀W,(Instr.sliceAt (ρ.t 171) (.pointer (Qr ⟨w.heap.size,0,Qs⟩)) Qs (Qr (.int .i64 (GO u:Int))) Qs).run P W=.ok (.slice (Qr ⟨w.heap.size,0,Qs⟩) (GO u) 24) W:=fun W=>by
  rw[run_sliceAt_array_h W (ρ.t 171) ⟨w.heap.size,0,Qs⟩ (by simp[MV,Program.elem,L.t171]) .i64 (GO u:Int) (by omega) (by rw[j8];omega)]
  go_simp
 have Cq:=Lib.holds_zero0 w (ρ.t 171) (GO u) (by omega);have Q0:=Any.internal_strconv_formatBase10 { L with } w.heap.size 0 24 u (NW (GO u) 0) (w.alloc (.cells GP (ρ.t 171))) Cq (by rw[HG];exact Lib.lt_pow_nDigits u) P9 (by rw[HG];omega);rw[HG]at Q0;have HH0:=Lib.hid Cq;have iu:(100:Int)<=(u:Int):=by omega
 clear Cq j8
 go_enter L.f288,Body.n288_ntmps ρ
 go_wp2_with (first
  | (go_at_fn (ρ.f 284);refine (Any.internal_strconv_numDigits { L with } u yi P9 _ (Lib.tabIs_alloc cx _)).mono ?_;rintro e w' ⟨rfl,rfl⟩))
 go_at_fn (ρ.f 285)
 refine Q0.mono ?_;rintro e w' ⟨rfl,k,v',dk,rfl,hF⟩;have jy:∀j u',(HZ (DT u))[j]? = Qr u'->((putRow (fun(b:UInt8)=>EJ .u8 (b.toNat:Int)) (w.alloc (.cells GP (ρ.t 171))) w.heap.size 0 dk).drewN k).cell? ⟨w.heap.size,j,Qs⟩=Qr u':=by
  intro j u' hj;have mo:j<(DT u).length:=by
   have h5:=(AH.1 hj).1
   rwa [Lib.byteCells_length]at h5
  have e5:(HZ (DT u))[j]? = Qr (EJ .u8 ((DT u)[j].toNat:Int)):=by simp[HZ,mo]
  rw[e5]at hj;cases hj;rw[Lib.row_is_numeral hF j mo,World.cell?_drewN];have:=cell?_putRow (fun(b:UInt8)=>EJ .u8 (b.toNat:Int)) _ w.heap.size 0 _ dk HH0.out (by rw[hF.size,HG]) j (by rw[hF.size];rw[MW]at mo;exact mo)
  rwa [BC]at this
 obtain⟨os,eo⟩:=Lib.fin_at w (.cells GP (ρ.t 171)) dk k 0;have Q1:w.heap.size<=((putRow (fun(b:UInt8)=>EJ .u8 (b.toNat:Int)) (w.alloc (.cells GP (ρ.t 171))) w.heap.size 0 dk).drewN k).heap.size:=by rw[eo];exact Lib.size_grow w k os
 have da:∀b,b<w.heap.size->((putRow (fun(b:UInt8)=>EJ .u8 (b.toNat:Int)) (w.alloc (.cells GP (ρ.t 171))) w.heap.size 0 dk).drewN k).heap[b]? = w.heap[b]? := fun b hb=>by rw[eo];exact Lib.heap_grow_old w k os b hb
 have kh:((putRow (fun(b:UInt8)=>EJ .u8 (b.toNat:Int)) (w.alloc (.cells GP (ρ.t 171))) w.heap.size 0 dk).drewN k).os=w.os/\((putRow (fun(b:UInt8)=>EJ .u8 (b.toNat:Int)) (w.alloc (.cells GP (ρ.t 171))) w.heap.size 0 dk).drewN k).output=w.output:=by rw[eo];exact⟨rfl,rfl⟩
 generalize (putRow (fun(b:UInt8)=>EJ .u8 (b.toNat:Int)) (w.alloc (.cells GP (ρ.t 171))) w.heap.size 0 dk).drewN k=W2 at jy Q1 da kh ⊢;clear eo HH0 Q0;obtain⟨v2,w3,hr,hQ⟩:=db W2 Q1 da kh jy
 go_wp2_with (at_builtin;refine vM rfl _ _ (ρ.t 37) (ρ.t 37) rfl _ _ _ _ rfl rfl (hr _) ?_)
 go_wp2
 go_ret
 exact⟨v2,rfl,hQ⟩
end Go.Proofs
end
section
namespace Go.AM
open Go
def oN:aIP:=fun args H=>match args with
 | [.sr o v n,.int .u64 i,.int .i64 b]=>match H[o]? with
  |some (.vec v' 1 rows)=>if v'=v/\rows.length=n/\0<=i/\i<1000000/\n<=1000000000/\b=10/\dF 1 rows=Qt then
    Qr (.sr o v (n+(nC 7 i.toNat).length),[(o,.vec v 1 (rows++aJ (nC 7 i.toNat)))],[])
   else Qs
  |_=>Qs
 | [.sl Qt [],.int .u64 i,.int .i64 b]=>if 0<=i/\i<1000000/\b=10 then
   Qr (.own 1 (aJ (nC 7 i.toNat)),[],[])
  else Qs
 |_=>Qs
section
variable {P:CU}{ab:cu}{g:G}{H:LO}{w w':BL}
theorem aLL(hw:WF g H w){k:Nat}{rows:List LA}{b cap:Nat}(cm:rows.length<=cap)(cn:∀row∈rows,row.length=k)(dq:rows.all (fun r=>r.all AV.still)=Qt) (dj:∀(i j:Nat) (row:LA) c,rows[i]? = Qr row->row[j]? = Qr c->∃y,w.cell? ⟨b,i*k+j,Qs⟩=Qr y/\ai g c y) (vm:∀j,g.perm b j=Qs) (pd:∀o l x,au g H o l x->l.b≠b):∃g',Step g H w g' H w []/\ai g' (.sl Qu rows) (.slice (Qr ⟨b,0,Qs⟩) rows.length cap):=by
 have hle:g.le (g.bh b fun i=>w.cell? ⟨b,i,Qs⟩):=by
  refine⟨fun b' i y hy=>?_,fun o l hl=>⟨l,hl,AQ _,fun _=>⟨AQ _,fun _=>rfl⟩⟩,fun _ _ hx=>hx,rfl,rfl⟩;by_cases e:b'=b
  ·subst e;rw[vm i]at hy;cases hy
  simp only[G.bh,e,Zu];exact hy
 have dx:∀o l x,au (g.bh b fun i=>w.cell? ⟨b,i,Qs⟩) H o l x->au g H o l x:=fun o l x hb=>⟨hb.Pr,hb.alive,hb.loc,hb.st⟩;refine⟨g.bh b fun i=>w.cell? ⟨b,i,Qs⟩,⟨hle,⟨fun b' i y hy=>?_,hw.lt,hw.blk,hw.st,fun o l x hb=>(hw.obj o l x (dx _ _ _ hb)).aq hle rfl,fun o l x hb j=>?_,fun o o' l l' x x' hb du=>hw.inj o o' l l' x x' (dx _ _ _ hb) (dx _ _ _ du),
   hw.whole.aq rfl rfl ⟨rfl,rfl⟩ (fun _ _ _=>rfl) fun o l y hl=>.inr ⟨o,l,y,dx _ _ _ hl,rfl⟩⟩,
  aDS.refl _ _ _,fun _ _ _=>rfl,AQ _,fun _ l' hl=>.inr ⟨l',hl,rfl⟩,fun _ _ _=>rfl⟩, ?_⟩
 ·by_cases e:b'=b
  ·subst e;simpa only[G.bh,Zv]using hy
  simp only[G.bh,e,Zu]at hy;exact hw.perm b' i y hy
 ·have bl:=pd o l x (dx _ _ _ hb);simp only[G.bh,bl,Zu];exact hw.jh o l x (dx _ _ _ hb) j
 refine .sl Qu rows b 0 cap k cm (by simp) cn (AO.1 dq) (fun i j hi hj=>?_) fun i j row c x h1 h2 h3=>?_
 ·have yg:=cn rows[i] (List.getElem_mem hi);obtain⟨y,hy,_⟩:=dj i j rows[i] (rows[i][j]'(by omega)) (by simp[hi]) (by simp);simp only[G.bh,Zv,BC,hy];rfl
 obtain⟨y,hy,hr⟩:=dj i j row c h1 h2;simp only[G.bh,Zv,BC,hy,AG]at h3;subst h3;exact hr.mono hle
theorem aLM{t u ty:BP}{S X:Operand}{dst:Option Tmp}{pos:String}{after:Array Edge}{guard:Option (Nat×Bool)}{a:Act}{R:BE->BL->Prop} (h:aA8 P ⟨dst,.call { callee:=.builtin .append,args := #[S,X],argTypes := #[t,u] },ty,pos,after,guard⟩ a w R):∃v w',(DA #[t,u] ty #[a.eval S,a.eval X]).run P w=.ok v w'/\R v w':=by
 have mn:(execOp a.eval ⟨dst,.call { callee:=.builtin .append,args := #[S,X],argTypes := #[t,u] },ty,pos,after,guard⟩).run P w=((DA #[t,u] ty #[a.eval S,a.eval X]).run P w).andThen fun v w'=>.ok (.value v) w':=by simp[execOp,resolve,invoke,builtin]
 cases hr:(DA #[t,u] ty #[a.eval S,a.eval X]).run P w with
 |ok v w1=>
  rw[hr]at mn;simp only[BJ]at mn;rcases h with⟨v',w',e,hR⟩ | ⟨w',e,_⟩ | ⟨_,_,_,e,_⟩ | ⟨_,_,_,_,_,_,e,_⟩
  ·rw[mn]at e;cases e;exact⟨_,_,rfl,hR⟩
  ·rw[mn]at e;cases e
  ·rw[mn]at e;cases e
  rw[mn]at e;cases e
 |_=>exfalso;rw[hr]at mn;simp only[DL]at mn;rcases h with⟨v',w',e,hR⟩ | ⟨w',e,_⟩ | ⟨_,_,_,e,_⟩ | ⟨_,_,_,_,_,_,e,_⟩<;>(rw[mn]at e;cases e)
theorem aIk{t u e:BP}{i:TypeInfo}{z:BE}{d:TypeDesc}(ht:P.underlying t=Qr (.slice e))(hu:P.underlying u=Qr d)(hd:∀k,d≠.int k)(hi:P.info? e=Qr i)(hz:i.zero=Qr z)(su:z.cells.size=i.size) {site:Option Nat} {s x av:AV} {sv xv:BE} {H':LO} {wr:List Nat} (h:eX H site i.size i.bytes s x=Qr (av,H',wr)) (hw:WF g H w) (hg:bM P ab g) (hs:ai g s sv) (hx:ai g x xv) (ty:BP):∃v w',(DA #[t,u] ty #[sv,xv]).run P w=.ok v w'/\∃g',Step g H w g' H' w' wr/\ai g' av v:=by
 have G6:aX g [s,x] #[sv,xv]:=by
  refine⟨rfl,fun t=>?_⟩
  match t with
  |0=>exact hs
  |1=>exact hx
  |t+2=>simpa using ai.undef _
 have:=aLM (aWB (P:=P) (ab:=ab) (w:=w) (ρ:=[s,x]) (a:={ tmps := #[sv,xv],defers:=[] }) (dst:=Qs) (ty:=ty) (pos:= "") (after := #[]) (guard:=Qs) (S:=.tmp 0) (X:=.tmp 1) (s:=.tmp 0) (x:=.tmp 1) (call:=fun _ _ _=>Qs) (site:=site)
  ht hu hd hi hz rfl rfl su h hw hg G6)
 exact this
end
end Go.AM
namespace Go.Proofs.Sa
open Go Go.AM Go.Proofs Go.RowKit Go.Lib
theorem aIl{g:G}{a b c:AV}{xs:List BE}(h:fU g [a,b,c] xs):∃x y z,xs=[x,y,z]/\ai g a x/\ai g b y/\ai g c z:=by
 obtain⟨h1,h2⟩:=h
 match xs,h1 with
 | [x,y,z],_=>exact⟨x,y,z,rfl,h2 0 a x rfl rfl,h2 1 b y rfl rfl,h2 2 c z rfl rfl⟩
theorem aD7:∀(k n:Nat),(nC k n).length<=k
 |0,_=>AQ _
 |k+1,n=>by
  unfold nC;split
  ·simp
  simp;exact aD7 k _
theorem aTV(k n:Nat):nC (k+1) n≠[]:=by unfold nC;split<;>simp
theorem aGi(l:List UInt8):(aJ l).all (fun r=>r.all AV.still)=true:=by simp[aJ,List.all_map,AV.still]
theorem aPq{l:List UInt8}{r:LA}(h:r∈aJ l):r.length=1:=by simp only[aJ,List.mem_map]at h;obtain⟨b,_,rfl⟩:=h;rfl
theorem aIm(l:List UInt8):dF 1 (aJ l)=true:=by cases l<;>rfl
theorem aKr{ab:cu}{tab:Nat}(G3:Tryz.prog.globalNamed "internal/strconv.uint64pow10" = Qr tab)(cn:ab.row tab=Qr (EB.map fun z=>AV.int .u64 z)) {g:G} {H H0 H':LO} {w:BL} {site:Option Nat} {s av:AV} {sv:BE} {wr:List Nat} (u:Nat) (hu:u<1000000) (hw:WF g H w) (hg:bM Tryz.prog ab g) (h0:Step g H w g H0 w []) (hs:ai g s sv) (h:eX H0 site 1 1 s (.sl Qu (aJ (nC 7 u)))=Qr (av,H',wr)):FV Tryz.prog 313 #[sv,.int .u64 u,.int .i64 10] w fun e w'=>∃v',e=.returned v'/\∃g',Step g H w g' H' w' wr/\ai g' av v':=by
 have hd:nC 7 u=DT u:=aJ8 7 u (by omega) (by omega);obtain⟨i0,hi,me,rr,l7⟩:=info_parts (show (Tryz.prog.info? 5).map (fun i=>(i.zero,i.size,i.bytes))=Qr (Qr (.int .u8 0),1,1)by kernel_rfl);have su:(EJ .u8 0).cells.size=i0.size:=by rw[rr];rfl
 by_cases Et:u<100
 ·
  have hx:ai g (.str (nC 7 u)) (.string ⟨(DT u).toArray⟩):=by rw[hd];exact .str ⟨(DT u).toArray⟩
  have h2:eX H0 site i0.size i0.bytes s (.str (nC 7 u))=Qr (av,H',wr):=by rw[rr,l7];exact h
  have hr:=fun ty=>aIk (t:=92) (u:=9) Tryz.underlying92 Tryz.underlying9 (by intro k;simp) hi me su h2 h0.wf hg hs hx ty;obtain⟨v,w1,cl,g',h3,h4⟩:=hr 0;have da:∀ty,(DA #[92,9] ty #[sv,.string ⟨(DT u).toArray⟩]).run Tryz.prog w=.ok v w1:=fun ty=>cl;refine (aNV (ρ:=Tryz.laysM288_ren) Tryz.laysM288 u Et sv v w w1 da).mono ?_;rintro e w' ⟨rfl,rfl⟩;exact⟨v,rfl,g',by simpa using h0.trans h3,h4⟩
 refine aRr (ρ:=Tryz.laysM288_ren) Tryz.laysM288 u (by omega) (by omega) sv w (aSR hw G3 cn hg) (fun v' w'=>∃g',Step g H w g' H' w' wr/\ai g' av v') fun w2 gd hold kh jy=>?_;have s1:Step g H w g H w2 []:=Step.nf hw gd hold kh;have s2:Step g H0 w g H0 w2 []:=Step.nf h0.wf gd hold kh;have ax:(aJ (nC 7 u)).length=GO u:=by rw[hd,aJ,AF,MW]
 obtain⟨g2,s3,hx⟩:=aLL (b:=w.heap.size) (k:=1) (cap:=24) (rows:=aJ (nC 7 u)) s2.wf (by rw[aJ,AF];have:=aD7 7 u;omega) (fun r hr=>aPq hr) (aGi _)
  (fun i j row c h1 h2=>by
   simp only[aJ,BN,EL]at h1;obtain⟨b,h1,rfl⟩:=h1
   match j,h2 with
   |0,h2=>
    simp at h2;subst h2;refine⟨.int .u8 b.toNat, ?_,.int _ _⟩;rw[FK,DU];refine jy i _ ?_;rw[<- hd];simp[HZ,h1])
  (fun j=>by
   cases hp:g.perm w.heap.size j with
   |none=>rfl
   |some x=>exact Zw (hw.ko hp) (by omega))
  (fun o l x hb=>by have:=hw.blk o l hb.loc;omega)
 rw[ax]at hx;have h2:eX H0 site i0.size i0.bytes s (.sl Qu (aJ (nC 7 u)))=Qr (av,H',wr):=by rw[rr,l7];exact h
 obtain⟨v,w3,cl,g',h3,h4⟩:=aIk (t:=92) (u:=92) Tryz.underlying92 Tryz.underlying92 (by intro k;simp) hi me su h2 s3.wf (hg.mono s3.le) (hs.mono s3.le) hx 0;exact⟨v,w3,fun ty=>cl,g',by simpa using ((h0.trans s2).trans s3).trans h3,h4⟩
theorem xx{ab:cu}{tab:Nat}(G3:Tryz.prog.globalNamed "internal/strconv.uint64pow10" = Qr tab)(cn:ab.row tab=Qr (EB.map fun z=>AV.int .u64 z)):gS Tryz.prog ab fun f' args H=>if f'=313 then (oN args H).map (cT H)else none:=by
 refine oC ⟨Tryz.f313,Tryz.func313,by kernel_rfl,by kernel_rfl⟩ fun args H v ws ns hp g w xs hw hg hx=>?_;have ne0:∀i:Nat,(aJ (nC 7 i)).isEmpty=false:=fun i=>by
  cases h:nC 7 i with
  |nil=>exact Zw h (aTV 6 i)
  |cons a l=>rfl
 have Q2:∀i:Nat,(aJ (nC 7 i)).length<=7:=fun i=>by rw[aJ,AF];exact aD7 7 i
 have ym:∀i:Nat,(aJ (nC 7 i)).length=(nC 7 i).length:=fun i=>AF ..;unfold oN at hp;split at hp
 ·rename_i o ve n i b;split at hp
  ·rename_i v' rows ho;split at hp
   ·rename_i hc;obtain⟨rfl,hn,U6,G7,Hz,rfl,Og⟩:=hc;simp only[AG,BK]at hp;obtain⟨rfl,rfl,rfl⟩:=hp;obtain⟨x,y,z,rfl,h1,h2,h3⟩:=aIl hx;cases h2;cases h3;obtain⟨u,rfl⟩:=DN U6;refine (aKr G3 cn (site:=Qs) (s:=.sr o v' n) (av:=.sr o v' (n+(nC 7 u).length)) (H':=H.set o (.vec v' 1 (rows++aJ (nC 7 u)))) (wr:=[o]) u (by omega) hw hg (.refl hw) h1 ?_).mono ?_
    ·simp only[eX,cG,dO,aIm,BT,BX,Zu,ho,ne0];rw[Zy ⟨trivial,hn,trivial,by simp only[bP,decide_eq_true_eq];have:=Q2 u;omega⟩,ym]
    rintro e w' ⟨v,rfl,g',h4,h5⟩;exact⟨g',by simpa [eU]using h4,h5⟩
   cases hp
  cases hp
 ·rename_i i b;split at hp
  ·rename_i hc;obtain⟨U6,G7,rfl⟩:=hc;simp only[AG,BK]at hp;obtain⟨rfl,rfl,rfl⟩:=hp;obtain⟨x,y,z,rfl,h1,h2,h3⟩:=aIl hx;cases h2;cases h3;obtain⟨u,rfl⟩:=DN U6;have nn:bH (H++AX 1 (ah.gone 0)) H.length=1:=by simp[bH,ah.ver]
   have Cp:make (H++AX 1 (ah.gone 0)) H.length (.vec · 1 (aJ (nC 7 u)))=H++[.vec 1 1 (aJ (nC 7 u))]:=by simp[make,ah.ver]
   refine (aKr G3 cn (H0:=H++AX 1 (.gone 0)) (site:=Qr H.length) (s:=.sl Qt []) (av:=.sr H.length 1 (nC 7 u).length) (H':=H++[.vec 1 1 (aJ (nC 7 u))]) (wr:=[H.length]) u (by omega) hw hg (hw.more 1) h1 ?_).mono ?_
   ·simp only[eX,cG,dO,aIm,BT,BX,Zu,ne0];rw[Zy (by simp only[dF,Bool.true_and,AZ,BC,bP,decide_eq_true_eq];have:=Q2 u;omega)];simp only[List.length_append,List.length_replicate,Nat.lt_add_one,Zv,nn,AZ,BC,CW,Cp,ym]
   rintro e w' ⟨v,rfl,g',h4,h5⟩;have ki:∀o l,H.length<=o->g'.obj o=Qr l->w.heap.size<=l.b:=fun o l ho hl=>by
    rcases h4.mc o l hl with h1 | ⟨l0,h0,_⟩
    ·exact h1
    have:=hw.lt o l0 h0;omega
   obtain⟨g2,k1,k2⟩:=aI7 (base:=H.length) (n0:=w.heap.size) ki h4.wf (v:=.sr H.length 1 (nC 7 u).length) (v':=.own 1 (aJ (nC 7 u))) (H':=H++[.gone 1]) (l:=[H.length]) (by
    have h1:(H++[ah.vec 1 1 (aJ (nC 7 u))])[H.length]? = Qr (.vec 1 1 (aJ (nC 7 u))):=by simp
    unfold aDR;simp only[h1,Nat.lt_irrefl,Zu];rw[Zy ⟨trivial,ym u,AQ _,aGi _⟩];simp[dL,ah.ver]) h5
   have hu:(AV.own 1 (aJ (nC 7 u))).under H.length=true:=by
    show eR H.length (aJ (nC 7 u))=Qt;generalize nC 7 u=l
    induction l with
    |nil=>rfl
    |cons a l ih=>show (dJ H.length [.int .u8 a.toNat]&&eR H.length (aJ l))=Qt;rw[ih];rfl
   have h6:=Step.narrow (wr:=[]) hw.lt (h4.trans k1) (fun i hi sw=>by simp at hi;omega);refine⟨g2.cut H.length, ?_, ?_⟩
   ·have:=Step.cut hw h6 (fun o ho=>by cases ho);simpa [eU]using this
   have:=pN.cut (n:=H.length) k2 hu;simpa [eU]using this
  cases hp
 cases hp
end Go.Proofs.Sa
end
section
namespace Go.AM
open Go
def aXY(f:Nat):LN:=match f with
 |3=>[3]
 |4=>[2,22,4,7,10,58,13,81,98,104]
 |5=>[6,19,7,24]
 |6=>[6,9,38,43]
 |8=>[7,44]
 |9=>[25,60,75]
 |12=>[4,5]
 |13=>[4,6,9]
 |14=>[3]
 |15=>[4,5,28,58,68]
 |18=>[19]
 |21=>[6]
 |25=>[13,5,7,9,11]
 |26=>[0,1]
 |27=>[1,6,7,8,9,23,10]
 |28=>[2,3]
 |31=>[59]
 |38=>[28]
 |39=>[4,5]
 |40=>[2]
 |41=>[2,3,29,34]
 |42=>[81,83,2,3,18,35,58,69,84]
 |43=>[2,3,12,57,61,66]
 |44=>[23]
 |47=>[4,7,9,13,15]
 |49=>[2,7,11]
 |53=>[3]
 |54=>[5]
 |55=>[5,16]
 |56=>[13]
 |62=>[3]
 |66=>[1]
 |68=>[1]
 |72=>[9,11]
 |74=>[3]
 |75=>[14]
 |77=>[4,39]
 |81=>[4,7,46]
 |84=>[4]
 |85=>[5,23]
 |87=>[1]
 |88=>[9,16,23,28,39,46]
 |89=>[8]
 |90=>[4,22,5,25,6]
 |91=>[5,6,7,8]
 |100=>[2,3]
 |101=>[2,3]
 |103=>[9]
 |120=>[14]
 |121=>[9,11]
 |123=>[5]
 |124=>[5]
 |125=>[9]
 |129=>[5]
 |130=>[5]
 |131=>[5]
 |137=>[2,5,32,4]
 |142=>[5,6,7,25,34]
 |145=>[6]
 |146=>[2]
 |147=>[26]
 |150=>[2,3]
 |153=>[2]
 |154=>[2,4,47]
 |156=>[30,36]
 |157=>[2]
 |158=>[2,4,5,3]
 |160=>[26,32]
 |161=>[2]
 |162=>[2,3,37,42,48]
 |164=>[16]
 |165=>[2]
 |166=>[4,3]
 |169=>[4,5,9,6]
 |172=>[1,2,3,4,5,7]
 |173=>[1,3,9,4]
 |176=>[2,3]
 |182=>[2,3]
 |186=>[8,9]
 |222=>[7,18,30,39,44,54,69,85]
 |223=>[2,3,4,13]
 |228=>[34,35,36,48,49,22]
 |229=>[2,3,4]
 |230=>[12]
 |235=>[8,9]
 |250=>[94,11]
 |251=>[5]
 |253=>[2,7,5,11]
 |254=>[10]
 |255=>[10]
 |257=>[3,4,5,6]
 |260=>[31]
 |276=>[9]
 |277=>[13]
 |281=>[12,98]
 |284=>[14,20]
 |285=>[2,3]
 |287=>[3]
 |294=>[10]
 |295=>[10]
 |296=>[15]
 |297=>[15]
 |303=>[16]
 |304=>[100,101,163,210,230]
 |312=>[9]
 |313=>[17,7,27]
 |314=>[2,4,5]
 |319=>[5]
 |331=>[2]
 |358=>[5]
 |361=>[5]
 |367=>[85]
 |373=>[11]
 |374=>[11]
 |375=>[2]
 |376=>[14]
 |390=>[6]
 |411=>[27]
 |_=>[]
def bC1(f r:Nat):List (Nat×Nat):=match f,r with
 |5,8=>[(1,6)]
 |6,14=>[(0,7)]
 |9,14=>[(1,6)]
 |9,25=>[(0,6)]
 |42,13=>[(1,94)]
 |158,3=>[(1,3)]
 |260,18=>[(0,9)]
 |_,_=>[]
def nlK(f:Nat):Bool:=match f with
 |9 | 19 | 25 | 49 | 121 | 218 | 250 | 253 | 254 | 367=>Qt
 |_=>Qu
def tyK(f:Nat):LN:=match f with
 |25=>[165,181,167,195,141,143,5]
 |75=>[165,181,167,195,141,143,5]
 |120=>[165,181,167,195,141,143,5]
 |254=>[165,181,167,195,141,143,5]
 |_=>[]
def aXZ:LN:=[222,255,284,313]
def aO4(f:Nat):Option aIP:=match f with
 |127=>Qr (fB 141 143)
 |76=>Qr (aAh 5)
 |167=>Qr (aNR 141 5)
 |89=>Qr aKm
 |289=>Qr aYu
 |282=>Qr aE7
 |248=>Qr aAi
 |126=>Qr sC
 |313=>Qr oN
 |_=>Qs
def vi0(n:Int):AV:=.int .i64 n
def bAN:LA:=[[119,104,111,108,101],[101,110,116,114,121],[105,110,115,105,100,101],[108,101,102,116],[108,111,110,103,101,114],[98,97,114],[114,111,119]].map AV.str
def bAO:LA:=[vi0 0,vi0 999999,vi0 4,.int .u8 0,vi0 0,vi0 25,vi0 4,.int .u8 0,vi0 1,vi0 0,vi0 3,.int .u8 45,vi0 2,vi0 0,vi0 1,.int .u8 43,vi0 2,vi0 0,vi0 1,.int .u8 45,vi0 2,vi0 0,vi0 2,.int .u8 42,vi0 2,vi0 0,vi0 2,.int .u8 47,vi0 2,vi0 0,vi0 3,.int .u8 94,vi0 1,vi0 0,vi0 4,.int .u8 82,vi0 2,vi0 0,vi0 0,.int .u8 61,vi0 2,vi0 0,vi0 0,.int .u8 60]
def bAP:LA:=[[],[],[110,101,103],[43],[45],[42],[47],[94],[114,111,111,116],[61],[60]].map AV.str
def bAQ:LA:=[[100,111,116],[108,105,110,101],[97,114,101,97]].map AV.str
def bAR:LA:=[[99,104,111,105,99,101],[99,111,117,110,116],[111,112,101,110]].map AV.str
def aT4(b:Int)(f:Nat):AV:=.agg [vi0 b,.fn f [] []]
def aUy:LA:=[.fmp [vi0 0,vi0 1,vi0 2,vi0 3,vi0 4,vi0 5,vi0 6] [aT4 (-1) 378,aT4 (3) 380,aT4 (4) 382,aT4 (4) 384,aT4 (4) 385,aT4 (5) 386,aT4 (6) 388]]
def aZA(n:Nat):Option LA:=match n with
 |0=>Qr bAN
 |4=>Qr bAO
 |1=>Qr bAP
 |2=>Qr bAQ
 |3=>Qr bAR
 |5=>Qr aUy
 |7=>Qr (EB.map fun z=>AV.int .u64 z)
 |_=>Qs
def aBx:cu:=⟨aZA,Qu,[],aXZ⟩
noncomputable def fnK(f:Nat):Option bw:=match f with
 |249=>Qr nI
 |f=>match Go.Proofs.Tryz.prog.funcs[f]? with
  |some F=>match F.body,aNz Go.Proofs.Tryz.prog F.results.toList with
   |some b,Qr rs=>Qr ⟨F.ntmps,aXY f,rs,nR Go.Proofs.Tryz.prog { aBx with nl:=nlK f,typed:=tyK f } (bC1 f) b⟩
   |_,_=>Qs
  |none=>Qs
noncomputable def AK:af:=⟨fnK,aO4⟩
theorem aRR:(Go.Proofs.Tryz.prog.funcs.toList.all fun F => !(F.name == "runtime.NumGoroutine"))=true:=by kernel_rfl
theorem aUz{f:Nat}{F:Func}(h:Go.Proofs.Tryz.prog.funcs[f]? = Qr F):(F.name == "runtime.NumGoroutine")=false:=by have:=AO.1 aRR F (by rw[Array.mem_toList_iff];exact Array.mem_of_getElem? h);simpa using this
theorem aY0{f:Nat}{fn:bw}(bl:f≠249)(h:fnK f=Qr fn):aMT Go.Proofs.Tryz.prog aBx f fn:=by
 unfold fnK at h;split at h
 ·exact Zw rfl bl
 split at h
 ·rename_i F hF;split at h
  ·rename_i b rs hb hr;cases h;exact⟨F,b,bC1 f,nlK f,tyK f,aXZ,hF,aUz hF,hb,rfl,rfl,hr⟩
  cases h
 cases h
theorem bC2:Go.Proofs.Tryz.prog.globalNamed "internal/strconv.uint64pow10" = Qr 7:=by kernel_rfl
theorem aRS:Good Go.Proofs.Tryz.prog aBx AK where
 mixed:=by kernel_rfl
 A5:=⟨by kernel_rfl,by kernel_rfl⟩
 fn:=fun f fn h=>by
  by_cases e:f=249
  ·subst e;exact .inr (Go.Proofs.Sa.yu rfl rfl)
  exact .inl (aY0 e h)
 bq:=fun f p h=>by
  have h:aO4 f=Qr p:=h;unfold aO4 at h;split at h
  ·cases h;exact Go.Proofs.Sa.uq
  ·cases h;exact Go.Proofs.Sa.zn
  ·cases h;exact Go.Proofs.Sa.G5
  ·cases h;exact Go.Proofs.Sa.G2
  ·cases h;exact Go.Proofs.Sa.A9
  ·cases h;exact Go.Proofs.Sa.A8
  ·cases h;exact Go.Proofs.Sa.vv
  ·cases h;exact Go.Proofs.Sa.G4 bC2 rfl
  ·cases h;exact Go.Proofs.Sa.xx bC2 rfl
  cases h
def aJi:AV->LO->LN->Bool:=fun v H wr=>match v,H,wr with | .bool Qt,[],[]=>Qt | _,_,_=>Qu
def bFA:AV->LO->LN->Bool:=fun v H wr=>match v,H,wr with | .int .i64 0,[],[]=>Qt | _,_,_=>Qu
def kHi:AV->LO->LN->Bool:=fun v H wr=>match v,H,wr with | .tup [.str [72,105],.int .i64 0],[],[]=>Qt | _,_,_=>Qu
def bGR:AV:=.sl Qu []
def blK:LA:=[vi0 0,.sl Qu [[vi0 0,.str [72,105]]],vi0 0,vi0 0,bGR,vi0 0,bGR,bGR,vi0 0,vi0 0,bGR,bGR,bGR]
def fcK:LA:=[vi0 0,vi0 0,vi0 0,vi0 0]
def bGS:LA:=[.str [97],.sl Qu [blK],.sl Qu [fcK],.sl Qu [[vi0 2,.sl Qu [[vi0 0,.str [87,104,97,116,63]]],bGR,.sl Qu [[vi0 0]],.str [72,105],vi0 0,bGR]]]
def bGj:LA:=[.agg [.str [120],.sl Qu [[.str [97],.sl Qu [blK],bGR,bGR]]]]
def bGk:LA:=[.agg [.str [84,101,115,116],.sl Qu [bGS]]]
def bGl:LA:=[.agg [.str (AX 100 116),.sl Qu [bGS]]]
def bGm:LA:=[.agg bGS,.agg fcK]
end Go.AM
end
