/- Part 3: lemmas for the last text. -/
import Derived.Test.YtdljbhnhogpopaaGreatDoorK01
import Derived.Test.YtdljbhnhogpopaaGreatDoorK02
import Derived.Lib.Bytealg
import Derived.Shelf.Strings.Builder1
import Derived.Shelf.Strings.Builder2
import Derived.Shelf.Strings.OnBuilder
import Derived.Shelf.Small.Strs
import Derived.Shelf.Strconv.Itoa0
import Derived.Shelf.Strconv.Itoa1
import Derived.Shelf.LaysM
import Derived.Shelf.Strconv.Itoa2
import Derived.Shelf.Strconv.Itoa3
import Derived.Shelf.Strings.Search1
import Derived.Shelf.Strings.Search2
import Derived.Shelf.Strings.Search3
import Derived.Shelf.Strings.Count
import Derived.Shelf.Strings.Shaped
import Derived.Shelf.Strconv.AppendUint10
import Derived.Shelf.Unicode.DecodeSlow
import Derived.Test.YtdljbhnhogpopaaGreatDoorProg
import Derived.WalkKit
import Derived.Lib.Walk
import Derived.Lib.SliceRun
import Derived.Lib.Builder
import Derived.Lib.UnsafeStr
import Derived.Lib.MakeNoZero
import Derived.Lib.ItoaNum
import Derived.Laws.LoneSync
import Derived.Laws.Externs
import Derived.Laws.IdiomCopy
import Derived.Shelf.RegionOpenPlain
import Derived.RegionTactic
import Derived.RegionCalls
import Derived.Deep.Draws
import Derived.Tactics
import Derived.Tactics2
import Derived.Defers
import Derived.Laws.Pointers
import Derived.ChangeAlike
import Derived.ProofKit
set_option linter.defProp false
set_option linter.unusedVariables false
set_option linter.unusedSimpArgs false
set_option maxHeartbeats 12800000
set_option maxRecDepth 100000
open Array renaming getD_eq_getD_getElem? -> CR, getElem?_setIfInBounds -> HL, ext_getElem? -> MS, getElem?_modify -> DJ, getElem?_eq_some_iff -> KM, replicate -> NW, getElem?_eq_none -> DV, size_push -> OA, getElem?_push -> FE, size_replicate -> HG
open Bool renaming and_eq_true -> AI, false_eq_true -> BX, false_and -> BQ, true -> Pa, false -> Po
open ByteArray renaming empty -> Js
open Go renaming Program -> CU, World -> BL, Value -> BE, Deferred -> HU, undef -> EE, Calls -> FV, Addr -> IA, run_callFunc_extern -> OU, run_call_load -> J4, run_call_mark0 -> PY, run_call_marked -> PV, run_convert_to_unsafe -> NZ, bodyPost_ret -> Mt, results_none -> Mu, IntKind -> DK, TypeId -> BP, run_underlying -> BH
open Go.Act renaming eval -> M7
open Go.Addr.mk renaming injEq -> OB
open Go.Builtin renaming unsafeSliceData_ -> KN, unsafeString_ -> LM, append_ -> DA
open Go.Code renaming roundsIn -> LL
open Go.Deferred renaming ofValue -> JF
open Go.Exit renaming inBlock -> Cb
open Go.Extern.AbiNoEscape renaming same -> NY
open Go.Extern.BytealgMakeNoZero renaming makeNoZero -> MA
open Go.Fence renaming wide -> FJ
open Go.Instr renaming enterLoop -> JZ
open Go.IntKind renaming i64 -> AR, wrap_i64 -> MU
open Go.Lib renaming indexByte -> EV, countByte -> PC, join -> OT, TabIs -> OL, pow10Tab -> EB, itoa -> MT, pow10Tab_length -> DW, decDigits -> DT, cell_of_heap -> ID, alloc_old -> PD, frozen_of_heap -> NK, byteCells -> HZ, nDigits -> GO, zeros24 -> GP, decDigits_length -> MW, run_eql_slice_nil -> Bw
open Go.Obj.cells renaming injEq -> Mq
open Go.Oper renaming upon_value -> KF
open Go.Program renaming arrayLen -> MV
open Go.Result renaming andThen -> DL, andThen_ok -> BJ
open Go.Sem renaming run_bind -> BS, run_pure -> CB
open Go.Shelf renaming Ren -> HK
open Go.Sort renaming grow -> LF
open Go.TypeDesc renaming slice -> C6
open Go.Value renaming int -> EJ
open Go.World renaming putObj_heap_other -> GK, cell? -> EF, setCell -> FR, setCells -> IZ, putObj_heap_same -> LR, shape? -> LU, size_setCell -> JE, cell?_setCell_other -> KR
open Int renaming eq_ofNat_of_zero_le -> DN
open List renaming getElem?_map -> BN, getElem?_eq_none -> CY, rec -> IU, getElem?_cons_succ -> CT, replicate -> AX, range' -> FM, mem_cons -> BD, mem_append -> AY, getElem?_append_left -> BM, not_mem_nil -> CC, getElem?_eq_getElem -> AP, append_nil -> AJ, all_eq_true -> AO, nil_append -> CW, getElem?_eq_some_iff -> AH, map_cons -> BI, map_nil -> BY, set_cons_succ -> GL, set_cons_zero -> GM, getElem?_cons_zero -> BG, length_map -> AF, length_nil -> AZ
open List.cons renaming injEq -> JG
open Nat renaming beq -> EY, le_max_left -> GJ, le_max_right -> GC, eq_of_beq_eq_true -> ET, le_refl -> AQ, add_zero -> DU, strongRecOn -> KK, lt_succ_self -> HR, zero_add -> BC, lt_or_ge -> MH, mul_one -> FK, add_assoc -> EU
open Option renaming rec -> JA, map_some -> DE, map_eq_some_iff -> EL, getD_some -> EN, some -> N1, none -> N2
open Option.some renaming injEq -> AG
open Prod.mk renaming injEq -> BK
open UInt8 renaming ofNat -> CN
open Bool renaming not_true -> BT
section
namespace Go.AM
open Go
def aG8(b:Nat)(s:LN)(d:Option Nat):((Ctx.mk b s).site d).isSome=((Ctx.mk 0 s).site d).isSome:=by
 unfold Ctx.site;cases d with
 |none=>rfl
 |some t=>cases h:s.idxOf? t<;>simp[h]
def aES{s s':Option Nat}(h:s.isSome=s'.isSome)(op:df):looks s op=looks s' op:=by cases op<;>first | rfl | (simp only[looks,h])
def aG9(b:Nat)(s:LN)(o:ae):aBG ⟨b,s⟩ o=aBG ⟨0,s⟩ o:=by
 have h:=aG8 b s o.dst;unfold aBG;generalize (Ctx.mk b s).site o.dst=x at h ⊢;generalize (Ctx.mk 0 s).site o.dst=y at h ⊢;cases x<;>cases y<;>simp at h
 ·rfl
 cases o.op<;>rfl
def aGa(b:Nat)(s:LN)(aq:LN)(o:ae)(i:Nat)(p:ae)(j:Nat):aG4 ⟨b,s⟩ aq o i p j=aG4 ⟨0,s⟩ aq o i p j:=by unfold aG4;rw[aG9 b,aG9 b,aES (aG8 b s o.dst),aES (aG8 b s p.dst)]
def aGb(b:Nat)(s:LN)(ops:List ae):aBH ⟨b,s⟩ ops=aBH ⟨0,s⟩ ops:=by unfold aBH;simp only[aGa b]
def aET(b:Nat)(s:LN)(aq:LN):∀(ops:List ae) (i:Nat),aCd ⟨b,s⟩ aq i ops=aCd ⟨0,s⟩ aq i ops
 | [],_=>rfl
 |o::r,i=>by
  unfold aCd;simp only[aGa b];rw[aET b s aq r]
def iV(N b:Nat)(s:LN):∀x:ag,dK N ⟨b,s⟩ x=dK N ⟨0,s⟩ x
 |.region d ops=>by simp only[dK,aGb b,aET b]
 |.seq x y=>by simp only[dK,iV N b s x,iV N b s y]
 |.cond _ x y=>by simp only[dK,iV N b s x,iV N b s y]
 |.block _ x=>by simp only[dK,iV N b s x]
 |.loop x=>by simp only[dK,iV N b s x]
 |.frz _ | .skip | .bad | .exit _ | .ret | .dz _ _ _=>rfl
abbrev KE:=bf->KT->LO->LN->Bool
noncomputable def aRo(ih:KT->LO->LN->KE->Bool)(m:Nat):KT->LO->LN->KE->Bool:=
 Nat.rec (motive:=λ_=>KT->LO->LN->KE->Bool) (λ_ _ _ _=>Po)
  (λ_ again tr H wr Q=>ih tr H wr λe tr H wr=>bf.casesOn (motive:=λ_=>Bool) e (again tr H wr Q) (λid=>Q (.exit id) tr H wr) (Q .ret tr H wr)) m
noncomputable def aTQ(x:aa)(ρ:bN)(a b:Bool):Bool:=match x.at ρ with
 |.bool t=>bif t then a else b
 |_=>Po
noncomputable def aLH(K:pV)(c:Ctx)(d:Bool)(ops:List ae)(tr:KT)(H:LO)(wr:LN)(Q:KE):Bool:=
 bif d then aFz (cS c H ops) λH0=>aRn K c (aBH ⟨0,c.sites⟩ ops) ops 0 tr H0 wr λtr H wr log=>eH (λj=>((ops[j]?).map ae.pre).getD []) log&&Q .normal tr H wr
 else aYt K c ops tr H wr (Q .normal)
def aPc(N:Nat)(ρ:bN):LA:=(List.range N).map ρ
def aPd{N:Nat}{l:LA}(hl:l.length=N):aPc N (ck l)=l:=by
 subst hl;apply List.ext_getElem?;intro i;unfold aPc;rw[BN];by_cases h:i<l.length
 ·rw[List.getElem?_range h];simp[ck,h]
 rw[CY (by simpa using h),CY omT];rfl
noncomputable def aPe(K:pV)(N:Nat)(c:Ctx)(x:aa)(ps:LN)(body:ag)(tr:KT)(H:LO)(wr:LN)(Q:KE):Bool:=
 match x.at (toF tr)with
 |.fn f first ay=>aFz (c.site ps.head?) λid=>bif decide (id<H.length)&&eZ c H then
   K f (first++.yld id (bH H id)::ay) (make H id λv=>.rnd v c.base c.sites ps body (aPc N (toF tr)) Po N2) λ_ H2 ba=>
    match H2[id]? with
    |some (.rnd v _ _ _ _ _ Po pend)=>bif EY v (bH H id)&&eZ c H2 then Q (pend.getD .normal) tr (H2.set id (.gone v)) (bE c.base wr (id::ba))else Po
    |_=>Po
  else Po
 |_=>Po
noncomputable def aHv(K:pV)(m N:Nat)(c:Ctx)(x:ag):KT->LO->LN->KE->Bool:=
 ag.rec (motive:=λ_=>KT->LO->LN->KE->Bool)
  (λtr H wr Q=>Q .normal tr H wr)
  (λ_ _ _ _=>Po)
  (λd ops tr H wr Q=>aLH K c d ops tr H wr Q)
  (λ_ _ iha ihb tr H wr Q=>iha tr H wr λe tr H wr=>bf.casesOn (motive:=λ_=>Bool) e (ihb tr H wr Q) (λid=>Q (.exit id) tr H wr) (Q .ret tr H wr))
  (λx _ _ iha ihb tr H wr Q=>aTQ x (toF tr) (iha tr H wr Q) (ihb tr H wr Q))
  (λid _ ih tr H wr Q=>ih tr H wr λe tr H wr=>bf.casesOn (motive:=λ_=>Bool) e (Q .normal tr H wr) (λid'=>bif EY id' id then Q .normal tr H wr else Q (.exit id') tr H wr) (Q .ret tr H wr))
  (λ_ ih tr H wr Q=>aRo ih m tr H wr Q)
  (λid tr H wr Q=>Q (.exit id) tr H wr)
  (λtr H wr Q=>Q .ret tr H wr)
  (λts tr H wr Q=>aTP c ts tr H wr (Q .normal))
  (λx ps body _ tr H wr Q=>aPe K N c x ps body tr H wr Q) x
section
variable {A:af}{K:pV}{m:Nat}{c:Ctx}{N:Nat}
def toQ(Q:KE):bf->bN->LO->LN->Prop:=λe ρ H wr=>∃tr,ρ=toF tr/\Q e tr H wr=Pa
def aGc{b:ag}{ih:KT->LO->LN->KE->Bool}(hok:dK N c b=Pa) (hb:∀{tr:KT} {H:LO} {wr:LN} {Q:KE},ih tr H wr Q=Pa->Wp A N c b (toF tr) H wr (toQ Q)):∀(m:Nat) {tr:KT} {H:LO} {wr:LN} {Q:KE},aRo ih m tr H wr Q=Pa->Wp A N c (.loop b) (toF tr) H wr (toQ Q)
 |0,tr,H,wr,Q,h=>by cases h
 |m+1,tr,H,wr,Q,h=>by
  have h1:=hb (show ih tr H wr (λe tr H wr=>bf.casesOn (motive:=λ_=>Bool) e (aRo ih m tr H wr Q) (λid=>Q (.exit id) tr H wr) (Q .ret tr H wr))=Pa from h);intro l hl he;obtain⟨n,e,s',g1,g2,tr1,g3,g4⟩:=h1 l hl he;cases e with
  |normal=>obtain⟨n2,e',s'',k1,k2,k3⟩:=aGc hok hb m g4 s'.ρ g2 g3;refine⟨max n n2+1,e',s'', ?_,k2,k3⟩;rw[gU,eJ (GJ n n2) _ _ _ _ g1];exact eJ (GC n n2) _ _ _ _ k1
  |exit id=>exact⟨n+1,.exit id,s',by rw[gU,g1],g2,tr1,g3,g4⟩
  |ret=>exact⟨n+1,.ret,s',by rw[gU,g1],g2,tr1,g3,g4⟩
def iW(hK:KOk A K):∀(x:ag) {tr:KT} {H:LO} {wr:LN} {Q:KE},dK N c x=Pa->aHv K m N c x tr H wr Q=Pa->Wp A N c x (toF tr) H wr (toQ Q)
 |.skip,tr,H,wr,Q,hok,h=>λl hl he=>⟨1,.normal,⟨l,H,wr⟩,rfl,hl,tr,he,h⟩
 |.bad,tr,H,wr,Q,hok,h=>by cases h
 |.region d ops,tr,H,wr,Q,hok,h=>by
  have h':aLH K c d ops tr H wr Q=true:=h;refine kM ?_ hok;unfold aLH at h';cases d with
  |false=>simp only[cond_false]at h';rw[wpc];exact aE2 hK ops h'
  |true=>simp only[cond_true]at h';obtain⟨H0,h1,h2⟩:=fX h';rw[wpc,h1];dsimp only;have e:c=⟨c.base,c.sites⟩:=rfl;rw[show aBH c ops=aBH ⟨0,c.sites⟩ ops from aGb c.base c.sites ops];refine aCf hK ops (λtr H wr log hh=>?_) h2;rw[AI]at hh;exact⟨hh.1,tr,rfl,hh.2⟩
 |.seq a b,tr,H,wr,Q,hok,h=>by
  simp only[dK,AI]at hok;have h':aHv K m N c a tr H wr (λe tr H wr=>bf.casesOn (motive:=λ_=>Bool) e (aHv K m N c b tr H wr Q) (λid=>Q (.exit id) tr H wr) (Q .ret tr H wr))=true:=h;intro l hl he;obtain⟨n,e,s',g1,g2,tr1,g3,g4⟩:=iW hK a hok.1 h' l hl he;cases e with
  |normal=>obtain⟨n2,e',s'',k1,k2,k3⟩:=iW hK b hok.2 g4 s'.ρ g2 g3;refine⟨max n n2+1,e',s'', ?_,k2,k3⟩;rw[iD,eJ (GJ n n2) _ _ _ _ g1];exact eJ (GC n n2) _ _ _ _ k1
  |exit id=>exact⟨n+1,.exit id,s',by rw[iD,g1],g2,tr1,g3,g4⟩
  |ret=>exact⟨n+1,.ret,s',by rw[iD,g1],g2,tr1,g3,g4⟩
 |.cond x a b,tr,H,wr,Q,hok,h=>by
  simp only[dK,AI]at hok;have h':aTQ x (toF tr) (aHv K m N c a tr H wr Q) (aHv K m N c b tr H wr Q)=true:=h;unfold aTQ at h';split at h'
  ·rename_i t hx;intro l hl he;have ht:x.ev l=x.at (toF tr):=by rw[<- he];exact x.ka l
   cases t with
   |true=>obtain⟨n,e,s',g1,g2⟩:=iW hK a hok.1 h' l hl he;exact⟨n+1,e,s',by rw[iT];dsimp only;rw[ht,hx];exact g1,g2⟩
   |false=>obtain⟨n,e,s',g1,g2⟩:=iW hK b hok.2 h' l hl he;exact⟨n+1,e,s',by rw[iT];dsimp only;rw[ht,hx];exact g1,g2⟩
  cases h'
 |.block id b,tr,H,wr,Q,hok,h=>by
  simp only[dK]at hok;have h':aHv K m N c b tr H wr (λe tr H wr=>bf.casesOn (motive:=λ_=>Bool) e (Q .normal tr H wr) (λid'=>bif EY id' id then Q .normal tr H wr else Q (.exit id') tr H wr) (Q .ret tr H wr))=true:=h;intro l hl he;obtain⟨n,e,s',g1,g2,tr1,g3,g4⟩:=iW hK b hok h' l hl he;cases e with
  |normal=>exact⟨n+1,.normal,s',by rw[eP,g1],g2,tr1,g3,g4⟩
  |ret=>exact⟨n+1,.ret,s',by rw[eP,g1],g2,tr1,g3,g4⟩
  |exit id'=>
   dsimp only at g4;cases hb:EY id' id with
   |true=>rw[hb]at g4;exact⟨n+1,.normal,s',by rw[eP,g1];dsimp only;rw[Zy (ET hb)],g2,tr1,g3,g4⟩
   |false=>rw[hb]at g4;exact⟨n+1,.exit id',s',by rw[eP,g1];dsimp only;rw[Zx (Nat.ne_of_beq_eq_false hb)],g2,tr1,g3,g4⟩
 |.loop b,tr,H,wr,Q,hok,h=>by
  simp only[dK]at hok;exact aGc hok (λh=>iW hK b hok h) m (show aRo (aHv K m N c b) m tr H wr Q=Pa from h)
 |.exit id,tr,H,wr,Q,hok,h=>λl hl he=>⟨1,.exit id,⟨l,H,wr⟩,rfl,hl,tr,he,h⟩
 |.ret,tr,H,wr,Q,hok,h=>λl hl he=>⟨1,.ret,⟨l,H,wr⟩,rfl,hl,tr,he,h⟩
 |.frz ts,tr,H,wr,Q,hok,h=>λl hl he=>by
  have h':aTP c ts tr H wr (Q .normal)=true:=h;obtain⟨s',tr',h1,h2,h3,h4⟩:=vK ts he h' (by rw[hl];exact hok);exact⟨1,.normal,s',by rw[vI,h1],by rw[h2,hl],tr',h3,h4⟩
 |.dz x ps body,tr,H,wr,Q,hok,h=>λl hl he=>by
  have h':aPe K N c x ps body tr H wr Q=true:=h;unfold aPe at h';have hx:x.ev l=x.at (toF tr):=by rw[<- he];exact x.ka l
  split at h'
  ·rename_i f first ay Qd
   obtain⟨id,hid,h1⟩:=fX h';cases hc:decide (id<H.length)&&eZ c H with
   |false=>simp only[hc,cond_false]at h1;cases h1
   |true=>
    simp only[hc,cond_true]at h1;rw[AI,decide_eq_true_eq]at hc;obtain⟨v,H2,ba,h2,h3⟩:=hK _ _ _ _ h1;obtain⟨n,hn⟩:=oM h2;rw[<- he,aPd hl]at hn;split at h3
    ·rename_i v2 b' s' p' c' r' pend hH2;cases hv:EY v2 (bH H id)&&eZ c H2 with
     |false=>simp only[hv,cond_false]at h3;cases h3
     |true=>simp only[hv,cond_true]at h3;rw[AI]at hv;have qy:=ET hv.1;refine⟨n+1,pend.getD .normal,⟨l,H2.set id (.gone v2),bE c.base wr (id::ba)⟩, ?_,hl,tr,he,h3⟩;rw[iU];dsimp only;rw[hx,Qd,hid];dsimp only;rw[Zy hc,hn];dsimp only;rw[hH2];dsimp only;rw[Zy ⟨qy,hv.2⟩]
    cases h3
  cases h'
end
noncomputable def aIe(args:LA):Nat->KT->KT:=
 IU (motive:=λ_=>Nat->KT->KT) (λ_ t=>t) (λa _ ih i t=>ih (i+1) (aTN (aG6 i) a t)) args
def aIf:∀(args:LA) (i:Nat) (t:KT),toF (aIe args i t)=λj=>if i<=j/\j<i+args.length then (args[j - i]?).getD .undef else toF t j
 | [],i,t=>by
  funext j;show toF t j=_;rw[Zx siT]
 |a::r,i,t=>by
  have h:toF (aIe r (i+1) (aLF (N1 i) a t))=_:=aIf r (i+1) (aLF (N1 i) a t);show toF (aIe r (i+1) (aLF (N1 i) a t))=_;rw[h,aBb];funext j;simp only[zX,upd,List.length_cons];by_cases h1:i+1<=j/\j<i+1+r.length
  ·rw[Zy h1,Zy omT,show j - i=(j - (i+1))+1 by omega,CT]
  rw[Zx h1];by_cases h2:j=i
  ·subst h2;rw[Zy rfl,Zy omT,Nat.sub_self];rfl
  rw[Zx h2,Zx omT]
def aKi(args:LA):toF (aIe args 0 .e)=pO args:=by
 rw[aIf];funext j;unfold pO;by_cases h:j<args.length
 ·rw[Zy omT,Nat.sub_zero]
 rw[Zx omT,CY omT];exact aMM _
noncomputable def aMR{α:Type}(l:List α)(k:List α->Bool):Bool:=
 IU (motive:=λ_=>(List α->Bool)->Bool) (λk=>k []) (λa _ ih k=>ih λr=>k (a::r)) l k
def aKj{α:Type}:∀(l:List α) (k:List α->Bool),aMR l k=k l
 | [],_=>rfl
 |a::r,k=>aKj r λr=>k (a::r)
noncomputable def bA6(base:Nat)(rs:List ou)(k:AV->LO->LN->Bool):KE:=λe tr H wr=>
 bf.casesOn (motive:=λ_=>Bool) e (aFz (iE base rs (toF tr) H wr) λr=>aMR (cJ base r).2.1 λH'=>k (cJ base r).1 H' (cJ base r).2.2) (λ_=>Po)
  (aFz (iE base rs (toF tr) H wr) λr=>aMR (cJ base r).2.1 λH'=>k (cJ base r).1 H' (cJ base r).2.2)
noncomputable def kFn(K:pV)(m:Nat)(fn:bw)(args:LA)(H:LO)(k:AV->LO->LN->Bool):Bool:=
 dK fn.ntmps ⟨0,fn.sites⟩ fn.body&&Nat.ble args.length fn.ntmps &&
  aHv K m fn.ntmps ⟨H.length,fn.sites⟩ fn.body (aIe args 0 .e) (H++AX fn.sites.length (.gone 0)) [] (bA6 H.length fn.results k)
def aPf:bf->Bool
 |.normal=>Pa
 |_=>Po
def aWX:bf->Option bf
 |.normal=>N2
 |e=>N1 e
noncomputable def aMS(K:pV)(m:Nat)(args:LA)(H:LO)(k:AV->LO->LN->Bool):Bool:=match args with
 |.own 0 []::.yld o v::xs=>match H[o]? with
  |some (.rnd v' base sites ps (.seq asg body) ρ Po N2)=>
   bif EY v' v&&EY xs.length ps.length&&(dK ρ.length ⟨0,sites++[YF+o,YF+v]⟩ asg&&dK ρ.length ⟨0,sites++[YF+o,YF+v]⟩ body)then
    aHv K m ρ.length ⟨base,sites++[YF+o,YF+v]⟩ asg (aIe (dH ρ ps xs) 0 .e) H [] λe0 tr0 H0 wr0=>bif aPf e0 then match H0[o]? with
     |some (.rnd v1 b1 t1 p1 c1 r1 Po N2)=>bif EY v1 v then
      aHv K m ρ.length ⟨base,sites++[YF+o,YF+v]⟩ body tr0 (H0.set o (.rnd v b1 t1 p1 c1 r1 Pa N2)) wr0 λe tr H' wr=>match H'[o]? with
       |some (.rnd v2 b2 s2 p2 c2 r2 Pa N2)=>bif EY v2 v then k (.bool (aPf e)) (H'.set o (.rnd v b2 s2 p2 c2 r2 Po (aWX e))) (FM base (H.length - base)++(o::wr))else Po
       |_=>Po
      else Po
     |_=>Po
     else Po
   else Po
  |_=>Po
 |_=>Po
def aAf:∀(ps:LN) (xs ρ:LA),(dH ρ ps xs).length=ρ.length
 | [],_,_=>by simp[dH]
 |_::_,[],_=>by simp[dH]
 |t::ps,x::xs,ρ=>by rw[dH,aAf ps xs];simp
def aKk{A:af}{K:pV}(hK:KOk A K){m:Nat}{f:Nat}{args:LA}{H:LO}{k}(hp:(A.bq f).bind (· args H)=N2)(hf:A.fn f=N2)(h:aMS K m args H k=Pa):∃v H' wr,aG A f args H=N1 (v,H',wr)/\k v H' wr=true:=by
 unfold aMS at h;split at h
 ·rename_i o v xs;split at h
  ·rename_i v' base sites ps asg body ρ hH;cases hc:EY v' v&&EY xs.length ps.length&&(dK ρ.length ⟨0,sites++[YF+o,YF+v]⟩ asg&&dK ρ.length ⟨0,sites++[YF+o,YF+v]⟩ body)with
   |false=>rw[hc]at h;cases h
   |true=>
    rw[hc,cond_true]at h;simp only[AI]at hc;obtain⟨⟨c1,c2⟩,c0,c3⟩:=hc;have e1:=ET c1;have e2:=ET c2;subst e1;have hok:dK ρ.length ⟨base,sites++[YF+o,YF+v']⟩ body=true:=by rw[iV];exact c3
    have Eh:dK ρ.length ⟨base,sites++[YF+o,YF+v']⟩ asg=true:=by rw[iV];exact c0
    have hw:=iW (N:=ρ.length) hK asg Eh h;rw[aKi]at hw;have Ei:ck (dH ρ ps xs)=pO (dH ρ ps xs):=by have:=aE0 (dH ρ ps xs) 0;simpa using this
    obtain⟨n0,e0,s0,a1,a2,tr0,a3,a4⟩:=hw (dH ρ ps xs) (aAf _ _ _) Ei;cases e0 with
    |exit id=>cases a4
    |ret=>cases a4
    |normal=>
    dsimp only[aPf,cond_true]at a4;split at a4;rotate_left
    ·cases a4
    rename_i v1 b1 t1 p1 c1' r1 xu;cases qy:EY v1 v' with
    |false=>rw[qy]at a4;cases a4
    |true=>
    rw[qy,cond_true]at a4;have:=ET qy;subst this;obtain⟨n1,e,s',h1,h2,tr,h3,h4⟩:=iW (N:=ρ.length) hK body hok a4 s0.ρ a2 a3;dsimp only at h4;split at h4
    ·rename_i v2 b2 s2 p2 c2' r2 hs;cases hv:EY v2 v1 with
     |false=>rw[hv]at h4;cases h4
     |true=>rw[hv,cond_true]at h4;have:=ET hv;subst this;refine⟨_,_,_,oL (n:=max n0 n1) ?_,h4⟩;unfold dD qL;rw[hp,hf];dsimp only;rw[aAe,hH];dsimp only;rw[Zy ⟨rfl,e2⟩,eJ (GJ n0 n1) _ _ _ _ a1];dsimp only;rw[xu];dsimp only;rw[Zy rfl,eJ (GC n0 n1) _ _ _ _ h1];dsimp only;rw[hs];dsimp only;rw[Zy rfl];cases e<;>rfl
    cases h4
  cases h
 cases h
noncomputable def aE3(A:af)(m n:Nat):pV:=
 Nat.rec (motive:=λ_=>pV) (λ_ _ _ _=>Po)
  (λ_ K f args H k=>JA (JA (aMS K m args H k) (λfn=>kFn K m fn args H k) (A.fn f)) (λr=>k (cT H r).1 (cT H r).2.1 (cT H r).2.2) ((A.bq f).bind (· args H))) n
def xG(A:af)(m:Nat):∀n,KOk A (aE3 A m n)
 |0,f,args,H,k,h=>by cases h
 |n+1,f,args,H,k,h=>by
  have h':(JA (JA (aMS (aE3 A m n) m args H k) (λfn=>kFn (aE3 A m n) m fn args H k) (A.fn f)) (λr=>k (cT H r).1 (cT H r).2.1 (cT H r).2.2) ((A.bq f).bind (· args H)):Bool)=true:=h;cases hp:(A.bq f).bind (· args H)with
  |some r=>rw[hp]at h';refine⟨_,_,_,oL (n:=0) ?_,h'⟩;unfold dD qL;rw[hp]
  |none=>
   rw[hp]at h';cases hf:A.fn f with
   |none=>rw[hf]at h';exact aKk (xG A m n) hp hf h'
   |some fn=>
    rw[hf]at h';have h2:kFn (aE3 A m n) m fn args H k=true:=h';unfold kFn at h2;simp only[AI]at h2;obtain⟨⟨hok,hN⟩,hc⟩:=h2;have Ej:dK fn.ntmps ⟨H.length,fn.sites⟩ fn.body=true:=by rw[iV];exact hok
    have Dv:args.length<=fn.ntmps:=Nat.le_of_ble_eq_true hN;have hw:=iW (N:=fn.ntmps) (xG A m n) fn.body Ej hc;rw[aKi]at hw;obtain⟨n1,e,s',h1,h2,tr,h3,h4⟩:=hw (args++AX (fn.ntmps - args.length) .undef) soT (aE0 _ _);have key:∀r,iE H.length fn.results (toF tr) s'.H s'.wr=N1 r->aA4 H.length fn s'=N1 r:=by intro r hr;rw[<- h3]at hr;unfold iE at hr;unfold aA4;rw[aJ6];exact hr
    have fin:(e=.normal∨e=.ret)->aFz (iE H.length fn.results (toF tr) s'.H s'.wr) (λr=>aMR (cJ H.length r).2.1 λH'=>k (cJ H.length r).1 H' (cJ H.length r).2.2)=Pa ->
      ∃v H' wr,aG A f args H=N1 (v,H',wr)/\k v H' wr=true:=by
     intro he hk;obtain⟨r,hr,hk⟩:=fX hk;rw[aKj]at hk;exact⟨_,_,_,oL (oU hp hf h1 he (key _ hr) Dv),hk⟩
    cases e with
    |normal=>exact fin (.inl rfl) h4
    |ret=>exact fin (.inr rfl) h4
    |exit id=>cases h4
section
variable {P:CU}{ab:cu}{g g':G}{H H':LO}{w w':BL}{W:LN}
def aCg{l0:Nat}{r0:Loop}(h:w.heap[l0]? = N1 (.loop r0))(fn:FuncId)(tmps:Array BE)(ps:Array Tmp)(assign body:Code):(JZ fn tmps ps assign body (N1 l0)).run P w = .ok (w.heap.size,[]) (w.alloc (.loop { state:=.ready,pending:=N2,fn,tmps,params:=ps,assign,body,defers:=r0.defers })):=by unfold JZ;simp only[BS,run_newObj_alloc,DL,CB,run_getLoop h]
def Step.xw(h:WF g H w)(x:Obj):Step g H w { g with whole:=λb=>if b=w.heap.size then N1 x else g.whole b } H (w.alloc x) []:=by
 have e:(w.alloc x).heap=w.heap.push x:=rfl;have hle:g.le { g with whole:=λb=>if b=w.heap.size then N1 x else g.whole b }:=by refine⟨λ_ _ _ hx=>hx,λo l hl=>⟨l,hl,AQ _,λ_=>⟨AQ _,λ_=>rfl⟩⟩,λb y hy=>?_,rfl,rfl⟩;have:=h.whole.lt hy;have bl:b≠w.heap.size:=omT;simp only[bl,Zu];exact hy
 have dx:∀o l y,au { g with whole:=λb=>if b=w.heap.size then N1 x else g.whole b } H o l y->au g H o l y:=λo l y hb=>⟨hb.Pr,hb.alive,hb.loc,hb.st⟩;refine⟨hle,⟨λb i y hy=>?_,h.lt,λo l hl=>?_,h.st,λo l y hb=>?_,λo l y hb=>h.jh o l y (dx o l y hb),λo o' l l' y y' hb du=>h.inj o o' l l' y y' (dx _ _ _ hb) (dx _ _ _ du),⟨λb y hy=>?_,h.whole.io⟩⟩,⟨by rw[e];simp,λb hb _=>cK e hb⟩,λ_ _ _=>rfl,AQ _,λ_ l' hl=>.inr ⟨l',hl,rfl⟩,λ_ _ _=>rfl⟩
 ·rw[cell_of_heap (cK e (h.ko hy))];exact h.perm b i y hy
 ·have:=h.blk o l hl;rw[e];simp;omega
 ·exact (h.obj o l y (dx o l y hb)).aq hle (cK e (h.blk o l hb.loc))
 by_cases hb:b=w.heap.size
 ·subst hb;simp only[Zv,AG]at hy;subst hy;refine⟨by rw[e];simp,λo l z hz hE=>?_⟩;have:=h.blk o l hz.loc;omega
 simp only[hb,Zu]at hy;obtain⟨h1,h2⟩:=h.whole.blocks b y hy;exact⟨by rw[cK e (h.whole.lt hy)];exact h1,λo l z hz=>h2 o l z (dx o l z hz)⟩
def Step.put(h:WF g H w){o:Nat}{l:Loc}{x x':ah}(hb:au g H o l x)(hv:x'.ver=x.ver)(j8:x'.alive=Pa)(ob:Obj) (la:g.le (g.setObj o l)->aBw (g.setObj o l) (w.putObj l.b ob) l x'):Step g H w (g.setObj o l) (H.set o x') (w.putObj l.b ob) [o]:=by refine Step.update h o x' l (h.lt o l hb.loc) siT (λb _ bl=>GK (Ne.symm (bl l x hb))) (by simpa using h.blk o l hb.loc) (.inr ⟨l,x,hb,rfl⟩) (by rw[hv];exact hb.st) j8 (λl0 sz=>?_) la;rw[hb.loc]at sz;cases sz;exact⟨AQ _,λ_=>⟨AQ _,λ_=>rfl⟩⟩
def Step.F8(h:WF g H w){o:Nat}{l:Loc}{x:ah}(hb:au g H o l x)(ob:Obj):Step g H w g (H.set o (.gone x.ver)) (w.putObj l.b ob) [o]:=by
 obtain⟨h1,h2⟩:=Step.drop h hb;have hh:∀b,b≠l.b->(w.putObj l.b ob).heap[b]? = w.heap[b]? := λb bl=>GK bl;have pj:=h1.wf;refine⟨G.le.refl g,⟨λb i y hy=>?_,pj.lt,λo' l' hl=>by simpa using pj.blk o' l' hl,pj.st,λo' l' y du=>(pj.obj o' l' y du).aq (G.le.refl g) (hh _ (h2 o' l' y du)),pj.jh,pj.inj,⟨λb y hy=>?_,pj.whole.io⟩⟩,⟨siT,λb du hw=>hh b λe=>hw o siT l hb.loc e.symm⟩,h1.same,h1.len,λo' l' hl=>.inr ⟨l',hl,rfl⟩,λ_ _ _=>rfl⟩
 ·have bl:b≠l.b:=λe=>by
   have:=h.jh o l x hb i;rw[<- e,hy]at this;cases this
  rw[cell_of_heap (hh b bl)];exact pj.perm b i y hy
 have bl:b≠l.b:=λe=>(h.whole.blocks b y hy).2 o l x hb e.symm;obtain⟨a1,a2⟩:=pj.whole.blocks b y hy;exact⟨by rw[hh b bl];exact a1,a2⟩
def oV(w:BL):LN->BL
 | []=>w
 |b::bs=>oV (w.putObj b (.deferred N2)) bs
def oW:∀(bs:LN) (w:BL) {b:Nat},b∉bs->(oV w bs).heap[b]? = w.heap[b]?
 | [],_,_,_=>rfl
 |c::bs,w,b,h=>by
  simp only[BD,not_or]at h;rw[oV,oW bs _ h.2,GK h.1]
def aCh:∀(bs:LN) (w:BL),(oV w bs).heap.size=w.heap.size
 | [],_=>rfl
 |c::bs,w=>by rw[oV,aCh bs];simp
def aGd:∀(bs:LN) (w:BL),(oV w bs).os=w.os/\(oV w bs).output=w.output
 | [],_=>⟨rfl,rfl⟩
 |c::bs,w=>by rw[oV];exact aGd bs _
def G.jb(g:G)(bs:LN):G:={ g with whole:=λb=>if b∈bs then N2 else g.whole b }
def ai.jb{bs:LN}(ss:∀b∈bs,g.whole b=N1 (.deferred (N1 []))){a:AV}{x:BE}(h:ai g a x):ai (g.jb bs) a x:=by
 induction h with
 |undef x=>exact .undef x
 |bool b=>exact .bool b
 |int k n=>exact .int k n
 |str s=>exact .str s
 |fn f first ay vf vc hf hc h1 h2 ih1 ih2=>exact .fn f first ay vf vc hf hc ih1 ih2
 |bx=>exact .bx
 |ptr o v off l a hl hv h=>exact .ptr o v off l a hl hv h
 |vp o v n k i off l a hl hv hn h=>exact .vp o v n k i off l a hl hv hn h
 |nilPtr=>exact .nilPtr
 |bj=>exact .bj
 |ifc t v x hv h ih=>exact .ifc t v x hv ih
 |ep row off b base bd hp h ih=>exact .ep row off b base bd hp ih
 |kn full=>exact .kn full
 |sl full rows b off cap k cm jo hk bd hp h ih=>exact .sl full rows b off cap k cm jo hk bd hp ih
 |sr o v n l a cap hl hv hn jg h=>exact .sr o v n l a cap hl hv hn jg h
 |srv o v n k lo l a cap hl hv hn gr h=>exact .srv o v n k lo l a cap hl hv hn gr h
 |srw o v n hi l a cap hl hv hn tf h=>exact .srw o v n hi l a cap hl hv hn tf h
 |ar=>exact .ar
 |mp o v l r hl hv h=>exact .mp o v l r hl hv h
 |fmp ks vs r entries clock xs hw hp hk hv h1 h2 ih1 ih2=>refine .fmp ks vs r entries clock xs ?_ hp hk hv ih1 ih2;show (if r∈bs then N2 else g.whole r)=_;rw[Zx λhm=>by rw[ss r hm]at hw;cases hw];exact hw
 |yld o v l r hl hv h=>exact .yld o v l r hl hv h
 |agg cs vs hs h ih=>exact .agg cs vs hs ih
 |tup cs vs hs h ih=>exact .tup cs vs hs ih
def aBw.jb{bs:LN}(ss:∀b∈bs,g.whole b=N1 (.deferred (N1 []))){l:Loc}{x:ah}(hb:w'.heap[l.b]? = w.heap[l.b]?)(h:aBw g w l x):aBw (g.jb bs) w' l x:=by
 cases x with
 |gone v=>trivial
 |box v cells=>obtain⟨h1,h2,h3⟩:=h;refine⟨h1,h2.of_heap hb,λj a ha=>?_⟩;obtain⟨y,hy,hr⟩:=h3 j a ha;exact⟨y,by rw[cell_of_heap hb];exact hy,hr.jb ss⟩
 |cw v ty cells=>obtain⟨h1,⟨cs,h2,zc⟩,h3⟩:=h;refine⟨h1,⟨cs,by rw[hb];exact h2,zc⟩,λj a ha=>?_⟩;obtain⟨y,hy,hr⟩:=h3 j a ha;exact⟨y,by rw[cell_of_heap hb];exact hy,hr.jb ss⟩
 |vec v k rows=>obtain⟨h1,h2,h3,h4,h5,h6,h7⟩:=h;refine⟨h1,h2,h3,h4.of_heap hb,h5,λj hj=>by rw[cell_of_heap hb];exact h6 j hj,λi j row a hr ha=>?_⟩;obtain⟨hs,y,hy,hv⟩:=h7 i j row a hr ha;exact⟨hs,y,by rw[cell_of_heap hb];exact hy,hv.jb ss⟩
 |gl v ty k rows=>obtain⟨⟨h1,h2,h3,h4,h5,h6,h7⟩,cs,h8⟩:=h;refine⟨?_,cs,by rw[hb];exact h8⟩;refine⟨h1,h2,h3,h4.of_heap hb,h5,λj hj=>by rw[cell_of_heap hb];exact h6 j hj,λi j row a hr ha=>?_⟩;obtain⟨hs,y,hy,hv⟩:=h7 i j row a hr ha;exact⟨hs,y,by rw[cell_of_heap hb];exact hy,hv.jb ss⟩
 |map v es=>obtain⟨h1,entries,clock,h2,h3,h4⟩:=h;exact⟨h1,entries,clock,by rw[hb];exact h2,h3,λi k v e hk he=>⟨(h4 i k v e hk he).1.jb ss,(h4 i k v e hk he).2.jb ss⟩⟩
 |rnd v base sites ps body ρ busy pend=>obtain⟨h1,r,h2,h3,h4,h5,h6,h7,h8,h9⟩:=h;exact⟨h1,r,by rw[hb];exact h2,h3,h4,h5,h6,h7,h8,λt=>(h9 t).jb ss⟩
def Step.marks{g0:G}{H0:LO}{w0:BL}(h0:WF g0 H0 w0)(h:Step g0 H0 w0 g H w W){bs:LN}(ss:∀b∈bs,w0.heap.size<=b/\g.whole b=N1 (.deferred (N1 []))):Step g0 H0 w0 (g.jb bs) H (oV w bs) W:=by
 have dp:∀b∈bs,g.whole b=N1 (.deferred (N1 [])):=λb hb=>(ss b hb).2;have dx:∀o l y,au (g.jb bs) H o l y->au g H o l y:=λo l y hb=>⟨hb.Pr,hb.alive,hb.loc,hb.st⟩;have yh:∀o l y,au g H o l y->l.b∉bs:=λo l y hb hm=>(h.wf.whole.blocks l.b _ (dp _ hm)).2 o l y hb rfl;refine⟨⟨λb i x hx=>h.le.perm b i x hx,λo l hl=>h.le.obj o l hl,λb x hx=>?_,h.le.io,h.le.code⟩,⟨λb i y hy=>?_,h.wf.lt,λo l hl=>by rw[aCh];exact h.wf.blk o l hl,h.wf.st,λo l y hb=>?_,λo l y hb=>h.wf.jh o l y (dx _ _ _ hb),λo o' l l' y y' hb du=>h.wf.inj o o' l l' y y' (dx _ _ _ hb) (dx _ _ _ du),⟨λb y hy=>?_, ?_⟩⟩,⟨by rw[aCh];exact h.frame.1,λb hb hw=>?_⟩,h.same,h.len,h.mc,h.aq⟩
 ·have:=h0.whole.lt hx;show (if b∈bs then N2 else g.whole b)=_;rw[Zx λhm=>by have:=(ss b hm).1;omega];exact h.le.whole b x hx
 ·have hp:=h.wf.perm b i y hy;have bl:b∉bs:=λhm=>by
   have:=(h.wf.whole.blocks b _ (dp b hm)).1;simp[EF,this]at hp
  rw[cell_of_heap (oW bs w bl)];exact hp
 ·exact (h.wf.obj o l y (dx _ _ _ hb)).jb dp (oW bs w (yh o l y (dx _ _ _ hb)))
 ·have Ek:(if b∈bs then N2 else g.whole b)=N1 y:=hy;split at Ek
  ·cases Ek
  rename_i bl;obtain⟨a1,a2⟩:=h.wf.whole.blocks b y Ek;exact⟨by rw[oW bs w bl];exact a1,λo l z hz=>a2 o l z (dx o l z hz)⟩
 ·have:=h.wf.whole.io;rw[(aGd bs w).1,(aGd bs w).2];exact this
 rw[oW bs w λhm=>by have:=(ss b hm).1;omega];exact h.frame.2 b hb hw
def aEU{fn:Func}{tmps:Array BE}{R:Ending->BL->Prop}:∀(bs:LN) (w:BL),bs.Nodup->(∀b∈bs,w.heap[b]? = N1 (.deferred (N1 []))) ->(∃v,(results fn tmps).run P (oV w bs)=.ok v (oV w bs)/\R (.returned v) (oV w bs)) ->LeavesInM FJ 0 P fn tmps R (bs.map λb=>⟨.collected b,#[]⟩) .returning w
 | [],w,_,_,h=>h
 |b::bs,w,hn,hb,h=>by
  refine⟨siT,.inl ⟨b,_,rfl,run_takeDeferred (hb b siT), ?_⟩⟩;rw[List.nodup_cons]at hn;exact aEU bs _ hn.2 (λc hc=>by
   have bl:c≠b:=λe=>hn.1 (e ▸ hc);rw[GK bl];exact hb c (by simp[hc])) h
def aEV:∀(ps:LN) (xs:LA) (vs:List BE) {ρ:LA} {tmps:Array BE},aX g ρ tmps->fU g xs vs->xs.length=ps.length ->aX g (dH ρ ps xs) ((ps.zip vs).foldl (λt (p:Nat×BE)=>t.setIfInBounds p.1 p.2) tmps)
 | [],[],vs,ρ,tmps,hs,hx,_=>by simpa [dH]using hs
 |t::ps,x::xs,[],ρ,tmps,hs,hx,_=>by have:=hx.1;simp at this
 |t::ps,x::xs,v::vs,ρ,tmps,hs,hx,hl=>by
  simp only[dH,List.zip_cons_cons,List.foldl_cons];refine aEV ps xs vs ⟨by simpa using hs.1,λt'=>?_⟩ ⟨by have:=hx.1;simpa using this,λi a y e1 e2=>hx.2 (i+1) a y (by simpa using e1) (by simpa using e2)⟩ (by simpa using hl);have h1:=hs.1;by_cases e:t=t'
  ·subst e;by_cases hlt:t<ρ.length
   ·have:=hx.2 0 x v rfl rfl;simpa [hlt,h1 ▸ hlt,CR,HL]using this
   have:(ρ.set t x)[t]? = none:=CY soT;rw[this];exact .undef _
  rw[getElem?_set_ne' _ _ e];have:=hs.2 t';simpa [CR,HL,e]using this
 | [],x::xs,vs,_,_,_,_,hl=>by simp at hl
 |t::ps,[],vs,_,_,_,_,hl=>by simp at hl
end
section
variable {P:CU}{ab:cu}{A:af}
def aMT(P:CU)(ab:cu)(f:Nat)(fn:bw):Prop:=
 ∃F body frz nl ty rs,P.funcs[f]? = N1 F/\(F.name == "runtime.NumGoroutine")=Po/\F.body=N1 body /\
  fn.body=nR P { ab with nl:=nl,typed:=ty,refs:=rs } frz body/\fn.ntmps=F.ntmps/\aNz P F.results.toList=N1 fn.results
def aWY(P:CU)(ab:cu)(A:af)(f:Nat):Prop:=
 ∀n,(∀m,m<n->oT P ab (dD A m))->gS P ab λf' args H=>if f'=f then dD A n f args H else N2
structure Good(P:CU)(ab:cu)(A:af):Prop where
 mixed:P.follows .mixedOrders=Pa
 A5:A.fn YF=N2/\A.bq YF=N2
 fn:∀f fn,A.fn f=N1 fn->aMT P ab f fn∨aWY P ab A f
 bq:∀f p,A.bq f=N1 p->gS P ab λf' args H=>if f'=f then (p args H).map (cT H)else N2
def bf.real:bf->Exit
 |.normal=>.normal
 |.exit id=>.exit id
 |.ret=>.ret
def aHw(g:G)(n0:Nat)(ds d:List HU):Prop:=
 ∃bs:LN,ds=bs.map (λb=>⟨.collected b,#[]⟩)++d/\(∀b∈bs,n0<=b/\g.whole b=N1 (.deferred (N1 [])))/\bs.Nodup
def aHw.refl{g:G}{n0:Nat}{d:List HU}:aHw g n0 d d:=⟨[],rfl,λb h=>by simp at h,List.nodup_nil⟩
def aHw.trans{g1 g2:G}{n0 n1:Nat}{d1 d2 d:List HU}(h1:aHw g1 n0 d1 d)(hle:g1.le g2)(hn:n0<=n1)(hlt:∀b x,g1.whole b=N1 x->b<n1)(h2:aHw g2 n1 d2 d1):aHw g2 n0 d2 d:=by
 obtain⟨b1,e1,f1,u1⟩:=h1;obtain⟨b2,e2,f2,u2⟩:=h2;refine⟨b2++b1,by rw[e2,e1,List.map_append,List.append_assoc],λb hb=>?_,List.nodup_append.2 ⟨u2,u1,λx hx y hy e=>?_⟩⟩
 ·rcases AY.1 hb with hb | hb
  ·exact⟨Nat.le_trans hn (f2 b hb).1,(f2 b hb).2⟩
  exact⟨(f1 b hb).1,hle.whole _ _ (f1 b hb).2⟩
 subst e;have:=(f2 x hx).1;have:=hlt x _ (f1 x hy).2;omega
def aGe(P:CU)(ab:cu)(base:Nat)(g:G)(H:LO)(w:BL)(d:List HU)(s':gp)(a':Act)(w':BL):Prop:=
 ∃g' W,Step g H w g' s'.H w' W/\(∀o∈W,o<base->o∈s'.wr)/\aX g' s'.ρ a'.tmps/\aHw g' w.heap.size a'.defers d/\bM P ab g'
def aA9.to{base:Nat}{g:G}{H:LO}{w:BL}{d:List HU}{s':gp}{a':Act}{w':BL}(h:aA9 P ab base g H w d s' a' w'):aGe P ab base g H w d s' a' w':=by obtain⟨g',W,h1,h2,h3,h4,h5⟩:=h;exact⟨g',W,h1,h2,h3,h4 ▸ aHw.refl,h5⟩
def aGe.refl{base:Nat}{g:G}{w:BL}{a:Act}{s:gp}(hw:WF g s.H w)(hs:aX g s.ρ a.tmps)(hg:bM P ab g):aGe P ab base g s.H w a.defers s a w:=(aA9.refl hw hs hg).to
def aGe.join{base:Nat}{g g1:G}{H:LO}{w:BL}{d:List HU}{s1 s2:gp}{a1 a2:Act}{w1 w2:BL}{W:LN} (h1:Step g H w g1 s1.H w1 W) (h2:∀o∈W,o<base->o∈s1.wr) (h4:aHw g1 w.heap.size a1.defers d) (ma:∀o∈s1.wr,o∈s2.wr) (h:aGe P ab base g1 s1.H w1 a1.defers s2 a2 w2):aGe P ab base g H w d s2 a2 w2:=by
 obtain⟨g2,W',i1,i2,i3,i4,i5⟩:=h;refine⟨g2,W++W',h1.trans i1,λo ho hb=>?_,i3,h4.trans i1.le h1.frame.1 (λb x hx=>h1.wf.whole.lt hx) i4,i5⟩;rcases AY.1 ho with ho | ho
 ·exact ma o (h2 o ho hb)
 exact i2 o ho hb
def aKl{w:BL}{b off:Nat}{x:BE}(h:w.cell? ⟨b,off,N2⟩=N1 x):w.setCell ⟨b,off,N2⟩ x=w:=by
 have key:(w.heap.modify b fun
   |.cells c elem frozen=>.cells (c.setIfInBounds off x) elem frozen
   |o=>o)=w.heap:=by
  apply MS;intro i;rw[DJ];by_cases e:b=i
  ·subst e;rw[Zy rfl];simp only[EF]at h;cases hb:w.heap[b]? with
   |none=>rfl
   |some o=>
    rw[hb]at h;cases o with
    |cells c elem fz=>
     simp at h;have hlt:=(KM.1 h).1;have hx:=(KM.1 h).2;simp only[DE,AG,Mq,and_self,and_true];apply MS;intro j;by_cases ej:off=j
     ·subst ej;simp[hlt,hx]
     simp[ej]
    |_=>rfl
  rw[Zx e]
 simp only[FR,Option.isSome_none,BX,Zu];exact congrArg (λh=>{ w with heap:=h }) key
def aD6{w:BL}{b:Nat}:∀(vs:List BE) (off:Nat),(∀(j:Nat) v,vs[j]? = N1 v->w.cell? ⟨b,off+j,N2⟩=N1 v)->w.setCells b off vs=w
 | [],_,_=>rfl
 |v::vs,off,h=>by
  have h0:=h 0 v rfl;simp only[DU]at h0;simp only[IZ];rw[aKl h0];exact aD6 vs (off+1) λj x hx=>by
   have:=h (j+1) x (by simpa using hx)
   rwa [show off+(j+1)=off+1+j by omega]at this
def aAg{c:Ctx}{w:BL}{a:Act}:∀(ts:List (Nat×Nat)) (s s':gp),nX c s ts=N1 s'->∀(g:G),WF g s.H w->bM P ab g->aX g s.ρ a.tmps->aA9 P ab c.base g s.H w a.defers s' a w
 | [],s,s',h,g,hw,hg,hs=>by simp only[nX,AG]at h;subst h;exact .refl hw hs hg
 | (0,t)::ts,s,s',h,g,hw,hg,hs=>by
  unfold nX at h;split at h
  ·rename_i v H' l hf;obtain⟨g1,h1,h2⟩:=aI1 hw hf (hs.2 t);have lq:aX g1 (s.ρ.set t v) a.tmps:=by
    refine⟨by simpa using hs.1,λt'=>?_⟩;by_cases e:t=t'
    ·subst e;by_cases hlt:t<s.ρ.length
     ·simpa [hlt]using h2
     have:(s.ρ.set t v)[t]? = none:=CY soT;rw[this];exact .undef _
    rw[getElem?_set_ne' _ _ e];exact (hs.2 t').mono h1.le
   have h3:=aAg ts _ s' h g1 h1.wf (hg.mono h1.le) lq;obtain⟨g2,W,i1,i2,i3,i4,i5⟩:=h3;refine⟨g2,l++W,h1.trans i1,λo ho hb=>?_,i3,i4,i5⟩;rcases AY.1 ho with ho | ho
   ·exact (sR ts _ s' h).2.1 o ((cE _ _ _).2 o ho hb)
   exact i2 o ho hb
  cases h
 | (k+1,t)::ts,s,s',h,g,hw,hg,hs=>by
  unfold nX at h;split at h
  ·exact aAg ts _ s' h g hw hg hs
  split at h
  ·rename_i H' l hk;obtain⟨g1,h1⟩:=aIY hw hk (hs.2 t);have h3:=aAg ts _ s' h g1 h1.wf (hg.mono h1.le) (hs.mono h1.le);obtain⟨g2,W,i1,i2,i3,i4,i5⟩:=h3;refine⟨g2,l++W,h1.trans i1,λo ho hb=>?_,i3,i4,i5⟩;rcases AY.1 ho with ho | ho
   ·exact (sR ts _ s' h).2.1 o ((cE _ _ _).2 o ho hb)
   exact i2 o ho hb
  split at h
  ·rename_i cs hr;split at h
   ·rename_i cs' H' l hf;split at h
    ·rename_i H2 l2 bd;obtain⟨b,off,vs,e,ax,hl,hc⟩:=eI hw hr (hs.2 t);obtain⟨g1,h1,h2⟩:=aI1 hw hf (fU.agg (vs:=vs.toArray) (by simpa using hl));obtain⟨ys,e1,qe⟩:=h2.fu;cases e1;have O6:fU g1 cs' vs:=by simpa using qe
     obtain⟨b',off',e',_,_,h3⟩:=fF h1.wf bd ((hs.2 t).mono h1.le) O6;rw[e]at e';cases e';have Z5:w.setCells b off vs=w:=aD6 vs off λj v hv=>hc j v hv;rw[Z5]at h3;have h4:=aAg ts _ s' h g1 h3.wf (hg.mono h1.le) (hs.mono h1.le);obtain⟨g2,W,i1,i2,i3,i4,i5⟩:=h4;refine⟨g2,(l++l2)++W,(h1.trans h3).trans i1,λo ho hb=>?_,i3,i4,i5⟩;rcases AY.1 ho with ho | ho
     ·exact (sR ts _ s' h).2.1 o ((cE _ _ _).2 o ho hb)
     exact i2 o ho hb
    cases h
   cases h
  cases h
def WF.more{g:G}{H:LO}{w:BL}(h:WF g H w)(k:Nat):Step g H w g (H++AX k (.gone 0)) w []:=by
 have jk:∀o l x,au g (H++AX k (.gone 0)) o l x->au g H o l x:=λo l x hb=>⟨by rw[<- BM (h.lt o l hb.loc)];exact hb.Pr,hb.alive,hb.loc,hb.st⟩;refine⟨G.le.refl g,⟨h.perm,λo l hl=>by have:=h.lt o l hl;simp;omega,h.blk,λo x l hx hl=>?_,λo l x hb=>h.obj o l x (jk o l x hb),λo l x hb=>h.jh o l x (jk o l x hb),
  λo o' l l' x x' h1 h2=>h.inj o o' l l' x x' (jk _ _ _ h1) (jk _ _ _ h2),h.whole.aq rfl rfl ⟨rfl,rfl⟩ (λ_ _ _=>rfl) λo l y hl=>.inr ⟨o,l,y,jk _ _ _ hl,rfl⟩⟩,aDS.refl _ _ _,λo ho _=>BM ho,siT,λ_ l' hl=>.inr ⟨l',hl,rfl⟩,λ_ _ _=>rfl⟩
 rw[BM (h.lt o l hl)]at hx;exact h.st o x l hx hl
def aE4(r:Option Nat)(c:Ctx)(g:G):Prop:=∀l,r=N1 l->∃o v,c.rd=N1 (o,v)/\ai g (.yld o v) (.func (.yield l) #[] #[])
def aE4.mono{r:Option Nat}{c:Ctx}{g g':G}(h:aE4 r c g)(hg:g.le g'):aE4 r c g':=λl e=>let ⟨o,v,h1,h2⟩:=h l e;⟨o,v,h1,h2.mono hg⟩
def vL{g:G}{H:LO}{w:BL}(hw:WF g H w){o v:Nat}{l:Nat}(hx:ai g (.yld o v) (.func (.yield l) #[] #[])){base:Nat}{sites ps:LN}{body:ag}{ρ:LA}{busy:Bool}{pend:Option bf} (ho:H[o]? = N1 (.rnd v base sites ps body ρ busy pend)):∃lc,au g H o lc (.rnd v base sites ps body ρ busy pend)/\lc.b=l:=by
 cases hx with
 |yld _ _ lc r hl hv h=>
  have bd:lc.st=v:=by have:=hw.st o _ lc ho hl;simp only[ah.ver]at this;omega
  have hb:au g H o lc (.rnd v base sites ps body ρ busy pend):=⟨ho,rfl,hl,bd⟩;obtain⟨h0,_⟩:=hw.obj o lc _ hb;exact⟨lc,hb,(h bd h0).symm⟩
def aPg(P:CU)(ab:cu)(A:af)(n:Nat):Prop:=
 ∀(nl:Bool) (ty rs:LN) (c:Ctx) (frz:Nat->List (Nat×Nat)) (x:Code) (s:gp) e s',cY A n c (nR P { ab with nl:=nl,typed:=ty,refs:=rs } frz x) s=N1 (e,s')->∀(g:G) (a:Act) (w:BL),WF g s.H w->bM P ab g->aX g s.ρ a.tmps ->
  ∀Q:Exit->Act->BL->Prop,(∀a' w',aGe P ab c.base g s.H w a.defers s' a' w'->Q e.real a' w')->∀r:Option Nat,aE4 r c g->x.wpIn (fr r) 0 P Q a w/\∀b,x=.loop b->LL (fr r) 0 P b Q n a w
def aLI(A0:Good P ab A){n:Nat}(jz:aPg P ab A n):aOS P ab (dD A n):=by
 intro o v Pq H av H' wr h g w l xs hw hg hy hx;rcases sS h with⟨p,v1,hp,hv,hr⟩ | ⟨fn,s',e,r',hf,_⟩ | ⟨_,hr⟩
 ·rw[A0.A5.2]at hp;cases hp
 ·rw[A0.A5.1]at hf;cases hf
 obtain⟨o',v',as',base,sites,ps,asg,body,ρ,s0,b1,t1,p1,c1,r1,e,s,e1,hH,ax,xt,xu,je,b2,s2,p2,c2,r2,nu,pw⟩:=oK hr;simp only[JG,AV.yld.injEq,true_and]at e1;obtain⟨⟨rfl,rfl⟩,rfl⟩:=e1;simp only[BK]at pw;obtain⟨rfl,rfl,rfl⟩:=pw;obtain⟨lc,hb,rfl⟩:=vL hw hy hH;obtain⟨h0,rec,pe,bd,Cl,Hx,⟨ca,cb,Z6,Kl,ig⟩,_,gd,qt⟩:=hw.obj o lc _ hb;simp only[ag.seq.injEq]at Z6;obtain⟨rfl,rfl⟩:=Z6;have n9:=hx.1;have El:rec.params.size=xs.length:=by rw[<- Array.length_toList,Hx];omega
 refine⟨rec,pe,El, ?_⟩;obtain⟨nlA,tyA,rsA,frzA,rfl⟩:=(hg.code asg rec.assign).1 Kl;obtain⟨nlB,tyB,rsB,frzB,rfl⟩:=(hg.code body rec.body).1 ig;have zj:(Ctx.mk base (sites++[YF+o,YF+v])).rd=N1 (o,v):=by simp[Ctx.rd]
 have F9:aE4 (N1 lc.b) ⟨base,sites++[YF+o,YF+v]⟩ g:=λl' e=>by
  cases e;exact⟨o,v,zj,hy⟩
 have se:aX g (dH ρ ps Pq) ((rec.params.zip xs.toArray).foldl (λtmps (t,a)=>tmps.setIfInBounds t a) rec.tmps):=by have h1:=aEV (g:=g) ps Pq xs (tmps:=rec.tmps) ⟨gd,qt⟩ hx ax;rw[<- Array.foldl_toList,Array.toList_zip,Hx];exact h1
 refine roundIn_of_wpIn (F:=FJ) trivial ?_;refine (jz nlA tyA rsA _ frzA rec.assign _ .normal s0 xt g { tmps:=_,defers:=[] } w hw hg se _ (λa1 w1 G1=>?_) (N1 lc.b) F9).1;obtain⟨g1,W1,j1,j2,j3,j4,j5⟩:=G1;obtain⟨lc1,fo,Em⟩:=vL j1.wf (hy.mono j1.le) xu;obtain⟨z0,rec1,zheap,zst,zpe,zps,zas,_,zsz,ztm⟩:=j1.wf.obj o lc1 _ fo;have s1:=Step.put (x':=.rnd v b1 t1 p1 c1 r1 Pa N2) j1.wf fo rfl rfl (.loop { rec1 with state:=.busy }) λhle=>⟨z0,{ rec1 with state:=.busy },LR (j1.wf.blk o lc1 fo.loc),siT,zpe,zps,zas,trivial,zsz,λt=>(ztm t).mono hle⟩;rw[Em]at zheap s1;refine⟨_,run_beginRound zheap (by simpa using zst), ?_⟩;have xm:aE4 (N1 lc.b) ⟨base,sites++[YF+o,YF+v]⟩ (g1.setObj o lc1):=λl' e=>by
  cases e;exact⟨o,v,zj,(hy.mono j1.le).mono s1.le⟩
 refine (jz nlB tyB rsB _ frzB rec.body _ e s je _ a1 _ s1.wf (j5.mono s1.le) (j3.mono s1.le) (roundPost P lc.b _) (λa' w' ku=>?_) (N1 lc.b) xm).1;obtain⟨g2,W,i1,i2,i3,i4,i5⟩:=ku;obtain⟨lc2,dp,P0⟩:=vL i1.wf (((hy.mono j1.le).mono s1.le).mono i1.le) nu;obtain⟨q0,rec2,qheap,qst,qpe,qps,qas,qcd,qsz,qtm⟩:=i1.wf.obj o lc2 _ dp;rw[P0]at qheap;have fin:∀(jump:Option Code) (pend:Option bf),jump=pend.map aIT->(decide (e=.normal))=jump.isNone->pend=(if e=.normal then N2 else N1 e) ->
   ∃v' w'',(Instr.endRound lc.b jump).run P w'=.ok v' w''/\∃g',Step g H w g' (s.H.set o (.rnd v b2 s2 p2 c2 r2 Po (if e=.normal then N2 else N1 e))) w'' (FM base (H.length - base)++(o::s.wr))/\ai g' (.bool (decide (e=.normal))) v':=by
  intro jump pend hj hd hp;refine⟨_,_,run_endRound jump qheap, ?_⟩;have s3:=Step.put (x':=.rnd v b2 s2 p2 c2 r2 Po pend) i1.wf dp rfl rfl (.loop { rec2 with state:=if jump.isNone then .ready else .done,pending:=jump }) λhle=>⟨q0,{ rec2 with state:=if jump.isNone then .ready else .done,pending:=jump },LR (i1.wf.blk o lc2 dp.loc),by subst hj;cases pend<;>simp,hj,qps,qas,qcd,qsz,λt=>(qtm t).mono hle⟩;rw[P0]at s3;rw[<- hp];refine⟨_,(((j1.trans s1).trans i1).trans s3).narrow hw.lt λq hq hlt=>?_,by rw[hd];exact .bool _⟩;simp only[AY,BD,CC,or_false]at hq;simp only[AY,BD,List.mem_range'_1];rcases hq with ((hq | rfl) | hq) | rfl
  ·by_cases P1:q<base
   ·exact .inr (.inr ((fJ _ _ _ _ _ _ je).2.1 q (j2 q hq P1)))
   exact .inl ⟨omT,omT⟩
  ·exact .inr (.inl rfl)
  ·by_cases P1:q<base
   ·exact .inr (.inr (i2 q hq P1))
   exact .inl ⟨omT,omT⟩
  exact .inr (.inl rfl)
 cases e with
 |normal=>exact fin N2 N2 rfl rfl rfl
 |ret=>exact fin (N1 .ret) (N1 .ret) rfl rfl rfl
 |exit id=>exact fin (N1 (.exit id)) (N1 (.exit id)) rfl rfl rfl
def aE5(A0:Good P ab A):∀(n:Nat),(∀m,m<=n->aPg P ab A m)->oT P ab (dD A n):=by
 intro n
 induction n using KK with
 |_ n ihc=>
 intro da;have jz:=da n (AQ _);refine⟨?_,aLI A0 jz⟩;intro f args H av H' wr h g w xs hw hg hx;rcases sS h with⟨p,v1,hp,hv,hr⟩ | ⟨fn,s',e,r',hf,he,Ra,zk,hr,_⟩ | ⟨_,hrr⟩
 rotate_left 2
 ·obtain⟨o,v,Pq,_,_,_,_,_,_,_,_,_,_,_,_,_,_,rfl,_⟩:=oK hrr;obtain⟨y,hy⟩:∃y,xs[0]? = N1 y:=⟨xs[0]'(by have:=hx.1;simp at this;omega),AP _⟩;have:=hx.2 0 _ y rfl hy;cases this
 ·cases hr;exact A0.bq f p hp f args H _ _ _ (by simp[hv];rfl) g w xs hw hg hx
 rcases A0.fn f fn hf with nx | halt;rotate_left
 ·exact halt n (λm hm=>ihc m hm λk hk=>da k omT) f args H av H' wr (by simpa using h) g w xs hw hg hx
 obtain⟨F,body,frz,nl,ty,rs,e1,e2,e3,e4,e5,e6⟩:=nx;refine⟨⟨F,e1,e2,by simp[e3]⟩,callsIn_wide.1 (callsIn_of_wp_marks (F:=FJ) (n:=0) e1 e3 trivial ?_)⟩;rw[e4]at he;have bd:=hw.more fn.sites.length;refine (jz nl ty rs _ frz body _ e s' he g _ w bd.wf hg ?_ _ (λa' w' ku=>?_) N2 (λl e=>by cases e)).1
 ·
  have ax:=hx.1;refine⟨by simp[nF,ax,e5],λt=>?_⟩;simp only[nF];by_cases ht:t<args.length
  ·rw[BM ht,AP ht];have h1:(xs.toArray++NW (F.ntmps - xs.toArray.size) EE).getD t EE=xs[t]'omT:=by
    simp[CR,Array.getElem?_append,show t<xs.length by omega]
   rw[h1];exact hx.2 t _ _ (AP ht) (AP omT)
  rw[List.getElem?_append_right omT,List.getElem?_replicate];split<;>exact .undef _
 obtain⟨g0,W,j1,i2,j3,⟨bs,En,Z7,Eo⟩,j5⟩:=ku;have xu:Step g H w g0 s'.H w' W:=by simpa using bd.trans j1
 have Z8:∀b∈bs,g0.whole b=N1 (.deferred (N1 [])):=λb hb=>(Z7 b hb).2;have lq:=Step.marks hw xu Z7;have i1:=lq;have i3:aX (g0.jb bs) s'.ρ a'.tmps:=⟨j3.1,λt=>(j3.2 t).jb Z8⟩;generalize V4:g0.jb bs=g1 at lq i1 i3;have A6:(∃v,(results F a'.tmps).run P (oV w' bs)=.ok v (oV w' bs)/\(match Ending.returned v with | .returned v=>∃g',Step g H w g' H' (oV w' bs) wr/\pN g' H' w.heap.size (oV w' bs) av v | _=>False)) ->
   LeavesInM FJ 0 P F a'.tmps (λe w'=>match e with | .returned v=>∃g',Step g H w g' H' w' wr/\pN g' H' w.heap.size w' av v | _=>False) a'.defers .returning w':=λhh=>by
  rw[En,AJ];exact aEU bs w' Eo (λb hb=>(xu.wf.whole.blocks b _ (Z8 b hb)).1) hh
 generalize gn:oV w' bs=w2 at lq i1 A6;obtain⟨vs,C8,r9⟩:=aEL zk;obtain⟨ys,tc,Cm⟩:=vH (P:=P) i1.wf i3 F.results.toList fn.results vs e6 C8;have cl:=aLD tc;have vu:∃g2,Step g H w g2 r'.2.1 w2 r'.2.2/\pN g2 r'.2.1 w.heap.size w2 r'.1 (aR8 ys):=by
  rcases r9 with⟨v,v',H2,l,rfl,yp,rfl⟩ | ⟨vs',H2,l,bl,yp,rfl⟩
  ·have hl:ys.length=1:=by have:=Cm.1;simpa using this.symm
   obtain⟨y,rfl⟩:=List.length_eq_one_iff.1 hl;have ki:∀o l,H.length<=o->g1.obj o=N1 l->w.heap.size<=l.b:=λo l ho hl=>by
    rcases lq.mc o l hl with h1 | ⟨l0,h0,_⟩
    ·exact h1
    have:=hw.lt o l0 h0;omega
   obtain⟨g2,j1,j2⟩:=aI7 ki i1.wf yp (Cm.2 0 v y rfl rfl);refine⟨g2,(lq.trans j1).narrow hw.lt λo ho hb=>?_,j2⟩;rcases AY.1 ho with ho | ho
   ·exact (cE _ _ _).1 o (i2 o ho hb)
   exact (cE _ _ _).2 o ho hb
  obtain⟨g2,j1,j2⟩:=aG3 i1.wf yp Cm;have ht:aR8 ys=.tuple ys.toArray:=by
   have:=Cm.1;cases ys with
   |nil=>rfl
   |cons y r=>cases r with
    |nil=>simp at this;omega
    |cons z r=>rfl
  rw[ht];refine⟨g2,(lq.trans j1).narrow hw.lt λo ho hb=>?_, ?_⟩
  ·rcases AY.1 ho with ho | ho
   ·exact (cE _ _ _).1 o (i2 o ho hb)
   exact (cE _ _ _).2 o ho hb
  exact ai.tup vs' ys.toArray (by simpa using j2.1) λi a x ha hx=>j2.2 i a x ha (by simpa using hx)
 have P3:∃g2,Step g H w g2 H' w2 wr/\pN g2 H' w.heap.size w2 av (aR8 ys):=by
  obtain⟨g2,k1,k2⟩:=vu;obtain⟨v3,H3,wr3⟩:=r';simp only[cJ]at hr;split at hr
  ·rename_i zl;simp only[AI]at zl;cases hr;refine⟨g2.cut H.length,Step.cut hw k1 λo ho x hx=>?_,pN.cut k2 zl.1⟩;have:=AO.1 zl.2 o ho;rw[hx]at this;exact this
  cases hr;exact⟨g2,k1,k2⟩
 have hb:=A6 ⟨_,cl,P3⟩;rcases Ra with rfl | rfl
 ·exact hb
 exact hb
def aNQ(A0:Good P ab A)(n:Nat):aPg P ab A n:=by
 induction n using KK with
 |_ n ihs=>
 cases n with
 |zero=>exact λnl ty rs c frz x s e s' h=>by rw[gT]at h;cases h
 |succ n=>
  have ih:=ihs n (HR n);have az:=aE5 A0 n λk hk=>ihs k omT;have Pw:sQ (dD A n):=aKa n;intro nl ty rs c frz x s e s' h g a w hw hg hs Q hQ r hR;have region:∀(m:Nat) (id:Nat) (ops:Array Oper) (d:Bool) (s s':gp) (g:G) (e:bf),oT P ab (dD A m)->WF g s.H w->aX g s.ρ a.tmps->bM P ab g->cY A (m+1) c (.region d (aTn d (aDQ P { ab with nl:=nl,typed:=ty,refs:=rs } ops.toList ops.toList []))) s=N1 (e,s') ->
    ∀Q:Exit->Act->BL->Prop,(∀a' w',aGe P ab c.base g s.H w a.defers s' a' w'->Q e.real a' w')->(Code.region id ops d).wpIn (fr r) 0 P Q a w:=by
   intro m id ops d s s' g e hc hw hs hg h Q hQ;rw[iS]at h;split at h
   ·rename_i s1 hr;cases h;cases d with
    |true=>exact aNM (ab:={ ab with nl:=nl,typed:=ty,refs:=rs }) A0.mixed hc (aKa m) hr hw hg hs λa' w' h0=>hQ a' w' (aA9.to h0)
    |false=>simp only[iO,BQ,BX,Zu,aFW]at hr;exact aK2 (ab:={ ab with nl:=nl,typed:=ty,refs:=rs }) hc hr hw hg hs λa' w' h0=>hQ a' w' (aA9.to h0)
   cases h
  have noloop:∀{y:Code},(∀b,y≠.loop b)->y.wpIn (fr r) 0 P Q a w->y.wpIn (fr r) 0 P Q a w/\∀b,y=.loop b->LL (fr r) 0 P b Q (n+1) a w:=λbl Km=>⟨Km,λb hb=>Zw hb (bl b)⟩;cases x with
  |skip=>refine noloop (λb=>siT) (wpIn_skip ?_);simp only[nR,xB,AG,BK]at h;obtain⟨rfl,rfl⟩:=h;exact hQ a w (.refl hw hs hg)
  |region id ops d=>
   refine noloop (λb=>siT) ?_;simp only[nR]at h;split at h
   ·exact region n id ops d s s' g e az hw hs hg h Q hQ
   rename_i ts _;rw[iD]at h;cases n with
   |zero=>rw[gT]at h;cases h
   |succ m=>
    rw[vI]at h;split at h
    ·rename_i s1 hz;split at hz
     ·rename_i s2 hf;cases hz;have ku:=aAg _ s s1 hf g (w:=w) (a:=a) hw hg hs;obtain⟨g1,W,i1,i2,i3,i4,i5⟩:=ku;have Kn:oT P ab (dD A m):=aE5 A0 m λk hk=>ihs k omT;refine region m id ops d s1 s' g1 e Kn i1.wf i3 i5 h Q λa' w' hr=>hQ a' w' ?_;obtain⟨g2,W',j1,j2,j3,j4,j5⟩:=hr;refine⟨g2,W++W',i1.trans j1,λo ho hb=>?_,j3,j4,j5⟩;rcases AY.1 ho with ho | ho
      ·exact (fJ _ _ _ _ _ _ h).2.1 o (i2 o ho hb)
      exact j2 o ho hb
     cases hz
    rename_i bl;exfalso;split at h
    ·rename_i s2 hf;exact bl s2 (by rw[hf])
    cases h
  |seq x y=>
   refine noloop (λb=>siT) (wpIn_seq ?_);simp only[nR,iD]at h;split at h
   ·rename_i s1 h1;refine (ih nl ty rs c frz x s _ s1 h1 g a w hw hg hs _ (λa1 w1 hr=>?_) r hR).1;obtain⟨g1,W,i1,i2,i3,i4,i5⟩:=hr;refine (ih nl ty rs c frz y s1 e s' h g1 a1 w1 i1.wf i5 i3 Q (λa' w' pw=>hQ a' w' ?_) r (hR.mono i1.le)).1;exact aGe.join i1 i2 i4 (fJ _ _ _ _ _ _ h).2.1 pw
   rename_i bl;refine (ih nl ty rs c frz x s e s' h g a w hw hg hs _ (λa1 w1 hr=>?_) r hR).1;cases e with
   |normal=>exact Zw h (bl s')
   |exit id=>exact hQ a1 w1 hr
   |ret=>exact hQ a1 w1 hr
  |cond t x y=>
   refine noloop (λb=>siT) ?_;cases t with
   |tmp t=>
    simp only[nR,iT]at h;have hv:=hs.2 t;split at h
    ·rename_i hb;simp only[aa.ev]at hb;rw[hb]at hv;have he:a.eval (.tmp t)=.bool true:=by cases P5  : a.tmps.getD t EE<;>rw[P5]at hv<;>cases hv;exact P5
     exact wpIn_cond_true he (ih nl ty rs c frz x s e s' h g a w hw hg hs Q hQ r hR).1
    ·rename_i hb;simp only[aa.ev]at hb;rw[hb]at hv;have he:a.eval (.tmp t)=.bool false:=by cases P5  : a.tmps.getD t EE<;>rw[P5]at hv<;>cases hv;exact P5
     exact wpIn_cond_false he (ih nl ty rs c frz y s e s' h g a w hw hg hs Q hQ r hR).1
    cases h
   |_=>simp only[nR,qG]at h;cases h
  |block id b=>
   refine noloop (λb=>siT) (wpIn_block ?_);simp only[nR,eP]at h;split at h
   ·rename_i id' s1 h1;refine (ih nl ty rs c frz b s _ s1 h1 g a w hw hg hs _ (λa1 w1 hr=>?_) r hR).1;split at h
    ·rename_i hid;cases h;simp only[bf.real,Cb,hid,Zv];exact hQ a1 w1 hr
    rename_i hid;cases h;simp only[bf.real,Cb,hid,Zu];exact hQ a1 w1 hr
   rename_i bl;refine (ih nl ty rs c frz b s e s' h g a w hw hg hs _ (λa1 w1 hr=>?_) r hR).1;cases e with
   |normal=>exact hQ a1 w1 hr
   |exit id'=>exact Zw h (bl id' s')
   |ret=>exact hQ a1 w1 hr
  |loop b=>
   have key:LL (fr r) 0 P b Q (n+1) a w:=by
    simp only[nR,gU]at h;rw[roundsIn_succ];split at h
    ·rename_i s1 h1;refine (ih nl ty rs c frz b s _ s1 h1 g a w hw hg hs _ (λa1 w1 hr=>?_) r hR).1;obtain⟨g1,W,i1,i2,i3,i4,i5⟩:=hr;refine (ih nl ty rs c frz (.loop b) s1 e s' h g1 a1 w1 i1.wf i5 i3 Q (λa' w' pw=>hQ a' w' ?_) r (hR.mono i1.le)).2 b rfl;exact aGe.join i1 i2 i4 (fJ _ _ _ _ _ _ h).2.1 pw
    rename_i bl;refine (ih nl ty rs c frz b s e s' h g a w hw hg hs _ (λa1 w1 hr=>?_) r hR).1;cases e with
    |normal=>exact Zw h (bl s')
    |exit id=>exact hQ a1 w1 hr
    |ret=>exact hQ a1 w1 hr
   exact⟨wpIn_loop_rounds _ key,λb' du=>by cases du;exact key⟩
  |exit id=>refine noloop (λb=>siT) (wpIn_exit ?_);simp only[nR,aCb,AG,BK]at h;obtain⟨rfl,rfl⟩:=h;exact hQ a w (.refl hw hs hg)
  |ret=>refine noloop (λb=>siT) (wpIn_ret ?_);simp only[nR,aDZ,AG,BK]at h;obtain⟨rfl,rfl⟩:=h;exact hQ a w (.refl hw hs hg)
  |rangeFunc gx ps assign body=>
   refine noloop (λb=>siT) ?_;simp only[nR]at h;split at h;rotate_left
   ·rw[qG]at h;cases h
   rename_i xo xa;rw[iU]at h;split at h;rotate_left
   ·cases h
   rename_i f first ay id O5 qh
   split at h;rotate_left
   ·cases h
   rename_i hc;obtain⟨hid,uo⟩:=hc;split at h;rotate_left
   ·cases h
   rename_i rv H2 wr kq;split at h;rotate_left
   ·cases h
   rename_i v b2 s2 p2 c2 r2 pend hH2;split at h;rotate_left
   ·cases h
   rename_i hv;obtain⟨rfl,Cn⟩:=hv;cases h;have D1:=aQ (P:=P) (ab:={ ab with nl:=nl,typed:=ty,refs:=rs }) xa hg hs;rw[O5]at D1;obtain⟨vf,vc,je,yo,hlc⟩:=D1.rm;have ti:s.H[id]? = N1 s.H[id]:=by simp[hid]
   have nn:bH s.H id=s.H[id].ver+1:=by simp[bH,hid]
   obtain⟨l,mark,D,g0,w0,he,s0,Z9⟩:∃(l:Nat) (mark:List HU) (D:Nat) (g0:G) (w0:BL),
     (∀fn,(JZ fn a.tmps ps assign body (fr r).round).run P w=.ok (l,mark) (w0.alloc (.loop { state:=.ready,pending:=N2,fn,tmps:=a.tmps,params:=ps,assign,body,defers:=D }))) /\
     (Step g s.H w g0 s.H w0 []/\l=w0.heap.size)/\(mark=[]∨(mark=[⟨.collected w.heap.size,#[]⟩]/\g0.whole w.heap.size=N1 (.deferred (N1 [])))):=by
    cases r with
    |none=>have h1:=Step.xw hw (.deferred (N1 []));exact⟨_,_,w.heap.size,_,_,λfn=>run_enterLoop_outer fn a.tmps ps assign body,⟨h1,by simp[World.size_alloc]⟩,.inr ⟨rfl,siT⟩⟩
    |some l0=>
     obtain⟨o,v,zj,hy⟩:=hR l0 rfl;simp only[eZ,zj]at uo;split at uo
     ·rename_i v' b3 s3 p3 c3 r3 Ko;have Kp:v'=v:=by simpa using uo
      subst Kp;obtain⟨lc,hb,rfl⟩:=vL hw hy Ko;obtain⟨_,rec,pe,_⟩:=hw.obj o lc _ hb;exact⟨_,_,rec.defers,g,w,λfn=>aCg pe fn a.tmps ps assign body,⟨.refl hw,rfl⟩,.inl rfl⟩
     cases uo
   obtain⟨s0,rfl⟩:=s0;refine wpIn_rangeFunc λfn _=>?_;generalize xp:(Obj.loop { state:=.ready,pending:=N2,fn,tmps:=a.tmps,params:=ps,assign,body,defers:=D })=ob;have K7:=he fn;rw[xp]at K7;have e1:(w0.alloc ob).heap=w0.heap.push ob:=rfl;have jz:∃ca cb,ag.seq (nR P ⟨ab.row,nl,ty,rs⟩ frz assign) (nR P ⟨ab.row,nl,ty,rs⟩ frz body)=.seq ca cb/\g0.code ca assign/\g0.code cb body:=⟨_,_,rfl,((hg.mono s0.le).code _ _).2 ⟨nl,ty,rs,frz,rfl⟩,((hg.mono s0.le).code _ _).2 ⟨nl,ty,rs,frz,rfl⟩⟩;have s1:=Step.update (w':=w0.alloc ob) s0.wf id (.rnd (bH s.H id) c.base c.sites ps.toList (.seq (nR P ⟨ab.row,nl,ty,rs⟩ frz assign) (nR P ⟨ab.row,nl,ty,rs⟩ frz body)) s.ρ Po N2) ⟨w0.heap.size,bH s.H id,0,0,0⟩ hid (by rw[e1];simp) (λb hb _=>cK e1 hb) (by rw[e1];simp) (.inl (AQ _)) rfl rfl (λl hl=>by
     have:=s0.wf.st id _ l ti hl;exact⟨by show l.st<=bH s.H id;omega,λe=>by have e':bH s.H id=l.st:=e;omega⟩)
    λhle=>⟨rfl,{ state:=.ready,pending:=N2,fn,tmps:=a.tmps,params:=ps,assign,body,defers:=D },by rw[e1,<- xp];simp,rfl,rfl,rfl,jz,trivial,hs.1,λt=>((hs.2 t).mono s0.le).mono hle⟩
   have Hy:ai (g0.setObj id ⟨w0.heap.size,bH s.H id,0,0,0⟩) (.yld id (bH s.H id)) (.func (.yield w0.heap.size) #[] #[]):=.yld id _ _ _ (by simp[G.setObj];rfl) (AQ _) λ_ _=>rfl;have A7:g.le (g0.setObj id ⟨w0.heap.size,bH s.H id,0,0,0⟩):=s0.le.trans s1.le;have hargs:fU (g0.setObj id ⟨w0.heap.size,bH s.H id,0,0,0⟩) (first++.yld id (bH s.H id)::ay) (vf.toList++.func (.yield w0.heap.size) #[] #[]::vc.toList):=by
    refine (yo.mono A7).append (fU.append (Pq:=[.yld id (bH s.H id)]) (xs:=[.func (.yield w0.heap.size) #[] #[]]) ⟨rfl,λi c x h1 h2=>?_⟩ (hlc.mono A7));cases i with
    |zero=>simp at h1 h2;subst h1;subst h2;exact Hy
    |succ i=>simp at h1
   obtain⟨⟨Fn,Qd,jq,gh⟩,kr⟩:=az.1 f _ _ rv H2 wr kq _ (w0.alloc ob) _ s1.wf (hg.mono A7) hargs;have Hz:¬(Fn.name = "runtime.NumGoroutine"):=by simpa using jq
   have V5:¬(Fn.body=N2):=λe=>by rw[e]at gh;simp at gh
   have rq:(vf ++ #[Value.func (.yield w0.heap.size) #[] #[]]++vc)=(vf.toList++.func (.yield w0.heap.size) #[] #[]::vc.toList).toArray:=by apply Array.ext';simp
   refine⟨w0.heap.size,mark,w0.alloc ob,⟨.fn (.func f) vc,vf ++ #[.func (.yield w0.heap.size) #[] #[]]⟩,w0.alloc ob,f,(vf.toList++.func (.yield w0.heap.size) #[] #[]::vc.toList).toArray,w0.alloc ob,K7, ?_,λ_ _=>trivial, ?_,λh=>(by simp[fr,FJ]at h), ?_⟩
   ·have hy:a.eval (.const (.func (.yield w0.heap.size) #[] #[]))=.func (.yield w0.heap.size) #[] #[]:=rfl;simp[resolve,je,hy,JF]
   ·simp only[invoke,callFunc];rw[rq];simp[Qd,Hz,V5]
   have hC:CallsIn FJ (0 - 1) P f _ (w0.alloc ob) _:=callsIn_wide.2 kr;refine CallsIn.mono (F:=fr r) hC λe w3 vu=>?_;cases e with
   |panicked ch=>exact vu.elim
   |outgrown=>exact vu.elim
   |returned rvv=>
    obtain⟨g2,s3,_⟩:=vu;obtain⟨lc2,dp,P0⟩:=vL s3.wf (Hy.mono s3.le) hH2;obtain⟨q0,rec2,qheap,qst,qpe,_⟩:=s3.wf.obj id lc2 _ dp;rw[P0]at qheap;have s4:=Step.F8 s3.wf dp (.loop { rec2 with state:=.exhausted });rw[P0]at s4;have yh:rec2.state≠.busy:=by rw[qst];cases pend<;>simp
    have ku:aGe P ab c.base g s.H w a.defers ⟨s.ρ,H2.set id (.gone (bH s.H id)),bE c.base s.wr (id::wr)⟩ { a with defers:=mark++a.defers } (w3.putObj w0.heap.size (.loop { rec2 with state:=.exhausted })):=by
     refine⟨g2,_,((s0.trans s1).trans s3).trans s4,λo ho hb=>(cE _ _ _).2 o ?_ hb,hs.mono (A7.trans s3.le), ?_,hg.mono (A7.trans s3.le)⟩
     ·simp only[AY,CW,BD,CC,or_false]at ho;simp only[BD];rcases ho with (rfl | ho) | rfl
      ·exact .inl rfl
      ·exact .inr ho
      exact .inl rfl
     rcases Z9 with rfl | ⟨rfl,Ep⟩
     ·exact aHw.refl
     exact⟨[w.heap.size],rfl,λb hb=>by rw[List.mem_singleton]at hb;subst hb;exact⟨AQ _,(s1.le.trans s3.le).whole _ _ Ep⟩,siT⟩
    refine⟨pend.map aIT,w3.putObj w0.heap.size (.loop { rec2 with state:=.exhausted }),by rw[run_endLoop qheap yh,<- qpe], ?_⟩;cases pend with
    |none=>exact hQ _ _ ku
    |some e=>
     cases e with
     |normal=>exact wpIn_skip (hQ _ _ ku)
     |ret=>exact wpIn_ret (hQ _ _ ku)
     |exit id'=>exact wpIn_exit (hQ _ _ ku)
  |_=>simp only[nR,qG]at h;cases h
def sU(A0:Good P ab A)(n:Nat):oT P ab (dD A n):=aE5 A0 n λm _=>aNQ A0 m
end
def fB(tB tP:Nat):aIP:=λargs H=>match args with
 | [.ptr o v 0]=>match H[o]? with
  |some (.cw v' ty [.nilPtr,c])=>if v'=v/\(ty=tB∨ty=tP)then N1 (.tup [],[(o,.cw v ty [.ptr o v 0,c])],[])else N2
  |some (.cw v' _ [.ptr o' v2 0,_])=>if v'=v/\o'=o/\v2=v then N1 (.tup [],[],[])else N2
  |_=>N2
 |_=>N2
def aE6:List LA->Bool
 | []=>Pa
 | [.int .u8 n]::r=>decide (0<=n)&&decide (n<256)&&aE6 r
 |_=>Po
def aAh(tb:Nat):aIP:=λargs H=>match args with
 | [.ptr o v 0]=>match H[o]? with
  |some (.cw v' _ [_,.ar])=>if v'=v then N1 (.str [],[],[])else N2
  |some (.cw v' _ [_,.sr o2 v2 n])=>if v'=v then match H[o2]? with
    |some (.gl v3 t3 1 rows)=>if v3=v2/\t3=tb/\rows.length=n/\n≠0/\o2≠o/\n<=1000000000/\aE6 rows then match cM rows with
      |some l=>N1 (.str l,[(o2,.gone v2)],[])
      |none=>N2
     else N2
    |_=>N2
   else N2
  |_=>N2
 |_=>N2
def aNR(tB tb:Nat):aIP:=λargs H=>match args with
 | [.ptr o v 0,.int .i64 n]=>match H[o]? with
  |some (.cw v' ty [.nilPtr,.ar])=>if v'=v/\ty=tB/\0<n/\n<=1000000 then N1 (.tup [],[(o,.cw v tB [.ptr o v 0,.sr H.length 1 0])],[.gl 1 tb 1 []])else N2
  |_=>N2
 |_=>N2
def aJ7(sep:List UInt8):List LA->Option (List UInt8)
 | []=>N1 []
 | [[.str s]]=>N1 s
 | [.str s]::r=>match aJ7 sep r with
  |some t=>N1 (s++sep++t)
  |none=>N2
 |_=>N2
def aKm:aIP:=λargs _=>match args with
 | [.sl _ rows,.str sep]=>match aJ7 sep rows with
  |some s=>if s.length<=140737488355328/\rows.length<=140737488355328 then N1 (.str s,[],[])else N2
  |none=>N2
 |_=>N2
def aYu:aIP:=λargs _=>match args with
 | [.str s,.int .u8 c]=>N1 (.int .i64 (EV s c.toNat.toUInt8),[],[])
 |_=>N2
def aE7:aIP:=λargs _=>match args with
 | [.str s,.str [c]]=>N1 (.int .i64 (PC s c),[],[])
 |_=>N2
def aAi:aIP:=λargs H=>match args with
 | [p]=>match bC H 1 p with
  |some [.int .u32 n]=>N1 (.bool (n != 0),[],[])
  |_=>N2
 |_=>N2
def nC:Nat->Nat->List UInt8
 |0,_=>[]
 |k+1,n=>if n<10 then [CN (48+n)] else nC k (n / 10)++[CN (48+n % 10)]
def sC:aIP:=λargs _=>match args with
 | [.int .i64 n]=>if 0<=n/\n<1000000 then N1 (.str (nC 7 n.toNat),[],[])else if n<0 /\ -1000000<n then N1 (.str (45::nC 7 (-n).toNat),[],[])else N2
 |_=>N2
section
variable {P:CU}{ab:cu}
def oC{f:Nat}{p:aIP}(hf:∃F,P.funcs[f]? = N1 F/\(F.name == "runtime.NumGoroutine")=Po/\F.body.isNone=Po) (h:∀args H v ws ns,p args H=N1 (v,ws,ns)->∀g w xs,WF g H w->bM P ab g->fU g args xs->FV P f xs.toArray w λe w'=>match e with
   |.returned x=>∃g',Step g H w g' (eU H ws++ns) w' (ws.map Prod.fst)/\pN g' (eU H ws++ns) w.heap.size w' v x
   |_=>False):gS P ab λf' args H=>if f'=f then (p args H).map (cT H)else none:=by
 intro f' args H av H' wr hh g w xs hw hg hx;dsimp only at hh;split at hh
 ·rename_i e;subst e;cases hp:p args H with
  |none=>rw[hp]at hh;cases hh
  |some r=>obtain⟨v,ws,ns⟩:=r;rw[hp]at hh;simp only[DE,cT,AG,BK]at hh;obtain⟨rfl,rfl,rfl⟩:=hh;exact⟨hf,h args H v ws ns hp g w xs hw hg hx⟩
 cases hh
def Step.nf{g:G}{H:LO}{w w':BL}(hw:WF g H w)(gd:w.heap.size<=w'.heap.size)(da:∀b,b<w.heap.size->w'.heap[b]? = w.heap[b]?)(io:w'.os=w.os/\w'.output=w.output):Step g H w g H w' []:=by
 refine⟨G.le.refl g,⟨λb i x hx=>?_,hw.lt,λo l hl=>Nat.lt_of_lt_of_le (hw.blk o l hl) gd,hw.st,λo l x hb=>?_,hw.jh,hw.inj,hw.whole.aq rfl rfl io (λb hb _=>da b hb) λo l y hl=>.inr ⟨o,l,y,hl,rfl⟩⟩,⟨gd,λb hb _=>da b hb⟩,λ_ _ _=>rfl,AQ _,λ_ l' hl=>.inr ⟨l',hl,rfl⟩,λ_ _ _=>rfl⟩
 ·rw[cell_of_heap (da b (hw.ko hx))];exact hw.perm b i x hx
 exact (hw.obj o l x hb).aq (G.le.refl g) (da l.b (hw.blk o l hb.loc))
def aBc{g:G}{a:AV}{xs:List BE}(h:fU g [a] xs):∃x,xs=[x]/\ai g a x:=by
 obtain⟨h1,h2⟩:=h
 match xs,h1 with
 | [x],_=>exact⟨x,rfl,h2 0 a x rfl rfl⟩
def nH{g:G}{a b:AV}{xs:List BE}(h:fU g [a,b] xs):∃x y,xs=[x,y]/\ai g a x/\ai g b y:=by
 obtain⟨h1,h2⟩:=h
 match xs,h1 with
 | [x,y],_=>exact⟨x,y,rfl,h2 0 a x rfl rfl,h2 1 b y rfl rfl⟩
def aGf{g:G}{H:LO}{w:BL}(hw:WF g H w){o v v' ty:Nat}{cells:LA}(ho:H[o]? = N1 (.cw v' ty cells))(hv:v'=v){x:BE}(hx:ai g (.ptr o v 0) x):∃l cs,au g H o l (.cw v ty cells)/\x=.pointer (N1 ⟨l.b,0,N2⟩)/\w.heap[l.b]? = N1 (.cells cs ty (0,0))/\fU g cells cs.toList:=by
 subst hv;cases hx with
 |ptr _ _ _ l a hl hv h=>
  have bd:l.st=v':=by have:=hw.st o _ l ho hl;simp only[ah.ver]at this;omega
  have hb:au g H o l (.cw v' ty cells):=⟨ho,rfl,hl,bd⟩;obtain⟨h0,⟨cs,h1,h2⟩,h3⟩:=hw.obj o l _ hb;refine⟨l,cs,hb,by rw[h bd h0],h1,by simpa using h2.symm,λi a x e1 e2=>?_⟩;obtain⟨y,hy,hr⟩:=h3 i a e1;simp only[EF,h1]at hy;have e2':cs[i]? = N1 x:=by simpa using e2
  rw[e2']at hy;simp at hy;subst hy;exact hr
def Step.K8{g:G}{H:LO}{w w':BL}(hw:WF g H w){o:Nat}{l:Loc}{x:ah}(hb:au g H o l x)(gd:w'.heap.size=w.heap.size)(ju:∀b,b≠l.b->w'.heap[b]? = w.heap[b]?)(io:w'.os=w.os/\w'.output=w.output):Step g H w g (H.set o (.gone x.ver)) w' [o]:=by
 obtain⟨h1,h2⟩:=Step.drop hw hb;have pj:=h1.wf;refine⟨h1.le,⟨λb i y hy=>?_,pj.lt,λo' l' hl=>by rw[gd];exact pj.blk o' l' hl,pj.st,λo' l' x' du=>(pj.obj o' l' x' du).aq (G.le.refl g) (ju l'.b (h2 o' l' x' du)),pj.jh,pj.inj,⟨λb y hy=>⟨?_,(pj.whole.blocks b y hy).2⟩,by rw[io.1,io.2];exact hw.whole.io⟩⟩,⟨omT,λb _ bl=>ju b (Ne.symm (bl o siT l hb.loc))⟩,h1.same,h1.len,λo' l' hl=>.inr ⟨l',hl,rfl⟩,λ_ _ _=>rfl⟩
 ·have bl:b≠l.b:=λe=>by subst e;have:=hw.jh o l x hb i;rw[hy]at this;cases this
  rw[cell_of_heap (ju b bl)];exact hw.perm b i y hy
 rw[ju b (Ne.symm ((hw.whole.blocks b y hy).2 o l x hb))];exact (hw.whole.blocks b y hy).1
def Step.Aa{g:G}{H:LO}{w w':BL}(hw:WF g H w){o v ty:Nat}{l:Loc}{cells dh:LA}{cs':Array BE}(hb:au g H o l (.cw v ty cells))(gd:w'.heap.size=w.heap.size) (ju:∀b,b≠l.b->w'.heap[b]? = w.heap[b]?) (ld:w'.heap[l.b]? = N1 (.cells cs' ty (0,0))) (hl:fU g dh cs'.toList) (io:w'.os=w.os/\w'.output=w.output):Step g H w g (H.set o (.cw v ty dh)) w' [o]:=by
 have hg:g.setObj o l=g:=by
  cases g with
  |mk p ob wh io=>
   have:=hb.loc;simp only[G.setObj,G.mk.injEq,true_and,and_true];funext o';by_cases e:o'=o
   ·subst e;simpa using this.symm
   simp[e]
 have h0:=(hw.obj o l _ hb).1;have:=Step.update (w':=w') hw o (.cw v ty dh) l (hw.lt o l hb.loc) omT
  (λb _ bl=>ju b (Ne.symm (bl l _ hb))) (by rw[gd];exact hw.blk o l hb.loc) (.inr ⟨l,_,hb,rfl⟩) hb.st rfl
  (λl0 h0=>by rw[hb.loc]at h0;cases h0;exact⟨AQ _,λ_=>⟨AQ _,λ_=>rfl⟩⟩)
  (λ_=>by
   rw[hg];refine⟨h0,⟨cs',ld,by simpa using hl.1.symm⟩,λj a ha=>?_⟩;have hj:j<dh.length:=(AH.1 ha).1;have ax:=hl.1;simp at ax;exact⟨cs'[j]'omT,by simp[EF,ld],hl.2 j a _ ha siT⟩) io
 rwa [hg]at this
end
end Go.AM
end
section
namespace Go.Proofs
open Go.Shelf
def Tryz.lays156_ren:HK:=⟨λ| 156=>129 | 165=>211 | 166=>115 | 169=>81 | 240=>122 | 241=>252 | 276=>173 | 277=>285 | n=>n,λ| 31=>45 | 9=>9 | 3=>3 | 4=>4 | 0=>0 | 20=>20 | 72=>151 | 76=>189 | 70=>149 | 37=>95 | 75=>160 | 127=>199 | 164=>259 | 5=>5 | 80=>105 | n=>n,λ| n=>n⟩
def Tryz.lays156:Go.Proofs.Lays.n156 Tryz.prog Tryz.lays156_ren:=by refine' { .. }<;>first | kernel_rfl | (intro _;kernel_rfl)
def Tryz.Builder_Extra_156:Builder.Extra Tryz.prog Tryz.lays156_ren:=by refine' { neB5:=by decide,.. }<;>first | kernel_rfl | (intro _;kernel_rfl)
open Go.RowKit in
def Tryz.strings_Join_none(a:Option IA)(c:Nat)(sep:ByteArray)(w:BL):FV Tryz.prog 129 #[.slice a 0 c,.string sep] w λe w'=>e=.returned (.string ⟨#[]⟩)/\w'=w:=Any.strings_Join_none Tryz.lays156 Tryz.Builder_Extra_156 a c sep w
open Go.RowKit in
def Tryz.strings_Join(bk o c:Nat)(xs:List ByteArray)(sep:ByteArray)(w:BL)(jy:∀(j:Nat) x,xs[j]? = N1 x->w.cell? ⟨bk,o+j,N2⟩=N1 (.string x))(dx:bk<w.heap.size)(hN:xs.length<=140737488355328)(cm:xs.length<=c)(ax:(OT (xs.map (·.data.toList)) sep.data.toList).length<=140737488355328):FV Tryz.prog 129 #[.slice (N1 ⟨bk,o,N2⟩) xs.length c,.string sep] w λe w'=>e=.returned (.string ⟨(OT (xs.map (·.data.toList)) sep.data.toList).toArray⟩)/\Below w.heap.size w w':=Any.strings_Join Tryz.lays156 Tryz.Builder_Extra_156 bk o c xs sep w jy dx hN cm ax
def Tryz.laysM171_ren:HK:=⟨λ| 171=>121 | 243=>172 | 246=>235 | 283=>266 | 284=>267 | 285=>268 | 286=>269 | 129=>293 | 317=>292 | 318=>294 | 319=>295 | 320=>296 | 337=>323 | 338=>324 | n=>n,λ| 3=>3 | 9=>9 | 2=>2 | 4=>4 | 171=>346 | 0=>0 | 53=>347 | 37=>95 | 5=>5 | 173=>350 | 212=>382 | 51=>245 | 20=>20 | 213=>383 | 46=>384 | 232=>420 | 233=>421 | n=>n,λ| 17=>6 | 18=>10 | 19=>11 | n=>n⟩
def Tryz.laysM171:Go.Proofs.LaysM.n171 Tryz.prog Tryz.laysM171_ren:=by refine' { .. }<;>first | kernel_rfl | (intro _;kernel_rfl)
open Go.RowKit Go.Sort Go.Lib in
def Tryz.strconv_Itoa(n:Int)(h0 : -9223372036854775808<=n)(h1:n<=9223372036854775807)(w:BL)(cx:OL Tryz.prog w "internal/strconv.uint64pow10" .u64 EB):FV Tryz.prog 121 #[.int .i64 n] w λe w'=>e=.returned (.string ⟨(MT n).toArray⟩)/\∃k os,w'=grow (w.drewN k) os:=Any.strconv_Itoa Tryz.laysM171 n h0 h1 w cx
def Tryz.lays217_ren:HK:=⟨λ| 217=>304 | 266=>330 | n=>n,λ| 9=>9 | 5=>5 | 3=>3 | n=>n,λ| n=>n⟩
def Tryz.lays217:Go.Proofs.Lays.n217 Tryz.prog Tryz.lays217_ren:=by refine' { .. }<;>first | kernel_rfl | (intro _;kernel_rfl)
open Go.RowKit Go.Lib in
def Tryz.stringslite_IndexByte(s:ByteArray)(c:Int)(w:BL):FV Tryz.prog 304 #[.string s,.int .u8 c] w λe w'=>e=.returned (.int .i64 (EV s.data.toList c.toNat.toUInt8))/\w'=w:=Any.stringslite_IndexByte Tryz.lays217 s c w
def Tryz.lays138_ren:HK:=⟨λ| 138=>297 | 195=>325 | 218=>326 | 143=>246 | 219=>279 | 217=>304 | 225=>305 | 224=>306 | 267=>307 | 266=>330 | 314=>331 | n=>n,λ| 9=>9 | 3=>3 | 4=>4 | 5=>5 | 0=>0 | 46=>384 | 146=>411 | 51=>245 | n=>n,λ| 1=>7 | n=>n⟩
def Tryz.lays138:Go.Proofs.Lays.n138 Tryz.prog Tryz.lays138_ren:=by refine' { .. }<;>first | kernel_rfl | (intro _;kernel_rfl)
open Go.RowKit Go.Lib in
def Tryz.strings_Count_one(s:ByteArray)(c:UInt8)(w:BL):FV Tryz.prog 297 #[.string s,.string ⟨#[c]⟩] w λe w'=>e=.returned (.int .i64 (PC s.data.toList c))/\w'=w:=Any.strings_Count_one Tryz.lays138 s c w
open Go.RowKit Go.Lib in
def Tryz.laysM288_ren:HK:=⟨λ| 288=>328 | 283=>266 | 284=>267 | 285=>268 | 286=>269 | 129=>293 | 317=>292 | 318=>294 | 319=>295 | 320=>296 | 337=>323 | 338=>324 | n=>n,λ| 37=>95 | 53=>347 | 3=>3 | 4=>4 | 9=>9 | 171=>346 | 0=>0 | 173=>350 | 212=>382 | 51=>245 | 5=>5 | 20=>20 | 213=>383 | 46=>384 | 232=>420 | 233=>421 | n=>n,λ| 17=>6 | 18=>10 | 19=>11 | n=>n⟩
def Tryz.laysM288:Go.Proofs.LaysM.n288 Tryz.prog Tryz.laysM288_ren:=by refine' { .. }<;>first | kernel_rfl | (intro _;kernel_rfl)
end Go.Proofs
end
section
namespace Go.Proofs.Sa
open Go Go.AM Go.Proofs Go.RowKit Go.Lib
def aPh(b:Nat)(w:BL)(h0:w.cell? ⟨b,0,N2⟩=N1 (.pointer (N1 ⟨b,0,N2⟩))):FV Tryz.prog 122 #[.pointer (N1 ⟨b,0,N2⟩)] w λe w'=>e=.returned (.tuple #[])/\w'=w:=by
 obtain⟨j,hj,_⟩:=EL.1 (show (Tryz.prog.info? 151).map (·.size)=N1 2 by kernel_rfl)
 go_enter Tryz.func122,Tryz.ntmps122
 go_wp2
 rw[Lib.run_neq_ptr_same w _ Tryz.underlying149 hj]
 go_wp2
 go_end0
 exact⟨rfl,rfl⟩
def aIg(b t:Nat)(ht:t=151∨t=153)(w:BL)(h0:w.cell? ⟨b,0,N2⟩=N1 (.pointer N2))(vg:w.shape? b=N1 (t,2))(Kq:w.frozen? ⟨b,0,N2⟩=Po):FV Tryz.prog 122 #[.pointer (N1 ⟨b,0,N2⟩)] w λe w'=>e=.returned (.tuple #[])/\w'=w.setCell ⟨b,0,N2⟩ (.pointer (N1 ⟨b,0,N2⟩)):=by
 obtain⟨j,hj,Kr⟩:=EL.1 (show (Tryz.prog.info? 151).map (·.size)=N1 2 by kernel_rfl);have Ab:liesAt Tryz.prog Tryz.prog.depth t (2 / Tryz.prog.cellsOf t) 0 151 1=true:=by
  rcases ht with rfl | rfl
  ·kernel_rfl
  kernel_rfl
 go_enter Tryz.func122,Tryz.ntmps122
 go_wp2
 rw[Lib.run_to_unsafe w ⟨b,0,N2⟩ Tryz.underlying149 Tryz.underlying259 hj (by rw[Kr];decide) vg (Nat.zero_lt_succ 1)];simp only[DL];rw[KF]
 go_wp2
 rw[OU Tryz.func173 cB cB cB (e:=NY) cB];rw[Lib.run_noEscape];simp only[DL];rw[KF]
 go_wp2
 rw[Lib.run_from_unsafe w ⟨b,0,N2⟩ Tryz.underlying259 Tryz.underlying149 hj vg Ab];simp only[DL];rw[KF]
 go_wp2
 go_end0
 exact⟨rfl,rfl⟩
def aPi(a:IA)(n:Int)(w:BL)(hc:w.cell? a=N1 (.int .u32 n)):FV Tryz.prog 232 #[.pointer (N1 a)] w λe w'=>e=.returned (.bool (n != 0))/\w'=w:=by
 have hl:=J4 (P:=Tryz.prog) Tryz.func260 cB cB cB .u32 cB (w:=w) (a:=a) (x:=n) hc
 go_enter Tryz.func232,Tryz.ntmps232
 go_wp2
 go_ret
 exact⟨rfl,rfl⟩
def aNS(b:Nat)(w:BL)(h1:w.cell? ⟨b,1,N2⟩=N1 (.slice N2 0 0)):FV Tryz.prog 81 #[.pointer (N1 ⟨b,0,N2⟩)] w λe w'=>e=.returned (.string .empty)/\w'=w.drew:=by
 have c1:w.drew.cell? ⟨b,1,N2⟩=N1 (.slice N2 0 0):=h1;have mixed:Tryz.prog.follows .mixedOrders=true:=cB;have Ks:(KN #[95] 199 #[.slice N2 0 0]).run Tryz.prog w.drew=.ok (.pointer N2) w.drew:=Lib.run_unsafeSliceData_nil _ _ _ _ _;have Kt:(LM #[199,3] 9 #[.pointer N2,.int .i64 0]).run Tryz.prog w.drew=.ok (.string .empty) w.drew:=rfl
 go_enter Tryz.func81,Tryz.ntmps81
 go_wp2
 go_region_o
 all_goals (go_wp2;go_ret;exact⟨rfl,rfl⟩)
def aNT(b g cap:Nat)(l:List UInt8)(cur:Array BE)(w:BL)(h0:l≠[])(cm:l.length<=cap)(zm:l.length<=9223372036854775807)(h1:w.cell? ⟨b,1,N2⟩=N1 (.slice (N1 ⟨g,0,N2⟩) l.length cap)) (hg:w.heap[g]? = N1 (.cells cur 5 (0,0))) (hn:l.length<=cur.size) (bc:∀j x,l[j]? = N1 x->w.cell? ⟨g,j,N2⟩=N1 (.int .u8 x.toNat)):FV Tryz.prog 81 #[.pointer (N1 ⟨b,0,N2⟩)] w λe w'=>e=.returned (.string ⟨l.toArray⟩)/\w'=w.drew.freeze ⟨g,0,N2⟩ l.length:=by
 have sz:l.length≠0:=by simpa using h0
 have mixed:Tryz.prog.follows .mixedOrders=true:=cB;have c1:w.drew.cell? ⟨b,1,N2⟩=N1 (.slice (N1 ⟨g,0,N2⟩) l.length cap):=h1;have Ks:(KN #[95] 199 #[.slice (N1 ⟨g,0,N2⟩) l.length cap]).run Tryz.prog w.drew=.ok (.pointer (N1 ⟨g,0,N2⟩)) w.drew:=
  Lib.run_unsafeSliceData_row _ _ _ _ _ _ omT
 have Kt:(LM #[199,3] 9 #[.pointer (N1 ⟨g,0,N2⟩),.int .i64 l.length]).run Tryz.prog w.drew=.ok (.string ⟨l.toArray⟩) (w.drew.freeze ⟨g,0,N2⟩ l.length):=
  Lib.run_unsafeString_row w.drew 199 3 9 5 Tryz.underlying199 cB g cur.size (by have eu:w.drew.heap[g]? = N1 (.cells cur 5 (0,0)):=hg;simp[LU,eu]) l h0 hn zm
   (λj x hx=>by rw[Addr.add_lit,BC];exact bc j x hx)
 go_enter Tryz.func81,Tryz.ntmps81
 go_wp2
 go_region_o
 all_goals (go_wp2;go_ret;exact⟨rfl,rfl⟩)
def bBr{g:G}{x:BE}(h:ai g .nilPtr x):x=.pointer none:=by cases h;rfl
def mX{α:Type}{cs:Array α}{x y:α}(h:cs.toList=[x,y]):cs = #[x,y]:=by cases cs;simpa using h
def uq{ab:cu}:gS Tryz.prog ab λf' args H=>if f'=122 then (fB 151 153 args H).map (cT H)else none:=by
 refine oC ⟨Tryz.f122,Tryz.func122,cB,cB⟩ λargs H v ws ns hp g w xs hw hg hx=>?_;unfold fB at hp;split at hp
 ·rename_i o ve;obtain⟨x,rfl,hv⟩:=aBc hx;split at hp
  ·rename_i v' ty c ho;split at hp
   ·rename_i hc;simp only[AG,BK]at hp;obtain⟨rfl,rfl,rfl⟩:=hp;obtain⟨l,cs,hb,rfl,ld,hl⟩:=aGf hw ho hc.1 hv;obtain⟨x1,x2,e,r1,r2⟩:=nH hl;have ecs:=mX e;subst ecs;have e1:=bBr r1;subst e1;refine (aIg l.b ty hc.2 w (by simp[EF,ld]) (by simp[LU,ld]) (by simp[World.frozen?,ld])).mono ?_;rintro e w' ⟨rfl,rfl⟩;refine⟨g, ?_,ai.skip g⟩;simp only[eU,AJ,BI,BY];refine Step.Aa (cs' := #[.pointer (N1 ⟨l.b,0,N2⟩),x2]) hw hb (JE _ _ _) (λb hb=>?_) ?_ ?_ (vG _ _ _)
    ·simp[FR,DJ,Ne.symm hb]
    ·simp[FR,DJ,ld]
    refine⟨rfl,λi a x e1 e2=>?_⟩
    match i with
    |0=>simp at e1 e2;subst e1;subst e2;exact .ptr o ve 0 l _ hb.loc (by rw[hb.st];exact AQ _) λ_ _=>rfl
    |1=>simp at e1 e2;subst e1;subst e2;exact r2
    |i+2=>simp at e1
   cases hp
  ·rename_i v' ty o' v2 c ho;split at hp
   ·rename_i hc;simp only[AG,BK]at hp;obtain⟨rfl,rfl,rfl⟩:=hp;obtain⟨l,cs,hb,rfl,ld,hl⟩:=aGf hw ho hc.1 hv;obtain⟨x1,x2,e,r1,r2⟩:=nH hl;have ecs:=mX e;subst ecs;obtain⟨rfl,rfl,rfl⟩:=hc;have e1:x1=.pointer (N1 ⟨l.b,0,N2⟩):=by
     cases r1 with
     |ptr _ _ _ l2 a iq D7 h=>rw[hb.loc]at iq;cases iq;rw[h hb.st (hw.obj _ _ _ hb).1]
    subst e1;refine (aPh l.b w (by simp[EF,ld])).mono ?_;rintro e w' ⟨rfl,rfl⟩;exact⟨g,by simpa [eU]using Step.refl hw,ai.skip g⟩
   cases hp
  cases hp
 cases hp
def vv{ab:cu}:gS Tryz.prog ab λf' args H=>if f'=232 then (aAi args H).map (cT H)else none:=by
 refine oC ⟨Tryz.f232,Tryz.func232,cB,cB⟩ λargs H v ws ns hp g w xs hw hg hx=>?_;unfold aAi at hp;split at hp
 ·rename_i p;obtain⟨x,rfl,hv⟩:=aBc hx;split at hp
  ·rename_i n hr;simp only[AG,BK]at hp;obtain⟨rfl,rfl,rfl⟩:=hp;obtain⟨b,off,vs,rfl,ax,hl,hc⟩:=eI hw hr hv;obtain⟨y,rfl,hy⟩:=aBc hl;cases hy;refine (aPi ⟨b,off,N2⟩ n w (hc 0 _ rfl)).mono ?_;rintro e w' ⟨rfl,rfl⟩;exact⟨g,by simpa [eU]using Step.refl hw,.bool _⟩
  cases hp
 cases hp
def aKn{g:G}{H:LO}{w w':BL}(hw:WF g H w)(h:Below w.heap.size w w'):Step g H w g H w' []:=Step.nf hw h.size h.block ⟨h.os,h.output⟩
def A8{ab:cu}:gS Tryz.prog ab λf' args H=>if f'=297 then (aE7 args H).map (cT H)else none:=by
 refine oC ⟨Tryz.f297,Tryz.func297,cB,cB⟩ λargs H v ws ns hp g w xs hw hg hx=>?_;unfold aE7 at hp;split at hp
 ·rename_i s c;simp only[AG,BK]at hp;obtain⟨rfl,rfl,rfl⟩:=hp;obtain⟨x,y,rfl,h1,h2⟩:=nH hx;obtain⟨s',rfl,hs⟩:=h1.fp;obtain⟨c',rfl,hc⟩:=h2.fp;have ec:c'=⟨#[c]⟩:=by cases c' with | mk d=>cases d;simp at hc;simp[hc]
  subst ec;refine (Tryz.strings_Count_one s' c w).mono ?_;rintro e w' ⟨rfl,rfl⟩;refine⟨g,by simpa [eU]using Step.refl hw, ?_⟩;rw[hs];exact .int _ _
 cases hp
def A9{ab:cu}:gS Tryz.prog ab λf' args H=>if f'=304 then (aYu args H).map (cT H)else none:=by
 refine oC ⟨Tryz.f304,Tryz.func304,cB,cB⟩ λargs H v ws ns hp g w xs hw hg hx=>?_;unfold aYu at hp;split at hp
 ·rename_i s c;simp only[AG,BK]at hp;obtain⟨rfl,rfl,rfl⟩:=hp;obtain⟨x,y,rfl,h1,h2⟩:=nH hx;obtain⟨s',rfl,hs⟩:=h1.fp;cases h2;refine (Tryz.stringslite_IndexByte s' c w).mono ?_;rintro e w' ⟨rfl,rfl⟩;refine⟨g,by simpa [eU]using Step.refl hw, ?_⟩;rw[hs];exact .int _ _
 cases hp
def aKo(w:BL)(g n:Nat):(w.freeze ⟨g,0,N2⟩ n).heap.size=w.heap.size/\(∀b,b≠g->(w.freeze ⟨g,0,N2⟩ n).heap[b]? = w.heap[b]?) /\ (w.freeze ⟨g,0,N2⟩ n).os=w.os/\(w.freeze ⟨g,0,N2⟩ n).output=w.output:=by
 unfold World.freeze;split
 ·exact⟨rfl,λ_ _=>rfl,rfl,rfl⟩
 refine⟨siT,λb hb=>?_,rfl,rfl⟩;simp[DJ,Ne.symm hb]
def aIh:∀(rows:List LA) (l:List UInt8),cM rows=N1 l->rows.length=l.length/\∀(j:Nat) x,l[j]? = N1 x->∃n:Int,rows[j]? = N1 [.int .u8 n]/\x=CN n.toNat
 | [],l,h=>by cases h;exact⟨rfl,λj x h=>by simp at h⟩
 |r::rows,l,h=>by
  unfold cM at h;split at h
  ·rename_i e;cases e
  ·rename_i n r' e;cases e;cases hb:cM rows with
   |none=>rw[hb]at h;cases h
   |some l'=>
    rw[hb]at h;cases h;obtain⟨h1,h2⟩:=aIh rows l' hb;refine⟨by simp[h1],λj x hj=>?_⟩;cases j with
    |zero=>simp at hj;exact⟨n,rfl,hj.symm⟩
    |succ j=>exact h2 j x (by simpa using hj)
  cases h
def aIi:∀(rows:List LA),aE6 rows=Pa->∀(j:Nat) (n:Int),rows[j]? = N1 [.int .u8 n]->0<=n/\n<256
 | [],h,j,n,e=>by simp at e
 |r::rows,h,j,n,e=>by
  unfold aE6 at h;split at h
  ·rename_i e';cases e'
  ·rename_i m r' e';cases e';simp only[AI,decide_eq_true_eq]at h;cases j with
   |zero=>simp at e;subst e;exact h.1
   |succ j=>exact aIi rows h.2 j n (by simpa using e)
  cases h
def zn{ab:cu}:gS Tryz.prog ab λf' args H=>if f'=81 then (aAh 5 args H).map (cT H)else none:=by
 refine oC ⟨Tryz.f81,Tryz.func81,cB,cB⟩ λargs H v ws ns hp g w xs hw hg hx=>?_;unfold aAh at hp;split at hp
 ·rename_i o ve;obtain⟨x,rfl,hv⟩:=aBc hx;split at hp
  ·rename_i v' ty c ho;split at hp
   ·rename_i hc;simp only[AG,BK]at hp;obtain⟨rfl,rfl,rfl⟩:=hp;obtain⟨l,cs,hb,rfl,ld,hl⟩:=aGf hw ho hc hv;obtain⟨x1,x2,e,r1,r2⟩:=nH hl;have ecs:=mX e;subst ecs;cases r2;refine (aNS l.b w (by simp[EF,ld])).mono ?_;rintro e w' ⟨rfl,rfl⟩;exact⟨g,by simpa [eU]using Step.of_heap (w':=w.drew) hw rfl,.str Js⟩
   cases hp
  ·rename_i v' ty c o2 v2 n ho;split at hp
   ·rename_i hc;split at hp
    ·rename_i v3 t3 rows Ia;split at hp
     ·rename_i nc;obtain⟨rfl,rfl,ax,gq,bl,E1,td⟩:=nc;split at hp
      ·rename_i lb Co;simp only[AG,BK]at hp;obtain⟨rfl,rfl,rfl⟩:=hp;obtain⟨l,cs,hb,rfl,ld,hl⟩:=aGf hw ho hc hv;obtain⟨x1,x2,e,r1,r2⟩:=nH hl;have ecs:=mX e;subst ecs;cases r2 with
       |sr _ _ _ l2 a cap iq D7 xh jg hh=>
        have bd:l2.st=v3:=by have:=hw.st o2 _ l2 Ia iq;simp only[ah.ver]at this;omega
        have dp:au g H o2 l2 (.gl v3 5 1 rows):=⟨Ia,rfl,iq,bd⟩;obtain⟨⟨h0,ow,cm,dr,hk,eh,bc⟩,cur,Ac⟩:=hw.obj o2 l2 _ dp;obtain⟨rfl,rfl⟩:=hh bd omT;obtain⟨zo,V6⟩:=aIh rows lb Co;have iv:∀j,j<rows.length->(w.cell? ⟨l2.b,j,N2⟩).isSome=true:=λj hj=>eh j omT;have ru:lb.length<=cur.size:=by
         rcases MH cur.size lb.length with h | h
         ·have:=iv cur.size omT;simp[EF,Ac]at this
         exact h
        have kq:∀j x,lb[j]? = N1 x->w.cell? ⟨l2.b,j,N2⟩=N1 (.int .u8 x.toNat):=λj x hj=>by
         obtain⟨m,e1,e2⟩:=V6 j x hj;obtain⟨_,y,hy,hr⟩:=bc j 0 _ _ e1 rfl;cases hr;rw[FK,DU]at hy;obtain⟨q1,q2⟩:=aIi rows td j m e1;obtain⟨k,rfl⟩:=DN q1;rw[hy,e2,Int.toNat_natCast];have:(CN k).toNat=k:=by rw[UInt8.toNat_ofNat'];exact Nat.mod_eq_of_lt omT
         rw[this]
        have O4:n=lb.length:=omT;subst O4;refine (aNT l.b l2.b l2.cap lb cur w (λe=>gq (by rw[e];rfl)) omT omT (by simp[EF,ld]) Ac ru kq).mono ?_;rintro e w' ⟨rfl,rfl⟩;obtain⟨f1,f2,f3,f4⟩:=aKo w.drew l2.b lb.length;have hs:=Step.K8 (w':=w.drew.freeze ⟨l2.b,0,N2⟩ lb.length) hw dp f1 f2 ⟨f3,f4⟩;exact⟨g,by simpa [eU,ah.ver]using hs,.str ⟨lb.toArray⟩⟩
      cases hp
     cases hp
    cases hp
   cases hp
  cases hp
 cases hp
def aIj{sep:List UInt8}:∀(rows:List LA) (s:List UInt8),aJ7 sep rows=N1 s->∃ls:List (List UInt8),rows=ls.map (λl=>[AV.str l])/\s=OT ls sep
 | [],s,h=>by cases h;exact⟨[],rfl,rfl⟩
 | [r],s,h=>by
  unfold aJ7 at h;split at h
  ·rename_i e;cases e
  ·rename_i l e;injection e with e1 e2;subst e1;injection h with h;subst h;exact⟨[l],rfl,by simp[OT]⟩
  ·rename_i l r' bl e;cases e;exact (bl rfl).elim
  cases h
 |r::r2::rows,s,h=>by
  unfold aJ7 at h;split at h
  ·rename_i e;cases e
  ·rename_i l e;cases e
  ·rename_i l r' bl e;cases e;split at h
   ·rename_i t ht;cases h;obtain⟨ls,e1,e2⟩:=aIj (r2::rows) t ht;refine⟨l::ls,by rw[BI,<- e1], ?_⟩;cases ls with
    |nil=>simp at e1
    |cons a ls=>rw[e2];simp[OT]
   cases h
  cases h
def G2{ab:cu}:gS Tryz.prog ab λf' args H=>if f'=129 then (aKm args H).map (cT H)else none:=by
 refine oC ⟨Tryz.f129,Tryz.func129,cB,cB⟩ λargs H v ws ns hp g w xs hw hg hx=>?_;unfold aKm at hp;split at hp
 ·rename_i fl rows sep;split at hp
  ·rename_i s hs;split at hp
   ·rename_i hc;simp only[AG,BK]at hp;obtain⟨rfl,rfl,rfl⟩:=hp;obtain⟨x,y,rfl,h1,h2⟩:=nH hx;obtain⟨sep',rfl,Ad⟩:=h2.fp;obtain⟨ls,e1,e2⟩:=aIj rows s hs;rcases aA7 hw (av:=.sl fl rows) rfl h1 with⟨rfl,cap,rfl⟩ | ⟨b,off,cap,k,cells,rfl,cm,hrr,bd,bc⟩
    ·have:ls=[]:=by simpa using e1.symm
     subst this;refine (Tryz.strings_Join_none N2 cap sep' w).mono ?_;rintro e w' ⟨rfl,rfl⟩;refine⟨g,by simpa [eU]using Step.refl hw, ?_⟩;rw[e2];exact .str ⟨#[]⟩
    have gu:rows.length=ls.length:=by rw[e1];simp
    by_cases bl:ls=[]
    ·subst bl;rw[gu]at *;refine (Tryz.strings_Join_none (N1 ⟨b,off,N2⟩) cap sep' w).mono ?_;rintro e w' ⟨rfl,rfl⟩;refine⟨g,by simpa [eU]using Step.refl hw, ?_⟩;rw[e2];exact .str ⟨#[]⟩
    have hk:k=1:=by
     cases ls with
     |nil=>exact Zw rfl bl
     |cons a ls=>exact (hrr.row [.str a] (by rw[e1];simp)).symm
    subst hk;have kq:∀(j:Nat) x,(ls.map λl=>(⟨l.toArray⟩:ByteArray))[j]? = N1 x->w.cell? ⟨b,off+j,N2⟩=N1 (.string x):=λj x hj=>by
     rw[BN]at hj;cases hq:ls[j]? with
     |none=>simp[hq]at hj
     |some l=>
      simp[hq]at hj;have hlt:j<rows.length:=by rw[gu];exact (AH.1 hq).1
      have Ib:j<cells.length:=by rw[hrr.len];omega
      have hr:=hrr.rel j 0 [.str l] (.str l) cells[j] (by rw[e1,BN,hq];rfl) rfl (by simp[Ib]);obtain⟨bs,e3,e4⟩:=hr.fp;have:=bc j cells[j] (by simp[Ib]);rw[this,e3,<- hj];congr 2;cases bs with
      |mk d=>simp at e4;simp[<- e4]
    have Ae:(ls.map λl=>(⟨l.toArray⟩:ByteArray)).map (·.data.toList)=ls:=by simp[Function.comp_def]
    have qw:b<w.heap.size:=by
     cases ls with
     |nil=>exact Zw rfl bl
     |cons a ls=>exact World.block_lt_of_cell? (a:=⟨b,off+0,N2⟩) w (kq 0 _ rfl)
    have hj:=Tryz.strings_Join b off cap (ls.map λl=>(⟨l.toArray⟩:ByteArray)) sep' w kq qw (by simpa [gu]using hc.2) (by simpa [gu]using cm) (by rw[Ae,Ad,<- e2];exact hc.1);rw[Ae,Ad,<- e2]at hj;rw[show (ls.map λl=>(⟨l.toArray⟩:ByteArray)).length=rows.length by simp[gu]]at hj;refine hj.mono ?_;rintro e w' ⟨rfl,Ku⟩;exact⟨g,by simpa [eU]using aKn hw Ku,.str ⟨s.toArray⟩⟩
   cases hp
  cases hp
 cases hp
def aSR{tab:Nat}{g:G}{H:LO}{w:BL}(hw:WF g H w)(G3:Tryz.prog.globalNamed "internal/strconv.uint64pow10" = N1 tab) {ab:cu} (cn:ab.row tab=N1 (EB.map λz=>AV.int .u64 z)) (hg:bM Tryz.prog ab g):OL Tryz.prog w "internal/strconv.uint64pow10" .u64 EB:=by
 obtain⟨h1,cs,t,fz,h2,h3⟩:=hg.row tab (EB.map λz=>AV.int .u64 z) cn;obtain⟨h4,_⟩:=hw.whole.blocks tab _ h2;obtain⟨b,off,vs,e,hl,hr,hc⟩:=eI hw (k:=20) (pv:=.ep (EB.map λz=>AV.int .u64 z) 0) (cs:=EB.map λz=>AV.int .u64 z) (by
  simp only[bC];rw[Zy (by simp[DW])];rw[List.drop_zero,List.take_of_length_le (by simp[DW])]) h1
 cases e;unfold OL World.var?;rw[G3];simp only[Option.bind_some,h4,AG];apply MS;intro j;by_cases hj:j<20
 ·have ax:vs.length=20:=by rw[<- hr.1];simp[DW]
  have hv:vs[j]? = N1 vs[j]:=AP omT;have bc:=hc j _ hv;have ha:(EB.map λz=>AV.int .u64 z)[j]? = N1 (AV.int .u64 (EB[j]'(by rw[DW];exact hj))):=by rw[BN,AP (by rw[DW];exact hj)];rfl
  have dj:=hr.2 j _ _ ha hv;have hx:cs[j]? = N1 vs[j]:=by simpa [EF,h4]using bc
  rw[hx];simp only[List.getElem?_toArray,BN,AP (show j<EB.length by rw[DW];exact hj),DE,AG];generalize vs[j]=v at dj;cases dj;rfl
 rw[DV (by rw[h3];simp[DW];omega),DV (by simp[DW];omega)]
def aJ8:∀(k n:Nat),n<10 ^ k->0<k->nC k n=DT n
 |0,n,h,h0=>by omega
 |k+1,n,h,_=>by
  unfold nC;rw[DT];by_cases h1:n<10
  ·rw[Zy h1,dif_pos h1]
  rw[Zx h1,dif_neg h1];cases k with
  |zero=>omega
  |succ k=>rw[aJ8 (k+1) (n / 10) (by rw[Nat.pow_succ]at h;omega) omT]
def G4{ab:cu}{tab:Nat}(G3:Tryz.prog.globalNamed "internal/strconv.uint64pow10" = N1 tab)(cn:ab.row tab=N1 (EB.map λz=>AV.int .u64 z)):gS Tryz.prog ab λf' args H=>if f'=121 then (sC args H).map (cT H)else none:=by
 refine oC ⟨Tryz.f121,Tryz.func121,cB,cB⟩ λargs H v ws ns hp g w xs hw hg hx=>?_;unfold sC at hp;split at hp
 ·rename_i n;obtain⟨x,rfl,hv⟩:=aBc hx;cases hv;have fin:∀s,s=MT n -> -9223372036854775808<=n/\n<=9223372036854775807->FV Tryz.prog 121 #[.int .i64 n] w λe w'=>match e with
    |.returned x=>∃g',Step g H w g' (eU H []++[]) w' []/\pN g' (eU H []++[]) w.heap.size w' (.str s) x
    |_=>False:=λs hs hb=>by
   refine (Tryz.strconv_Itoa n hb.1 hb.2 w (aSR hw G3 cn hg)).mono ?_;rintro e w' ⟨rfl,k,os,rfl⟩;refine⟨g, ?_, ?_⟩
   ·have:Step g H w g H (LF (w.drewN k) os) []:=Step.nf hw (by simp[LF]) (λb hb=>by
     simp only[LF,World.heap_drewN];rw[Array.getElem?_append_left hb]) ⟨rfl,rfl⟩
    simpa [eU]using this
   rw[hs];exact .str ⟨(MT n).toArray⟩
  split at hp
  ·rename_i hc;simp only[AG,BK]at hp;obtain⟨rfl,rfl,rfl⟩:=hp;refine fin _ ?_ ⟨omT,omT⟩;rw[aJ8 7 _ omT omT,MT,Zx omT]
  split at hp
  ·rename_i hc;simp only[AG,BK]at hp;obtain⟨rfl,rfl,rfl⟩:=hp;refine fin _ ?_ ⟨omT,omT⟩;rw[aJ8 7 _ omT omT,MT,Zy omT,show (-n).toNat=n.natAbs by omega]
  cases hp
 cases hp
end Go.Proofs.Sa
end
section
namespace Go.Proofs.Sa
open Go Go.AM Go.Proofs Go.RowKit Go.Lib
structure lj(w:BL)(b n:Nat)(w':BL):Prop where
 size:w'.heap.size=w.heap.size+1
 other:∀k,k≠b->k<w.heap.size->w'.heap[k]? = w.heap[k]?
 blk:∃cs:Array BE,n<=cs.size/\w'.heap[b]? = N1 (.cells #[.pointer (N1 ⟨b,0,N2⟩),.slice (N1 ⟨w.heap.size,0,N2⟩) 0 cs.size] 151 (0,0))/\w'.heap[w.heap.size]? = N1 (.cells cs 5 (0,0))
 io:w'.os=w.os/\w'.output=w.output
def aPj{w:BL}{b n:Nat}{cs:Array BE}(dx:w.heap[b]? = N1 (.cells #[.pointer (N1 ⟨b,0,N2⟩),.slice N2 0 0] 151 (0,0)))(hn:n<=cs.size):lj w b n ((w.setCell ⟨b,1,N2⟩ (.slice (N1 ⟨w.heap.size,0,N2⟩) 0 cs.size)).alloc (.cells cs 5)):=by
 have hlt:b<w.heap.size:=by
  rcases MH b w.heap.size with h | h
  ·exact h
  simp[DV h]at dx
 have e:∀v,((w.setCell ⟨b,1,N2⟩ v).alloc (.cells cs 5)).heap=(w.setCell ⟨b,1,N2⟩ v).heap.push (.cells cs 5):=λ_=>rfl;have hs:∀v,(w.setCell ⟨b,1,N2⟩ v).heap.size=w.heap.size:=λv=>JE _ _ _;refine⟨by rw[e,OA,hs],λk hk zp=>?_,⟨cs,hn, ?_, ?_⟩,vG w ⟨b,1,N2⟩ (.slice (N1 ⟨w.heap.size,0,N2⟩) 0 cs.size)⟩
 ·rw[e,FE,Zx (by rw[hs];omega)];simp only[FR,DJ];rw[Zx (Ne.symm hk)]
 ·rw[e,FE,Zx (by rw[hs];omega)];simp[FR,DJ,dx]
 rw[e,FE,Zy (hs _).symm]
def lj.of{w W X:BL}{b n:Nat}(h:lj w b n X)(e:W.heap=X.heap)(io:W.os=X.os/\W.output=X.output):lj w b n W:=⟨by rw[e];exact h.size,λk h1 h2=>by rw[e];exact h.other k h1 h2,by rw[e];exact h.blk,io.1.trans h.io.1,io.2.trans h.io.2⟩
def aPk(b n:Nat)(w:BL)(dx:w.heap[b]? = N1 (.cells #[.pointer (N1 ⟨b,0,N2⟩),.slice N2 0 0] 151 (0,0)))(hn:n<=281474976710656):FV Tryz.prog 252 #[.pointer (N1 ⟨b,0,N2⟩),.int .i64 n] w λe w'=>e=.returned (.tuple #[])/\lj w b n w':=by
 obtain⟨cs,cl,hle,zm⟩:=Lib.run_makeNoZero (P:=Tryz.prog) w.drew #[3] 95 5 Tryz.underlying95 n hn;have hw:AR.wrap (AR.wrap 0+(n:Int))=n:=by rw[MU,MU];omega
 have az:(callFunc 285 #[.int .i64 (AR.wrap (AR.wrap 0+(n:Int)))]).run Tryz.prog w.drew=.ok (.value (.slice (N1 ⟨w.drew.heap.size,0,N2⟩) n cs.size)) (w.drew.drew.drew.alloc (.cells cs 5)):=by rw[hw,OU Tryz.func285 cB cB cB (e:=MA #[3] #[95]) cB,cl];rfl
 have c1:w.drew.cell? ⟨b,1,N2⟩=N1 (.slice N2 0 0):=by have:w.drew.heap[b]? = _:=dx;rw[ID this];rfl
 have hlt:b<w.heap.size:=by
  rcases MH b w.heap.size with h' | h'
  ·exact h'
  simp[DV h']at dx
 have c2:(w.alloc (.cells cs 5)).cell? ⟨b,1,N2⟩=N1 (.slice N2 0 0):=by have:(w.alloc (.cells cs 5)).heap[b]? = _:=(PD w _ b hlt).trans dx;rw[ID this];rfl
 have f2:(w.alloc (.cells cs 5)).frozen? ⟨b,1,N2⟩=false:=NK ((PD w _ b hlt).trans dx) 1;have Ic:∀W:BL,(Builtin.copy_ #[95,95] 3 #[.slice (N1 ⟨w.heap.size,0,N2⟩) 0 cs.size,.slice N2 0 0]).run Tryz.prog W=.ok (goInt 0) W:=
  λW=>run_copy_none W 95 95 3 5 _ _ 0 cs.size 0 0 Tryz.underlying95 cB rfl
 clear hw;have mixed:Tryz.prog.follows .mixedOrders=true:=cB
 go_enter Tryz.func252,Tryz.ntmps252
 go_wp2
 have zk:=aPj dx hle
 go_region_o
 all_goals (go_wp2;go_end0;exact⟨rfl,zk.of rfl ⟨rfl,rfl⟩⟩)
def aNU(b n:Nat)(w:BL)(dx:w.heap[b]? = N1 (.cells #[.pointer N2,.slice N2 0 0] 151 (0,0)))(gq:0<n)(hn:n<=281474976710656):FV Tryz.prog 211 #[.pointer (N1 ⟨b,0,N2⟩),.int .i64 n] w λe w'=>e=.returned (.tuple #[])/\lj (w.setCell ⟨b,0,N2⟩ (.pointer (N1 ⟨b,0,N2⟩))) b n w':=by
 have P7:(w.setCell ⟨b,0,N2⟩ (.pointer (N1 ⟨b,0,N2⟩))).heap[b]? = N1 (.cells #[.pointer (N1 ⟨b,0,N2⟩),.slice N2 0 0] 151 (0,0)):=by simp[FR,DJ,dx]
 have c1:(w.setCell ⟨b,0,N2⟩ (.pointer (N1 ⟨b,0,N2⟩))).cell? ⟨b,1,N2⟩=N1 (.slice N2 0 0):=by rw[ID P7];rfl
 have mixed:Tryz.prog.follows .mixedOrders=true:=cB;have e122:∀args w,(callFunc 122 args).run Tryz.prog w=.ok (.enter 122 args) w:=enters_of Tryz.func122 cB rfl;have e252:∀args w,(callFunc 252 args).run Tryz.prog w=.ok (.enter 252 args) w:=enters_of Tryz.func252 cB rfl;have c1':(w.setCell ⟨b,0,N2⟩ (.pointer (N1 ⟨b,0,N2⟩))).drew.cell? ⟨b,1,N2⟩=N1 (.slice N2 0 0):=c1
 go_enter Tryz.func211,Tryz.ntmps211
 go_wp2_with (go_at_fn 122;refine (aIg b 151 (.inl rfl) w (by rw[ID dx];rfl) (by simp[LU,dx]) (NK dx 0)).mono ?_;rintro e w' ⟨rfl,rfl⟩)
 go_region_o
 all_goals go_wp2_with (go_at_fn 252;refine (aPk b n (w.setCell ⟨b,0,N2⟩ (.pointer (N1 ⟨b,0,N2⟩))).drew P7 hn).mono ?_;rintro e w' ⟨rfl,hp⟩)
 all_goals first
  | (go_end0;exact⟨rfl,hp.size,hp.other,hp.blk,hp.io⟩)
  | (exfalso;omega)
end Go.Proofs.Sa
end
section
namespace Go.Proofs.Sa
open Go Go.AM Go.Proofs Go.RowKit Go.Lib
def G5{ab:cu}:gS Tryz.prog ab λf' args H=>if f'=211 then (aNR 151 5 args H).map (cT H)else none:=by
 refine oC ⟨Tryz.f211,Tryz.func211,cB,cB⟩ λargs H v ws ns hp g w xs hw hg hx=>?_;unfold aNR at hp;split at hp
 ·rename_i o ve n;obtain⟨x,y,rfl,hv,hy⟩:=nH hx;cases hy;split at hp
  ·rename_i v' ty ho;split at hp
   ·rename_i hc;obtain⟨Er,rfl,gq,lx⟩:=hc;simp only[AG,BK]at hp;obtain⟨rfl,rfl,rfl⟩:=hp;obtain⟨l,cs,hb,rfl,ld,hl⟩:=aGf hw ho Er hv;obtain⟨x1,x2,e,r1,r2⟩:=nH hl;have ecs:=mX e;subst ecs;have e1:=bBr r1;subst e1;cases r2;obtain⟨m,rfl⟩:=DN (Int.le_of_lt gq);refine (aNU l.b m w ld omT omT).mono ?_;rintro e w' ⟨rfl,hp⟩;obtain⟨cb,hle,fo,dp⟩:=hp.blk;have hlt:l.b<w.heap.size:=hw.blk o l hb.loc;have xu:∀v,(w.setCell ⟨l.b,0,N2⟩ v).heap.size=w.heap.size:=λv=>JE _ _ _;have uj:∀k,k≠l.b->k<w.heap.size->w'.heap[k]? = w.heap[k]? := λk h1 h2=>by
     rw[hp.other k h1 (by rw[xu];exact h2)];simp[FR,DJ,Ne.symm h1]
    rw[xu]at fo dp;have gd:=hp.size;rw[xu]at gd;have K1:o<H.length:=hw.lt o l hb.loc
    let w1:BL:=w.alloc (.cells cb 5)
    have dy:w1.heap=w.heap.push (.cells cb 5):=rfl;have s1:=hw.more 1;have hid:H.length<(H++AX 1 (ah.gone 0)).length:=siT;obtain⟨g',s2,J9⟩:=Step.yk (rows:=[]) (k:=1) (cap:=cb.size) s1.wf hid dy (g:=g) ⟨rfl,siT,siT⟩ rfl (Nat.zero_le _) omT;have nn:bH (H++AX 1 (ah.gone 0)) H.length=1:=by simp[bH,ah.ver]
    have Cp:make (H++AX 1 (ah.gone 0)) H.length (.gl · 5 1 [])=H++[.gl 1 5 1 []]:=by simp[make,ah.ver]
    rw[nn]at J9;rw[Cp]at s2;have du:au g' (H++[.gl 1 5 1 []]) o l (.cw v' 151 [.nilPtr,.ar]):=by refine⟨by rw[BM K1];exact ho,rfl, ?_,by rw[Er];exact hb.st⟩;rw[s2.aq o soT soT];exact hb.loc
    have s3:=Step.Aa (w':=w') (dh:=[.ptr o ve 0,.sr H.length 1 0]) (cs' := #[.pointer (N1 ⟨l.b,0,N2⟩),.slice (N1 ⟨w.heap.size,0,N2⟩) 0 cb.size]) s2.wf du (by rw[gd,dy,OA])
     (λb Es=>by
      rcases Nat.lt_trichotomy b w.heap.size with h | h | h
      ·rw[uj b Es h,dy,FE,Zx omT]
      ·subst h;rw[dp,dy];simp
      rw[DV omT,DV (by rw[dy];simp;omega)])
     fo
     (by
      refine⟨rfl,λi a x e1 e2=>?_⟩
      match i with
      |0=>simp at e1 e2;subst e1;subst e2;exact .ptr o ve 0 l _ du.loc (by rw[hb.st];exact AQ _) λ_ _=>rfl
      |1=>simp at e1 e2;subst e1;subst e2;exact J9
      |i+2=>simp at e1) ⟨hp.io.1.trans (vG w ⟨l.b,0,N2⟩ _).1,hp.io.2.trans (vG w ⟨l.b,0,N2⟩ _).2⟩
    refine⟨g', ?_,ai.skip g'⟩;have:=Step.narrow (wr:=[o]) hw.lt ((s1.trans s2).trans s3) (λi hi sw=>by
     simp at hi;rcases hi with h | h
     ·omega
     simp[h])
    simpa [eU,List.set_append,K1,Er]using this
   cases hp
  cases hp
 cases hp
end Go.Proofs.Sa
end
section
namespace Go.Proofs.Sa
open Go Go.AM Go.Proofs Go.RowKit Go.Lib
def disable(w:BL):(callFunc 314 #[]).run Tryz.prog w=.ok (.value (.tuple #[])) w:=PY Tryz.func314 cB cB cB .disable cB w
def enable(w:BL):(callFunc 316 #[]).run Tryz.prog w=.ok (.value (.tuple #[])) w:=PY Tryz.func316 cB cB cB .enable cB w
def acquire(a:IA)(w:BL):(callFunc 317 #[.pointer (N1 a)]).run Tryz.prog w=.ok (.value (.tuple #[])) w:=PV Tryz.func317 cB cB cB .acquire cB a w
def releaseMerge(a:IA)(w:BL):(callFunc 319 #[.pointer (N1 a)]).run Tryz.prog w=.ok (.value (.tuple #[])) w:=PV Tryz.func319 cB cB cB .releaseMerge cB a w
def aHx(a:IA)(x:BE)(u:FrameMode)(w:BL)(hc:w.cell? a=N1 x)(hz:w.frozen? a=Po):CallsD Tryz.prog 263 #[.pointer (N1 a),.bool Pa] u w λe u' w'=>u'=u/\(e=.returned (.tuple #[])/\w'=w.drew.setCell a (.int .u32 1)):=by
 have P8:w.drew.cell? a=N1 x:=by go_simp
 have Kv:w.drew.frozen? a=false:=by go_simp
 have bd:=run_call_store (P:=Tryz.prog) Tryz.func288 cB cB cB cB (k:=.u32) (y:=1) P8 Kv
 go_enter_d Tryz.func263,Tryz.ntmps263
 go_wp2
 go_region_calls
 all_goals (go_end0;exact⟨rfl,rfl⟩)
def aLJ(a:IA)(w:BL)(hc:w.cell? a=N1 (.int .i32 1))(hz:w.frozen? a=Po):FV Tryz.prog 287 #[.pointer (N1 a)] w λe w'=>e=.returned (.tuple #[])/\w'=w.setCell a (.int .i32 0):=by
 have hd:=disable;have he:=enable;have hr:=releaseMerge;have ji:=run_call_add (P:=Tryz.prog) Tryz.func320 cB cB cB .i32 cB (y := -1) (s:=0) hc hz (by simp[go_sem];rfl);have Kw:=NZ (P:=Tryz.prog) (src:=399) (dst:=259) Tryz.underlying399 Tryz.underlying259 cB hc
 go_enter Tryz.func287,Tryz.ntmps287
 go_wp2
 go_end0
 go_wp2
def aGg(a:IA)(u:FrameMode)(w:BL)(hc:w.cell? a=N1 (.int .i32 1))(hz:w.frozen? a=Po):CallsD Tryz.prog 262 #[.pointer (N1 a)] u w λe u' w'=>u'=u/\(e=.returned (.tuple #[])/\w'=w.setCell a (.int .i32 0)):=by
 have e287:∀args w,(callFunc 287 args).run Tryz.prog w=.ok (.enter 287 args) w:=enters_of Tryz.func287 cB rfl
 go_enter_d Tryz.func262,Tryz.ntmps262
 go_wp2_with (go_at_fn 287;refine (aLJ a _ hc hz).mono ?_;rintro e w' ⟨rfl,rfl⟩)
 all_goals (go_end0;exact⟨rfl,rfl⟩)
def aTR(a:IA)(w:BL)(hc:w.cell? a=N1 (.int .i32 0))(hz:w.frozen? a=Po):FV Tryz.prog 286 #[.pointer (N1 a)] w λe w'=>e=.returned (.tuple #[])/\w'=w.setCell a (.int .i32 1):=by
 have hd:=disable;have he:=enable;have ha:=acquire;have Kx:=run_call_cas_hit (P:=Tryz.prog) Tryz.func315 cB cB cB .i32 cB (y:=1) hc hz;have P8:(w.setCell a (.int .i32 1)).cell? a=N1 (.int .i32 1):=World.cell?_setCell_same w a _ hc;have Kw:=NZ (P:=Tryz.prog) (src:=399) (dst:=259) Tryz.underlying399 Tryz.underlying259 cB P8
 go_enter Tryz.func286,Tryz.ntmps286
 go_wp2
 first | go_end0 | (simp only[Cb,Exit.then];refine Mt (Mu rfl _ _ _) rfl ?_) | refine Mt (Mu rfl _ _ _) rfl ?_
 go_wp2
def aPl(a:IA)(w:BL)(hc:w.cell? a=N1 (.int .i32 0))(hz:w.frozen? a=Po):FV Tryz.prog 261 #[.pointer (N1 a)] w λe w'=>e=.returned (.tuple #[])/\w'=w.setCell a (.int .i32 1):=by
 have e286:∀args w,(callFunc 286 args).run Tryz.prog w=.ok (.enter 286 args) w:=enters_of Tryz.func286 cB rfl
 go_enter Tryz.func261,Tryz.ntmps261
 go_wp2_with (go_at_fn 286;refine (aTR a _ hc hz).mono ?_;rintro e w' ⟨rfl,rfl⟩)
 all_goals (go_end0;exact⟨rfl,rfl⟩)
end Go.Proofs.Sa
end
section
namespace Go.Proofs.Sa
open Go Go.AM Go.Proofs Go.RowKit Go.Lib
def aPm(b off fid:Nat)(vf vc xs:Array BE)(w:BL)(R:BL->Prop) (iv:∀w,(callFunc fid xs).run Tryz.prog w=.ok (.enter fid xs) w) (re:vf++vc=xs) (h0:w.cell? ⟨b,off,N2⟩=N1 (.int .u32 0)) (h1:w.cell? ⟨b,off+1,N2⟩=N1 (.int .i32 0)) (f1:w.frozen? ⟨b,off+1,N2⟩=Po) (hf:FV Tryz.prog fid xs (w.setCell ⟨b,off+1,N2⟩ (.int .i32 1)) λe w'=>(∃x,e=.returned x)/\R w') (hR:∀w',R w'->(∃x,w'.cell? ⟨b,off,N2⟩=N1 x)/\w'.frozen? ⟨b,off,N2⟩=Po/\w'.cell? ⟨b,off+1,N2⟩=N1 (.int .i32 1)/\w'.frozen? ⟨b,off+1,N2⟩=Po):FV Tryz.prog 233 #[.pointer (N1 ⟨b,off,N2⟩),.func (.func fid) vf vc] w λe w'=>e=.returned (.tuple #[]) /\ ∃w2,R w2/\w'=(w2.drew.setCell ⟨b,off,N2⟩ (.int .u32 1)).setCell ⟨b,off+1,N2⟩ (.int .i32 0):=by
 have hl:=J4 (P:=Tryz.prog) Tryz.func260 cB cB cB .u32 cB (w:=w.setCell ⟨b,off+1,N2⟩ (.int .i32 1)) (a:=⟨b,off,N2⟩) (x:=0) ((KR _ ⟨b,off+1,N2⟩ ⟨b,off,N2⟩ _ siT).trans h0);have Qr:∀(x:Bool) (w:BL),(Op.unary .not (.bool x)).run Tryz.prog w=.ok (.bool (!x)) w:=λ_ _=>rfl;have e261:∀args w,(callFunc 261 args).run Tryz.prog w=.ok (.enter 261 args) w:=enters_of Tryz.func261 cB rfl;subst re
 go_enter_defers Tryz.func233,Tryz.ntmps233
 go_wp2_with (go_at_fn 261;refine (aPl ⟨b,off+1,N2⟩ _ (by go_simp) (by go_simp)).mono ?_;rintro e w' ⟨rfl,rfl⟩)
 go_wp2
 refine hf.mono ?_;rintro e w' ⟨⟨x,rfl⟩,tv⟩;obtain⟨⟨x0,jr⟩,z0,lz,z1⟩:=hR w' tv
 go_wp2
 all_goals try go_end0
 all_goals try go_wp2
 refine leaves_cons (f:=263) (args := #[.pointer (N1 ⟨b,off,N2⟩),.bool Pa]) siT (by simp[go_sem]) ?_;refine (aHx ⟨b,off,N2⟩ x0 .returning _ jr z0).mono ?_;rintro e u' w'' ⟨rfl,rfl,rfl⟩;refine leaves_cons (f:=262) (args := #[.pointer (N1 ⟨b,off+1,N2⟩)]) (by simp[settle]) (by simp[go_sem]) ?_;refine (aGg ⟨b,off+1,N2⟩ _ _ ?_ (by simp[z1])).mono ?_
 ·refine (KR _ ⟨b,off,N2⟩ ⟨b,off+1,N2⟩ _ siT).trans ?_;rw[World.cell?_drew];exact lz
 rintro e u' w'' ⟨rfl,rfl,rfl⟩;simp[Leaves,settle,results,Tryz.results233];exact⟨w',tv,rfl⟩
end Go.Proofs.Sa
end
section
namespace Go.AM
open Go
def aWZ(off:Nat)(k:DK)(m:Int):ag:=.seq (.region Po [⟨N1 1,.fld 0 1 Po (.tmp 0),N2,[]⟩,⟨N1 1,.fa off (.tmp 1),N2,[]⟩,⟨N1 1,.load 1 Po (.tmp 1),N2,[]⟩,⟨N1 1,.bin .eql .no (.tmp 1) (.const (.int k m)),N2,[]⟩]) (.cond (.tmp 1) .skip .bad)
def aX0(off:Nat)(k:DK)(m:Int):ag:=.region Po [⟨N1 1,.fld 0 1 Po (.tmp 0),N2,[]⟩,⟨N1 1,.fa off (.tmp 1),N2,[]⟩,⟨N2,.store 1 (.tmp 1) (.const (.int k m)),N2,[]⟩]
def aTS:ag:=.region Po [⟨N1 1,.fld 1 1 Po (.tmp 0),N2,[]⟩,⟨N1 1,.dm (.tmp 1) [],N2,[]⟩]
def aRp:ag:=.seq (aWZ 0 .u32 0)<|.seq (aWZ 1 .i32 0)<|.seq (aX0 1 .i32 1)<|.seq aTS<|.seq (aWZ 1 .i32 1)<|.seq (aX0 0 .u32 1) (aX0 1 .i32 0)
def nI:bw:=⟨2,[],[],.seq (.region Po [⟨N1 0,.cz (.tmp 0),N2,[]⟩,⟨N1 1,.cz (.tmp 1),N2,[]⟩,⟨N1 0,.build [.undef,.undef] [(0,1,.tmp 0),(1,1,.tmp 1)],N2,[]⟩]) aRp⟩
section
variable {P:CU}{ab:cu}{A:af}{g:G}{H:LO}{w:BL}
def aTT(fid:Nat)(vf vc:List BE):Oper:=⟨N2,.call { callee:=.value (.const (.func (.func fid) vf.toArray vc.toArray)),args := #[],argTypes := #[] },0,"",#[],N2⟩
def aLK{fid:Nat}{first ay:LA}{vf vc:List BE}(yo:fU g first vf)(hlc:fU g ay vc){call:Nat->LA->LO->Out}(az:oT P ab call){site:Option Nat} {av:AV} {H':LO} {wr:List Nat} (h:cX call H site (.fn fid first ay) []=N1 (av,H',wr)) (hw:WF g H w) (hg:bM P ab g):(∀w,(callFunc fid (vf++vc).toArray).run P w=.ok (.enter fid (vf++vc).toArray) w) /\ FV P fid (vf++vc).toArray w λe w'=>(∃x,e=.returned x)/\∃g',Step g H w g' H' w' wr:=by
 have hF:∃Fn,P.funcs[fid]? = N1 Fn/\(Fn.name == "runtime.NumGoroutine")=Po/\Fn.body.isNone=false:=by
  have h:=h;simp only[cX]at h;split at h
  ·cases h
  rename_i args' lent vn;split at h
  ·cases h
  rename_i v H2 en hc;have hargs:fU g (first++[]++ay) (vf++[]++vc):=(yo.append ⟨rfl,λi a x h=>by simp at h⟩).append hlc;obtain⟨l1,l2⟩:=pU hw vn hargs;obtain⟨g1,jj,vo⟩:=iR lent g H hw λo ho=>.inl (l1 o ho);exact (az.1 fid _ _ v H2 en hc g1 w _ jj.wf (hg.mono jj.le) (l2 g1 vo).strip).1
 obtain⟨Fn,Qd,jq,gh⟩:=hF;have hn:¬(Fn.name = "runtime.NumGoroutine"):=by simpa using jq
 have hb:¬(Fn.body=N2):=λe=>by rw[e]at gh;simp at gh
 refine⟨λw=>by simp[callFunc,Qd,hn,hb], ?_⟩;have cl:(execOp (M7 { tmps := #[],defers:=[] }) (aTT fid vf vc)).run P w=.ok (.enter fid (vf++vc).toArray) w:=by simp[aTT,execOp,resolve,M7,JF,invoke,callFunc,Qd,hn,hb]
 have hd:=aDV (o:=aTT fid vf vc) (a:={ tmps := #[],defers:=[] })
  (vx:=[]) yo ⟨rfl,λi a x h=>by simp at h⟩ hlc az h hw hg λFn' _ _ _=>by simpa using cl
 rcases hd with⟨v,w',hr,_⟩ | ⟨w',hr,_⟩ | ⟨f,args,w1,hr,hR⟩ | ⟨l,f,t,b,c,w1,hr,_⟩
 ·rw[cl]at hr;cases hr
 ·rw[cl]at hr;cases hr
 ·rw[cl]at hr;cases hr;refine hR.mono λe w' he=>?_;cases e with
  |panicked c=>exact he.elim
  |outgrown=>exact he.elim
  |returned x=>exact⟨⟨x,rfl⟩,by obtain⟨g',h1,_⟩:=he;exact⟨g',h1⟩⟩
 rw[cl]at hr;cases hr
def faV(off:Nat):AV->Option AV
 |.ptr o v off0=>N1 (.ptr o v (off0+off))
 |.vp o v n k i off0=>N1 (.vp o v n k i (off0+off))
 |.ep row off0=>N1 (.ep row (off0+off))
 |_=>N2
def bCa{a a':AV}(h:faV 0 a=N1 a'):a'=a:=by cases a<;>first | (simp only[faV,AG,DU]at h;exact h.symm) | cases h
def aPn{off b o2:Nat}{a a':AV}(h:faV off a=N1 a')(hv:ai g a (.pointer (N1 ⟨b,o2,N2⟩))):ai g a' (.pointer (N1 ⟨b,o2+off,N2⟩)):=by
 cases hv with
 |ptr o v off0 l ad hl hv hh=>simp only[faV,AG]at h;subst h;exact .ptr o v _ l _ hl hv λe1 e2=>by have:=hh e1 e2;simp only[OB]at this;rw[this.1,this.2.1]
 |vp o v n k i off0 l ad hl hv hn hh=>simp only[faV,AG]at h;subst h;exact .vp o v n k i _ l _ hl hv hn λe1 e2=>by have:=hh e1 e2;simp only[OB]at this;rw[this.1,this.2.1,EU]
 |ep row off0 b' base bd hp hh=>
  simp only[faV,AG]at h;subst h;have:=ai.ep row (off0+off) b base bd hp hh
  rwa [<- EU]at this
 |undef=>cases h
def aKp{b:Nat}{d:Option Nat}:(⟨b,[]⟩:Ctx).site d=none:=by cases d<;>simp[Ctx.site]
def opR{call:Nat->LA->LO->Out}{b:Nat}{o:ae}{r:List ae}{s s':gp}(xg:o.guard=N2)(hW:isW N2 Po o.op=Po) (h:jL call ⟨b,[]⟩ (o::r) s=N1 s'):∃v,evR s.H s.ρ o.op=N1 v/\jL call ⟨b,[]⟩ r ⟨bg s.ρ o.dst v,s.H,s.wr⟩=N1 s':=by
 simp only[jL,pF,wanted,xg,Zv,aOI,aKp,hW,BX,Zu]at h;split at h
 ·rename_i v H' wr h1;split at h1
  ·rename_i v2 h2;cases h1;exact⟨_,h2,h⟩
  cases h1
 cases h
def opW{call:Nat->LA->LO->Out}{b:Nat}{o:ae}{r:List ae}{s s':gp}(xg:o.guard=N2)(hW:isW N2 Po o.op=Pa) (h:jL call ⟨b,[]⟩ (o::r) s=N1 s'):∃v H' l,evW call s.H s.ρ N2 o.op=N1 (v,H',l)/\jL call ⟨b,[]⟩ r ⟨bg s.ρ o.dst v,H',bE b s.wr l⟩=N1 s':=by
 simp only[jL,pF,wanted,xg,Zv,aOI,aKp,hW]at h;split at h
 ·rename_i v H' wr h1;exact⟨_,_,_,h1,h⟩
 cases h
def aAj{n:Nat}{c:Ctx}{x y:ag}{s:gp}{e s'}(hx:∀m e s1,cY A m c x s=N1 (e,s1)->e=.normal)(h:cY A n c (.seq x y) s=N1 (e,s')):∃m s1,m<n/\cY A m c x s=N1 (.normal,s1)/\cY A m c y s1=N1 (e,s'):=by
 cases n with
 |zero=>rw[gT]at h;cases h
 |succ m=>
  rw[iD]at h;split at h
  ·rename_i s1 h1;exact⟨m,s1,HR m,h1,h⟩
  rename_i tp;obtain rfl:=hx m e s' h;exact Zw h (tp s')
def aE8{n:Nat}{c:Ctx}{ops:List ae}{s:gp}{e s'}(h:cY A n c (.region Po ops) s=N1 (e,s')):e=.normal/\∃m,m<n/\jL (dD A m) c ops s=N1 s':=by
 cases n with
 |zero=>rw[gT]at h;cases h
 |succ m=>
  rw[iS]at h;simp only[iO,BQ,BX,Zu]at h;split at h
  ·rename_i s1 h1;cases h;exact⟨rfl,m,HR m,h1⟩
  cases h
def aTU{x:AV}{k:DK}{m:Int}(h:kJ .eql .no x (.int k m)=N1 (.bool Pa)):x=.int k m:=by
 cases x with
 |int k' m'=>
  simp only[kJ]at h;split at h
  ·rename_i hk;subst hk;simp at h;rw[h]
  cases h
 |_=>change N2=N1 _ at h;cases h
def aE9{n b off:Nat}{k:DK}{m:Int}{p f y:AV}{H:LO}{wr:List Nat}{e s'}(h:cY A n ⟨b,[]⟩ (aWZ off k m) ⟨[.agg [p,f],y],H,wr⟩=N1 (e,s')):e=.normal/\∃p' z,faV off p=N1 p'/\bC H 1 p'=N1 [.int k m]/\s'=⟨[.agg [p,f],z],H,wr⟩:=by
 obtain⟨n1,s1,_,h1,h2⟩:=aAj (λm e s1 h=>(aE8 h).1) h;obtain⟨_,n2,_,h1⟩:=aE8 h1;obtain⟨v1,e1,h1⟩:=opR rfl rfl h1;obtain⟨v2,e2,h1⟩:=opR rfl rfl h1;obtain⟨v3,e3,h1⟩:=opR rfl rfl h1;obtain⟨v4,e4,h1⟩:=opR rfl rfl h1;simp only[jL,AG]at h1;subst h1;simp[evR,aa.ev,eD]at e1;subst e1;simp only[evR,bg,aa.ev,GL,GM,CT,BG,EN]at e2 e3 e4;have e2':faV off p=N1 v2:=by cases p<;>simp_all [faV]
 cases n1 with
 |zero=>rw[gT]at h2;cases h2
 |succ n1=>
  rw[iT]at h2;simp only[bg,aa.ev,GL,GM,CT,BG,EN]at h2;split at h2
  ·cases n1 with
   |zero=>rw[gT]at h2;cases h2
   |succ n1=>
    rw[xB]at h2;cases h2;refine⟨rfl,v2,.bool Pa,e2', ?_,rfl⟩;split at e3
    ·rename_i cs hr;have hc:cs=[v3]:=by
      simp only[eD,BX,Zu]at e3;split at e3
      ·cases e3;rfl
      cases e3
     subst hc;rw[hr,aTU e4]
    cases e3
  ·cases n1 with
   |zero=>rw[gT]at h2;cases h2
   |succ n1=>rw[qG]at h2;cases h2
  cases h2
def aPo{call:Nat->LA->LO->Out}{H H':LO}{ρ:LA}{x:aa}{k:DK}{m:Int}{a:AV}{l:List Nat}(h:evW call H ρ N2 (.store 1 x (.const (.int k m)))=N1 (a,H',l)):storeCells H [.int k m] (x.ev ρ)=N1 (H',l):=by
 have e:evW call H ρ N2 (.store 1 x (.const (.int k m)))=(match storeCells H [.int k m] (x.ev ρ)with | some (H',wr)=>N1 (.undef,H',wr) | none=>N2):=rfl;rw[e]at h;split at h
 ·rename_i h1;cases h;exact h1
 cases h
def aKq{H:LO}{ρ:LA}{x:aa}{v:AV}(h:evR H ρ (.cz x)=N1 v):v=x.ev ρ/\v.cells=[v]/\v≠.undef/\∀o w,v≠.yld o w:=by simp only[evR]at h;split at h<;>first | (cases h;rename_i e;exact⟨e.symm,rfl,siT,siT⟩) | cases h
def aPp{H:LO}{ρ:LA}{p f v:AV}(hp:ρ[0]? = N1 p)(hf:ρ[1]? = N1 f)(cp:p.cells=[p])(cf:f.cells=[f]) (h:evR H ρ (.build [.undef,.undef] [(0,1,.tmp 0),(1,1,.tmp 1)])=N1 v):v=.agg [p,f]:=by
 simp only[evR,iA,aa.ev,hp,hf,EN,cp,cf]at h;split at h
 ·split at h
  ·simpa [nV]using h.symm
  cases h
 cases h
def aGh{n b off:Nat}{k:DK}{m:Int}{p f y:AV}{H:LO}{wr:List Nat}{e s'}(h:cY A n ⟨b,[]⟩ (aX0 off k m) ⟨[.agg [p,f],y],H,wr⟩=N1 (e,s')):e=.normal/\∃p' z H' l,faV off p=N1 p'/\storeCells H [.int k m] p'=N1 (H',l)/\s'=⟨[.agg [p,f],z],H',bE b wr l⟩:=by
 obtain⟨he,n2,_,h1⟩:=aE8 h;obtain⟨v1,e1,h1⟩:=opR rfl rfl h1;obtain⟨v2,e2,h1⟩:=opR rfl rfl h1;obtain⟨v3,H3,l,e3,h1⟩:=opW rfl rfl h1;simp only[jL,AG]at h1;subst h1;simp[evR,aa.ev,eD]at e1;subst e1;have e3:=aPo e3;simp only[evR,bg,aa.ev,GL,GM,CT,BG,EN]at e2 e3;have e2':faV off p=N1 v2:=by cases p<;>simp_all [faV]
 exact⟨he,v2,v2,H3,l,e2',e3,rfl⟩
def aMU{n b:Nat}{p f y:AV}{H:LO}{wr:List Nat}{e s'}(h:cY A n ⟨b,[]⟩ aTS ⟨[.agg [p,f],y],H,wr⟩=N1 (e,s')):e=.normal/\∃m z H' l,m<n/\cX (dD A m) H N2 f []=N1 (z,H',l)/\s'=⟨[.agg [p,f],z],H',bE b wr l⟩:=by obtain⟨he,n2,hn,h1⟩:=aE8 h;obtain⟨v1,e1,h1⟩:=opR rfl rfl h1;obtain⟨v3,H3,l,e3,h1⟩:=opW rfl rfl h1;simp only[jL,AG]at h1;subst h1;simp[evR,aa.ev,eD]at e1;subst e1;simp only[evW,bg,aa.ev,GL,GM,CT,BG,EN,BY]at e3;exact⟨he,n2,v3,H3,l,hn,e3,rfl⟩
def aRq{n:Nat}{args:LA}{H:LO}{r:AV×LO×List Nat}(hp:A.bq 233=N2)(hf:A.fn 233=N1 nI)(h:dD A n 233 args H=N1 r):∃p f q0 q1 m z H1 H2 H3 H4 l1 l2 l3 l4,args=[p,f]/\(∀o v,f≠.yld o v)/\m<n/\faV 0 p=N1 q0/\faV 1 p=N1 q1/\bC H 1 q0=N1 [.int .u32 0]/\bC H 1 q1=N1 [.int .i32 0] /\ storeCells H [.int .i32 1] q1=N1 (H1,l1)/\cX (dD A m) H1 N2 f []=N1 (z,H2,l2)/\bC H2 1 q1=N1 [.int .i32 1] /\ storeCells H2 [.int .u32 1] q0=N1 (H3,l3)/\storeCells H3 [.int .i32 0] q1=N1 (H4,l4) /\ r=cJ H.length (.tup [],H4,bE H.length (bE H.length (bE H.length (bE H.length [] l1) l2) l3) l4):=by
 rcases sS h with⟨p,v1,xn,_⟩ | ⟨fn,s',e,r',xb,he,Ra,zk,hr,hN⟩ | ⟨xb,_⟩
 rotate_left 2
 ·rw[hf]at xb;cases xb
 ·rw[hp]at xn;cases xn
 rw[hf]at xb;cases xb;obtain⟨n1,s1,lx,h1,he⟩:=aAj (λm e s1 h=>(aE8 h).1) he;obtain⟨_,_,_,h1⟩:=aE8 h1;obtain⟨u1,d1,h1⟩:=opR rfl rfl h1;obtain⟨u2,d2,h1⟩:=opR rfl rfl h1;obtain⟨v1,e1,h1⟩:=opR rfl rfl h1;simp only[jL,AG]at h1;subst h1;obtain⟨d1,c1,u1',_⟩:=aKq d1;obtain⟨d2,c2,u2',y2⟩:=aKq d2
 match args,d1,d2,e1,hN with
 | [],d1,_,e1,_=>exact Zw (by simpa [nF,nI,aa.ev]using d1) u1'
 | [p],d1,d2,e1,_=>exact Zw (by simpa [nF,nI,aa.ev,bg]using d2) u2'
 |p::f::x::r,d1,d2,e1,hN=>simp[nI]at hN
 | [p,f],d1,d2,e1,hN=>
  simp[nF,nI,aa.ev,bg]at d1 d2;subst d1;subst d2;have qy:v1=.agg [u1,u2]:=aPp (by simp[nF,nI,bg]) (by simp[nF,nI,bg]) c1 c2 e1;subst qy;have he:cY A n1 ⟨H.length,[]⟩ aRp ⟨[.agg [u1,u2],u2],H,[]⟩=N1 (e,s'):=by simpa [nF,bg,nI]using he
  unfold aRp at he;obtain⟨n3,s3,Ck,h3,he⟩:=aAj (λm e s1 h=>(aE9 h).1) he;obtain⟨_,q0,z0,a1,a2,rfl⟩:=aE9 h3;obtain⟨n4,s4,Ob,h4,he⟩:=aAj (λm e s1 h=>(aE9 h).1) he;obtain⟨_,q1,z1,b1,b2,rfl⟩:=aE9 h4;obtain⟨n5,s5,Oc,h5,he⟩:=aAj (λm e s1 h=>(aGh h).1) he;obtain⟨_,q1',z2,H1,l1,c1,c2,rfl⟩:=aGh h5;obtain⟨n6,s6,Od,h6,he⟩:=aAj (λm e s1 h=>(aMU h).1) he;obtain⟨_,m,z3,H2,l2,hm,d1,rfl⟩:=aMU h6;obtain⟨n7,s7,Oe,h7,he⟩:=aAj (λm e s1 h=>(aE9 h).1) he;obtain⟨_,q2,z4,f1,f2,rfl⟩:=aE9 h7;obtain⟨n8,s8,Of,h8,he⟩:=aAj (λm e s1 h=>(aGh h).1) he;obtain⟨_,q3,z5,H3,l3,g1,g2,rfl⟩:=aGh h8;obtain⟨_,q4,z6,H4,l4,i1,i2,rfl⟩:=aGh he;rw[b1]at c1 f1 i1;rw[a1]at g1;cases c1;cases f1;cases i1;cases g1;refine⟨u1,u2,q0,q1,m,z3,H1,H2,H3,H4,l1,l2,l3,l4,rfl,y2,omT,a1,b1,a2,b2,c2,d1,f2,g2,i2, ?_⟩;rw[hr];simp[aA4,aIS,aBv,nI,bE]at zk;rw[<- zk]
end
end Go.AM
namespace Go.Proofs.Sa
open Go Go.AM Go.Proofs Go.RowKit Go.Lib
def yu{ab:cu}{A:af}(hp:A.bq 233=N2)(hf:A.fn 233=N1 nI):aWY Tryz.prog ab A 233:=by
 intro n hm f' args H av H' wr hh g w xs hw hg hx;dsimp only at hh;split at hh;rotate_left
 ·cases hh
 rename_i e;subst e;refine⟨⟨Tryz.f233,Tryz.func233,cB,cB⟩, ?_⟩;obtain⟨p,f,q0,q1,m,z,H1,H2,H3,H4,l1,l2,l3,l4,rfl,Ky,Kz,a0,a1,r0,r1,s1,d1,r2,s3,s4,hr⟩:=aRq hp hf hh;obtain⟨x,y,rfl,hv,hy⟩:=nH hx;have jr:∃b off,x=.pointer (N1 ⟨b,off,N2⟩):=by have e:=bCa a0;subst e;obtain⟨b,off,_,e,_⟩:=eI hw r0 hv;exact⟨b,off,e⟩
 obtain⟨b,off,rfl⟩:=jr;have v0:=aPn a0 hv;have v1:=aPn a1 hv;obtain⟨b0,o0,vs0,e0,k0,t0,c0⟩:=eI hw r0 v0;cases e0;obtain⟨b1,o1,vs1,e1,k1,t1,c1⟩:=eI hw r1 v1;cases e1;have jg:w.cell? ⟨b,off,N2⟩=N1 (.int .u32 0):=by
  obtain⟨hl,hr⟩:=t0
  match vs0,hl with
  | [y0],_=>have:=hr 0 _ _ rfl rfl;cases this;exact c0 0 _ rfl
 have mj:w.cell? ⟨b,off+1,N2⟩=N1 (.int .i32 0):=by
  obtain⟨hl,hr⟩:=t1
  match vs1,hl with
  | [y0],_=>have:=hr 0 _ _ rfl rfl;cases this;exact c1 0 _ rfl
 have one:∀{g:G} (k:DK) (n:Int),fU g [.int k n] [.int k n]:=λk n=>⟨rfl,λi a x e1 e2=>by
  match i with
  |0=>simp at e1 e2;subst e1;subst e2;exact .int k n
  |i+1=>simp at e1⟩
 obtain⟨b2,o2,e2,i2,f2,st1⟩:=fF hw s1 v1 (one .i32 1);cases e2;have rr:=f2 0 siT;cases f with
 |fn fid first ay=>
  obtain⟨vf,vc,ey,yo,hlc⟩:=hy.rm;subst ey;have az:=hm m Kz;obtain⟨iv,kr⟩:=aLK (P:=Tryz.prog) (yo.mono st1.le) (hlc.mono st1.le) az d1 st1.wf (hg.mono st1.le);refine (aPm b off fid vf vc _ w (λw'=>∃g',Step g H1 (w.setCells b (off+1) [.int .i32 1]) g' H2 w' l2) iv siT jg mj rr ?_ ?_).mono ?_
  ·simpa [IZ]using kr
  ·rintro w' ⟨g',st2⟩;have hle:=st1.le.trans st2.le;obtain⟨b3,o3,e3,i3,f3,st3⟩:=fF st2.wf s3 (v0.mono hle) (one .u32 1);cases e3;obtain⟨b4,o4,e4,i4,f4,st4⟩:=fF st3.wf s4 (v1.mono hle) (one .i32 0);cases e4;obtain⟨b5,o5,vs5,e5,k5,t5,c5⟩:=eI st2.wf r2 (v1.mono hle);cases e5;refine⟨?_,f3 0 siT, ?_, ?_⟩
   ·have:=i3 0 siT;exact Option.isSome_iff_exists.1 this
   ·obtain⟨hl,hr⟩:=t5
    match vs5,hl with
    | [y0],_=>have:=hr 0 _ _ rfl rfl;cases this;exact c5 0 _ rfl
   have:=f4 0 siT;simpa [IZ]using this
  rintro e w' ⟨rfl,w2,⟨g',st2⟩,rfl⟩;have st2':=st2.trans (Step.of_heap (w':=w2.drew) st2.wf rfl);have hle:=st1.le.trans st2'.le;obtain⟨b3,o3,e3,i3,f3,st3⟩:=fF st2'.wf s3 (v0.mono hle) (one .u32 1);cases e3;obtain⟨b4,o4,e4,i4,f4,st4⟩:=fF st3.wf s4 (v1.mono hle) (one .i32 0);cases e4;have da:=((st1.trans st2').trans st3).trans st4;have B0:=Step.narrow (wr:=bE H.length (bE H.length (bE H.length (bE H.length [] l1) l2) l3) l4) hw.lt da (λo ho hb=>by
   simp only[AJ,AY]at ho;rcases ho with ((ho | ho) | ho) | ho
   ·exact (cE _ _ _).1 o ((cE _ _ _).1 o ((cE _ _ _).1 o ((cE _ _ _).2 o ho hb)))
   ·exact (cE _ _ _).1 o ((cE _ _ _).1 o ((cE _ _ _).2 o ho hb))
   ·exact (cE _ _ _).1 o ((cE _ _ _).2 o ho hb)
   exact (cE _ _ _).2 o ho hb)
  simp only[IZ]at B0;simp only[cJ]at hr;split at hr
  ·rename_i zl;simp only[AI]at zl;cases hr;refine⟨g'.cut H.length,Step.cut hw B0 λo ho x hx=>?_,ai.skip _⟩;have:=AO.1 zl.2 o ho;rw[hx]at this;exact this
  cases hr;exact⟨g',B0,ai.skip _⟩
 |yld o v=>exact Zw rfl (Ky o v)
 |_=>simp[cX]at d1
end Go.Proofs.Sa
end
section
namespace Go.Proofs
open Go.Shelf Go.RowKit Go.Sort Go.Lib
variable {P:CU}{ρ:Ren}
def vM{ops:Array Oper}{rest:List Oper}{o:Oper}{a:Act}{w:BL}{Q:Exit->Act->BL->Prop}(xg:o.guard=N2)(sl x:Operand)(t u:BP) (ho:o.op=.call { callee:=.builtin .append,args := #[sl,x],argTypes := #[t,u] }) (v xv v':BE) (w':BL) (hs:a.eval sl=v) (hx:a.eval x=xv) (hr:(DA #[t,u] o.type #[v,xv]).run P w=.ok v' w') (h:wpList P ops Q rest (a.put o.dst v') w'):wpList P ops Q (o::rest) a w:=by refine wpList_plain xg λK hK=>?_;unfold Oper.wp execOp;simp only[ho,resolve,invoke,builtin,BS,CB,BJ,List.map_toArray,BI,BY,hs,hx,hr];exact hK _ _ h
def aNV(L:LaysM.n288 P ρ)(u:Nat)(hu:u<100)(sv v':BE)(w w1:BL)(cl:∀ty,(DA #[ρ.t 37,ρ.t 9] ty #[sv,.string ⟨(DT u).toArray⟩]).run P w=.ok v' w1):FV P (ρ.f 288) #[sv,.int .u64 u,.int .i64 10] w λe w'=>e=.returned v'/\w'=w1:=by
 have mixed:=L.mixed;have t5:=L.t5;have a5:=L.a5;have z5:=L.z5;have v5:=L.v5;have t37:=L.t37;have u37:=BH L.t37;have a37:=L.a37;have z37:=L.z37;have v37:=L.v37;have t53:=L.t53;have a53:=L.a53;have z53:=L.z53;have v53:=L.v53;have t3:=L.t3;have a3:=L.a3;have z3:=L.z3;have v3:=L.v3;have t4:=L.t4;have a4:=L.a4;have z4:=L.z4;have v4:=L.v4;have t9:=L.t9;have a9:=L.a9;have z9:=L.z9;have v9:=L.v9;have t171:=L.t171;have a171:=L.a171;have z171:=L.z171;have v171:=L.v171;have t0:=L.t0;have a0:=L.a0;have z0:=L.z0;have v0:=L.v0;have t173:=L.t173;have a173:=L.a173;have z173:=L.z173;have v173:=L.v173;have e283:∀args w,(callFunc (ρ.f 283) args).run P w=.ok (.enter (ρ.f 283) args) w:=enters_of L.f283 (by kernel_rfl) rfl
 go_enter L.f288,Body.n288_ntmps ρ
 go_wp2_with (first
  | (go_at_fn (ρ.f 283);refine (Any.internal_strconv_small { L with } u hu _).mono ?_;rintro e w' ⟨rfl,rfl⟩)
  | (at_builtin;refine vM rfl _ _ (ρ.t 37) (ρ.t 9) rfl _ _ _ _ rfl rfl (cl _) ?_))
 go_wp2
 go_ret
 exact⟨rfl,rfl⟩
def aRr(L:LaysM.n288 P ρ)(u:Nat)(hu:100<=u)(P9:u<18446744073709551616)(sv:BE)(w:BL)(cx:OL P w "internal/strconv.uint64pow10" .u64 EB) (Q:BE->BL->Prop) (db:∀w2:BL,w.heap.size<=w2.heap.size->(∀b,b<w.heap.size->w2.heap[b]? = w.heap[b]?)->w2.os=w.os/\w2.output=w.output ->(∀j u',(HZ (DT u))[j]? = N1 u'->w2.cell? ⟨w.heap.size,j,N2⟩=N1 u') ->∃v' w',(∀ty,(DA #[ρ.t 37,ρ.t 37] ty #[sv,.slice (N1 ⟨w.heap.size,0,N2⟩) (GO u) 24]).run P w2=.ok v' w')/\Q v' w'):FV P (ρ.f 288) #[sv,.int .u64 u,.int .i64 10] w λe w'=>∃v',e=.returned v'/\Q v' w':=by
 have mixed:=L.mixed;have t5:=L.t5;have a5:=L.a5;have z5:=L.z5;have v5:=L.v5;have t37:=L.t37;have u37:=BH L.t37;have a37:=L.a37;have z37:=L.z37;have v37:=L.v37;have t53:=L.t53;have a53:=L.a53;have z53:=L.z53;have v53:=L.v53;have t3:=L.t3;have a3:=L.a3;have z3:=L.z3;have v3:=L.v3;have t4:=L.t4;have a4:=L.a4;have z4:=L.z4;have v4:=L.v4;have t9:=L.t9;have a9:=L.a9;have z9:=L.z9;have v9:=L.v9;have t171:=L.t171;have a171:=L.a171;have z171:=L.z171;have v171:=L.v171;have t0:=L.t0;have a0:=L.a0;have z0:=L.z0;have v0:=L.v0;have t173:=L.t173;have a173:=L.a173;have z173:=L.z173;have v173:=L.v173;have e284:∀args w,(callFunc (ρ.f 284) args).run P w=.ok (.enter (ρ.f 284) args) w:=enters_of L.f284 (by kernel_rfl) rfl;have e285:∀args w,(callFunc (ρ.f 285) args).run P w=.ok (.enter (ρ.f 285) args) w:=enters_of L.f285 (by kernel_rfl) rfl;have yi:1<=u:=(by omega);have Ie:GO u<=20:=by have:=Lib.numDigits_eq u yi P9;split at this<;>omega
 have j8:P.arrayLen (ρ.t 171)=24:=by simp[MV,L.t171]
 have G6:∀W,(Instr.sliceAt (ρ.t 171) (.pointer (N1 ⟨w.heap.size,0,N2⟩)) N2 (N1 (.int .i64 (GO u:Int))) N2).run P W=.ok (.slice (N1 ⟨w.heap.size,0,N2⟩) (GO u) 24) W:=λW=>by
  rw[run_sliceAt_array_h W (ρ.t 171) ⟨w.heap.size,0,N2⟩ (by simp[MV,Program.elem,L.t171]) .i64 (GO u:Int) (by omega) (by rw[j8];omega)]
  go_simp
 have Cq:=Lib.holds_zero0 w (ρ.t 171) (GO u) (by omega);have Q0:=Any.internal_strconv_formatBase10 { L with } w.heap.size 0 24 u (NW (GO u) 0) (w.alloc (.cells GP (ρ.t 171))) Cq (by rw[HG];exact Lib.lt_pow_nDigits u) P9 (by rw[HG];omega);rw[HG]at Q0;have HH0:=Lib.hid Cq;have iu:(100:Int)<=(u:Int):=(by omega);clear Cq j8
 go_enter L.f288,Body.n288_ntmps ρ
 go_wp2_with (first
  | (go_at_fn (ρ.f 284);refine (Any.internal_strconv_numDigits { L with } u yi P9 _ (Lib.tabIs_alloc cx _)).mono ?_;rintro e w' ⟨rfl,rfl⟩))
 go_at_fn (ρ.f 285)
 refine Q0.mono ?_;rintro e w' ⟨rfl,k,v',dk,rfl,hF⟩;have jy:∀j u',(HZ (DT u))[j]? = N1 u'->((putRow (λ(b:UInt8)=>EJ .u8 (b.toNat:Int)) (w.alloc (.cells GP (ρ.t 171))) w.heap.size 0 dk).drewN k).cell? ⟨w.heap.size,j,N2⟩=N1 u':=by
  intro j u' hj;have mo:j<(DT u).length:=by
   have h5:=(AH.1 hj).1
   rwa [Lib.byteCells_length]at h5
  have e5:(HZ (DT u))[j]? = N1 (EJ .u8 ((DT u)[j].toNat:Int)):=by simp[HZ,mo]
  rw[e5]at hj;cases hj;rw[Lib.row_is_numeral hF j mo,World.cell?_drewN];have:=cell?_putRow (λ(b:UInt8)=>EJ .u8 (b.toNat:Int)) _ w.heap.size 0 _ dk HH0.out (by rw[hF.size,HG]) j (by rw[hF.size];rw[MW]at mo;exact mo)
  rwa [BC]at this
 obtain⟨os,eo⟩:=Lib.fin_at w (.cells GP (ρ.t 171)) dk k 0;have Q1:w.heap.size<=((putRow (λ(b:UInt8)=>EJ .u8 (b.toNat:Int)) (w.alloc (.cells GP (ρ.t 171))) w.heap.size 0 dk).drewN k).heap.size:=by rw[eo];exact Lib.size_grow w k os
 have da:∀b,b<w.heap.size->((putRow (λ(b:UInt8)=>EJ .u8 (b.toNat:Int)) (w.alloc (.cells GP (ρ.t 171))) w.heap.size 0 dk).drewN k).heap[b]? = w.heap[b]? := λb hb=>by rw[eo];exact Lib.heap_grow_old w k os b hb
 have kh:((putRow (λ(b:UInt8)=>EJ .u8 (b.toNat:Int)) (w.alloc (.cells GP (ρ.t 171))) w.heap.size 0 dk).drewN k).os=w.os/\((putRow (λ(b:UInt8)=>EJ .u8 (b.toNat:Int)) (w.alloc (.cells GP (ρ.t 171))) w.heap.size 0 dk).drewN k).output=w.output:=by rw[eo];exact⟨rfl,rfl⟩
 generalize (putRow (λ(b:UInt8)=>EJ .u8 (b.toNat:Int)) (w.alloc (.cells GP (ρ.t 171))) w.heap.size 0 dk).drewN k=W2 at jy Q1 da kh ⊢;clear eo HH0 Q0;obtain⟨v2,w3,hr,hQ⟩:=db W2 Q1 da kh jy
 go_wp2_with (at_builtin;refine vM rfl _ _ (ρ.t 37) (ρ.t 37) rfl _ _ _ _ rfl rfl (hr _) ?_)
 go_wp2
 go_ret
 exact⟨v2,rfl,hQ⟩
end Go.Proofs
end
section
namespace Go.AM
open Go
def oN:aIP:=λargs H=>match args with
 | [.sr o v n,.int .u64 i,.int .i64 b]=>match H[o]? with
  |some (.vec v' 1 rows)=>if v'=v/\rows.length=n/\0<=i/\i<1000000/\n<=1000000000/\b=10/\dF 1 rows=Pa then
    N1 (.sr o v (n+(nC 7 i.toNat).length),[(o,.vec v 1 (rows++aJ (nC 7 i.toNat)))],[])
   else N2
  |_=>N2
 | [.sl Pa [],.int .u64 i,.int .i64 b]=>if 0<=i/\i<1000000/\b=10 then
   N1 (.own 1 (aJ (nC 7 i.toNat)),[],[])
  else N2
 |_=>N2
section
variable {P:CU}{ab:cu}{g:G}{H:LO}{w w':BL}
def aLL(hw:WF g H w){k:Nat}{rows:List LA}{b cap:Nat}(cm:rows.length<=cap)(cn:∀row∈rows,row.length=k)(dq:rows.all (λr=>r.all AV.still)=Pa) (dj:∀(i j:Nat) (row:LA) c,rows[i]? = N1 row->row[j]? = N1 c->∃y,w.cell? ⟨b,i*k+j,N2⟩=N1 y/\ai g c y) (Qm:∀j,g.perm b j=N2) (pd:∀o l x,au g H o l x->l.b≠b):∃g',Step g H w g' H w []/\ai g' (.sl Po rows) (.slice (N1 ⟨b,0,N2⟩) rows.length cap):=by
 have hle:g.le (g.bh b λi=>w.cell? ⟨b,i,N2⟩):=by
  refine⟨λb' i y hy=>?_,λo l hl=>⟨l,hl,AQ _,λ_=>⟨AQ _,λ_=>rfl⟩⟩,λ_ _ hx=>hx,rfl,rfl⟩;by_cases e:b'=b
  ·subst e;rw[Qm i]at hy;cases hy
  simp only[G.bh,e,Zu];exact hy
 have dx:∀o l x,au (g.bh b λi=>w.cell? ⟨b,i,N2⟩) H o l x->au g H o l x:=λo l x hb=>⟨hb.Pr,hb.alive,hb.loc,hb.st⟩;refine⟨g.bh b λi=>w.cell? ⟨b,i,N2⟩,⟨hle,⟨λb' i y hy=>?_,hw.lt,hw.blk,hw.st,λo l x hb=>(hw.obj o l x (dx _ _ _ hb)).aq hle rfl,λo l x hb j=>?_,λo o' l l' x x' hb du=>hw.inj o o' l l' x x' (dx _ _ _ hb) (dx _ _ _ du),
   hw.whole.aq rfl rfl ⟨rfl,rfl⟩ (λ_ _ _=>rfl) λo l y hl=>.inr ⟨o,l,y,dx _ _ _ hl,rfl⟩⟩,
  aDS.refl _ _ _,λ_ _ _=>rfl,AQ _,λ_ l' hl=>.inr ⟨l',hl,rfl⟩,λ_ _ _=>rfl⟩, ?_⟩
 ·by_cases e:b'=b
  ·subst e;simpa only[G.bh,Zv]using hy
  simp only[G.bh,e,Zu]at hy;exact hw.perm b' i y hy
 ·have bl:=pd o l x (dx _ _ _ hb);simp only[G.bh,bl,Zu];exact hw.jh o l x (dx _ _ _ hb) j
 refine .sl Po rows b 0 cap k cm siT cn (AO.1 dq) (λi j hi hj=>?_) λi j row c x h1 h2 h3=>?_
 ·have yg:=cn rows[i] (List.getElem_mem hi);obtain⟨y,hy,_⟩:=dj i j rows[i] (rows[i][j]'omT) (by simp[hi]) siT;simp only[G.bh,Zv,BC,hy];rfl
 obtain⟨y,hy,hr⟩:=dj i j row c h1 h2;simp only[G.bh,Zv,BC,hy,AG]at h3;subst h3;exact hr.mono hle
def aLM{t u ty:BP}{S X:Operand}{dst:Option Tmp}{pos:String}{after:Array Edge}{guard:Option (Nat×Bool)}{a:Act}{R:BE->BL->Prop} (h:aA8 P ⟨dst,.call { callee:=.builtin .append,args := #[S,X],argTypes := #[t,u] },ty,pos,after,guard⟩ a w R):∃v w',(DA #[t,u] ty #[a.eval S,a.eval X]).run P w=.ok v w'/\R v w':=by
 have mn:(execOp a.eval ⟨dst,.call { callee:=.builtin .append,args := #[S,X],argTypes := #[t,u] },ty,pos,after,guard⟩).run P w=((DA #[t,u] ty #[a.eval S,a.eval X]).run P w).andThen λv w'=>.ok (.value v) w':=by simp[execOp,resolve,invoke,builtin]
 cases hr:(DA #[t,u] ty #[a.eval S,a.eval X]).run P w with
 |ok v w1=>
  rw[hr]at mn;simp only[BJ]at mn;rcases h with⟨v',w',e,hR⟩ | ⟨w',e,_⟩ | ⟨_,_,_,e,_⟩ | ⟨_,_,_,_,_,_,e,_⟩
  ·rw[mn]at e;cases e;exact⟨_,_,rfl,hR⟩
  ·rw[mn]at e;cases e
  ·rw[mn]at e;cases e
  rw[mn]at e;cases e
 |_=>exfalso;rw[hr]at mn;simp only[DL]at mn;rcases h with⟨v',w',e,hR⟩ | ⟨w',e,_⟩ | ⟨_,_,_,e,_⟩ | ⟨_,_,_,_,_,_,e,_⟩<;>(rw[mn]at e;cases e)
def aIk{t u e:BP}{i:TypeInfo}{z:BE}{d:TypeDesc}(ht:P.underlying t=N1 (.slice e))(hu:P.underlying u=N1 d)(hd:∀k,d≠.int k)(hi:P.info? e=N1 i)(hz:i.zero=N1 z)(su:z.cells.size=i.size) {site:Option Nat} {s x av:AV} {sv xv:BE} {H':LO} {wr:List Nat} (h:eX H site i.size i.bytes s x=N1 (av,H',wr)) (hw:WF g H w) (hg:bM P ab g) (hs:ai g s sv) (hx:ai g x xv) (ty:BP):∃v w',(DA #[t,u] ty #[sv,xv]).run P w=.ok v w'/\∃g',Step g H w g' H' w' wr/\ai g' av v:=by
 have G6:aX g [s,x] #[sv,xv]:=by
  refine⟨rfl,λt=>?_⟩
  match t with
  |0=>exact hs
  |1=>exact hx
  |t+2=>simpa using ai.undef _
 have:=aLM (aWB (P:=P) (ab:=ab) (w:=w) (ρ:=[s,x]) (a:={ tmps := #[sv,xv],defers:=[] }) (dst:=N2) (ty:=ty) (pos:= "") (after := #[]) (guard:=N2) (S:=.tmp 0) (X:=.tmp 1) (s:=.tmp 0) (x:=.tmp 1) (call:=λ_ _ _=>N2) (site:=site)
  ht hu hd hi hz rfl rfl su h hw hg G6)
 exact this
end
end Go.AM
namespace Go.Proofs.Sa
open Go Go.AM Go.Proofs Go.RowKit Go.Lib
def aIl{g:G}{a b c:AV}{xs:List BE}(h:fU g [a,b,c] xs):∃x y z,xs=[x,y,z]/\ai g a x/\ai g b y/\ai g c z:=by
 obtain⟨h1,h2⟩:=h
 match xs,h1 with
 | [x,y,z],_=>exact⟨x,y,z,rfl,h2 0 a x rfl rfl,h2 1 b y rfl rfl,h2 2 c z rfl rfl⟩
def aD7:∀(k n:Nat),(nC k n).length<=k
 |0,_=>AQ _
 |k+1,n=>by
  unfold nC;split
  ·simp
  simp;exact aD7 k _
def aTV(k n:Nat):nC (k+1) n≠[]:=by unfold nC;split<;>simp
def aGi(l:List UInt8):(aJ l).all (λr=>r.all AV.still)=true:=by simp[aJ,List.all_map,AV.still]
def aPq{l:List UInt8}{r:LA}(h:r∈aJ l):r.length=1:=by simp only[aJ,List.mem_map]at h;obtain⟨b,_,rfl⟩:=h;rfl
def aIm(l:List UInt8):dF 1 (aJ l)=true:=by cases l<;>rfl
def aKr{ab:cu}{tab:Nat}(G3:Tryz.prog.globalNamed "internal/strconv.uint64pow10" = N1 tab)(cn:ab.row tab=N1 (EB.map λz=>AV.int .u64 z)) {g:G} {H H0 H':LO} {w:BL} {site:Option Nat} {s av:AV} {sv:BE} {wr:List Nat} (u:Nat) (hu:u<1000000) (hw:WF g H w) (hg:bM Tryz.prog ab g) (h0:Step g H w g H0 w []) (hs:ai g s sv) (h:eX H0 site 1 1 s (.sl Po (aJ (nC 7 u)))=N1 (av,H',wr)):FV Tryz.prog 328 #[sv,.int .u64 u,.int .i64 10] w λe w'=>∃v',e=.returned v'/\∃g',Step g H w g' H' w' wr/\ai g' av v':=by
 have hd:nC 7 u=DT u:=aJ8 7 u omT omT;obtain⟨i0,hi,me,rr,l7⟩:=info_parts (show (Tryz.prog.info? 5).map (λi=>(i.zero,i.size,i.bytes))=N1 (N1 (.int .u8 0),1,1)by kernel_rfl);have su:(EJ .u8 0).cells.size=i0.size:=by rw[rr];rfl
 by_cases Et:u<100
 ·
  have hx:ai g (.str (nC 7 u)) (.string ⟨(DT u).toArray⟩):=by rw[hd];exact .str ⟨(DT u).toArray⟩
  have h2:eX H0 site i0.size i0.bytes s (.str (nC 7 u))=N1 (av,H',wr):=by rw[rr,l7];exact h
  have hr:=λty=>aIk (t:=95) (u:=9) Tryz.underlying95 Tryz.underlying9 (by intro k;simp) hi me su h2 h0.wf hg hs hx ty;obtain⟨v,w1,cl,g',h3,h4⟩:=hr 0;have da:∀ty,(DA #[95,9] ty #[sv,.string ⟨(DT u).toArray⟩]).run Tryz.prog w=.ok v w1:=λty=>cl;refine (aNV (ρ:=Tryz.laysM288_ren) Tryz.laysM288 u Et sv v w w1 da).mono ?_;rintro e w' ⟨rfl,rfl⟩;exact⟨v,rfl,g',by simpa using h0.trans h3,h4⟩
 refine aRr (ρ:=Tryz.laysM288_ren) Tryz.laysM288 u omT omT sv w (aSR hw G3 cn hg) (λv' w'=>∃g',Step g H w g' H' w' wr/\ai g' av v') λw2 gd hold kh jy=>?_;have s1:Step g H w g H w2 []:=Step.nf hw gd hold kh;have s2:Step g H0 w g H0 w2 []:=Step.nf h0.wf gd hold kh;have ax:(aJ (nC 7 u)).length=GO u:=by rw[hd,aJ,AF,MW]
 obtain⟨g2,s3,hx⟩:=aLL (b:=w.heap.size) (k:=1) (cap:=24) (rows:=aJ (nC 7 u)) s2.wf (by rw[aJ,AF];have:=aD7 7 u;omega) (λr hr=>aPq hr) (aGi _)
  (λi j row c h1 h2=>by
   simp only[aJ,BN,EL]at h1;obtain⟨b,h1,rfl⟩:=h1
   match j,h2 with
   |0,h2=>
    simp at h2;subst h2;refine⟨.int .u8 b.toNat, ?_,.int _ _⟩;rw[FK,DU];refine jy i _ ?_;rw[<- hd];simp[HZ,h1])
  (λj=>by
   cases hp:g.perm w.heap.size j with
   |none=>rfl
   |some x=>exact Zw (hw.ko hp) omT)
  (λo l x hb=>by have:=hw.blk o l hb.loc;omega)
 rw[ax]at hx;have h2:eX H0 site i0.size i0.bytes s (.sl Po (aJ (nC 7 u)))=N1 (av,H',wr):=by rw[rr,l7];exact h
 obtain⟨v,w3,cl,g',h3,h4⟩:=aIk (t:=95) (u:=95) Tryz.underlying95 Tryz.underlying95 (by intro k;simp) hi me su h2 s3.wf (hg.mono s3.le) (hs.mono s3.le) hx 0;exact⟨v,w3,λty=>cl,g',by simpa using ((h0.trans s2).trans s3).trans h3,h4⟩
def xx{ab:cu}{tab:Nat}(G3:Tryz.prog.globalNamed "internal/strconv.uint64pow10" = N1 tab)(cn:ab.row tab=N1 (EB.map λz=>AV.int .u64 z)):gS Tryz.prog ab λf' args H=>if f'=328 then (oN args H).map (cT H)else none:=by
 refine oC ⟨Tryz.f328,Tryz.func328,cB,cB⟩ λargs H v ws ns hp g w xs hw hg hx=>?_;have ne0:∀i:Nat,(aJ (nC 7 i)).isEmpty=false:=λi=>by
  cases h:nC 7 i with
  |nil=>exact Zw h (aTV 6 i)
  |cons a l=>rfl
 have Q2:∀i:Nat,(aJ (nC 7 i)).length<=7:=λi=>by rw[aJ,AF];exact aD7 7 i
 have ym:∀i:Nat,(aJ (nC 7 i)).length=(nC 7 i).length:=λi=>AF ..;unfold oN at hp;split at hp
 ·rename_i o ve n i b;split at hp
  ·rename_i v' rows ho;split at hp
   ·rename_i hc;obtain⟨rfl,hn,U6,G7,Hz,rfl,Og⟩:=hc;simp only[AG,BK]at hp;obtain⟨rfl,rfl,rfl⟩:=hp;obtain⟨x,y,z,rfl,h1,h2,h3⟩:=aIl hx;cases h2;cases h3;obtain⟨u,rfl⟩:=DN U6;refine (aKr G3 cn (site:=N2) (s:=.sr o v' n) (av:=.sr o v' (n+(nC 7 u).length)) (H':=H.set o (.vec v' 1 (rows++aJ (nC 7 u)))) (wr:=[o]) u omT hw hg (.refl hw) h1 ?_).mono ?_
    ·simp only[eX,cG,dO,aIm,BT,BX,Zu,ho,ne0];rw[Zy ⟨trivial,hn,trivial,by simp only[bP,decide_eq_true_eq];have:=Q2 u;omega⟩,ym]
    rintro e w' ⟨v,rfl,g',h4,h5⟩;exact⟨g',by simpa [eU]using h4,h5⟩
   cases hp
  cases hp
 ·rename_i i b;split at hp
  ·rename_i hc;obtain⟨U6,G7,rfl⟩:=hc;simp only[AG,BK]at hp;obtain⟨rfl,rfl,rfl⟩:=hp;obtain⟨x,y,z,rfl,h1,h2,h3⟩:=aIl hx;cases h2;cases h3;obtain⟨u,rfl⟩:=DN U6;have nn:bH (H++AX 1 (ah.gone 0)) H.length=1:=by simp[bH,ah.ver]
   have Cp:make (H++AX 1 (ah.gone 0)) H.length (.vec · 1 (aJ (nC 7 u)))=H++[.vec 1 1 (aJ (nC 7 u))]:=by simp[make,ah.ver]
   refine (aKr G3 cn (H0:=H++AX 1 (.gone 0)) (site:=N1 H.length) (s:=.sl Pa []) (av:=.sr H.length 1 (nC 7 u).length) (H':=H++[.vec 1 1 (aJ (nC 7 u))]) (wr:=[H.length]) u omT hw hg (hw.more 1) h1 ?_).mono ?_
   ·simp only[eX,cG,dO,aIm,BT,BX,Zu,ne0];rw[Zy (by simp only[dF,Bool.true_and,AZ,BC,bP,decide_eq_true_eq];have:=Q2 u;omega)];simp only[List.length_append,List.length_replicate,Nat.lt_add_one,Zv,nn,AZ,BC,CW,Cp,ym]
   rintro e w' ⟨v,rfl,g',h4,h5⟩;have ki:∀o l,H.length<=o->g'.obj o=N1 l->w.heap.size<=l.b:=λo l ho hl=>by
    rcases h4.mc o l hl with h1 | ⟨l0,h0,_⟩
    ·exact h1
    have:=hw.lt o l0 h0;omega
   obtain⟨g2,k1,k2⟩:=aI7 (base:=H.length) (n0:=w.heap.size) ki h4.wf (v:=.sr H.length 1 (nC 7 u).length) (v':=.own 1 (aJ (nC 7 u))) (H':=H++[.gone 1]) (l:=[H.length]) (by
    have h1:(H++[ah.vec 1 1 (aJ (nC 7 u))])[H.length]? = N1 (.vec 1 1 (aJ (nC 7 u))):=siT;unfold aDR;simp only[h1,Nat.lt_irrefl,Zu];rw[Zy ⟨trivial,ym u,AQ _,aGi _⟩];simp[dL,ah.ver]) h5
   have hu:(AV.own 1 (aJ (nC 7 u))).under H.length=true:=by
    show eR H.length (aJ (nC 7 u))=Pa;generalize nC 7 u=l
    induction l with
    |nil=>rfl
    |cons a l ih=>show (dJ H.length [.int .u8 a.toNat]&&eR H.length (aJ l))=Pa;rw[ih];rfl
   have h6:=Step.narrow (wr:=[]) hw.lt (h4.trans k1) (λi hi sw=>by simp at hi;omega);refine⟨g2.cut H.length, ?_, ?_⟩
   ·have:=Step.cut hw h6 (λo ho=>by cases ho);simpa [eU]using this
   have:=pN.cut (n:=H.length) k2 hu;simpa [eU]using this
  cases hp
 cases hp
end Go.Proofs.Sa
end
section
namespace Go.Proofs.Sa
open Go Go.AM Go.Proofs Go.RowKit Go.Lib
def Qa:aIP:=λargs _=>match args with
 | [.sl _ []]=>N1 (.sl Po [],[],[])
 |_=>N2
def Qn(n c:Nat)(w:BL):FV Tryz.prog 24 #[.slice N2 n c] w λe w'=>e=.returned (.slice N2 0 0)/\w'=w:=by
 have q23:∀(w:BL) (a:Option IA) (n c n' c':Nat),(binOp .eql 23 (.slice a n c) (.slice N2 n' c')).run Tryz.prog w=.ok (.bool a.isNone) w:=λw a n c n' c'=>Bw w _ _ a n c n' c' Tryz.underlying23
 go_enter Tryz.func24,Tryz.ntmps24
 go_wp2
 go_ret
 exact⟨rfl,rfl⟩
def Qg(a:IA)(c:Nat)(w:BL):FV Tryz.prog 24 #[.slice (N1 a) 0 c] w λe w'=>e=.returned (.slice (N1 ⟨w.heap.size,0,N2⟩) 0 0)/\∃o,w'=w.alloc o:=by
 have q23:∀(w:BL) (a:Option IA) (n c n' c':Nat),(binOp .eql 23 (.slice a n c) (.slice N2 n' c')).run Tryz.prog w=.ok (.bool a.isNone) w:=λw a n c n' c'=>Bw w _ _ a n c n' c' Tryz.underlying23;have u23:∀w,Sem.run Tryz.prog (underlying 23) w=.ok (C6 51) w:=BH Tryz.underlying23
 go_enter Tryz.func24,Tryz.ntmps24
 go_wp2
 go_ret
 exact⟨rfl,_,rfl⟩
def Qo(n c:Nat)(w:BL):FV Tryz.prog 25 #[.slice N2 n c] w λe w'=>e=.returned (.slice N2 0 0)/\w'=w:=by
 have q23:∀(w:BL) (a:Option IA) (n c n' c':Nat),(binOp .eql 49 (.slice a n c) (.slice N2 n' c')).run Tryz.prog w=.ok (.bool a.isNone) w:=λw a n c n' c'=>Bw w _ _ a n c n' c' Tryz.underlying49
 go_enter Tryz.func25,Tryz.ntmps25
 go_wp2
 go_ret
 exact⟨rfl,rfl⟩
def Qh(a:IA)(c:Nat)(w:BL):FV Tryz.prog 25 #[.slice (N1 a) 0 c] w λe w'=>e=.returned (.slice (N1 ⟨w.heap.size,0,N2⟩) 0 0)/\∃o,w'=w.alloc o:=by
 have q23:∀(w:BL) (a:Option IA) (n c n' c':Nat),(binOp .eql 49 (.slice a n c) (.slice N2 n' c')).run Tryz.prog w=.ok (.bool a.isNone) w:=λw a n c n' c'=>Bw w _ _ a n c n' c' Tryz.underlying49;have u23:∀w,Sem.run Tryz.prog (underlying 49) w=.ok (C6 74) w:=BH Tryz.underlying49
 go_enter Tryz.func25,Tryz.ntmps25
 go_wp2
 go_ret
 exact⟨rfl,_,rfl⟩
def Qp{ab:cu}{f:Nat}(hf:∃F,Tryz.prog.funcs[f]? = N1 F/\(F.name == "runtime.NumGoroutine")=Po/\F.body.isNone=Po) (hn:∀n c w,FV Tryz.prog f #[.slice N2 n c] w λe w'=>e=.returned (.slice N2 0 0)/\w'=w) (hz:∀a c w,FV Tryz.prog f #[.slice (N1 a) 0 c] w λe w'=>e=.returned (.slice (N1 ⟨w.heap.size,0,N2⟩) 0 0)/\∃o,w'=w.alloc o):gS Tryz.prog ab λf' args H=>if f'=f then (Qa args H).map (cT H)else none:=by
 refine oC hf λargs H v ws ns hp g w xs hw hg hx=>?_;unfold Qa at hp;split at hp
 ·simp only[AG,BK]at hp;obtain⟨rfl,rfl,rfl⟩:=hp;obtain⟨x,rfl,hv⟩:=aBc hx;cases hv with
  |kn=>refine (hn 0 0 w).mono ?_;rintro e w' ⟨rfl,rfl⟩;refine⟨g, ?_,.kn _⟩;simpa [eU]using Step.refl hw
  |sl=>refine (hz _ _ w).mono ?_;rintro e w' ⟨rfl,o,rfl⟩;have e:(w.alloc o).heap=w.heap.push o:=rfl;refine⟨g, ?_,ai.sl Po [] w.heap.size 0 0 0 (AQ _) (λh=>by cases h) (λr h=>by cases h) (λr h=>by cases h) (λi j h=>by simp at h) (λi j r a x h=>by simp at h)⟩;have:Step g H w g H (w.alloc o) []:=Step.nf hw (by rw[e,OA];omega) (λb hb=>cK e hb) ⟨rfl,rfl⟩;simpa [eU]using this
 cases hp
end Go.Proofs.Sa
end
section
namespace Go.AM
open Go
def aXY(f:Nat):LN:=match f with
 |3=>[5,6]
 |4=>[2,22,4,7,10,58,13,81,98,104]
 |5=>[2,4,5,8,11,70,76,85]
 |6=>[6,19,7,24]
 |7=>[1,2,8,12,26,7]
 |8=>[1,6,7,8,9,23,10]
 |9=>[7,44]
 |12=>[2,3]
 |14=>[4,5]
 |15=>[4,6,9]
 |16=>[3]
 |17=>[4,5,28,58,68]
 |21=>[19]
 |24=>[7]
 |25=>[7]
 |26=>[4,39]
 |27=>[0,1]
 |28=>[25,60,75]
 |31=>[28]
 |32=>[4,5]
 |33=>[2]
 |34=>[2,3,29,34]
 |35=>[81,83,2,3,18,35,58,69,84]
 |36=>[2,3,12,57,61,66]
 |37=>[23]
 |42=>[6,9,38,43]
 |43=>[4,7,9,13,15]
 |47=>[2,7,11]
 |49=>[59]
 |52=>[4,7,46]
 |57=>[13,5,7,9,11]
 |58=>[6]
 |67=>[3]
 |71=>[1]
 |73=>[1]
 |77=>[9,11]
 |79=>[3]
 |80=>[14]
 |84=>[3]
 |85=>[5]
 |86=>[5,16]
 |87=>[13]
 |95=>[2,3]
 |96=>[2,3]
 |98=>[9]
 |115=>[14]
 |116=>[9,11]
 |118=>[5]
 |119=>[5]
 |120=>[9]
 |124=>[4]
 |125=>[5,23]
 |127=>[1]
 |128=>[9,16,23,28,39,46]
 |129=>[8]
 |130=>[4,22,5,25,6]
 |131=>[5,6,7,8]
 |135=>[2,3]
 |141=>[2,3]
 |145=>[8,9]
 |174=>[5]
 |175=>[5]
 |176=>[5]
 |181=>[2,5,32,4]
 |186=>[5,6,7,25,34]
 |189=>[6]
 |190=>[2]
 |191=>[26]
 |194=>[2,3]
 |197=>[2]
 |198=>[2,4,47]
 |200=>[30,36]
 |201=>[2]
 |202=>[2,4,5,3]
 |204=>[26,32]
 |205=>[2]
 |206=>[2,3,37,42,48]
 |208=>[16]
 |209=>[2]
 |210=>[4,3]
 |213=>[4,5,9,6]
 |216=>[1,2,3,4,5,7]
 |217=>[1,3,9,4]
 |218=>[8,9]
 |234=>[94,11]
 |235=>[5]
 |243=>[7,18,30,39,44,54,69,85]
 |244=>[2,3,4,13]
 |249=>[34,35,36,48,49,22]
 |250=>[2,3,4]
 |251=>[12]
 |264=>[9]
 |265=>[13]
 |269=>[12,98]
 |271=>[2,7,5,11]
 |272=>[10]
 |273=>[10]
 |275=>[3,4,5,6]
 |278=>[31]
 |290=>[16]
 |291=>[100,101,163,210,230]
 |299=>[14,20]
 |300=>[2,3]
 |302=>[3]
 |309=>[10]
 |310=>[10]
 |311=>[15]
 |312=>[15]
 |327=>[9]
 |328=>[17,7,27]
 |329=>[2,4,5]
 |334=>[5]
 |342=>[2]
 |362=>[5]
 |365=>[5]
 |371=>[85]
 |377=>[11]
 |378=>[11]
 |379=>[2]
 |380=>[14]
 |394=>[6]
 |415=>[27]
 |_=>[]
def bC1(f r:Nat):List (Nat×Nat):=match f,r with
 |6,8=>[(1,6)]
 |7,12=>[(0,5)]
 |28,14=>[(1,6)]
 |28,25=>[(0,6)]
 |35,13=>[(1,94)]
 |42,14=>[(0,7)]
 |202,3=>[(1,3)]
 |278,18=>[(0,9)]
 |_,_=>[]
def nlK(f:Nat):Bool:=match f with
 |22 | 28 | 47 | 57 | 116 | 234 | 239 | 271 | 272 | 371=>Pa
 |_=>Po
def tyK(f:Nat):LN:=match f with
 |57=>[151,153,5]
 |80=>[151,153,5]
 |115=>[151,153,5]
 |272=>[151,153,5]
 |_=>[]
def aXZ:LN:=[243,273,299,328]
def aO4(f:Nat):Option aIP:=match f with
 |122=>N1 (fB 151 153)
 |81=>N1 (aAh 5)
 |211=>N1 (aNR 151 5)
 |129=>N1 aKm
 |304=>N1 aYu
 |297=>N1 aE7
 |232=>N1 aAi
 |121=>N1 sC
 |24=>N1 Go.Proofs.Sa.Qa
 |25=>N1 Go.Proofs.Sa.Qa
 |328=>N1 oN
 |_=>N2
def vi0(n:Int):AV:=.int .i64 n
def bAN:LA:=[[119,104,111,108,101],[101,110,116,114,121],[105,110,115,105,100,101],[108,101,102,116],[108,111,110,103,101,114],[98,97,114],[114,111,119]].map AV.str
def bAO:LA:=[vi0 0,vi0 999999,vi0 4,.int .u8 0,vi0 0,vi0 25,vi0 4,.int .u8 0,vi0 1,vi0 0,vi0 3,.int .u8 45,vi0 2,vi0 0,vi0 1,.int .u8 43,vi0 2,vi0 0,vi0 1,.int .u8 45,vi0 2,vi0 0,vi0 2,.int .u8 42,vi0 2,vi0 0,vi0 2,.int .u8 47,vi0 2,vi0 0,vi0 3,.int .u8 94,vi0 1,vi0 0,vi0 4,.int .u8 82,vi0 2,vi0 0,vi0 0,.int .u8 61,vi0 2,vi0 0,vi0 0,.int .u8 60]
def bAP:LA:=[[],[],[110,101,103],[43],[45],[42],[47],[94],[114,111,111,116],[61],[60]].map AV.str
def bAQ:LA:=[[100,111,116],[108,105,110,101],[97,114,101,97]].map AV.str
def bAR:LA:=[[99,104,111,105,99,101],[99,111,117,110,116],[111,112,101,110]].map AV.str
def aT4(b:Int)(f:Nat):AV:=.agg [vi0 b,.fn f [] []]
def aUy:LA:=[.fmp [vi0 0,vi0 1,vi0 2,vi0 3,vi0 4,vi0 5,vi0 6] [aT4 (-1) 382,aT4 (3) 384,aT4 (4) 386,aT4 (4) 388,aT4 (4) 389,aT4 (5) 390,aT4 (6) 392]]
def aZA(n:Nat):Option LA:=match n with
 |0=>N1 bAN
 |4=>N1 bAO
 |1=>N1 bAP
 |2=>N1 bAQ
 |3=>N1 bAR
 |5=>N1 aUy
 |6=>N1 (EB.map λz=>AV.int .u64 z)
 |_=>N2
def aBx:cu:=⟨aZA,Po,[],aXZ⟩
noncomputable def fnK(f:Nat):Option bw:=match f with
 |233=>N1 nI
 |f=>match Go.Proofs.Tryz.prog.funcs[f]? with
  |some F=>match F.body,aNz Go.Proofs.Tryz.prog F.results.toList with
   |some b,N1 rs=>N1 ⟨F.ntmps,aXY f,rs,nR Go.Proofs.Tryz.prog { aBx with nl:=nlK f,typed:=tyK f } (bC1 f) b⟩
   |_,_=>N2
  |none=>N2
noncomputable def AK:af:=⟨fnK,aO4⟩
def aRR:(Go.Proofs.Tryz.prog.funcs.toList.all λF => !(F.name == "runtime.NumGoroutine"))=true:=cB
def aUz{f:Nat}{F:Func}(h:Go.Proofs.Tryz.prog.funcs[f]? = N1 F):(F.name == "runtime.NumGoroutine")=false:=by have:=AO.1 aRR F (by rw[Array.mem_toList_iff];exact Array.mem_of_getElem? h);simpa using this
def aY0{f:Nat}{fn:bw}(bl:f≠233)(h:fnK f=N1 fn):aMT Go.Proofs.Tryz.prog aBx f fn:=by
 unfold fnK at h;split at h
 ·exact Zw rfl bl
 split at h
 ·rename_i F hF;split at h
  ·rename_i b rs hb hr;cases h;exact⟨F,b,bC1 f,nlK f,tyK f,aXZ,hF,aUz hF,hb,rfl,rfl,hr⟩
  cases h
 cases h
def bC2:Go.Proofs.Tryz.prog.globalNamed "internal/strconv.uint64pow10" = N1 6:=cB
def aRS:Good Go.Proofs.Tryz.prog aBx AK where
 mixed:=cB
 A5:=⟨cB,cB⟩
 fn:=λf fn h=>by
  by_cases e:f=233
  ·subst e;exact .inr (Go.Proofs.Sa.yu rfl rfl)
  exact .inl (aY0 e h)
 bq:=λf p h=>by
  have h:aO4 f=N1 p:=h;unfold aO4 at h;split at h
  ·cases h;exact Go.Proofs.Sa.uq
  ·cases h;exact Go.Proofs.Sa.zn
  ·cases h;exact Go.Proofs.Sa.G5
  ·cases h;exact Go.Proofs.Sa.G2
  ·cases h;exact Go.Proofs.Sa.A9
  ·cases h;exact Go.Proofs.Sa.A8
  ·cases h;exact Go.Proofs.Sa.vv
  ·cases h;exact Go.Proofs.Sa.G4 bC2 rfl
  ·cases h;exact Go.Proofs.Sa.Qp ⟨Go.Proofs.Tryz.f24,Go.Proofs.Tryz.func24,cB,cB⟩ Go.Proofs.Sa.Qn Go.Proofs.Sa.Qg
  ·cases h;exact Go.Proofs.Sa.Qp ⟨Go.Proofs.Tryz.f25,Go.Proofs.Tryz.func25,cB,cB⟩ Go.Proofs.Sa.Qo Go.Proofs.Sa.Qh
  ·cases h;exact Go.Proofs.Sa.xx bC2 rfl
  cases h
def aJi:AV->LO->LN->Bool:=λv H wr=>match v,H,wr with | .bool Pa,[],[]=>Pa | _,_,_=>Po
def bFR:AV->LO->LN->Bool:=λv H wr=>match v,H,wr with | .int .i64 0,[],[]=>Pa | _,_,_=>Po
def kHi:AV->LO->LN->Bool:=λv H wr=>match v,H,wr with | .tup [.str [72,105],.int .i64 0],[],[]=>Pa | _,_,_=>Po
def bGu:AV:=.sl Po []
def blK:LA:=[vi0 0,.sl Po [[vi0 0,.str [72,105]]],vi0 0,vi0 0,bGu,vi0 0,bGu,bGu,vi0 0,vi0 0,bGu,bGu,bGu]
def fcK:LA:=[vi0 0,vi0 0,vi0 0,vi0 0]
def bHl:LA:=[.str [97],.sl Po [blK],.sl Po [fcK],.sl Po [[vi0 2,.sl Po [[vi0 0,.str [87,104,97,116,63]]],bGu,.sl Po [[vi0 0]],.str [72,105],vi0 0,bGu]]]
def bH7:LA:=[.agg [.str [120],.sl Po [[.str [97],.sl Po [blK],bGu,bGu]]]]
def bH8:LA:=[.agg [.str [84,101,115,116],.sl Po [bHl]]]
def bH9:LA:=[.agg [.str (AX 100 116),.sl Po [bHl]]]
def bHa:LA:=[.agg bHl,.agg fcK]
end Go.AM
end
