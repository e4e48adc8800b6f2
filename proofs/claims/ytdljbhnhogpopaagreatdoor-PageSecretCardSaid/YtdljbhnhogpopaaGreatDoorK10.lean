/- Part 10: lemmas for the last text. -/
import Derived.Test.YtdljbhnhogpopaaGreatDoorK02
import Derived.Test.YtdljbhnhogpopaaGreatDoorK03
import Derived.Test.YtdljbhnhogpopaaGreatDoorK09
import Derived.Laws.BitsLemmas
import Derived.KernelRfl
set_option linter.defProp false
set_option linter.unusedVariables false
set_option linter.unusedSimpArgs false
set_option maxHeartbeats 3200000
set_option maxRecDepth 8000
open Bool renaming false_ne_true -> ED, false_eq_true -> BX, false_or -> II, or_true -> GV, true_or -> EP, and_true -> Bx, true_and -> BR, and_false -> MC, false_and -> BQ, and_eq_true -> AI, not_eq_true' -> KB, eq_false_iff -> JJ, eq_iff_iff -> DS, false_beq -> BB, not_not -> PE, true_beq -> CE, or_self -> IJ, true -> Pa, false -> Po
open Go renaming IntKind -> DK, BinOp -> MZ
open Go.IntKind renaming wrap -> GA, wrap_i64 -> PW, i64 -> AR
open Int renaming lt_irrefl -> Dd, natCast_mul -> OV
open List renaming mem_cons -> BD, getElem?_map -> BN, getElem?_eq_getElem -> AP, getElem?_append_right -> BU, set_append_right -> IP, getElem?_append_left -> BM, set_append_left -> DX, length_set -> CP, set_set -> EO, getElem?_set_self -> BW, take_length -> DM, replicate -> AX, length_append -> BA, drop_zero -> AD, take_zero -> AE, take_succ_cons -> AA, getElem?_cons_zero -> BG, getElem?_cons_succ -> CT, nil_append -> CW, cons_append -> DO, append_nil -> AJ, all_cons -> ES, all_nil -> MB, map_cons -> BI, map_nil -> BY, length_cons -> AW, length_nil -> AZ, length_map -> AF, isEmpty_cons -> NM, contains_nil -> De, all_eq_true -> AO, contains_iff_mem -> EH, getElem?_set_ne -> CL, mem_append_left -> CZ, mem_append_right -> CX, mem_cons_of_mem -> BZ, ext_getElem? -> HN, getElem?_mapIdx -> Ah, getElem?_eq_none -> CY, drop_eq_getElem_cons -> FD, take_of_length_le -> CH, drop_eq_nil_of_le -> DH, getElem_mem -> AS, sizeOf_lt_of_mem -> GY, findIdx?_eq_some_iff_getElem -> GW, findIdx?_eq_none_iff -> LG, any_eq_true -> KS, exists_cons_of_ne_nil -> ER, range -> GZ, getElem_cons_succ -> MD, map_append -> DQ, take_left' -> KG, getElem?_range -> HQ
open Nat renaming zero_add -> BC, le_refl -> AQ, le_add_right -> EG, le_of_ble_eq_true -> MN, zero_le -> FF, le_of_eq -> PM, lt_succ_self -> HR, add_sub_cancel_left -> FL, sub_self -> GD, le_of_not_lt -> OM
open Option renaming elim_some -> HC, some -> N1, none -> N2
open Prod renaming snd -> GQ, fst -> EM
open UInt8 renaming ofNat -> CN, toNat_lt -> EC
open Nat renaming reduceAdd -> NA, reduceLT -> NL, reduceLeDiff -> ND
open Bool renaming not_true -> BT, not_false -> BF
section
namespace Go.AM
open Go
def bIe:List (LA×AV):=[([],.bool Pa)]
def aRU:gS Go.Proofs.Tryz.prog aBx λf' args H=>if f'=9 then (tU bIe args H).map (cT H)else none:=by refine aGt bAY aBi ⟨Go.Proofs.Tryz.f9,Go.Proofs.Tryz.func9,cB,cB⟩ λa v h=>?_;simp only[bIe,BD,Prod.mk.injEq,or_false,List.not_mem_nil]at h;obtain⟨rfl,rfl⟩:=h;exact⟨rfl,rfl,qH bHn⟩
def aMX(f:Nat):Option aIP:=match f with
 |9=>N1 (tU bIe)
 |f=>aO4 f
noncomputable def AM1:af:=⟨fnK,aMX⟩
def aT6:Good Go.Proofs.Tryz.prog aBx AM1:=aLW rfl cB rfl λf p h=>by
 have h:aMX f=N1 p:=h;unfold aMX at h;split at h
 ·cases h;exact .inr aRU
 exact .inl h
structure Tg{α:Type}(a:α):Type where
def aCi{α:Type}(x:Option α)(k:α->Prop)(tg:Tg k):Prop:=match x with
 |some a=>k a
 |none=>False
@[go_sem] def aVJ{α:Type}{a:α}{k:α->Prop}{t:Tg k}:aCi (N1 a) k t=k a:=(rfl)
def bnd{α:Type}(x:Option α)(k:α->Prop):Prop:=aCi x k ⟨⟩
@[go_sem] def aYv{α:Type}{a:α}{k:α->Prop}:bnd (N1 a) k=k a:=(rfl)
@[congr] def aX1{α:Type}{x y:Option α}{k:α->Prop}(h:x=y):bnd x k=bnd y k:=by rw[h]
def aB{α:Type}{x:Option α}{k:α->Prop}:bnd x k=aCi x k ⟨⟩:=(rfl)
def zF(b:Bool)(x y:Prop)(tg:Tg (x,y)):Prop:=match b with
 |true=>x
 |false=>y
@[go_sem] def aTW{x y:Prop}{t:Tg (x,y)}:zF Pa x y t=x:=(rfl)
@[go_sem] def aSS{x y:Prop}{t:Tg (x,y)}:zF Po x y t=y:=(rfl)
def aD{b:Bool}{x y:Prop}{t:Tg (x,y)}(h1:b=Pa->x)(h2:b=Po->y):zF b x y t:=by
 cases b
 ·exact h2 rfl
 exact h1 rfl
def aST:AV->Option Bool
 |.bool b=>N1 b
 |_=>N2
@[go_sem] def aTX{b:Bool}:aST (.bool b)=N1 b:=(rfl)
def aIn(b:Bool):AV->Option Bool
 |.bool b'=>N1 (b'==b)
 |.tup []=>N1 Po
 |_=>N2
@[go_sem] def aTY{b b':Bool}:aIn b (.bool b')=N1 (b'==b):=(rfl)
@[go_sem] def aTZ{b:Bool}:aIn b (.tup [])=N1 false:=(rfl)
def wo(call:Nat->LA->LO->Out)(c:Ctx)(ops:List ae)(ρ:bN)(H:LO)(wr:LN)(K:bN->LO->LN->Prop)(tg:Tg (call,c,ops,K)):Prop:=aD3 call c ops ρ H wr K
def wd(call:Nat->LA->LO->Out)(c:Ctx)(aq:LN)(i:Nat)(ops:List ae)(ρ:bN)(H:LO)(wr:LN)(L:bN->LO->LN->Log->Prop)(tg:Tg (call,c,aq,ops,L)):Prop:=
 wpD call c aq i ops ρ H wr L
def wc(A:af)(N:Nat)(c:Ctx)(x:ag)(ρ:bN)(H:LO)(wr:LN)(Q:bf->bN->LO->LN->Prop)(tg:Tg (A,N,c,x,Q)):Prop:=wpc A N c x ρ H wr Q
def wl(A:af)(N:Nat)(c:Ctx)(x:ag)(ρ:bN)(H:LO)(wr:LN)(Q:bf->bN->LO->LN->Prop)(tg:Tg (A,N,c,x,Q)):Prop:=Wp A N c (.loop x) ρ H wr Q
def wfz(c:Ctx)(ts:List (Nat×Nat))(ρ:bN)(H:LO)(wr:LN)(K:bN->LO->LN->Prop)(tg:Tg (c,ts,K)):Prop:=aD5 c ts ρ H wr K
section
variable {call:Nat->LA->LO->Out}{c:Ctx}{ρ:bN}{H:LO}{wr:LN}{r:List ae}{p:LN}{d:Nat}
 {K:bN->LO->LN->Prop} {t:Tg (call,c,r,K)}
@[go_sem] def bBs{t:Tg (call,c,[],K)}:wo call c [] ρ H wr K t=K ρ H wr:=(rfl)
def aGj{op:df}{t:Tg (call,c,⟨N1 d,op,N2,p⟩::r,K)}(h:isW (c.site (N1 d)) Po op=Po):wo call c (⟨N1 d,op,N2,p⟩::r) ρ H wr K t=bnd (vA H ρ op) λv=>wo call c r (upd ρ d v) H wr K ⟨⟩:=by
 unfold wo
 conv=>lhs;unfold aD3
 simp only[zE];unfold nB;rw[Zx (by simp[h])];cases vA H ρ op<;>rfl
abbrev WoR(op:df):Prop:=∀{call:Nat->LA->LO->Out} {c:Ctx} {ρ:bN} {H:LO} {wr:LN} {r:List ae} {p:LN} {d:Nat} {K:bN->LO->LN->Prop} {t:Tg (call,c,⟨N1 d,op,N2,p⟩::r,K)},
 wo call c (⟨N1 d,op,N2,p⟩::r) ρ H wr K t=bnd (vA H ρ op) λv=>wo call c r (upd ρ d v) H wr K ⟨⟩
@[go_sem] def bBt{x1}:WoR (.mov x1):=aGj rfl
@[go_sem] def bA7{x1 y1 z1}:WoR (.pick x1 y1 z1):=aGj rfl
@[go_sem] def aYw{zs1 ps1}:WoR (.build zs1 ps1):=aGj rfl
@[go_sem] def bA8{k1 agg1 x1}:WoR (.load k1 agg1 x1):=aGj rfl
@[go_sem] def aYx{x1}:WoR (.cz x1):=aGj rfl
@[go_sem] def aYy{n1 x1}:WoR (.ky n1 x1):=aGj rfl
@[go_sem] def bBu{b1 e1 x1 y1}:WoR (.bin b1 e1 x1 y1):=aGj rfl
@[go_sem] def bCb{u1 x1}:WoR (.un u1 x1):=aGj rfl
@[go_sem] def bA9{cv1 x1}:WoR (.conv cv1 x1):=aGj rfl
@[go_sem] def bBv{f1 xs1 ys1}:WoR (.mkf f1 xs1 ys1):=aGj rfl
@[go_sem] def aX2{x1 lo1 G7}:WoR (.fm x1 lo1 G7):=aGj rfl
@[go_sem] def aX3{k1 x1 lo1 G7 mx1}:WoR (.gw k1 x1 lo1 G7 mx1):=aGj rfl
@[go_sem] def bCc{o1 x1}:WoR (.fa o1 x1):=aGj rfl
@[go_sem] def bBw{o1 k1 agg1 x1}:WoR (.fld o1 k1 agg1 x1):=aGj rfl
@[go_sem] def bBx{x1 i1 k1}:WoR (.iaV x1 i1 k1):=aGj rfl
@[go_sem] def bBy{n1 k1 x1 i1}:WoR (.iaA n1 k1 x1 i1):=aGj rfl
@[go_sem] def bBz{x1 i1}:WoR (.ixS x1 i1):=aGj rfl
@[go_sem] def bAa{x1}:WoR (.fg x1):=aGj rfl
@[go_sem] def bAb{x1}:WoR (.qk x1):=aGj rfl
@[go_sem] def bCd{m1 xs1}:WoR (.mm m1 xs1):=aGj rfl
@[go_sem] def bBA{i1 x1}:WoR (.ext i1 x1):=aGj rfl
@[go_sem] def bAc{z1 m1 k1 ok1}:WoR (.look z1 m1 k1 ok1):=aGj rfl
@[go_sem] def aYz{u1 x1}:WoR (.km u1 x1):=aGj rfl
def aLN{op:df}{d:Option Nat}{t:Tg (call,c,⟨d,op,N2,p⟩::r,K)}:wo call c (⟨d,op,N2,p⟩::r) ρ H wr K t=bnd (nB call (c.site d) Po ρ H op) λt=>wo call c r (zX ρ d t.1) t.2.1 (bE c.base wr t.2.2) K ⟨⟩:=by
 unfold wo
 conv=>lhs;unfold aD3
 simp only[zE];cases nB call (c.site d) Po ρ H op<;>rfl
@[go_sem] def aYA{k:Nat}{x v:aa}{d:Option Nat}{t:Tg (call,c,⟨d,.store k x v,N2,p⟩::r,K)}:wo call c (⟨d,.store k x v,N2,p⟩::r) ρ H wr K t=bnd (aD0 call H ρ (c.site d) (.store k x v)) λt=>wo call c r (zX ρ d t.1) t.2.1 (bE c.base wr t.2.2) K ⟨⟩:=aLN
@[go_sem] def bBB{k b:Nat}{x v:aa}{d:Option Nat}{t:Tg (call,c,⟨d,.app k b x v,N2,p⟩::r,K)}:wo call c (⟨d,.app k b x v,N2,p⟩::r) ρ H wr K t=bnd (eX H (c.site d) k b (x.at ρ) (v.at ρ)) λt=>wo call c r (zX ρ d t.1) t.2.1 (bE c.base wr t.2.2) K ⟨⟩:=aLN
@[go_sem] def aYB{f:aa}{xs:List aa}{d:Option Nat}{t:Tg (call,c,⟨d,.dm f xs,N2,p⟩::r,K)}:wo call c (⟨d,.dm f xs,N2,p⟩::r) ρ H wr K t=bnd (cX call H (c.site d) (f.at ρ) (xs.map (aa.at ρ))) λt=>wo call c r (zX ρ d t.1) t.2.1 (bE c.base wr t.2.2) K ⟨⟩:=aLN
@[go_sem] def aYC{f:aa}{xs:List aa}{d:Option Nat}{t:Tg (call,c,⟨d,.ee f xs,N2,p⟩::r,K)}:wo call c (⟨d,.ee f xs,N2,p⟩::r) ρ H wr K t=bnd (iN call H (c.site d) (f.at ρ) (xs.map (aa.at ρ))) λt=>wo call c r (zX ρ d t.1) t.2.1 (bE c.base wr t.2.2) K ⟨⟩:=aLN
@[go_sem] def bAd{tab:List (Nat×Nat)}{x:aa}{xs:List aa}{d:Option Nat}{t:Tg (call,c,⟨d,.nb tab x xs,N2,p⟩::r,K)}:wo call c (⟨d,.nb tab x xs,N2,p⟩::r) ρ H wr K t=bnd (aD0 call H ρ (c.site d) (.nb tab x xs)) λt=>wo call c r (zX ρ d t.1) t.2.1 (bE c.base wr t.2.2) K ⟨⟩:=aLN
@[go_sem] def bAe{ty k b:Nat}{x v:aa}{d:Option Nat}{t:Tg (call,c,⟨d,.ni ty k b x v,N2,p⟩::r,K)}:wo call c (⟨d,.ni ty k b x v,N2,p⟩::r) ρ H wr K t=bnd (vB H (c.site d) ty k b (x.at ρ) (v.at ρ)) λt=>wo call c r (zX ρ d t.1) t.2.1 (bE c.base wr t.2.2) K ⟨⟩:=aLN
@[go_sem] def aX4{ty:Nat}{zs:LA}{d:Option Nat}{t:Tg (call,c,⟨d,.gv ty zs,N2,p⟩::r,K)}:wo call c (⟨d,.gv ty zs,N2,p⟩::r) ρ H wr K t=bnd (nB call (c.site d) Po ρ H (.gv ty zs)) λt=>wo call c r (zX ρ d t.1) t.2.1 (bE c.base wr t.2.2) K ⟨⟩:=aLN
@[go_sem] def bBC{ty k:Nat}{x:aa}{d:Option Nat}{t:Tg (call,c,⟨d,.tbx ty k x,N2,p⟩::r,K)}:wo call c (⟨d,.tbx ty k x,N2,p⟩::r) ρ H wr K t=bnd (nB call (c.site d) Po ρ H (.tbx ty k x)) λt=>wo call c r (zX ρ d t.1) t.2.1 (bE c.base wr t.2.2) K ⟨⟩:=aLN
@[go_sem] def aYD {d:Option Nat}{t:Tg (call,c,⟨d,.jn,N2,p⟩::r,K)}:wo call c (⟨d,.jn,N2,p⟩::r) ρ H wr K t=bnd (aD0 call H ρ (c.site d) .jn) λt=>wo call c r (zX ρ d t.1) t.2.1 (bE c.base wr t.2.2) K ⟨⟩:=aLN
@[go_sem] def bBD{m k v:aa}{d:Option Nat}{t:Tg (call,c,⟨d,.ins m k v,N2,p⟩::r,K)}:wo call c (⟨d,.ins m k v,N2,p⟩::r) ρ H wr K t=bnd (aD0 call H ρ (c.site d) (.ins m k v)) λt=>wo call c r (zX ρ d t.1) t.2.1 (bE c.base wr t.2.2) K ⟨⟩:=aLN
@[go_sem] def aYE{zs:LA}{d:Option Nat}{t:Tg (call,c,⟨d,.alloc zs,N2,p⟩::r,K)}:wo call c (⟨d,.alloc zs,N2,p⟩::r) ρ H wr K t=bnd (nB call (c.site d) Po ρ H (.alloc zs)) λt=>wo call c r (zX ρ d t.1) t.2.1 (bE c.base wr t.2.2) K ⟨⟩:=aLN
@[go_sem] def bBE{k:Nat}{x:aa}{d:Option Nat}{t:Tg (call,c,⟨d,.box k x,N2,p⟩::r,K)}:wo call c (⟨d,.box k x,N2,p⟩::r) ρ H wr K t=bnd (nB call (c.site d) Po ρ H (.box k x)) λt=>wo call c r (zX ρ d t.1) t.2.1 (bE c.base wr t.2.2) K ⟨⟩:=aLN
@[go_sem] def bBF{k n:Nat}{zs:LA}{ps:List (Nat×aa)}{d:Option Nat}{t:Tg (call,c,⟨d,.bsl k zs n ps,N2,p⟩::r,K)}:wo call c (⟨d,.bsl k zs n ps,N2,p⟩::r) ρ H wr K t=bnd (aD0 call H ρ (c.site d) (.bsl k zs n ps)) λt=>wo call c r (zX ρ d t.1) t.2.1 (bE c.base wr t.2.2) K ⟨⟩:=by
 rw[aLN];have:nB call (c.site d) Po ρ H (.bsl k zs n ps)=aD0 call H ρ (c.site d) (.bsl k zs n ps):=by unfold nB;rw[Zy (by simp[isW])]
 rw[this]
@[go_sem] def bBG{k n:Nat}{zs:LA}{x y:aa}{d:Option Nat}{t:Tg (call,c,⟨d,.mks k n zs x y,N2,p⟩::r,K)}:wo call c (⟨d,.mks k n zs x y,N2,p⟩::r) ρ H wr K t=bnd (aD0 call H ρ (c.site d) (.mks k n zs x y)) λt=>wo call c r (zX ρ d t.1) t.2.1 (bE c.base wr t.2.2) K ⟨⟩:=by
 rw[aLN];have:nB call (c.site d) Po ρ H (.mks k n zs x y)=aD0 call H ρ (c.site d) (.mks k n zs x y):=by unfold nB;rw[Zy (by simp[isW])]
 rw[this]
@[go_sem] def aYF{op:df}{t1:Nat}{b:Bool}{d:Option Nat}{t:Tg (call,c,⟨d,op,N1 (N1 t1,b),p⟩::r,K)}:wo call c (⟨d,op,N1 (N1 t1,b),p⟩::r) ρ H wr K t = bnd (aIn b (ρ t1)) λw=>zF w (wo call c (⟨d,op,N2,p⟩::r) ρ H wr K ⟨⟩) (wo call c r (zX ρ d (.tup [])) H wr K ⟨⟩) ⟨⟩:=by
 conv=>lhs;unfold wo aD3
 simp only[zE];cases ht:ρ t1<;>try rfl
 rotate_left
 ·rename_i vs;cases vs<;>rfl
 rename_i b';simp only[aIn,bnd,aCi];cases hb:(b'==b)with
 |false=>rfl
 |true=>simp only[zF];rw[aLN];cases nB call (c.site d) Po ρ H op<;>rfl
variable {aq:LN}{n0:Nat}{L:bN->LO->LN->Log->Prop}
@[go_sem] def bBH{t:Tg (call,c,aq,[],L)}:wd call c aq n0 [] ρ H wr L t=L ρ H wr []:=(rfl)
def aVK(i:Nat)(rd:LN)(w:Option LN)(L:bN->LO->LN->Log->Prop)(tg:Tg L):bN->LO->LN->Log->Prop:=
 λρ H wr log=>L ρ H wr ((i,rd,w)::log)
@[go_sem] def bAf{i:Nat}{rd:LN}{w:Option LN}{t:Tg L}{log:Log}:aVK i rd w L t ρ H wr log=L ρ H wr ((i,rd,w)::log):=(rfl)
def aU0(b:Bool)(x y:Prop)(tg:Tg (x,y)):Prop:=match b with
 |true=>x
 |false=>y
@[go_sem] def aX5{x y:Prop}{t:Tg (x,y)}:aU0 Pa x y t=x:=(rfl)
@[go_sem] def aVL{x y:Prop}{t:Tg (x,y)}:aU0 Po x y t=y:=(rfl)
def aRs{op:df}{d:Option Nat}{t:Tg (call,c,aq,⟨d,op,N2,p⟩::r,L)}:wd call c aq n0 (⟨d,op,N2,p⟩::r) ρ H wr L t=bnd (oB call (c.site d) ρ H op) λt=>aU0 (aq.contains n0) (wd call c aq (n0+1) r (zX ρ d t.1) t.2.1 (bE c.base wr (t.2.2.2.getD [])) (aVK n0 t.2.2.1 t.2.2.2 L ⟨⟩) ⟨⟩) (wd call c aq (n0+1) r (zX ρ d t.1) t.2.1 (bE c.base wr (t.2.2.2.getD [])) L ⟨⟩) ⟨⟩:=by
 unfold wd
 conv=>lhs;unfold wpD
 simp only[zE];cases oB call (c.site d) ρ H op with
 |none=>rfl
 |some v=>cases hk:aq.contains n0<;>rfl
def aJ9{op:df}{t:Tg (call,c,aq,⟨N1 d,op,N2,p⟩::r,L)}(h:isW (c.site (N1 d)) Pa op=Po)(ha:∀zs,op≠.alloc zs):wd call c aq n0 (⟨N1 d,op,N2,p⟩::r) ρ H wr L t=bnd (vA H ρ op) λv=>aU0 (aq.contains n0) (bnd (N1 (aCc ρ op)) λrd=>wd call c aq (n0+1) r (upd ρ d v) H wr (aVK n0 rd N2 L ⟨⟩) ⟨⟩) (wd call c aq (n0+1) r (upd ρ d v) H wr L ⟨⟩) ⟨⟩:=by
 rw[aRs];have:oB call (c.site (N1 d)) ρ H op=match vA H ρ op with
   |some v=>N1 (v,H,aCc ρ op,N2)
   |none=>none:=by
  cases op<;>first | exact Zw rfl (ha _)|(unfold oB;dsimp only;rw[Zx (by rw[h];exact ED)];rfl)
 rw[this];cases vA H ρ op<;>rfl
abbrev WdR(op:df):Prop:=∀{call:Nat->LA->LO->Out} {c:Ctx} {ρ:bN} {H:LO} {wr:LN} {r:List ae} {p:LN} {d:Nat} {aq:LN} {n0:Nat} {L:bN->LO->LN->Log->Prop} {t:Tg (call,c,aq,⟨N1 d,op,N2,p⟩::r,L)},
 wd call c aq n0 (⟨N1 d,op,N2,p⟩::r) ρ H wr L t=bnd (vA H ρ op) λv=>
  aU0 (aq.contains n0) (bnd (N1 (aCc ρ op)) λrd=>wd call c aq (n0+1) r (upd ρ d v) H wr (aVK n0 rd N2 L ⟨⟩) ⟨⟩)
   (wd call c aq (n0+1) r (upd ρ d v) H wr L ⟨⟩) ⟨⟩
abbrev WdS(op:df):Prop:=∀{call:Nat->LA->LO->Out} {c:Ctx} {ρ:bN} {H:LO} {wr:LN} {r:List ae} {p:LN} {d:Option Nat} {aq:LN} {n0:Nat} {L:bN->LO->LN->Log->Prop} {t:Tg (call,c,aq,⟨d,op,N2,p⟩::r,L)},
 wd call c aq n0 (⟨d,op,N2,p⟩::r) ρ H wr L t=bnd (oB call (c.site d) ρ H op) λt=>
  aU0 (aq.contains n0) (wd call c aq (n0+1) r (zX ρ d t.1) t.2.1 (bE c.base wr (t.2.2.2.getD [])) (aVK n0 t.2.2.1 t.2.2.2 L ⟨⟩) ⟨⟩)
   (wd call c aq (n0+1) r (zX ρ d t.1) t.2.1 (bE c.base wr (t.2.2.2.getD [])) L ⟨⟩) ⟨⟩
@[go_sem] def bBI{x1}:WdR (.mov x1):=aJ9 rfl (λ_ h=>by cases h)
@[go_sem] def bAg{x1 y1 z1}:WdR (.pick x1 y1 z1):=aJ9 rfl (λ_ h=>by cases h)
@[go_sem] def aYG{zs1 ps1}:WdR (.build zs1 ps1):=aJ9 rfl (λ_ h=>by cases h)
@[go_sem] def bAh{k1 agg1 x1}:WdR (.load k1 agg1 x1):=aJ9 rfl (λ_ h=>by cases h)
@[go_sem] def aYH{x1}:WdR (.cz x1):=aJ9 rfl (λ_ h=>by cases h)
@[go_sem] def bBJ{b1 e1 x1 y1}:WdR (.bin b1 e1 x1 y1):=aJ9 rfl (λ_ h=>by cases h)
@[go_sem] def bCe{u1 x1}:WdR (.un u1 x1):=aJ9 rfl (λ_ h=>by cases h)
@[go_sem] def bAi{cv1 x1}:WdR (.conv cv1 x1):=aJ9 rfl (λ_ h=>by cases h)
@[go_sem] def bBK{f1 xs1 ys1}:WdR (.mkf f1 xs1 ys1):=aJ9 rfl (λ_ h=>by cases h)
@[go_sem] def bHT{x1 lo1 G7}:WdR (.fm x1 lo1 G7):=aJ9 rfl (λ_ h=>by cases h)
@[go_sem] def aX6{k1 x1 lo1 G7 mx1}:WdR (.gw k1 x1 lo1 G7 mx1):=aJ9 rfl (λ_ h=>by cases h)
@[go_sem] def bCf{o1 x1}:WdR (.fa o1 x1):=aJ9 rfl (λ_ h=>by cases h)
@[go_sem] def bBL{x1 i1 k1}:WdR (.iaV x1 i1 k1):=aJ9 rfl (λ_ h=>by cases h)
@[go_sem] def bBM{n1 k1 x1 i1}:WdR (.iaA n1 k1 x1 i1):=aJ9 rfl (λ_ h=>by cases h)
@[go_sem] def bBN{x1 i1}:WdR (.ixS x1 i1):=aJ9 rfl (λ_ h=>by cases h)
@[go_sem] def bAj{x1}:WdR (.qk x1):=aJ9 rfl (λ_ h=>by cases h)
@[go_sem] def bCg{m1 xs1}:WdR (.mm m1 xs1):=aJ9 rfl (λ_ h=>by cases h)
@[go_sem] def bBO{i1 x1}:WdR (.ext i1 x1):=aJ9 rfl (λ_ h=>by cases h)
@[go_sem] def bAk{z1 m1 k1 ok1}:WdR (.look z1 m1 k1 ok1):=aJ9 rfl (λ_ h=>by cases h)
@[go_sem] def bAl{k1 x1 lo1}:WdR (.view k1 x1 lo1):=aJ9 rfl (λ_ h=>by cases h)
@[go_sem] def aYI{k:Nat}{x v:aa}:WdS (.store k x v):=aRs
@[go_sem] def bBP{k b:Nat}{x v:aa}:WdS (.app k b x v):=aRs
@[go_sem] def aYJ{f:aa}{xs:List aa}:WdS (.dm f xs):=aRs
@[go_sem] def aYK{f:aa}{xs:List aa}:WdS (.ee f xs):=aRs
@[go_sem] def aYL{zs:LA}:WdS (.alloc zs):=aRs
@[go_sem] def bBQ{k n:Nat}{zs:LA}{ps:List (Nat×aa)}:WdS (.bsl k zs n ps):=aRs
@[go_sem] def bIj{k n:Nat}{zs:LA}{x y:aa}:WdS (.mks k n zs x y):=aRs
@[go_sem] def aYM{op:df}{t1:Nat}{b:Bool}{d:Option Nat}{t:Tg (call,c,aq,⟨d,op,N1 (N1 t1,b),p⟩::r,L)}:wd call c aq n0 (⟨d,op,N1 (N1 t1,b),p⟩::r) ρ H wr L t = bnd (aIn b (ρ t1)) λw=>zF w (wd call c aq n0 (⟨d,op,N2,p⟩::r) ρ H wr L ⟨⟩) (wd call c aq (n0+1) r (zX ρ d (.tup [])) H wr L ⟨⟩) ⟨⟩:=by
 conv=>lhs;unfold wd wpD
 simp only[zE];cases ht:ρ t1<;>try rfl
 rotate_left
 ·rename_i vs;cases vs<;>rfl
 rename_i b';simp only[aIn,bnd,aCi];cases hb:(b'==b)with
 |false=>rfl
 |true=>
  simp only[zF];rw[aRs];cases oB call (c.site d) ρ H op with
  |none=>rfl
  |some v=>cases hk:aq.contains n0<;>rfl
def oD(H:LO):Out->Option (AV×LO×LN×Option LN)
 |some (v,H',w)=>if H'.length=H.length then N1 (v,H',[],N1 w)else N2
 |none=>N2
@[go_sem] def aSU{v:AV}{H':LO}{w:LN}:oD H (N1 (v,H',w))=if H'.length=H.length then N1 (v,H',[],N1 w)else none:=(rfl)
@[go_sem] def aU1{f:aa}{xs:List aa}{s:Option Nat}:oB call s ρ H (.ee f xs)=oD H (iN call H s (f.at ρ) (xs.map (aa.at ρ))):=(rfl)
@[go_sem] def aU2{k:Nat}{x v:aa}{s:Option Nat}:oB call s ρ H (.store k x v)=oD H (aD0 call H ρ s (.store k x v)):=(rfl)
@[go_sem] def aU3{f:aa}{xs:List aa}{s:Option Nat}:oB call s ρ H (.dm f xs)=oD H (cX call H s (f.at ρ) (xs.map (aa.at ρ))):=(rfl)
@[go_sem] def aX7{k b:Nat}{x v:aa}{s:Option Nat}:oB call s ρ H (.app k b x v)=oD H (eX H s k b (x.at ρ) (v.at ρ)):=(rfl)
@[go_sem] def aU4{zs:LA}{id:Nat}:oB call (N1 id) ρ H (.alloc zs)=N1 (.ptr id ((H[id]?).elim 0 ah.ver) 0,H,[id],N2):=(rfl)
@[go_sem] def aX8{k n:Nat}{zs:LA}{ps:List (Nat×aa)}{id:Nat}:oB call (N1 id) ρ H (.bsl k zs n ps)=oD H (aD0 call H ρ (N1 id) (.bsl k zs n ps)):=(rfl)
@[go_sem] def aQW{k n:Nat}{zs:LA}{ps:List (Nat×aa)}:oB call N2 ρ H (.bsl k zs n ps)=match vA H ρ (.bsl k zs n ps)with
 |some v=>N1 (v,H,[],N2)
 |none=>none:=(rfl)
@[go_sem] def bGv{k n:Nat}{zs:LA}{x y:aa}:oB call N2 ρ H (.mks k n zs x y)=match vA H ρ (.mks k n zs x y)with
 |some v=>N1 (v,H,[],N2)
 |none=>none:=(rfl)
@[go_sem] def aU5{zs:LA}{id:Nat}:nB call (N1 id) Po ρ H (.alloc zs)=if id<H.length then N1 (.ptr id (bH H id) 0,make H id (.box · zs),[id])else none:=(rfl)
@[go_sem] def aX9{k:Nat}{x:aa}{id:Nat}:nB call (N1 id) Po ρ H (.box k x)=if id<H.length/\(x.at ρ).cells.length=k/\(x.at ρ).cells.all AV.ak then N1 (.ptr id (bH H id) 0,make H id (.box · (x.at ρ).cells),[id])else none:=(rfl)
@[go_sem] def aQX{k:Nat}{x:aa}:nB call N2 Po ρ H (.box k x)=if (x.at ρ).strip.cells.length=k/\(x.at ρ).strip.cells.all AV.still then N1 (.ep (x.at ρ).strip.cells 0,H,[])else none:=by
 unfold nB;rw[Zx (by simp[isW])];unfold vA;dsimp only;by_cases h:(x.at ρ).strip.cells.length=k/\(x.at ρ).strip.cells.all AV.still
 ·rw[Zy h,Zy h]
 rw[Zx h,Zx h]
end
section
variable {A:af}{N:Nat}{c:Ctx}{ρ:bN}{H:LO}{wr:LN}{Q:bf->bN->LO->LN->Prop}{a b:ag}
def aNW(A:af)(N:Nat)(c:Ctx)(b:ag)(Q:bf->bN->LO->LN->Prop)(tg:Tg (A,N,c,b,Q)):bf->bN->LO->LN->Prop:=λe ρ H wr=>match e with
 |.normal=>wpc A N c b ρ H wr Q
 |e=>Q e ρ H wr
def pP(id:Nat)(Q:bf->bN->LO->LN->Prop)(tg:Tg Q):bf->bN->LO->LN->Prop:=λe ρ H wr=>match e with
 |.exit id'=>if id'=id then Q .normal ρ H wr else Q (.exit id') ρ H wr
 |e=>Q e ρ H wr
def bHU(A:af)(N:Nat)(c:Ctx)(b:ag)(Q:bf->bN->LO->LN->Prop)(tg:Tg (A,N,c,b,Q)):bf->bN->LO->LN->Prop:=λe ρ H wr=>match e with
 |.normal=>Wp A N c (.loop b) ρ H wr Q
 |e=>Q e ρ H wr
def aGk(ops:List ae)(Q:bN->LO->LN->Prop)(tg:Tg (ops,Q)):bN->LO->LN->Log->Prop:=λρ H wr log=>eH (λj=>((ops[j]?).map ae.pre).getD []) log=Pa/\Q ρ H wr
@[go_sem] def bAm{t:Tg (A,N,c,ag.skip,Q)}:wc A N c .skip ρ H wr Q t=Q .normal ρ H wr:=(rfl)
@[go_sem] def aXa{ops:List ae}{t:Tg (A,N,c,ag.region Po ops,Q)}:wc A N c (.region Po ops) ρ H wr Q t=wo (aG A) c ops ρ H wr (Q .normal) ⟨⟩:=(rfl)
@[go_sem] def bBR{t:Tg (A,N,c,ag.seq a b,Q)}:wc A N c (.seq a b) ρ H wr Q t=wc A N c a ρ H wr (aNW A N c b Q ⟨⟩) ⟨⟩:=(rfl)
@[go_sem] def bAn{x:aa}{t:Tg (A,N,c,ag.cond x a b,Q)}:wc A N c (.cond x a b) ρ H wr Q t=bnd (aST (x.at ρ)) λv=>zF v (wc A N c a ρ H wr Q ⟨⟩) (wc A N c b ρ H wr Q ⟨⟩) ⟨⟩:=by
 unfold wc;rw[wpc];cases x.at ρ<;>try rfl
 rename_i v;cases v<;>rfl
@[go_sem] def aYN{id:Nat}{t:Tg (A,N,c,ag.block id a,Q)}:wc A N c (.block id a) ρ H wr Q t=wc A N c a ρ H wr (pP id Q ⟨⟩) ⟨⟩:=(rfl)
@[go_sem] def bAo{t:Tg (A,N,c,ag.loop a,Q)}:wc A N c (.loop a) ρ H wr Q t=wl A N c a ρ H wr Q ⟨⟩:=(rfl)
@[go_sem] def bAp{id:Nat}{t:Tg (A,N,c,ag.exit id,Q)}:wc A N c (.exit id) ρ H wr Q t=Q (.exit id) ρ H wr:=(rfl)
@[go_sem] def bBS{t:Tg (A,N,c,ag.ret,Q)}:wc A N c .ret ρ H wr Q t=Q .ret ρ H wr:=(rfl)
@[go_sem] def bBT{ts:List (Nat×Nat)}{t:Tg (A,N,c,ag.frz ts,Q)}:wc A N c (.frz ts) ρ H wr Q t=wfz c ts ρ H wr (Q .normal) ⟨⟩:=(rfl)
def aU6{ops:List ae}{t:Tg (A,N,c,ag.region Pa ops,Q)}{H0:LO}{aq:LN}(h:cS c H ops=N1 H0)(hk:aBH c ops=aq):wc A N c (.region Pa ops) ρ H wr Q t=wd (aG A) c aq 0 ops ρ H0 wr (aGk ops (Q .normal) ⟨⟩) ⟨⟩:=by subst hk;unfold wc wd;rw[wpc,h];rfl
def aY{ops:List ae}{t:Tg (A,N,c,ag.region Pa ops,Q)}{H0:LO}{aq:LN}(h:cS c H ops=N1 H0)(hk:aBH c ops=aq) (hw:wd (aG A) c aq 0 ops ρ H0 wr (aGk ops (Q .normal) ⟨⟩) ⟨⟩):wc A N c (.region Pa ops) ρ H wr Q t:=by rw[aU6 h hk];exact hw
@[go_sem] def aSV{t:Tg (A,N,c,b,Q)}:aNW A N c b Q t .normal ρ H wr=wc A N c b ρ H wr Q ⟨⟩:=(rfl)
@[go_sem] def aXb{t:Tg (A,N,c,b,Q)}:aNW A N c b Q t .ret ρ H wr=Q .ret ρ H wr:=(rfl)
@[go_sem] def aVM{t:Tg (A,N,c,b,Q)}{id:Nat}:aNW A N c b Q t (.exit id) ρ H wr=Q (.exit id) ρ H wr:=(rfl)
@[go_sem] def aRt{t:Tg Q}{id:Nat}:pP id Q t .normal ρ H wr=Q .normal ρ H wr:=(rfl)
@[go_sem] def aVN{t:Tg Q}{id:Nat}:pP id Q t .ret ρ H wr=Q .ret ρ H wr:=(rfl)
@[go_sem] def aU7{t:Tg Q}{id:Nat}:pP id Q t (.exit id) ρ H wr=Q .normal ρ H wr:=by unfold pP;dsimp only;rw[Zy rfl]
@[go_sem] def bHP{t:Tg (A,N,c,b,Q)}{id:Nat}:bHU A N c b Q t (.exit id) ρ H wr=Q (.exit id) ρ H wr:=(rfl)
def bG9{t:Tg (A,N,c,a,Q)}(hok:dK N c a=Pa)(h:wc A N c a ρ H wr (bHU A N c a Q ⟨⟩) ⟨⟩):wl A N c a ρ H wr Q t:=Wp.loop hok h
def aL{ops:List ae}{K:bN->LO->LN->Prop}{t:Tg (ops,K)}{log:Log}(h:eH (λj=>((ops[j]?).map ae.pre).getD []) log=Pa):aGk ops K t ρ H wr log=K ρ H wr:=by unfold aGk;simp only[h,true_and]
@[go_sem] def aU8{ops:List ae}{K:bN->LO->LN->Prop}{t:Tg (ops,K)}:aGk ops K t ρ H wr []=K ρ H wr:=aL rfl
@[go_sem] def bAq{K:bN->LO->LN->Prop}{t:Tg (c,[],K)}:wfz c [] ρ H wr K t=K ρ H wr:=(rfl)
@[go_sem] def aYO{K:bN->LO->LN->Prop}{s:Nat}{r:List (Nat×Nat)}{t:Tg (c,(0,s)::r,K)}:wfz c ((0,s)::r) ρ H wr K t=bnd (aVH H (ρ s)) λx=>wfz c r (upd ρ s x.1) x.2.1 (bE c.base wr x.2.2) K ⟨⟩:=by
 unfold wfz
 conv=>lhs;unfold aD5
 cases aVH H (ρ s)<;>rfl
@[go_sem] def aU9{o v off:Nat}:pE H (.ptr o v off)=none:=(rfl)
@[go_sem] def aVO{o v n k i off:Nat}:pE H (.vp o v n k i off)=none:=(rfl)
@[go_sem] def aXc{K:bN->LO->LN->Prop}{k s:Nat}{r:List (Nat×Nat)}{t:Tg (c,(k+1,s)::r,K)}:wfz c ((k+1,s)::r) ρ H wr K t = bnd (N1 (ρ s).iy) λb=>zF b (wfz c r ρ H wr K ⟨⟩) (bnd (aD4 H (k+1) (ρ s)) λx=>wfz c r ρ x.1 (bE c.base wr x.2) K ⟨⟩) ⟨⟩:=by
 unfold wfz
 conv=>lhs;unfold aD5
 cases hu:(ρ s).iy with
 |true=>simp[bnd,zF,aCi]
 |false=>simp only[bnd,zF,aCi,BX,Zu];cases aD4 H (k+1) (ρ s)<;>rfl
end
@[go_sem] def bBU{ρ:bN}{t:Nat}:(aa.tmp t).at ρ=ρ t:=(rfl)
@[go_sem] def aYP{ρ:bN}{v:AV}:(aa.const v).at ρ=v:=(rfl)
@[go_sem] def aYQ{ρ:bN}{d:Nat}{v:AV}:upd ρ d v d=v:=by unfold upd;rw[Zy rfl]
def aAk{ρ:bN}{d t:Nat}{v:AV}(h:t≠d):upd ρ d v t=ρ t:=by unfold upd;rw[Zx h]
@[go_sem] def aVP{ρ:bN}{d t:Nat}{v:AV}(h:(t==d)=Po):upd ρ d v t=ρ t:=aAk (by simpa using h)
@[go_sem] def aXd{ρ:bN}{d:Nat}{v:AV}:zX ρ (N1 d) v=upd ρ d v:=(rfl)
@[go_sem] def aXe{ρ:bN}{v:AV}:zX ρ N2 v=ρ:=(rfl)
@[go_sem] def aUa{b:Bool}:AV.ak (.bool b)=true:=(rfl)
@[go_sem] def aXf{b:Bool}:AV.atom (.bool b)=true:=(rfl)
@[go_sem] def aUb{b:Bool}:AV.atomic (.bool b)=AV.atom (.bool b):=(rfl)
@[go_sem] def aVQ{b:Bool}:AV.strip (.bool b)=(.bool b):=(rfl)
@[go_sem] def aVR{b:Bool}:AV.cells (.bool b)=[(.bool b)]:=(rfl)
@[go_sem] def aXg{H:LO}{b:Bool}:dw H (.bool b)=N1 ((.bool b),[]):=(rfl)
@[go_sem] def aXh{k:DK}{n:Int}:AV.still (.int k n)=true:=(rfl)
@[go_sem] def aVS{k:DK}{n:Int}:AV.ak (.int k n)=true:=(rfl)
@[go_sem] def aVT{k:DK}{n:Int}:AV.aj (.int k n)=(.int k n):=(rfl)
@[go_sem] def aXi{k:DK}{n:Int}:AV.strip (.int k n)=(.int k n):=(rfl)
@[go_sem] def aXj{k:DK}{n:Int}:AV.cells (.int k n)=[(.int k n)]:=(rfl)
@[go_sem] def aXk{H:LO}{k:DK}{n:Int}:aA2 H (.int k n)=N1 ((.int k n),[]):=(rfl)
@[go_sem] def aYR{H:LO}{k:DK}{n:Int}:dw H (.int k n)=N1 ((.int k n),[]):=(rfl)
@[go_sem] def aXl{l:List UInt8}:AV.still (.str l)=true:=(rfl)
@[go_sem] def aVU{l:List UInt8}:AV.ak (.str l)=true:=(rfl)
@[go_sem] def aYS{l:List UInt8}:AV.atom (.str l)=true:=(rfl)
@[go_sem] def aVV{l:List UInt8}:AV.atomic (.str l)=AV.atom (.str l):=(rfl)
@[go_sem] def aVW{l:List UInt8}:AV.aj (.str l)=(.str l):=(rfl)
@[go_sem] def aXm{l:List UInt8}:AV.strip (.str l)=(.str l):=(rfl)
@[go_sem] def aXn{l:List UInt8}:AV.cells (.str l)=[(.str l)]:=(rfl)
@[go_sem] def aXo{H:LO}{l:List UInt8}:aA2 H (.str l)=N1 ((.str l),[]):=(rfl)
@[go_sem] def aYT{H:LO}{l:List UInt8}:dw H (.str l)=N1 ((.str l),[]):=(rfl)
@[go_sem] def aYU{f:Nat}{a c:LA}:AV.still (.fn f a c)=true:=(rfl)
@[go_sem] def aXp{f:Nat}{a c:LA}:AV.ak (.fn f a c)=true:=(rfl)
@[go_sem] def aXq{f:Nat}{a c:LA}:AV.aj (.fn f a c)=(.fn f a c):=(rfl)
@[go_sem] def aYV{f:Nat}{a c:LA}:AV.strip (.fn f a c)=(.fn f a c):=(rfl)
@[go_sem] def aYW{f:Nat}{a c:LA}:AV.cells (.fn f a c)=[(.fn f a c)]:=(rfl)
@[go_sem] def aYX{H:LO}{f:Nat}{a c:LA}:aA2 H (.fn f a c)=N1 ((.fn f a c),[]):=(rfl)
@[go_sem] def bAr{H:LO}{f:Nat}{a c:LA}:dw H (.fn f a c)=N1 ((.fn f a c),[]):=(rfl)
@[go_sem] def aXr{o v off:Nat}:AV.still (.ptr o v off)=true:=(rfl)
@[go_sem] def aVX{o v off:Nat}:AV.ak (.ptr o v off)=true:=(rfl)
@[go_sem] def aUc{o v off:Nat}:AV.iy (.ptr o v off)=false:=(rfl)
@[go_sem] def aVY{o v off:Nat}:AV.aj (.ptr o v off)=(.ptr o v off):=(rfl)
@[go_sem] def aXs{o v off:Nat}:AV.strip (.ptr o v off)=(.ptr o v off):=(rfl)
@[go_sem] def aXt{o v off:Nat}:AV.cells (.ptr o v off)=[(.ptr o v off)]:=(rfl)
@[go_sem] def aYY{H:LO}{o v off:Nat}:dw H (.ptr o v off)=N1 ((.ptr o v off),[]):=(rfl)
@[go_sem] def aVZ{o v n k i off:Nat}:AV.iy (.vp o v n k i off)=false:=(rfl)
@[go_sem] def aRu  : AV.ak .nilPtr=true:=(rfl)
@[go_sem] def aYZ{row:LA}{off:Nat}:AV.still (.ep row off)=true:=(rfl)
@[go_sem] def aXu{row:LA}{off:Nat}:AV.aj (.ep row off)=(.ep row off):=(rfl)
@[go_sem] def aZ0{row:LA}{off:Nat}:AV.strip (.ep row off)=(.ep row off):=(rfl)
@[go_sem] def bAs{H:LO}{row:LA}{off:Nat}:dw H (.ep row off)=N1 ((.ep row off),[]):=(rfl)
@[go_sem] def aZ1{f:Bool}{rows:List LA}:AV.still (.sl f rows)=true:=(rfl)
@[go_sem] def aXv{f:Bool}{rows:List LA}:AV.ak (.sl f rows)=true:=(rfl)
@[go_sem] def aXw{f:Bool}{rows:List LA}:AV.aj (.sl f rows)=(.sl Po rows):=(rfl)
@[go_sem] def aZ2{f:Bool}{rows:List LA}:AV.strip (.sl f rows)=(.sl Po rows):=(rfl)
@[go_sem] def aZ3{f:Bool}{rows:List LA}:AV.cells (.sl f rows)=[(.sl f rows)]:=(rfl)
@[go_sem] def aZ4{H:LO}{f:Bool}{rows:List LA}:aA2 H (.sl f rows)=N1 ((.sl f rows),[]):=(rfl)
@[go_sem] def bAt{H:LO}{f:Bool}{rows:List LA}:dw H (.sl f rows)=N1 ((.sl f rows),[]):=(rfl)
@[go_sem] def aXx{o v n:Nat}:AV.ak (.sr o v n)=true:=(rfl)
@[go_sem] def aXy{o v n:Nat}:AV.aj (.sr o v n)=(.sr o v n):=(rfl)
@[go_sem] def aZ5{o v n:Nat}:AV.cells (.sr o v n)=[(.sr o v n)]:=(rfl)
@[go_sem] def bAu{H:LO}{o v n:Nat}:dw H (.sr o v n)=aA2 H (.sr o v n):=(rfl)
@[go_sem] def aSW  : AV.ak .ar=true:=(rfl)
@[go_sem] def aUd  : AV.strip .ar=.ar:=(rfl)
@[go_sem] def aUe  : AV.cells .ar=[.ar]:=(rfl)
@[go_sem] def aW0{H:LO}  : dw H .ar=N1 (.ar,[]):=(rfl)
@[go_sem] def aRv  : AV.ak .bj=true:=(rfl)
@[go_sem] def aSX  : AV.strip .bj=.bj:=(rfl)
@[go_sem] def aUf{H:LO}  : dw H .bj=N1 (.bj,[]):=(rfl)
@[go_sem] def aW1{t:Nat}{x:AV}:AV.ak (.ifc t x)=true:=(rfl)
@[go_sem] def aXz{t:Nat}{x:AV}:AV.cells (.ifc t x)=[(.ifc t x)]:=(rfl)
@[go_sem] def aXA{cs:LA}:AV.cells (.agg cs)=cs:=(rfl)
@[go_sem] def aRw  : AV.iy .undef=true:=(rfl)
@[go_sem] def aXB{cs:LA}:AV.strip (.agg cs)=.agg (cs.map AV.aj):=(rfl)
@[go_sem] def aZ6{H:LO}{o v n:Nat}:aA2 H (.sr o v n)=match H[o]? with
  |some (.vec v' _ rows)=>if v'=v/\rows.length=n/\rows.all (λr=>r.all AV.still)then N1 (.sl Po rows,[o])else N2
  |_=>none:=(rfl)
@[go_sem] def aRx{H:LO}{cs:LA}:dw H (.agg cs)=match aIQ H cs with
  |some (cs',l)=>N1 (.agg cs',l)
  |none=>none:=(rfl)
attribute [go_sem] aIQ kA dL fix
@[go_sem] def aUg{cs:LA}:eD Pa cs=N1 (.agg cs):=(rfl)
@[go_sem] def aUh{v:AV}:eD Po [v]=N1 v:=(rfl)
section
variable {k:DK}{a b:Int}{ek:vd}
@[go_sem] def bAv:kJ .add ek (.int k a) (.int k b)=N1 (.int k (k.wrap (a+b))):=by simp[kJ]
@[go_sem] def bAw:kJ .sub ek (.int k a) (.int k b)=N1 (.int k (k.wrap (a - b))):=by simp[kJ]
@[go_sem] def bAx:kJ .mul ek (.int k a) (.int k b)=N1 (.int k (k.wrap (a*b))):=by simp[kJ]
def aAl(h:b≠0):kJ .quo ek (.int k a) (.int k b)=N1 (.int k (k.wrap (a.tdiv b))):=by simp[kJ,h]
def tS(h:b≠0):kJ .rem ek (.int k a) (.int k b)=N1 (.int k (a.tmod b)):=by simp[kJ,h]
@[go_sem] def bAy:kJ .eql ek (.int k a) (.int k b)=N1 (.bool (a==b)):=by simp[kJ]
@[go_sem] def aUi:kJ .neq ek (.int k a) (.int k b)=N1 (.bool (a != b)):=by simp[kJ]
@[go_sem] def bAz:kJ .lss ek (.int k a) (.int k b)=N1 (.bool (decide (a<b))):=by simp[kJ]
@[go_sem] def bAA:kJ .leq ek (.int k a) (.int k b)=N1 (.bool (decide (a<=b))):=by simp[kJ]
@[go_sem] def bAB:kJ .gtr ek (.int k a) (.int k b)=N1 (.bool (decide (a>b))):=by simp[kJ]
@[go_sem] def bAC:kJ .geq ek (.int k a) (.int k b)=N1 (.bool (decide (a ≥ b))):=by simp[kJ]
end
section
variable {a b:List UInt8}{ek:vd}
def kE(h:a.length+b.length<=4611686018427387904):kJ .add ek (.str a) (.str b)=N1 (.str (a++b)):=by simp[kJ,h]
@[go_sem] def aZ7:kJ .eql ek (.str a) (.str b)=N1 (.bool (a==b)):=by simp[kJ]
@[go_sem] def aRy:kJ .neq ek (.str a) (.str b)=N1 (.bool (a != b)):=by simp[kJ]
@[go_sem] def bBV{b:Bool}:unV .not (.bool b)=N1 (.bool !b):=(rfl)
@[go_sem] def bBW{k:DK}{n:Int}:unV .neg (.int k n)=N1 (.int k (k.wrap (0 - n))):=(rfl)
end
def wrap_i64{n:Int}(h1 : -9223372036854775808<=n)(h2:n<=9223372036854775807):GA .i64 n=n:=by rw[PW];omega
def mgE{α β:Type}(f:α->β){l:List α}{i:Nat}(h:i<l.length):(l.map f)[i]? = N1 (f l[i]):=by rw[BN,AP h];rfl
def wS{i:Nat}(h:i<4611686018427387904):AR.wrap ((i:Int)+1)=((i+1:Nat):Int):=by rw[wrap_i64 omT omT];omega
section
variable {H:LO}{L:LO}{i o:Nat}{x:ah}
@[go_sem] def bX:(H++L)[H.length+i]? = L[i]? := by rw[BU omT];congr 1;omega
@[go_sem] def aBd:(H++L)[H.length]? = L[0]? := bX (i:=0)
@[go_sem] def eS:(H++L).set (H.length+i) x=H++L.set i x:=by rw[IP _ _ omT];congr 2;omega
@[go_sem] def aBe:(H++L).set H.length x=H++L.set 0 x:=eS (i:=0)
def eK(h:o<H.length):(H++L)[o]? = H[o]? := BM h
def fN(h:o<H.length):(H++L).set o x=H.set o x++L:=DX _ _ h
@[go_sem] def aD8:(H++L).take H.length=H:=List.take_left ..
def aR{y:ah}(h:o<H.length):(H.set o x++L).set o y=H.set o y++L:=by rw[DX _ _ (by rw[CP];exact h),EO]
def aP(h:o<H.length):(H.set o x++L)[o]? = N1 x:=by rw[BM (by rw[CP];exact h),BW h]
@[go_sem] def aPr:(H.set o x++L)[H.length+i]? = L[i]? := by have:=bX (H:=H.set o x) (L:=L) (i:=i);rwa [CP]at this
@[go_sem] def aW2:(H.set o x++L)[H.length]? = L[0]? := aPr (i:=0)
@[go_sem] def aPs{y:ah}:(H.set o x++L).set (H.length+i) y=H.set o x++L.set i y:=by have:=eS (H:=H.set o x) (L:=L) (i:=i) (x:=y);rwa [CP]at this
@[go_sem] def aW3{y:ah}:(H.set o x++L).set H.length y=H.set o x++L.set 0 y:=aPs (i:=0)
@[go_sem] def aW4:(H.set o x++L).take H.length=H.set o x:=by have:=aD8 (H:=H.set o x) (L:=L);rwa [CP]at this
@[go_sem] def aZ8:(H.set o x).take H.length=H.set o x:=by have:=DM (l:=H.set o x);rwa [CP]at this
def sV{mk:Nat->ah}:make (H++L) (H.length+i) mk=H++L.set i (mk ((L[i]?).elim 0 ah.ver+1)):=by unfold make;rw[bX,eS]
attribute [go_sem] make bH
@[go_sem] def aZ9{v:Nat}:ah.ver (.gone v)=v:=(rfl)
@[go_sem] def bAD{v:Nat}{cs:LA}:ah.ver (.box v cs)=v:=(rfl)
@[go_sem] def bAE{v k:Nat}{rows:List LA}:ah.ver (.vec v k rows)=v:=(rfl)
@[go_sem] def vN{b:Nat}{wr:LN}:bE b wr []=wr:=(rfl)
@[go_sem] def aKs{b i:Nat}{wr r:LN}:bE b wr ((b+i)::r)=bE b wr r:=by
 conv=>lhs;unfold bE
 rw[Zx omT]
@[go_sem] def nJ{b o:Nat}{r:LN}(h1:o<b):bE b [] (o::r)=bE b [o] r:=by
 conv=>lhs;unfold bE
 rw[Zy ⟨h1,siT⟩]
@[go_sem] def aPt{b o:Nat}{r:LN}:bE b [o] (o::r)=bE b [o] r:=by
 conv=>lhs;unfold bE
 rw[Zx siT]
@[go_sem] def aW5{b:Nat}{wr r:LN}:bE b wr (b::r)=bE b wr r:=aKs (i:=0)
end
def aW6:AV->Option AV
 |.sl _ rows=>N1 (.int .i64 rows.length)
 |.sr _ _ n=>N1 (.int .i64 n)
 |.ar=>N1 (.int .i64 0)
 |_=>N2
@[go_sem] def bAF{f:Bool}{rows:List LA}:aW6 (.sl f rows)=N1 (.int .i64 rows.length):=(rfl)
@[go_sem] def aZa:aW6 .ar=N1 (.int .i64 0):=(rfl)
@[go_sem] def bAG{o v n:Nat}:aW6 (.sr o v n)=N1 (.int .i64 n):=(rfl)
section
variable {H:LO}{ρ:bN}{call:Nat->LA->LO->Out}{site:Option Nat}
@[go_sem] def aZb{x:aa}:vA H ρ (.mov x)=(N1 (x.at ρ)):=(rfl)
@[go_sem] def aXC{c:aa}{a:aa}{b:aa}:vA H ρ (.pick c a b)=(match c.at ρ with
  |.bool t=>N1 (if t then a.at ρ else b.at ρ)
  |_=>N2):=(rfl)
@[go_sem] def aW7{zs:LA}{parts:List (Nat×Nat×aa)}:vA H ρ (.build zs parts)=((mK ρ zs parts).map .agg):=(rfl)
@[go_sem] def aZc{k:Nat}{zs:LA}{n:Nat}{parts:List (Nat×aa)}:vA H ρ (.bsl k zs n parts)=((nZ ρ k (AX n zs) parts).map (.sl Pa)):=(rfl)
@[go_sem] def aZd{u0:Nat}{bytes:Nat}{zs:LA}{len:aa}{cap:aa}:vA H ρ (.mks u0 bytes zs len cap)=(match len.at ρ,cap.at ρ with
  |.int _ n,.int _ c=>if 0<=n/\n=c/\bP n.toNat bytes then N1 (.sl Pa (AX n.toNat (zs.map AV.aj)))else N2
  |_,_=>N2):=(rfl)
@[go_sem] def aXD{k:Nat}{agg:Bool}{x:aa}:vA H ρ (.load k agg x)=(match bC H k (x.at ρ)with
  |some cs=>eD agg cs
  |none=>N2):=(rfl)
@[go_sem] def aW8{x:aa}:vA H ρ (.cz x)=(match x.at ρ with
  |.ptr o v off=>N1 (.ptr o v off)
  |.vp o v n k i off=>N1 (.vp o v n k i off)
  |.ep row off=>N1 (.ep row off)
  |.fn f a b=>N1 (.fn f a b)
  |_=>N2):=(rfl)
@[go_sem] def aW9{neg:Bool}{x:aa}:vA H ρ (.ky neg x)=(match x.at ρ with
  |.sl _ (_::_) | .sr ..=>N1 (.bool neg)
  |.ar=>N1 (.bool !neg)
  |_=>N2):=(rfl)
@[go_sem] def aZe{op:MZ}{ek:vd}{x:aa}{y:aa}:vA H ρ (.bin op ek x y)=(kJ op ek (x.at ρ) (y.at ρ)):=(rfl)
@[go_sem] def bAH{op:UnOp}{x:aa}:vA H ρ (.un op x)=(unV op (x.at ρ)):=(rfl)
@[go_sem] def aXE{c:tm}{x:aa}:vA H ρ (.conv c x)=(pT H c (x.at ρ)):=(rfl)
@[go_sem] def aZf{f:Nat}{first:List aa}{ay:List aa}:vA H ρ (.mkf f first ay)=(if (first.map (aa.at ρ)).all AV.still&&(ay.map (aa.at ρ)).all AV.still then N1 (.fn f (first.map λx=>(x.at ρ).aj) (ay.map λx=>(x.at ρ).aj))else N2):=(rfl)
@[go_sem] def aUj{x:aa}{lo:Option aa}{hi:Option aa}:vA H ρ (.fm x lo hi)=(match x.at ρ with
  |.str s=>match dU s.length (lo.map (aa.at ρ)) (hi.map (aa.at ρ)) N2 with
   |some (l,h,_)=>N1 (.str ((s.take h).drop l))
   |none=>N2
  |_=>N2):=(rfl)
@[go_sem] def aUk{k:Nat}{x:aa}{lo:Option aa}{hi:Option aa}{mx:Option aa}:vA H ρ (.gw k x lo hi mx)=(match x.at ρ with
  |.sl full rows=>match dU rows.length (lo.map (aa.at ρ)) (hi.map (aa.at ρ)) (mx.map (aa.at ρ))with
   |some (l,h,m)=>if dF k rows&&(!mx.isSome || hi.isSome)then N1 (.sl (decide (m=h)&&(mx.isSome || full)) ((rows.take h).drop l))else N2
   |none=>N2
  |.sr o v n=>if mx.isSome then N2 else match dU n (lo.map (aa.at ρ)) (hi.map (aa.at ρ)) N2 with
   |some (l,h,_)=>if hi.isSome&&decide (l=0)then N1 (.srw o v n h)else if h=n then N1 (.srv o v n k l)else N2
   |none=>N2
  |_=>N2):=(rfl)
@[go_sem] def aXF{k:Nat}{x:aa}{lo:Option aa}:vA H ρ (.view k x lo)=(match x.at ρ with
  |.sl full rows=>match dU rows.length (lo.map (aa.at ρ)) N2 N2 with
   |some (l,h,m)=>if dF k rows then N1 (.sl (decide (m=h)&&full) ((rows.take h).drop l))else N2
   |none=>N2
  |.sr o v n=>match H[o]? with
   |some (.vec v' _ rows)=>if v'=v/\rows.length=n then match iL 0 n (lo.map (aa.at ρ))with
     |some l=>N1 (.srv o v n k l)
     |none=>N2
    else N2
   |_=>N2
  |_=>N2):=(rfl)
@[go_sem] def bAI{off:Nat}{x:aa}:vA H ρ (.fa off x)=(match x.at ρ with
  |.ptr o v off0=>N1 (.ptr o v (off0+off))
  |.vp o v n k i off0=>N1 (.vp o v n k i (off0+off))
  |.ep row off0=>N1 (.ep row (off0+off))
  |_=>N2):=(rfl)
@[go_sem] def aZg{off:Nat}{k:Nat}{agg:Bool}{x:aa}:vA H ρ (.fld off k agg x)=(match x.at ρ with
  |.agg cs=>if off+k<=cs.length then eD agg ((cs.drop off).take k)else N2
  |_=>N2):=(rfl)
@[go_sem] def aZh{x:aa}{i:aa}{k:Nat}:vA H ρ (.iaV x i k)=(match x.at ρ,i.at ρ with
  |.sl _ rows,.int _ n=>if 0<=n then match rows[n.toNat]? with
    |some row=>if row.length=k then N1 (.ep row 0)else N2
    |none=>N2
   else N2
  |.sr o v len,.int _ n=>if 0<=n/\n<len then N1 (.vp o v len k n.toNat 0)else N2
  |_,_=>N2):=(rfl)
@[go_sem] def aZi{len:Nat}{k:Nat}{x:aa}{i:aa}:vA H ρ (.iaA len k x i)=(match x.at ρ,i.at ρ with
  |.ptr o v off,.int _ n=>if 0<=n/\n<len then N1 (.ptr o v (off+n.toNat*k))else N2
  |.ep row off,.int _ n=>if 0<=n/\n<len then N1 (.ep row (off+n.toNat*k))else N2
  |_,_=>N2):=(rfl)
@[go_sem] def aZj{x:aa}{i:aa}:vA H ρ (.ixS x i)=(match x.at ρ,i.at ρ with
  |.str s,.int _ n=>if 0<=n then match s[n.toNat]? with
    |some b=>N1 (.int .u8 b.toNat)
    |none=>N2
   else N2
  |_,_=>N2):=(rfl)
@[go_sem] def aXG{x:aa}:vA H ρ (.fg x)=(match x.at ρ with
  |.str s=>N1 (.int .i64 s.length)
  |_=>N2):=(rfl)
@[go_sem] def aXH{x:aa}:vA H ρ (.qk x)=aW6 (x.at ρ):=by cases hx:x.at ρ<;>simp only[vA,aW6,hx]
@[go_sem] def bAJ{mx:Bool}{xs:List aa}:vA H ρ (.mm mx xs)=(mmV mx (xs.map (aa.at ρ))):=(rfl)
@[go_sem] def aZk{i:Nat}{x:aa}:vA H ρ (.ext i x)=(match x.at ρ with
  |.tup vs=>vs[i]?
  |_=>N2):=(rfl)
@[go_sem] def aWa{t:Nat}{x:aa}:vA H ρ (.km t x)=(if (x.at ρ).tn then N1 (.ifc t (x.at ρ))else N2):=(rfl)
@[go_sem] def aXI{zero:AV}{m:aa}{k:aa}{ok:Bool}:vA H ρ (.look zero m k ok)=(match m.at ρ with
  |.mp o v=>match H[o]? with
   |some (.map v' es)=>if v'=v then
     match iB (k.at ρ) es 0 with
     |some (N1 (_,x))=>if ok then N1 (.tup [x,.bool Pa])else N1 x
     |some N2=>if ok then N1 (.tup [zero,.bool Po])else N1 zero
     |none=>N2
    else N2
   |_=>N2
  |.fmp ks vs=>match iB (k.at ρ) (ks.zip vs) 0 with
   |some (N1 (_,x))=>if ok then N1 (.tup [x,.bool Pa])else N1 x
   |some N2=>if ok then N1 (.tup [zero,.bool Po])else N1 zero
   |none=>N2
  |_=>N2):=(rfl)
@[go_sem] def aWb{k:Nat}{x:aa}{v:aa}:aD0 call H ρ site (.store k x v)=(if (v.at ρ).cells.length=k/\(v.at ρ).cells.all AV.ak then match storeCells H (v.at ρ).cells (x.at ρ)with
   |some (H',wr)=>N1 (.undef,H',wr)
   |none=>N2
  else N2):=(rfl)
@[go_sem] def aZl{k:Nat}{zs:LA}{n:Nat}{parts:List (Nat×aa)}:aD0 call H ρ site (.bsl k zs n parts)=(match site with
  |some id=>match mM ρ k (AX n zs) parts with
   |some rows=>if id<H.length then N1 (.sr id (bH H id) n,make H id (.vec · k rows),[id])else N2
   |none=>N2
  |none=>match xC ρ k H (AX n zs) parts with
   |some (rows,H',wr)=>N1 (.sl Pa rows,H',wr)
   |none=>N2):=(rfl)
@[go_sem] def aZm{k:Nat}{bytes:Nat}{zs:LA}{len:aa}{cap:aa}:aD0 call H ρ site (.mks k bytes zs len cap)=(match len.at ρ,cap.at ρ with
  |.int _ n,.int _ c=>
   if 0<=n/\n=c/\bP n.toNat bytes then
    match site with
    |some id=>if id<H.length then N1 (.sr id (bH H id) n.toNat,make H id (.vec · k (AX n.toNat (zs.map AV.aj))),[id])else N2
    |none=>N1 (.sl Pa (AX n.toNat (zs.map AV.aj)),H,[])
   else match site with
    |some id=>if n=0/\0<c/\bP c.toNat bytes/\id<H.length then N1 (.sr id (bH H id) 0,make H id (.vec · k []),[id])else N2
    |none=>N2
  |_,_=>N2):=(rfl)
@[go_sem] def aXJ{tab:List (Nat×Nat)}{x:aa}{args:List aa}:aD0 call H ρ site (.nb tab x args)=(match x.at ρ with
  |.ifc t v=>match tab.lookup t with
   |some f=>cX call H site (.fn f [v] []) (args.map (aa.at ρ))
   |none=>N2
  |_=>N2):=(rfl)
@[go_sem] def aZn{k:Nat}{x:aa}{y:aa}:aD0 call H ρ site (.cpy k x y)=(match x.at ρ with
  |.srv o v n k' lo=>match H[o]? with
   |some (.vec v' k2 rows)=>match cG H (y.at ρ)with
    |some new=>if new.isEmpty then N1 (.int .i64 0,H,[])else if v'=v/\rows.length=n/\k2=k/\k'=k/\dF k new/\lo+new.length<=n then
      N1 (.int .i64 (new.length:Nat),H.set o (.vec v k (rows.take lo++new++rows.drop (lo+new.length))),[o])
     else N2
    |none=>N2
   |_=>N2
  |_=>N2):=(rfl)
@[go_sem] def aWc  : aD0 call H ρ site (.jn)=(match site with
  |some id=>if id<H.length then N1 (.mp id (bH H id),make H id (.map · []),[id])else N2
  |none=>N2):=(rfl)
@[go_sem] def aZo{m:aa}{k:aa}{v:aa}:aD0 call H ρ site (.ins m k v)=(match m.at ρ,k.at ρ with
  |.mp o ver,key=>match H[o]? with
   |some (.map v' es)=>
    if v'=ver/\(aJK key key).isSome/\(v.at ρ).strip.cells.all AV.still then
     match iB key es 0 with
     |some (N1 (i,_))=>N1 (.undef,H.set o (.map ver (es.set i (key,(v.at ρ).strip))),[o])
     |some N2=>N1 (.undef,H.set o (.map ver (es++[(key,(v.at ρ).strip)])),[o])
     |none=>N2
    else N2
   |_=>N2
  |_,_=>N2):=(rfl)
@[go_sem] def aWd{u0:Nat}{u1:Bool}{x:aa}:aCc ρ (.load u0 u1 x)=(match x.at ρ with
  |.ptr o _ _=>[o]
  |.vp o _ _ _ _ _=>[o]
  |_=>[]):=(rfl)
@[go_sem] def aOJ{k:DK}{x:aa}:aCc ρ (.conv (.toInt k) x)=[]:=(rfl)
@[go_sem] def aQY{x:aa}:aCc ρ (.conv .b2s x)=(match x.at ρ with
  |.sr o _ _=>[o]
  |.srv o _ _ _ _=>[o]
  |.srw o _ _ _=>[o]
  |_=>[]):=(rfl)
end
def aIo:LN->Nat->Nat->Option Nat | [],_,_=>N2 | t::ts,i,d=>if t=d then N1 i else aIo ts (i+1) d
def idxOf?_siteIn(d:Nat):∀(l:LN) (i:Nat),(l.idxOf? d).map (i + ·)=aIo l i d
 | [],i=>by simp[aIo]
 |t::ts,i=>by
  rw[List.idxOf?_cons];unfold aIo;by_cases h:t=d
  ·simp[h]
  have hb:(t==d)=false:=by simpa using h
  rw[Zx h,<- idxOf?_siteIn d ts (i+1),hb];cases ts.idxOf? d<;>simp<;>omega
@[go_sem] def aXK{b d:Nat}{l:LN}:Ctx.site ⟨b,l⟩ (N1 d)=(aIo l 0 d).map (b + ·):=by rw[<- idxOf?_siteIn];show (l.idxOf? d).map (b + ·)=_;cases l.idxOf? d<;>simp
@[go_sem] def aXL{c:Ctx}:c.site N2=none:=(rfl)
attribute [go_sem] aIo
@[go_sem] def aUl{α β:Type}{f:α->β}{a:α}:(N1 a).map f=N1 (f a):=(rfl)
@[go_sem] def aUm{α β:Type}{f:α->β}:(N2:Option α).map f=none:=(rfl)
@[go_sem] def aSY{α β:Type}{b:β}{f:α->β}{a:α}:(N1 a).elim b f=f a:=(rfl)
attribute [go_sem] List.length_append Nat.add_lt_add_iff_left Nat.lt_add_right_iff_pos
def aEa(a b:Nat):(a==b)=decide (a=b):=rfl
@[go_sem] def bAK{x a b:Nat}:(x+a==x+b)=(a==b):=by rw[aEa,aEa];exact decide_eq_decide.2 omT
@[go_sem] def aZp{x a:Nat}:(x+a==x)=(a==0):=by rw[aEa,aEa];exact decide_eq_decide.2 omT
@[go_sem] def aZq{x a:Nat}:(x==x+a)=(0==a):=by rw[aEa,aEa];exact decide_eq_decide.2 omT
@[go_sem] def bBX:(Po==Pa)=false:=(rfl)
@[go_sem] def bBY:(Pa==Po)=false:=(rfl)
attribute [go_sem] Bool.false_eq_true
attribute [go_sem] Int.cast_ofNat_Int Int.lt_irrefl
attribute [go_sem] Int.natCast_nonneg Int.ofNat_lt Int.ofNat_le Int.toNat_natCast
@[go_sem] def aZr{H:LO}{site:Option Nat}{k bytes:Nat}{full:Bool}{rows:List LA}{x:AV}:eX H site k bytes (.sl full rows) x=(match cG H x with
 |none=>N2
 |some new=>
  if !dF k new then N2 else
   if new.isEmpty then N1 (.sl full rows,H,[])
   else if full&&dF k rows&&bP (rows.length+new.length) bytes then
    match site with
    |some id=>if id<H.length then N1 (.sr id (bH H id) (rows.length+new.length),make H id (.vec · k (rows++new)),[id])else N2
    |none=>N2
   else N2):=(rfl)
@[go_sem] def aZs{H:LO}{site:Option Nat}{k bytes o v n:Nat}{x:AV}:eX H site k bytes (.sr o v n) x=(match cG H x with
 |none=>N2
 |some new=>
  if !dF k new then N2 else
   match H[o]? with
   |some (.vec v' k' rows)=>
    if v'=v/\rows.length=n/\k'=k/\bP (n+new.length) bytes then
     if new.isEmpty then N1 (.sr o v n,H,[])else
     N1 (.sr o v (n+new.length),H.set o (.vec v k (rows++new)),[o])
    else N2
   |_=>N2):=(rfl)
@[go_sem] def aWe{k:Nat}:dF k []=true:=(rfl)
@[go_sem] def aCj{k:Nat}{r:LA}{rows:List LA}:dF k (r::rows)=(r.length==k):=(rfl)
attribute [go_sem] aJK iB bC storeCells cG dO nV aD4 aVH mK nZ mM xC mmV aEE mm2
attribute [go_sem] List.drop_zero List.drop_succ_cons List.drop_nil List.take_zero List.take_succ_cons List.take_nil List.getElem?_cons_zero List.getElem?_cons_succ List.getElem?_nil List.set_cons_zero List.set_cons_succ List.set_nil List.nil_append List.cons_append List.append_nil List.all_cons List.all_nil List.map_cons List.map_nil List.length_cons List.length_nil List.replicate_succ List.replicate_zero List.length_set List.length_map List.getElem?_set_self List.set_set List.take_length List.isEmpty_nil List.isEmpty_cons List.contains_cons List.contains_nil Bool.or_false Bool.false_or Bool.or_true Bool.true_or Option.getD_some Option.getD_none Nat.add_zero Nat.zero_add and_true true_and and_false false_and Zv Zu ite_true ite_false Bool.and_true Bool.true_and Bool.and_false Bool.false_and BT BF decide_true decide_false Zz NA NL ND
abbrev z0:AV:=.int .i64 0
abbrev yq3:LN:=[3,2,1,0]
abbrev yq4:LN:=4::yq3
abbrev yq5:LN:=5::yq4
abbrev yq6:LN:=6::yq5
abbrev yq7:LN:=7::yq6
abbrev yq8:LN:=8::yq7
abbrev yq9:LN:=9::yq8
abbrev bBZ:LN:=10::yq9
abbrev u:=aa.tmp
abbrev ui(n:Int):aa:=.const (.int .i64 n)
abbrev uc:=aa.const
abbrev uF:aa:=.const (.bool Po)
abbrev uT:aa:=.const (.bool Pa)
abbrev uf(f:Nat):aa:=.const (.fn f [] [])
abbrev om(x:Nat):df:=.mov (.tmp x)
abbrev omc(v:AV):df:=.mov (.const v)
abbrev ol(k x:Nat):df:=.load k Po (.tmp x)
abbrev ola(k x:Nat):df:=.load k Pa (.tmp x)
abbrev of(o x:Nat):df:=.fa o (.tmp x)
abbrev ob(o:MZ)(x y:Nat):df:=.bin o .no (.tmp x) (.tmp y)
abbrev obi(o:MZ)(x:Nat)(n:Int):df:=.bin o .no (.tmp x) (.const (.int .i64 n))
abbrev oi(x i k:Nat):df:=.iaV (.tmp x) (.tmp i) k
abbrev on(x:Nat):df:=.qk (.tmp x)
abbrev op(x y:Nat):df:=.pick (.tmp x) (.tmp y) (.const (.bool Po))
abbrev oa(k b x y:Nat):df:=.app k b (.tmp x) (.tmp y)
abbrev os(k x y:Nat):df:=.store k (.tmp x) (.tmp y)
abbrev oc(f:Nat)(l:List aa):df:=.dm (.const (.fn f [] [])) l
abbrev qq(d:Nat)(o:df):ae:=⟨N1 d,o,N2,[]⟩
abbrev qz(o:df):ae:=⟨N2,o,N2,[]⟩
abbrev qT(d g:Nat)(o:df):ae:=⟨N1 d,o,N1 (N1 g,Pa),[]⟩
abbrev qF(d g:Nat)(o:df):ae:=⟨N1 d,o,N1 (N1 g,Po),[]⟩
abbrev qm(d x:Nat):ae:=⟨N1 d,.mov (.tmp x),N2,[]⟩
abbrev qmc(d:Nat)(v:AV):ae:=⟨N1 d,.mov (.const v),N2,[]⟩
abbrev ql(d k x:Nat):ae:=⟨N1 d,.load k Po (.tmp x),N2,[]⟩
abbrev qla(d k x:Nat):ae:=⟨N1 d,.load k Pa (.tmp x),N2,[]⟩
abbrev qf(d o x:Nat):ae:=⟨N1 d,.fa o (.tmp x),N2,[]⟩
abbrev qb(d:Nat)(o:MZ)(x y:Nat):ae:=⟨N1 d,.bin o .no (.tmp x) (.tmp y),N2,[]⟩
abbrev qbi(d:Nat)(o:MZ)(x:Nat)(n:Int):ae:=⟨N1 d,.bin o .no (.tmp x) (.const (.int .i64 n)),N2,[]⟩
abbrev qi(d x i k:Nat):ae:=⟨N1 d,.iaV (.tmp x) (.tmp i) k,N2,[]⟩
abbrev qn(d x:Nat):ae:=⟨N1 d,.qk (.tmp x),N2,[]⟩
abbrev qx(d k x:Nat):ae:=⟨N1 d,.box k (.tmp x),N2,[]⟩
abbrev qp(d x y:Nat):ae:=⟨N1 d,.pick (.tmp x) (.tmp y) (.const (.bool Po)),N2,[]⟩
abbrev qa(d k b x y:Nat):ae:=⟨N1 d,.app k b (.tmp x) (.tmp y),N2,[]⟩
abbrev qs(k x y:Nat):ae:=⟨N2,.store k (.tmp x) (.tmp y),N2,[]⟩
abbrev qc(d f:Nat)(l:List aa):ae:=⟨N1 d,.dm (.const (.fn f [] [])) l,N2,[]⟩
abbrev qS(l:List ae)(c:ag):ag:=.seq (.region Po l) c
abbrev qR(l:List ae):ag:=.region Po l
abbrev qC(x:Nat)(a b:ag):ag:=.cond (.tmp x) a b
@[go_sem] def aWf{a:AV}{r:LA}:pO (a::r) 0=a:=(rfl)
@[go_sem] def aWg{a:AV}{r:LA}{n:Nat}:pO (a::r) (n+1)=pO r n:=(rfl)
@[go_sem] def aXM{n:Nat}:pO [] n=.undef:=(rfl)
attribute [go_sem] Option.isSome_some Option.isSome_none BT BF
mutual
def AV.data:AV->Bool
 |.bool _ | .int _ _ | .str _ | .bx | .nilPtr=>Pa
 |.sl f rows => !f&&gG rows
 |.agg cs=>iX cs
 |_=>Po
def iX:LA->Bool
 | []=>Pa
 |v::r=>v.ak&&v.data&&iX r
def gG:List LA->Bool
 | []=>Pa
 |l::r=>iX l&&gG r
end
mutual
def aJa:∀{v:AV} {n:Nat},v.data=Pa->v.under n=Pa
 |.bool _,_,_ | .int _ _,_,_ | .str _,_,_ | .bx,_,_ | .nilPtr,_,_=>rfl
 |.sl f rows,n,h=>by
  simp only[AV.data,AI]at h;simp only[AV.under];exact aA h.2
 |.agg cs,n,h=>by
  simp only[AV.data]at h;simp only[AV.under];exact dC h
 |.undef,_,h | .fn ..,_,h | .ptr ..,_,h | .vp ..,_,h | .ep ..,_,h | .sr ..,_,h | .mp ..,_,h | .own ..,_,h | .tup ..,_,h=>by simp[AV.data]at h
def dC:∀{l:LA} {n:Nat},iX l=Pa->dJ n l=Pa
 | [],_,_=>rfl
 |v::r,n,h=>by
  simp only[iX,AI]at h;simp only[dJ,AI];exact⟨aJa h.1.2,dC h.2⟩
def aA:∀{l:List LA} {n:Nat},gG l=Pa->eR n l=Pa
 | [],_,_=>rfl
 |v::r,n,h=>by
  simp only[gG,AI]at h;simp only[eR,AI];exact⟨dC h.1,aA h.2⟩
end
def tT{v:AV}(h:v.data=Pa):v.aj=v:=by
 cases v<;>try rfl
 rename_i f rows;simp only[AV.data,AI,KB]at h;rw[h.1];rfl
def aAm:∀{l:LA},iX l=Pa->∀v∈l,v.data=Pa/\v.ak=Pa
 | [],_,v,hv=>by cases hv
 |a::r,h,v,hv=>by
  simp only[iX,AI]at h;rcases BD.1 hv with rfl | hv
  ·exact⟨h.1.2,h.1.1⟩
  exact aAm h.2 v hv
def aK{l:LA}(h:iX l=Pa):l.map AV.aj=l:=by
 conv=>rhs;rw[<- List.map_id l]
 exact List.map_congr_left λv hv=>tT (aAm h v hv).1
def aJb{v:AV}(h:v.data=Pa)(h2:v.ak=Pa):v.still=true:=by cases v<;>first | rfl | exact Zw (show Po=Pa from h2) ED | exact Zw (show Po=Pa from h) ED
def bR{l:LA}(h:iX l=Pa):l.all AV.still=true:=by rw[AO];intro v hv;exact aJb (aAm h v hv).1 (aAm h v hv).2
def bQ{l:LA}(h:iX l=Pa):l.all AV.ak=true:=by rw[AO];intro v hv;exact (aAm h v hv).2
def aBf:∀{l:List LA},gG l=Pa->∀v∈l,iX v=Pa
 | [],_,v,hv=>by cases hv
 |a::r,h,v,hv=>by
  simp only[gG,AI]at h;rcases BD.1 hv with rfl | hv
  ·exact h.1
  exact aBf h.2 v hv
def aT{rows:List LA}(h:gG rows=Pa):(rows.all λr=>r.all AV.still)=true:=by rw[AO];intro r hr;exact bR (aBf h r hr)
def xH{H:LO}{v:AV}(h:v.data=Pa)(h2:v.ak=Pa):aA2 H v=N1 (v,[]):=by cases v<;>first | rfl | exact Zw (show Po=Pa from h2) ED | exact Zw (show Po=Pa from h) ED
def aS{H:LO}:∀{l:LA},iX l=Pa->aIQ H l=N1 (l,[])
 | [],_=>rfl
 |v::r,h=>by
  simp only[iX,AI]at h;unfold aIQ;rw[xH h.1.2 h.1.1,aS h.2];rfl
def aEb{base:Nat}{v:AV}{H:LO}{wr:LN}(h:v.under base=Pa)(h2:(wr.all λo=>match H[o]? with | some x=>x.under base | none=>Pa)=Pa):cJ base (v,H,wr)=(v,H.take base,wr):=by unfold cJ;dsimp only;rw[Zy (by rw[h,BR];exact h2)]
@[go_sem] def xI{base o:Nat}{v:AV}{H:LO}{x:ah}(h:v.under base=Pa)(h1:H[o]? = N1 x)(h2:x.under base=Pa):cJ base (v,H,[o])=(v,H.take base,[o]):=
 aEb h (by rw[ES,MB,Bx,h1];exact h2)
@[go_sem] def aBg{n v:Nat}{cs:LA}:ah.under n (.box v cs)=dJ n cs:=(rfl)
@[go_sem] def aWh{n:Nat}{b:Bool}:AV.under n (.bool b)=true:=(rfl)
@[go_sem] def aPu{n:Nat}{k:DK}{i:Int}:AV.under n (.int k i)=true:=(rfl)
@[go_sem] def aXN{n:Nat}{l:List UInt8}:AV.under n (.str l)=true:=(rfl)
@[go_sem] def aZt{n:Nat}{f:Bool}{rows:List LA}:AV.under n (.sl f rows)=eR n rows:=(rfl)
@[go_sem] def aXO{n:Nat}{cs:LA}:AV.under n (.agg cs)=dJ n cs:=(rfl)
@[go_sem] def aXP{n:Nat}{cs:LA}:AV.under n (.tup cs)=dJ n cs:=(rfl)
@[go_sem] def aXQ{n k:Nat}{rows:List LA}:AV.under n (.own k rows)=eR n rows:=(rfl)
@[go_sem] def aNX{n:Nat}:dJ n []=true:=(rfl)
@[go_sem] def aLO{n:Nat}{v:AV}{r:LA}:dJ n (v::r)=(v.under n&&dJ n r):=(rfl)
@[go_sem] def aUn{n:Nat}:eR n []=true:=(rfl)
@[go_sem] def aSZ{n:Nat}{v:LA}{r:List LA}:eR n (v::r)=(dJ n v&&eR n r):=(rfl)
@[go_sem] def qQ{base:Nat}{v:AV}{H:LO}(h:v.under base=Pa):cJ base (v,H,[])=(v,H.take base,[]):=by unfold cJ;simp only[h,MB,Bx,Zv]
def aRz(base:Nat)(rs:List ou)(K:AV->LO->LN->Prop)(tg:Tg K):bf->bN->LO->LN->Prop:=aVI base rs K
section
variable {base:Nat}{ρ:bN}{H:LO}{wr:LN}{K:AV->LO->LN->Prop}{rs:List ou}
@[go_sem] def aZu{t:Tg K}:aRz base rs K t .ret ρ H wr=bnd (iE base rs ρ H wr) λr=>bnd (N1 (cJ base r)) λr=>K r.1 r.2.1 r.2.2:=by unfold aRz aVI;dsimp only;cases iE base rs ρ H wr<;>rfl
@[go_sem] def aUo{t:Tg K}:aRz base rs K t .normal ρ H wr=bnd (iE base rs ρ H wr) λr=>bnd (N1 (cJ base r)) λr=>K r.1 r.2.1 r.2.2:=by unfold aRz aVI;dsimp only;cases iE base rs ρ H wr<;>rfl
@[go_sem] def aUp{t:Nat}:iE base [.tmp t] ρ H wr=match aDR base H (ρ t)with
  |some (v',H',l)=>N1 (v',H',bE base wr l)
  |none=>none:=(rfl)
@[go_sem] def aT0{t k:Nat}{agg:Bool}:iE base [.cell t k agg] ρ H wr=match bC H k (ρ t)with
  |some cs=>match eD agg cs with
   |some v=>match aDR base H v with
    |some (v',H',l)=>N1 (v',H',bE base wr l)
    |none=>N2
   |none=>N2
  |none=>none:=by
 simp only[iE,aEP,aNP];cases bC H k (ρ t)with
 |none=>rfl
 |some cs=>dsimp only;cases eD agg cs<;>rfl
@[go_sem] def aZv{k:DK}{n:Int}:aDR base H (.int k n)=N1 (.int k n,H,[]):=(rfl)
@[go_sem] def aXR{b:Bool}:aDR base H (.bool b)=N1 (.bool b,H,[]):=(rfl)
@[go_sem] def aZw{l:List UInt8}:aDR base H (.str l)=N1 (.str l,H,[]):=(rfl)
@[go_sem] def bAL{f:Bool}{rows:List LA}:aDR base H (.sl f rows)=N1 (.sl Po rows,H,[]):=(rfl)
@[go_sem] def aZx{cs:LA}:aDR base H (.agg cs)=fix H (.agg cs):=(rfl)
@[go_sem] def aUq{o v n:Nat}:aDR base H (.sr o v n)=if o<base then N1 (.sr o v n,H,[])else match H[o]? with
  |some (.vec v' k rows)=>if v'=v/\rows.length=n/\base<=o/\rows.all (λr=>r.all AV.still)then N1 (.own k rows,dL H [o],[o])else N2
  |_=>none:=(rfl)
@[go_sem] def aT1{n i:Nat}:(n+i<n)=False:=siT
@[go_sem] def aRA{n:Nat}:(n<n)=False:=siT
attribute [go_sem] Nat.le_refl Nat.le_add_right
end
def kN{A:af}{f:Nat}{args:LA}{H:LO}{fn:bw}{K:AV->LO->LN->Prop}(hf:A.fn f=N1 fn)(hp:(A.bq f).bind (· args H)=N2) (hN:args.length<=fn.ntmps) (hok:dK fn.ntmps ⟨H.length,fn.sites⟩ fn.body=Pa) (h:wc A fn.ntmps ⟨H.length,fn.sites⟩ fn.body (pO args) (H++AX fn.sites.length (.gone 0)) [] (aRz H.length fn.results K ⟨⟩) ⟨⟩):∃v H' wr,aG A f args H=N1 (v,H',wr)/\K v H' wr:=aE1 hf hp hN hok h
structure Has(A:af)(g:SN)(name:String)(fn:bw):Prop where
 fn:A.fn (g name)=N1 fn
 bq:A.bq (g name)=N2
def Has.call{A:af}{g:SN}{name:String}{fn:bw}(h:Has A g name fn){args:LA}{H:LO}{v:AV}{H':LO}{wr:LN} (hw:wc A fn.ntmps ⟨H.length,fn.sites⟩ fn.body (pO args) (H++AX fn.sites.length (.gone 0)) [] (aRz H.length fn.results (λv' H'' ba=>v'=v/\H''=H'/\ba=wr) ⟨⟩) ⟨⟩) (hN:Nat.ble args.length fn.ntmps=true:=by kernel_rfl) (hok:dK fn.ntmps ⟨H.length,fn.sites⟩ fn.body=true:=by kernel_rfl):aG A (g name) args H=N1 (v,H',wr):=by obtain⟨v1,H1,dc,h1,rfl,rfl,rfl⟩:=aE1 (K:=λv' H'' ba=>v'=v/\H''=H'/\ba=wr) h.fn (by rw[h.bq];rfl) (MN hN) hok hw;exact h1
def Has.bp{A:af}{g:SN}{name:String}{fn:bw}(h:Has A g name fn){args:LA}{H:LO}{K:AV->LO->LN->Prop} (hw:wc A fn.ntmps ⟨H.length,fn.sites⟩ fn.body (pO args) (H++AX fn.sites.length (.gone 0)) [] (aRz H.length fn.results K ⟨⟩) ⟨⟩) (hN:Nat.ble args.length fn.ntmps=true:=by kernel_rfl) (hok:dK fn.ntmps ⟨H.length,fn.sites⟩ fn.body=true:=by kernel_rfl):∃v H' wr,aG A (g name) args H=N1 (v,H',wr)/\K v H' wr:=aE1 h.fn (by rw[h.bq];rfl) (MN hN) hok hw
def dY(site:Option Nat)(quiet:Bool)(H:LO):Out->Out
 |none=>N2
 |some (v,H',wr)=>
  if quiet then
   match v with
   |.own k rows=>
    match site with
    |some id=>if id<H'.length then N1 (.sr id (bH H' id) rows.length,make H' id (.vec · k rows),if wr.contains id then wr else id::wr)else N2
    |none=>N1 (.sl Po rows,H',wr)
   |v=>N1 (v,H',wr)
  else if wr.isEmpty&&decide (H'.length=H.length)&&v.atomic then N1 (v,H,[])else N2
@[go_sem] def aHy{site:Option Nat}{q:Bool}{H:LO}{v:AV}{H':LO}{wr:LN}:dY site q H (N1 (v,H',wr))=(if q then match v with
   |.own k rows=>
    match site with
    |some id=>if id<H'.length then N1 (.sr id (bH H' id) rows.length,make H' id (.vec · k rows),if wr.contains id then wr else id::wr)else N2
    |none=>N1 (.sl Po rows,H',wr)
   |v=>N1 (v,H',wr)
  else if wr.isEmpty&&decide (H'.length=H.length)&&v.atomic then N1 (v,H,[])else N2):=(rfl)
@[go_sem] def aWi{call:Nat->LA->LO->Out}{H:LO}{site:Option Nat}{f:Nat}{first ay args:LA}:cX call H site (.fn f first ay) args = match kA H (first++args++ay)with
  |none=>N2
  |some (args',lent)=>dY site lent.isEmpty H (call f (args'.map AV.strip) (dL H lent)):=by
 show (match kA H (first++args++ay)with
  |none=>N2
  |some (args',lent)=>_)=_
 cases kA H (first++args++ay)with
 |none=>rfl
 |some p=>
  dsimp only;cases call f (p.1.map AV.strip) (dL H p.2)with
  |none=>rfl
  |some r=>obtain⟨v,H',wr⟩:=r;cases v<;>rfl
@[go_sem] def aWj{call:Nat->LA->LO->Out}{H:LO}{site:Option Nat}{f:Nat}{first ay args:LA}:iN call H site (.fn f first ay) args = dY site Pa H (call f (first++args++ay) H):=by
 show (match call f (first++args++ay) H with
  |none=>N2
  |some (v,H',wr)=>_)=_
 cases call f (first++args++ay) H with
 |none=>rfl
 |some r=>obtain⟨v,H',wr⟩:=r;cases v<;>rfl
def kF(ops:List ae):LN:=ops.filterMap ae.dst
def xJ:ag->LN | .region _ ops=>kF ops | .seq a b=>xJ a++xJ b | .cond _ a b=>xJ a++xJ b | .block _ b=>xJ b | .loop b=>xJ b | .frz ts=>ts.map GQ | _=>[]
def dZ(W:LN)(l l':LA):Prop:=∀t,W.contains t=Po->l'[t]? = l[t]?
def dZ.refl{W:LN}{l:LA}:dZ W l l:=λ_ _=>rfl
def dZ.trans{W:LN}{l l' l'':LA}(h1:dZ W l l')(h2:dZ W l' l''):dZ W l l'':=λt ht=>(h2 t ht).trans (h1 t ht)
def dZ.sub{W W':LN}{l l':LA}(h:dZ W l l')(hs:∀t∈W,t∈W'):dZ W' l l':=λt ht=>h t (by
 rw[JJ]at ht ⊢;intro hc;exact ht (EH.2 (hs t (EH.1 hc))))
def pW{o:ae}{l:LA}{v:AV}:dZ (kF [o]) l (bg l o.dst v):=by
 intro t ht;unfold bg;cases hd:o.dst with
 |none=>rfl
 |some d=>
  have:d≠t:=by intro e;subst e;simp[kF,hd]at ht
  exact CL this
def xK{o:ae}{r:List ae}:kF (o::r)=kF [o]++kF r:=by unfold kF;simp only[List.filterMap_cons,List.filterMap_nil];cases o.dst<;>rfl
def aCk{call:Nat->LA->LO->Out}{c:Ctx}:∀{ops:List ae} {s s':gp},jL call c ops s=N1 s'->dZ (kF ops) s.ρ s'.ρ
 | [],_,_,h=>by cases h;exact .refl
 |o::r,s,s',h=>by
  rw[xK];unfold jL at h;split at h
  ·split at h
   ·split at h
    ·rename_i v H' wr he;exact (pW.sub (l':=bg s.ρ o.dst v) λt ht=>CZ _ ht).trans ((aCk h).sub λt ht=>CX _ ht)
    cases h
   exact (pW.sub (l':=bg s.ρ o.dst (.tup [])) λt ht=>CZ _ ht).trans ((aCk h).sub λt ht=>CX _ ht)
  cases h
def aAn{call:Nat->LA->LO->Out}{c:Ctx}:∀{ops:List ae} {i:Nat} {s s':gp} {log:Log},nT call c i ops s=N1 (s',log)->dZ (kF ops) s.ρ s'.ρ
 | [],_,_,_,_,h=>by cases h;exact .refl
 |o::r,i,s,s',log,h=>by
  rw[xK];unfold nT at h;split at h
  ·split at h
   ·split at h
    ·rename_i v H' rd wr he;split at h
     ·rename_i s1 log1 hr;cases h;exact (pW.sub (l':=bg s.ρ o.dst v) λt ht=>CZ _ ht).trans ((aAn hr).sub λt ht=>CX _ ht)
     cases h
    cases h
   exact (pW.sub (l':=bg s.ρ o.dst (.tup [])) λt ht=>CZ _ ht).trans ((aAn h).sub λt ht=>CX _ ht)
  cases h
def qU{c:Ctx}:∀{ts:List (Nat×Nat)} {s s':gp},nX c s ts=N1 s'->dZ (ts.map GQ) s.ρ s'.ρ
 | [],_,_,h=>by cases h;exact .refl
 | (k+1,t)::r,s,s',h=>by
  have hs:∀u∈r.map GQ,u∈((k+1,t)::r).map GQ:=λu hu=>BZ _ hu;unfold nX at h;split at h
  ·exact (qU h).sub hs
  split at h
  ·exact (qU h).sub hs
  split at h
  ·split at h
   ·split at h
    ·exact (qU h).sub hs
    cases h
   cases h
  cases h
 | (0,t)::r,s,s',h=>by
  unfold nX at h;split at h
  ·rename_i v H' l hf;have h1:=(qU h).sub (W':=((0,t)::r).map GQ) λu hu=>BZ _ hu;refine dZ.trans (λu hu=>?_) h1;refine CL λe=>?_;subst e;simp at hu
  cases h
def eQ{A:af}:∀(n:Nat) (c:Ctx) (x:ag) (s:gp) e s',cY A n c x s=N1 (e,s')->dZ (xJ x) s.ρ s'.ρ
 |0,c,x,s,e,s',h=>by rw[gT]at h;cases h
 |n+1,c,x,s,e,s',h=>by
  cases x with
  |skip=>rw[xB]at h;cases h;exact .refl
  |bad=>rw[qG]at h;cases h
  |region d ops=>
   rw[iS]at h;split at h
   ·rename_i s1 hr;cases h;unfold iO at hr;split at hr
    ·split at hr
     ·split at hr
      ·rename_i hd;split at hr
       ·cases hr;have h9:=aAn hd;exact h9
       cases hr
      cases hr
     cases hr
    split at hr
    ·cases hr
    exact aCk hr
   cases h
  |seq a b=>
   have ha:∀t∈xJ a,t∈xJ (.seq a b):=λt ht=>CZ _ ht;have hb:∀t∈xJ b,t∈xJ (.seq a b):=λt ht=>CX _ ht;rw[iD]at h;split at h
   ·rename_i s1 hr;exact ((eQ n _ _ _ _ _ hr).sub ha).trans ((eQ n _ _ _ _ _ h).sub hb)
   exact (eQ n _ _ _ _ _ h).sub ha
  |cond t a b=>
   have ha:∀u∈xJ a,u∈xJ (.cond t a b):=λt ht=>CZ _ ht;have hb:∀u∈xJ b,u∈xJ (.cond t a b):=λt ht=>CX _ ht;rw[iT]at h;split at h
   ·exact (eQ n _ _ _ _ _ h).sub ha
   ·exact (eQ n _ _ _ _ _ h).sub hb
   cases h
  |block id b=>
   rw[eP]at h;show dZ (xJ b) _ _;split at h
   ·rename_i hr;split at h<;>(cases h;exact eQ n _ _ _ _ _ hr)
   exact eQ n _ _ _ _ _ h
  |loop b=>
   rw[gU]at h;show dZ (xJ b) _ _;split at h
   ·rename_i s1 hr;have h9:=eQ n _ _ _ _ _ h;exact dZ.trans (eQ n _ _ _ _ _ hr) h9
   exact eQ n _ _ _ _ _ h
  |exit id=>rw[aCb]at h;cases h;exact .refl
  |ret=>rw[aDZ]at h;cases h;exact .refl
  |frz ts=>
   rw[vI]at h;split at h
   ·rename_i s1 hr;cases h;exact qU hr
   cases h
  |dz x ps body=>
   rw[iU]at h;split at h
   ·split at h
    ·split at h
     ·split at h
      ·split at h
       ·cases h;exact .refl
       cases h
      cases h
     cases h
    cases h
   cases h
def dZ.ck{W:LN}{l l':LA}(h:dZ W l l'):∀t,W.contains t=Po->ck l' t=ck l t:=λt ht=>by
 unfold Go.AM.ck;rw[h t ht]
def Wp.bm{A:af}{N:Nat}{c:Ctx}{x:ag}{ρ:bN}{H:LO}{wr:LN}{Q}(h:Wp A N c x ρ H wr Q):Wp A N c x ρ H wr λe ρ' H' ba=>Q e ρ' H' ba/\∀t,(xJ x).contains t=Po->ρ' t=ρ t:=λl hl he=>by
 obtain⟨n,e,s',h1,h2,h3⟩:=h l hl he;refine⟨n,e,s',h1,h2,h3,λt ht=>?_⟩;rw[<- he];exact (eQ n _ _ _ _ _ h1).ck t ht
abbrev aLP(W:LN)(ρ ρ':bN):Prop:=∀t,W.contains t=Po->ρ' t=ρ t
def aLP.mono{W W':LN}{ρ ρ':bN}(h:aLP W ρ ρ')(hs:∀t∈W,t∈W'):aLP W' ρ ρ':=λt ht=>h t (by
 rw[JJ]at ht ⊢;intro hc;exact ht (EH.2 (hs t (EH.1 hc))))
def aLP.trans{W:LN}{ρ ρ' ρ'':bN}(h1:aLP W ρ ρ')(h2:aLP W ρ' ρ''):aLP W ρ ρ'':=λt ht=>(h2 t ht).trans (h1 t ht)
def aPv{o:ae}{ρ:bN}{v:AV}:aLP (kF [o]) ρ (zX ρ o.dst v):=by
 intro t ht;unfold zX;cases hd:o.dst with
 |none=>rfl
 |some d=>refine aAk λe=>?_;subst e;simp[kF,hd]at ht
def aCl{call:Nat->LA->LO->Out}{c:Ctx}:∀{ops:List ae} {ρ:bN} {H:LO} {wr:LN} {K K':bN->LO->LN->Prop},(∀ρ' H' ba,K ρ' H' ba->aLP (kF ops) ρ ρ'->K' ρ' H' ba)->aD3 call c ops ρ H wr K->aD3 call c ops ρ H wr K'
 | [],_,_,_,_,_,hk,h=>hk _ _ _ h λ_ _=>rfl
 |o::r,ρ,H,wr,K,K',hk,h=>by
  rw[xK]at hk;have go:∀v,aLP (kF [o]++kF r) ρ (zX ρ o.dst v):=λv=>aPv.mono λt ht=>CZ _ ht;have up:∀t∈kF r,t∈kF [o]++kF r:=λt ht=>CX _ ht;unfold aD3 at h ⊢;split at h
  ·cases h
  ·exact aCl (λρ' H' ba hh hf=>hk _ _ _ hh ((go _).trans (hf.mono up))) h
  split at h
  ·cases h
  exact aCl (λρ' H' ba hh hf=>hk _ _ _ hh ((go _).trans (hf.mono up))) h
def aGm{call:Nat->LA->LO->Out}{c:Ctx}{aq:LN}:∀{ops:List ae} {i:Nat} {ρ:bN} {H:LO} {wr:LN} {K K':bN->LO->LN->Log->Prop},(∀ρ' H' ba log,K ρ' H' ba log->aLP (kF ops) ρ ρ'->K' ρ' H' ba log)->wpD call c aq i ops ρ H wr K->wpD call c aq i ops ρ H wr K'
 | [],_,_,_,_,_,_,hk,h=>hk _ _ _ _ h λ_ _=>rfl
 |o::r,i,ρ,H,wr,K,K',hk,h=>by
  rw[xK]at hk;have go:∀v,aLP (kF [o]++kF r) ρ (zX ρ o.dst v):=λv=>aPv.mono λt ht=>CZ _ ht;have up:∀t∈kF r,t∈kF [o]++kF r:=λt ht=>CX _ ht;unfold wpD at h ⊢;split at h
  ·cases h
  ·exact aGm (λρ' H' ba log hh hf=>hk _ _ _ _ hh ((go _).trans (hf.mono up))) h
  split at h
  ·cases h
  refine aGm (λρ' H' ba log hh hf=>?_) h;split at hh
  ·rename_i hc;rw[Zy hc];exact hk _ _ _ _ hh ((go _).trans (hf.mono up))
  rename_i hc;rw[Zx hc];exact hk _ _ _ _ hh ((go _).trans (hf.mono up))
def xL{c:Ctx}:∀{ts:List (Nat×Nat)} {ρ:bN} {H:LO} {wr:LN} {K K':bN->LO->LN->Prop},(∀ρ' H' ba,K ρ' H' ba->aLP (ts.map GQ) ρ ρ'->K' ρ' H' ba)->aD5 c ts ρ H wr K->aD5 c ts ρ H wr K'
 | [],_,_,_,_,_,hk,h=>hk _ _ _ h λ_ _=>rfl
 | (k+1,t)::r,ρ,H,wr,K,K',hk,h=>by
  have up:∀u∈r.map GQ,u∈((k+1,t)::r).map GQ:=λu hu=>BZ _ hu;unfold aD5 at h ⊢;split at h
  ·rename_i hc;rw[Zy hc];exact xL (λρ' H' ba hh hf=>hk _ _ _ hh (hf.mono up)) h
  rename_i hc;rw[Zx hc];split at h
  ·exact xL (λρ' H' ba hh hf=>hk _ _ _ hh (hf.mono up)) h
  cases h
 | (0,t)::r,ρ,H,wr,K,K',hk,h=>by
  have up:∀u∈r.map GQ,u∈((0,t)::r).map GQ:=λu hu=>BZ _ hu;have go:∀v,aLP (((0,t)::r).map GQ) ρ (upd ρ t v):=λv u hu=>aAk λe=>by subst e;simp at hu
  unfold aD5 at h ⊢;split at h
  ·exact xL (λρ' H' ba hh hf=>hk _ _ _ hh ((go _).trans (hf.mono up))) h
  cases h
def iF{A:af}{N:Nat}{c:Ctx}:∀{x:ag} {ρ:bN} {H:LO} {wr:LN} {Q Q':bf->bN->LO->LN->Prop},(∀e ρ' H' ba,Q e ρ' H' ba->aLP (xJ x) ρ ρ'->Q' e ρ' H' ba)->wpc A N c x ρ H wr Q->wpc A N c x ρ H wr Q'
 |.skip,ρ,H,wr,Q,Q',hq,h=>hq _ _ _ _ h λ_ _=>rfl
 |.bad,_,_,_,_,_,_,h=>h.elim
 |.region Po ops,ρ,H,wr,Q,Q',hq,h=>by
  rw[wpc]at h ⊢;exact aCl (λρ' H' ba hh hf=>hq _ _ _ _ hh hf) h
 |.region Pa ops,ρ,H,wr,Q,Q',hq,h=>by
  rw[wpc]at h ⊢;split at h
  ·exact aGm (λρ' H' ba log hh hf=>⟨hh.1,hq _ _ _ _ hh.2 hf⟩) h
  exact h.elim
 |.seq a b,ρ,H,wr,Q,Q',hq,h=>by
  have ha:∀t∈xJ a,t∈xJ (.seq a b):=λt ht=>CZ _ ht;have hb:∀t∈xJ b,t∈xJ (.seq a b):=λt ht=>CX _ ht;rw[wpc]at h ⊢;refine iF (λe ρ' H' ba hh hf=>?_) h;cases e with
  |normal=>exact iF (λe ρ2 H2 en h2 cq=>hq _ _ _ _ h2 ((hf.mono ha).trans (cq.mono hb))) hh
  |ret=>exact hq _ _ _ _ hh (hf.mono ha)
  |exit id=>exact hq _ _ _ _ hh (hf.mono ha)
 |.cond t a b,ρ,H,wr,Q,Q',hq,h=>by
  have ha:∀u∈xJ a,u∈xJ (.cond t a b):=λt ht=>CZ _ ht;have hb:∀u∈xJ b,u∈xJ (.cond t a b):=λt ht=>CX _ ht;rw[wpc]at h ⊢;split at h
  ·exact iF (λe ρ' H' ba hh hf=>hq _ _ _ _ hh (hf.mono ha)) h
  ·exact iF (λe ρ' H' ba hh hf=>hq _ _ _ _ hh (hf.mono hb)) h
  exact h.elim
 |.block id b,ρ,H,wr,Q,Q',hq,h=>by
  rw[wpc]at h ⊢;refine iF (x:=b) (λe ρ' H' ba hh hf=>?_) h;cases e with
  |normal=>exact hq _ _ _ _ hh hf
  |ret=>exact hq _ _ _ _ hh hf
  |exit id'=>
   dsimp only at hh ⊢;split at hh
   ·rename_i hc;rw[Zy hc];exact hq _ _ _ _ hh hf
   rename_i hc;rw[Zx hc];exact hq _ _ _ _ hh hf
 |.loop b,ρ,H,wr,Q,Q',hq,h=>by
  rw[wpc]at h ⊢;exact h.bm.mono λe ρ' H' ba hh=>hq _ _ _ _ hh.1 hh.2
 |.dz x ps b,ρ,H,wr,Q,Q',hq,h=>by
  rw[wpc]at h ⊢;exact h.bm.mono λe ρ' H' ba hh=>hq _ _ _ _ hh.1 hh.2
 |.exit id,ρ,H,wr,Q,Q',hq,h=>hq _ _ _ _ h λ_ _=>rfl
 |.ret,ρ,H,wr,Q,Q',hq,h=>hq _ _ _ _ h λ_ _=>rfl
 |.frz ts,ρ,H,wr,Q,Q',hq,h=>by
  rw[wpc]at h ⊢;exact xL (λρ' H' ba hh hf=>hq _ _ _ _ hh hf) h
def aZy(P:bN->LO->LN->Prop)(tg:Tg P):bf->bN->LO->LN->Prop:=λe ρ H wr=>match e with
 |.normal=>P ρ H wr
 |_=>False
@[go_sem] def aUr{P:bN->LO->LN->Prop}{t:Tg P}{ρ:bN}{H:LO}{wr:LN}:aZy P t .normal ρ H wr=P ρ H wr:=(rfl)
def aPw{A:af}{N:Nat}{c:Ctx}{x:ag}{ρ:bN}{H:LO}{wr:LN}{Q:bf->bN->LO->LN->Prop}{tg}{W:LN}(P:bN->LO->LN->Prop) (hW:xJ x=W) (h1:wc A N c x ρ H wr (aZy P ⟨⟩) ⟨⟩) (h2:∀ρ' H' ba,P ρ' H' ba->(∀t,W.contains t=Po->ρ' t=ρ t)->Q .normal ρ' H' ba):wc A N c x ρ H wr Q tg:=by
 subst hW;refine iF (λe ρ' H' ba hh hf=>?_) h1;cases e with
 |normal=>exact h2 _ _ _ hh hf
 |ret=>exact hh.elim
 |exit id=>exact hh.elim
def aUs(I:Nat->bN->LO->LN->Prop)(M i:Nat)(Q:bf->bN->LO->LN->Prop)(tg:Tg (I,Q)):bf->bN->LO->LN->Prop:=λe ρ H wr=>match e with
 |.normal=>i<M/\I (i+1) ρ H wr
 |e=>Q e ρ H wr
section
variable {A:af}{N:Nat}{c:Ctx}{ρ ρ':bN}{H H':LO}{wr ba:LN}{Q:bf->bN->LO->LN->Prop}{I:Nat->bN->LO->LN->Prop}{M i:Nat}
@[go_sem] def aUt{t:Tg (I,Q)}:aUs I M i Q t .normal ρ H wr=(i<M/\I (i+1) ρ H wr):=(rfl)
@[go_sem] def aZz{t:Tg (I,Q)}:aUs I M i Q t .ret ρ H wr=Q .ret ρ H wr:=(rfl)
@[go_sem] def aXS{t:Tg (I,Q)}{id:Nat}:aUs I M i Q t (.exit id) ρ H wr=Q (.exit id) ρ H wr:=(rfl)
def aKt{b:ag}{tg:Tg (A,N,c,b,Q)}{W:LN}(I:Nat->bN->LO->LN->Prop)(M:Nat)(hok:dK N c b=Pa)(hW:xJ b=W)(h0:I 0 ρ H wr) (hs:∀i ρ1 H1 dc,i<=M->I i ρ1 H1 dc->(∀t,W.contains t=Po->ρ1 t=ρ t)->wc A N c b ρ1 H1 dc (aUs I M i Q ⟨⟩) ⟨⟩):wl A N c b ρ H wr Q tg:=by
 have key:∀k i ρ1 H1 dc,i+k=M->I i ρ1 H1 dc->(∀t,W.contains t=Po->ρ1 t=ρ t)->Wp A N c (.loop b) ρ1 H1 dc Q:=by
  intro k
  induction k with
  |zero=>
   intro i ρ1 H1 dc hk hI hf l hl he;obtain⟨n,e,s',h1,h2,h3⟩:=kM (hs i ρ1 H1 dc omT hI hf) hok l hl he;by_cases hn:e=.normal
   ·subst hn;exact Zw h3.1 omT
   refine⟨n+1,e,s', ?_,h2, ?_⟩
   ·rw[gU,h1];cases e<;>first | rfl | exact Zw rfl hn
   cases e<;>first | exact h3 | exact Zw rfl hn
  |succ k ih=>
   intro i ρ1 H1 dc hk hI hf l hl he;obtain⟨n,e,s',h1,h2,h3⟩:=kM (hs i ρ1 H1 dc omT hI hf) hok l hl he;by_cases hn:e=.normal
   ·subst hn;have cq:∀t,W.contains t=Po->ck s'.ρ t=ρ t:=λt ht=>by
     have:=(eQ n _ _ _ _ _ h1).ck t (by rw[hW];exact ht);rw[this,he];exact hf t ht
    obtain⟨m,e',s'',g1,g2,g3⟩:=ih (i+1) _ _ _ omT h3.2 cq s'.ρ h2 rfl;refine⟨max n m+1,e',s'', ?_,g2,g3⟩;rw[gU,eJ (Nat.le_max_left n m) _ _ _ _ h1];exact eJ (Nat.le_max_right n m) _ _ _ _ g1
   refine⟨n+1,e,s', ?_,h2, ?_⟩
   ·rw[gU,h1];cases e<;>first | rfl | exact Zw rfl hn
   cases e<;>first | exact h3 | exact Zw rfl hn
 exact key M 0 ρ H wr omT h0 λ_ _=>rfl
def aNY(id:Nat)(J:bN->LO->LN->Prop)(Q:bf->bN->LO->LN->Prop)(tg:Tg (J,Q)):bf->bN->LO->LN->Prop:=λe ρ H wr=>match e with
 |.exit id'=>if id'=id then J ρ H wr else Q (.exit id') ρ H wr
 |e=>Q e ρ H wr
@[go_sem] def aWk{id:Nat}{J:bN->LO->LN->Prop}{t:Tg (J,Q)}:aNY id J Q t (.exit id) ρ H wr=J ρ H wr:=by unfold aNY;dsimp only;rw[Zy rfl]
@[go_sem] def aXT{id:Nat}{J:bN->LO->LN->Prop}{t:Tg (J,Q)}:aNY id J Q t .ret ρ H wr=Q .ret ρ H wr:=(rfl)
def bJ{b:ag}{tg:Tg (A,N,c,b,Q)}{W:LN}{id:Nat}(I:Nat->bN->LO->LN->Prop)(M:Nat)(J:bN->LO->LN->Prop)(hok:dK N c b=Pa)(hW:xJ b=W)(h0:I 0 ρ H wr) (hs:∀i ρ1 H1 dc,i<=M->I i ρ1 H1 dc->(∀t,W.contains t=Po->ρ1 t=ρ t)->wc A N c b ρ1 H1 dc (aUs I M i (aNY id J Q ⟨⟩) ⟨⟩) ⟨⟩) (hQ:∀ρ' H' ba,J ρ' H' ba->(∀t,W.contains t=Po->ρ' t=ρ t)->Q (.exit id) ρ' H' ba):wl A N c b ρ H wr Q tg:=by
 refine aKt I M hok hW h0 λi ρ1 H1 dc hi hI hf=>?_;refine iF (λe ρ' H' ba hh xb=>?_) (hs i ρ1 H1 dc hi hI hf);cases e with
 |normal=>exact hh
 |ret=>exact hh
 |exit id'=>
  by_cases he:id'=id
  ·subst he;simp only[aUs,aNY,Zv]at hh;exact hQ _ _ _ hh λt ht=>(xb t (by rw[hW];exact ht)).trans (hf t ht)
  simp only[aUs,aNY,Zx he]at hh;exact hh
end
abbrev Str:=List UInt8
structure mr where
 gg:Int
 text:Str
 deriving DecidableEq
inductive Expr where
 |mk (op n:Int) (kids:List Expr)
structure Shape where
 kind:Int
 points:List (Int×Int)
 deriving DecidableEq
structure ct where
 step:Int
 length:Int
 alter:Int
 deriving DecidableEq
structure Block where
 kind:Int
 runs:List mr
 expr:Expr
 dn:Int
 eg:List Int
 cd:List (List Str)
 w:Int
 h:Int
 aw:List Shape
 bo:List (List (List ct))
 lines:List Str
structure Fact where
 kind:Int
 block:Int
 a:Int
 b:Int
 deriving DecidableEq
structure Question where
 kind:Int
 lk:List mr
 options:List Str
 cy:List Int
 key:Str
 points:Int
 dv:List Str
 deriving DecidableEq
structure Item where
 name:Str
 blocks:List Block
 facts:List Fact
 ask:List Question
structure jm where
 title:Str
 items:List Item
@[reducible] def vi(n:Int):AV:=.int .i64 n
def aN(s:Str):LA:=[.str s]
def bF(n:Int):LA:=[vi n]
def cZ(r:mr):LA:=[vi r.gg,.str r.text]
mutual
def aF:Expr->LA
 |.mk op n kids=>[vi op,vi n,.sl Po (gO kids)]
def gO:List Expr->List LA
 | []=>[]
 |e::r=>aF e::gO r
end
def bL(p:Int×Int):LA:=[vi p.1,vi p.2]
def aH(s:Shape):LA:=[vi s.kind,.sl Po (s.points.map bL)]
def bV(n:ct):LA:=[vi n.step,vi n.length,vi n.alter]
def gH(l:List ct):LA:=[.sl Po (l.map bV)]
def bS(l:List (List ct)):LA:=[.sl Po (l.map gH)]
def bY(l:List Str):LA:=[.sl Po (l.map aN)]
def aE(b:Block):LA:=[vi b.kind,.sl Po (b.runs.map cZ)]++aF b.expr++[vi b.dn,.sl Po (b.eg.map bF),.sl Po (b.cd.map bY),vi b.w,vi b.h,.sl Po (b.aw.map aH),.sl Po (b.bo.map bS),.sl Po (b.lines.map aN)]
def aI(f:Fact):LA:=[vi f.kind,vi f.block,vi f.a,vi f.b]
def gR(q:Question):LA:=[vi q.kind,.sl Po (q.lk.map cZ),.sl Po (q.options.map aN),.sl Po (q.cy.map bF),.str q.key,vi q.points,.sl Po (q.dv.map aN)]
def aO(x:Item):LA:=[.str x.name,.sl Po (x.blocks.map aE),.sl Po (x.facts.map aI),.sl Po (x.ask.map gR)]
def dE(x:jm):AV:=.agg [.str x.title,.sl Po (x.items.map aO)]
def aC{α:Type}{f:α->LA}(h:∀a,iX (f a)=Pa):∀l:List α,gG (l.map f)=Pa
 | []=>rfl
 |a::r=>by simp only[BI,gG,h a,aC h r,Bool.and_self]
section
attribute [local simp] iX AV.data AV.ak vi
def bO(s:Str):iX (aN s)=true:=by simp[aN]
def aU(s:Int):iX (bF s)=true:=by simp[bF]
def cA(s:mr):iX (cZ s)=true:=by simp[cZ]
mutual
def aV:∀e:Expr,iX (aF e)=Pa
 |.mk op n kids=>by
  unfold aF;simp[aIp kids]
def aIp:∀l:List Expr,gG (gO l)=Pa
 | []=>rfl
 |e::r=>by
  unfold gO gG;rw[aV e,aIp r];rfl
end
def aIq(s:Int×Int):iX (bL s)=true:=by simp[bL]
def bW(s:Shape):iX (aH s)=true:=by simp[aH,aC aIq]
def aD9(s:ct):iX (bV s)=true:=by simp[bV]
def aFA(s:List ct):iX (gH s)=true:=by simp[gH,aC aD9]
def cR(s:List (List ct)):iX (bS s)=true:=by simp[bS,aC aFA]
def cU(s:List Str):iX (bY s)=true:=by simp[bY,aC bO]
def aEW:∀{a b:LA},iX (a++b)=(iX a&&iX b)
 | [],b=>by simp
 |x::a,b=>by simp[aEW (a:=a) (b:=b),Bool.and_assoc]
def bG(s:Block):iX (aE s)=true:=by simp only[aE,aEW,aV];simp[aC cA,aC aU,aC cU,aC bW,aC cR,aC bO]
def eL(s:Fact):iX (aI s)=true:=by simp[aI]
def aBI(s:Question):iX (gR s)=true:=by simp[gR,aC cA,aC bO,aC aU]
def dV(s:Item):iX (aO s)=true:=by simp[aO,aC bG,aC eL,aC aBI]
end
abbrev eA(n:Int):Prop := -9223372036854775808<=n/\n<=9223372036854775807
abbrev lI(s:Str):Prop:=s.length<=1000
structure mr.Ok(r:mr):Prop where
 gg:eA r.gg
 text:lI r.text
mutual
def gY:Expr->Nat
 |.mk _ _ kids=>cP kids+1
def cP:List Expr->Nat
 | []=>0
 |e::r=>gY e+cP r
end
inductive Expr.Ok:Expr->Prop where
 |mk (op n:Int) (kids:List Expr):eA op->eA n->kids.length<=16->(∀e∈kids,Expr.Ok e)->Expr.Ok (.mk op n kids)
structure Shape.Ok(s:Shape):Prop where
 kind:eA s.kind
 len:s.points.length<=16
 points:∀p∈s.points,eA p.1/\eA p.2
structure ct.Ok(n:ct):Prop where
 step:eA n.step
 length:eA n.length
 alter:eA n.alter
structure Block.Ok(b:Block):Prop where
 kind:eA b.kind
 vw:b.runs.length<=16
 runs:∀r∈b.runs,r.Ok
 expr:b.expr.Ok
 size:gY b.expr<=1000
 dn:eA b.dn
 tj:b.eg.length<=16
 eg:∀n∈b.eg,eA n
 uu:b.cd.length<=16
 cd:∀r∈b.cd,r.length<=16/\∀s∈r,lI s
 w:eA b.w
 h:eA b.h
 fg:b.aw.length<=16
 aw:∀s∈b.aw,s.Ok
 uv:b.bo.length<=16
 bo:∀h∈b.bo,h.length<=16/\∀l∈h,l.length<=16/\∀n∈l,n.Ok
 vz:b.lines.length<=16
 lines:∀s∈b.lines,lI s
structure Fact.Ok(f:Fact):Prop where
 kind:eA f.kind
 block:eA f.block
 a:eA f.a
 b:eA f.b
structure Question.Ok(q:Question):Prop where
 kind:eA q.kind
 fg:q.lk.length<=16
 lk:∀r∈q.lk,r.Ok
 Q3:q.options.length<=16
 options:∀s∈q.options,lI s
 Q4:q.cy.length<=16
 cy:∀n∈q.cy,eA n
 key:lI q.key
 points:eA q.points
 vw:q.dv.length<=16
 dv:∀s∈q.dv,lI s
structure Item.Ok(x:Item):Prop where
 name:lI x.name
 zq:x.blocks.length<=16
 blocks:∀b∈x.blocks,b.Ok
 B1:x.facts.length<=16
 facts:∀f∈x.facts,f.Ok
 tj:x.ask.length<=16
 ask:∀q∈x.ask,q.Ok
structure jm.Ok(x:jm):Prop where
 title:lI x.title
 G8:x.items.length<=16
 items:∀i∈x.items,i.Ok
def bEW{α:Type}(f:Nat->α->α)(l:List α)(i:Nat):List α:=l.mapIdx λj a=>if j<i then f j a else a
section
variable {α:Type}{f:Nat->α->α}{l:List α}{i:Nat}
def bEY:bEW f l 0=l:=by unfold bEW;apply HN;intro j;rw[Ah];cases l[j]?<;>simp
@[go_sem] def bHo:(bEW f l i).length=l.length:=by unfold bEW;simp
def bGA(h:i<l.length):(bEW f l i)[i]? = N1 l[i]:=by unfold bEW;rw[Ah];simp[h]
def bGB(h:i<l.length):(bEW f l i).set i (f i l[i])=bEW f l (i+1):=by
 unfold bEW;apply HN;intro j;rw[Ah];by_cases e:i=j
 ·subst e;rw[BW (by simpa using h)];simp[h]
 rw[CL e,Ah];have:(j<i+1)↔(j<i):=omT;simp only[this]
def bFE:bEW f l l.length=l.mapIdx f:=by
 unfold bEW;apply HN;intro j;rw[Ah,Ah];by_cases e:j<l.length
 ·simp[e]
 simp[CY (by omega:l.length<=j)]
def bDs{β:Type}{enc:α->β}(h:i<l.length){x:β}(hx:x=enc (f i l[i])):((bEW f l i).map enc).set i x=(bEW f l (i+1)).map enc:=by rw[hx,<- List.map_set,bGB h]
def bCN{β:Type}{enc:α->β}(h:i<l.length):((bEW f l i).map enc)[i]? = N1 (enc l[i]):=by rw[BN,bGA h];rfl
end
def getElem?_map_of{α β:Type}{f:α->β}{l:List α}{i:Nat}(h:i<l.length):(l.map f)[i]? = N1 (f l[i]):=by rw[BN,AP h];rfl
def bEd{α β:Type}(f:α->β)(l:List α):l.mapIdx (λ_ a=>f a)=l.map f:=by apply HN;intro i;rw[Ah,BN]
def dW{i:Nat}(h:i<4611686018427387904):GA .i64 ((i:Int)+1)=((i+1:Nat):Int):=by rw[wrap_i64 omT omT];rfl
def dec(n:Nat):Str:=if n<10 then [CN (48+n)] else dec (n / 10)++[CN (48+n % 10)]
decreasing_by omega
def aGn:∀(k n:Nat),n<10 ^ (k+1)->(dec n).length<=k+1
 |0,n,h=>by
  unfold dec;rw[Zy omT];exact AQ _
 |k+1,n,h=>by
  unfold dec;split
  ·simp
  have:=aGn k (n / 10) (by rw[Nat.pow_succ]at h;omega);simp only[BA,AW,AZ];omega
def bFk(k bytes:Nat)(zs:LA):bw:=⟨8,[7],[.tmp 2],
 qS [qmc 2 (.sl Pa [])] <|.seq (qS [qm 3 0,
  qq 4 (.ky Po (u 3))] <|
 qC 4 (qS [qmc 2 (.sl Pa [])] <|.ret)
  (.skip)) <|
 qS [qq 5 (.bsl k zs 0 []),
  qm 6 0,
  qa 7 k bytes 5 6,
  qm 2 7] <|.ret⟩
structure a8(A:af)(f k bytes:Nat):Prop where
 nil:∀H,aG A f [.sl Po []] H=N1 (.sl Po [],H,[])
 cons:∀(r:LA) (rows:List LA) (H:LO),r.length=k->gG (r::rows)=Pa->(rows.length+1)*(bytes+1)<=1099511627776->aG A f [.sl Po (r::rows)] H=N1 (.own k (r::rows),H,[])
def dT{A:af}{f:Nat}{args:LA}{H:LO}{v:AV}(h:(A.bq f).bind (· args H)=N1 (v,[],[])):aG A f args H=N1 (v,H,[]):=
 oL (n:=0) (by unfold dD qL;rw[h];simp[cT,eU])
def bEB{A:af}{f:Nat}{k bytes:Nat}{zs:LA}(hf:A.fn f=N1 (bFk k bytes zs)) (hp:∀args H,(A.bq f).bind (· args H)=match args with | [.sl _ []]=>N1 (.sl Po [],[],[]) | _=>N2):a8 A f k bytes:=by
 refine⟨λH=>dT (by rw[hp]), ?_⟩;intro r rows H hk hd ed;obtain⟨v1,H1,dc,h1,rfl,rfl,rfl⟩:=kN (args:=[.sl Po (r::rows)]) (H:=H) (K:=λv' H'' ba=>v'=.own k (r::rows)/\H''=H/\ba=[]) hf (by rw[hp]) (by simp[bFk]) rfT (by
  simp only[bFk];have hr:bP (rows.length+1) bytes=true:=by unfold bP;simpa using ed
  have hs:(List.all r AV.still&&rows.all λr=>r.all AV.still)=true:=by have:=aT hd;simpa using this
  simp only[gG,AI]at hd;simp only[go_sem,seval,hk,hr,hs,dC hd.1,aA hd.2])
 exact h1
def eqL{α:Type}(e:α->α->Bool):List α->List α->Bool
 | [],[]=>Pa
 |a::x,b::y=>e a b&&eqL e x y
 |_,_=>Po
def aJd{α:Type}{e:α->α->Bool}:∀{x y:List α},x.length≠y.length->eqL e x y=Po
 | [],[],h=>Zw rfl h
 | [],_::_,_=>rfl
 |_::_,[],_=>rfl
 |a::x,b::y,h=>by
  unfold eqL;rw[aJd (by simpa using h),MC]
def aBh{α:Type}{e:α->α->Bool}{x y:List α}{i:Nat}(hx:i<x.length)(hy:i<y.length):eqL e (x.drop i) (y.drop i)=(e x[i] y[i]&&eqL e (x.drop (i+1)) (y.drop (i+1))):=by rw[FD hx,FD hy];rfl
def asV(agg:Bool)(cs:LA):AV:=if agg then .agg cs else cs.headD .undef
abbrev aXU(k:Nat)(agg:Bool)(ek:vd):ag:=
 qS [qb 14 .lss 13 12] <|.seq (qC 14 (.skip)
  (.exit 0)) <|.seq (.block 1 (qS [qm 15 13,
   qm 5 15] <|.seq (.region Pa [qm 16 0,
 qm 17 5,⟨N1 18,oi 16 17 k,N2,[0,1]⟩,⟨N1 19,.load k agg (u 18),N2,[2,0,1]⟩,
 qm 20 1,
 qm 21 5,⟨N1 22,oi 20 21 k,N2,[4,5]⟩,⟨N1 23,.load k agg (u 22),N2,[6,4,5]⟩,⟨N1 24,.bin .neq ek (u 19) (u 23),N2,[3,2,0,1,7,6,4,5]⟩]) <|
  qC 24 (qS [qmc 4 (.bool Po)] <|.ret)
   (.skip))) <|.region Po [qbi 25 .add 13 1,
  qm 13 25]
def oE(k:Nat)(agg:Bool)(ek:vd):bw:=⟨26,[],[.tmp 4],
 qS [qmc 4 (.bool Po)] <|.seq (qS [qm 6 0,
  qn 7 6,
  qm 8 1,
  qn 9 8,
  qb 10 .neq 7 9] <|
 qC 10 (qS [qmc 4 (.bool Po)] <|.ret)
  (.skip)) <|.seq (qS [qm 11 0,
  qn 12 11,
  qmc 13 z0] <|.block 0 (.loop (aXU k agg ek))) <|
 qS [qmc 4 (.bool Pa)] <|.ret⟩
def aPx{α:Type}(A:af)(f:Nat)(enc:α->LA)(e:α->α->Bool):Prop:=
 ∀(x y:List α) (H:LO),x.length<4611686018427387904->aG A f [.sl Po (x.map enc),.sl Po (y.map enc)] H=N1 (.bool (eqL e x y),H,[])
def vO{α:Type}{A:af}{f k:Nat}{agg:Bool}{ek:vd}{enc:α->LA}{e:α->α->Bool}(hf:A.fn f=N1 (oE k agg ek))(hp:A.bq f=N2) (hk:∀a,(enc a).length=k) (ho:∀a,eD agg (enc a)=N1 (asV agg (enc a))) (Eu:∀a b,kJ .neq ek (asV agg (enc a)) (asV agg (enc b))=N1 (.bool !(e a b))):aPx A f enc e:=by
 intro x y H hx;obtain⟨v1,H1,dc,h1,rfl,rfl,rfl⟩:=kN (args:=[.sl Po (x.map enc),.sl Po (y.map enc)]) (H:=H) (K:=λv' H'' ba=>v'=.bool (eqL e x y)/\H''=H/\ba=[]) hf (by rw[hp];rfl) (by simp[oE]) rfT (by
  simp only[oE];simp only[go_sem,seval];refine aD (λhb=>?_) (λhb=>?_)
  ·have bl:x.length≠y.length:=by intro h;simp[h]at hb
   simp only[go_sem,seval,aJd bl]
  have Ig:x.length=y.length:=by
   have:¬((x.length:Int)≠y.length):=by simpa using hb
   omega
  simp only[go_sem,seval];refine aKt (λi ρ1 H1 wr=>wr=[]/\ρ1 13=vi i/\H1=H/\eqL e x y=eqL e (x.drop i) (y.drop i)) x.length rfT rfl ⟨rfl,rfl,by simp only[go_sem,seval],rfl⟩ ?_;rintro i ρ1 H1 dc mg ⟨rfl,Ev,rfl,hi⟩ hf;have f0:ρ1 0=.sl Po (x.map enc):=by rw[hf 0 rfl];simp only[go_sem,seval]
  have f1:ρ1 1=.sl Po (y.map enc):=by rw[hf 1 rfl];simp only[go_sem,seval]
  have f12:ρ1 12=vi x.length:=by rw[hf 12 rfl];simp only[go_sem,seval]
  simp only[go_sem,seval,f12,Ev];refine aD (λhb=>?_) (λhb=>?_)
  ·have hlt:i<x.length:=by simpa using hb
   have sf:i<y.length:=omT;simp only[go_sem,seval,Ev];refine aY (aq:=[]) rfT rfT ?_;simp only[go_sem,seval,f0,f1,hlt,getElem?_map_of hlt,getElem?_map_of sf,hk,ho,Eu,CH];refine aD (λhb=>?_) (λhb=>?_)
   ·have he:e x[i] y[i]=false:=by simpa using hb
    simp only[go_sem,seval,hi,aBh hlt sf,he]
   have he:e x[i] y[i]=true:=by simpa using hb
   simp only[go_sem,seval,Ev];rw[dW omT];exact⟨hlt,rfl,by rw[hi,aBh hlt sf,he,BR]⟩
  have hlt:i=x.length:=by
   have:¬i<x.length:=by simpa using hb
   omega
  subst hlt;rw[DH (AQ _),DH omT]at hi;simp only[go_sem,seval,hi,eqL])
 exact h1
abbrev bCh(k:Nat)(zs:LA):ag:=
 qS [qb 18 .lss 17 16] <|.seq (qC 18 (.skip)
  (.exit 0)) <|.seq (.block 1 (qS [qm 19 17,
   qi 20 15 17 k,
   qla 21 k 20,
   qq 8 (.alloc zs),
   qm 7 19,
   qs k 8 21] <|
  qS [qm 22 1,
   qm 23 7,
   qi 24 22 23 k,
   qla 25 k 24,
   qq 9 (.alloc zs),
   qs k 9 25] <|
  qS [qm 26 2,
   qla 27 k 8,
   qla 28 k 9,
   qq 29 (.dm (u 26) [(.tmp 27),(.tmp 28)]),
   qq 30 (.un .not (u 29))] <|
  qC 30 (qS [qmc 6 (.bool Po)] <|.ret)
   (.skip))) <|.region Po [qbi 31 .add 17 1,
  qm 17 31]
def aLQ(k:Nat)(zs:LA):bw:=⟨32,[8,9],[.tmp 6],
 qS [qmc 6 (.bool Po)] <|.seq (qS [qm 10 0,
  qn 11 10,
  qm 12 1,
  qn 13 12,
  qb 14 .neq 11 13] <|
 qC 14 (qS [qmc 6 (.bool Po)] <|.ret)
  (.skip)) <|.seq (qS [qm 15 0,
  qn 16 15,
  qmc 17 z0] <|.block 0 (.loop (bCh k zs))) <|
 qS [qmc 6 (.bool Pa)] <|.ret⟩
abbrev bAM:ag:=qS [qb 18 .lss 17 16]<|.seq (qC 18 (.skip) (.exit 0))<|.seq (.block 1 (qS [qm 19 17,qi 20 15 17 1,ql 21 1 20,qm 7 19,qm 8 21]<|qS [qm 22 1,qm 23 7,qi 24 22 23 1,ql 25 1 24,qm 9 25]<|qS [qm 26 2,qm 27 8,qm 28 9,qq 29 (.dm (u 26) [(.tmp 27),(.tmp 28)]),qq 30 (.un .not (u 29))]<|qC 30 (qS [qmc 6 (.bool Po)]<|.ret) (.skip)))<|.region Po [qbi 31 .add 17 1,qm 17 31]
def aGo:bw:=⟨32,[],[.tmp 6],qS [qmc 6 (.bool Po)]<|.seq (qS [qm 10 0,qn 11 10,qm 12 1,qn 13 12,qb 14 .neq 11 13]<|qC 14 (qS [qmc 6 (.bool Po)]<|.ret) (.skip))<|.seq (qS [qm 15 0,qn 16 15,qmc 17 z0]<|.block 0 (.loop bAM))<|qS [qmc 6 (.bool Pa)]<|.ret⟩
def aLR{α:Type}(A:af)(f:Nat)(v:α->AV)(e:α->α->Bool)(P:α->Prop):Prop:=∀(a b:α) (H:LO),P a->aG A f [v a,v b] H=N1 (.bool (e a b),H,[])
def aJe{α:Type}(A:af)(f h:Nat)(enc:α->LA)(e:α->α->Bool)(P:α->Prop):Prop:=
 ∀(x y:List α) (H:LO),x.length<4611686018427387904->(∀a∈x,P a)->aG A f [.sl Po (x.map enc),.sl Po (y.map enc),.fn h [] []] H=N1 (.bool (eqL e x y),H,[])
def aRB{α:Type}{A:af}{f h k:Nat}{zs:LA}{enc:α->LA}{e:α->α->Bool}{P:α->Prop}(hf:A.fn f=N1 (aLQ k zs))(hp:A.bq f=N2)(hz:zs.length=k) (hk:∀a,(enc a).length=k) (hd:∀a,iX (enc a)=Pa) (hc:aLR A h (λa=>.agg (enc a)) e P):aJe A f h enc e P:=by
 intro x y H hx hP;obtain⟨v1,H1,dc,h1,rfl,rfl,rfl⟩:=kN (args:=[.sl Po (x.map enc),.sl Po (y.map enc),.fn h [] []]) (H:=H) (K:=λv' H'' ba=>v'=.bool (eqL e x y)/\H''=H/\ba=[]) hf (by rw[hp];rfl) (by simp[aLQ]) rfT (by
  simp only[aLQ];simp only[go_sem,seval];refine aD (λhb=>?_) (λhb=>?_)
  ·have bl:x.length≠y.length:=by intro h;simp[h]at hb
   simp only[go_sem,seval,aJd bl]
  have Ig:x.length=y.length:=by
   have:¬((x.length:Int)≠y.length):=by simpa using hb
   omega
  simp only[go_sem,seval];refine aKt (λi ρ1 H1 wr=>wr=[]/\ρ1 17=vi i/\(∃o1 o2,H1=H++[o1,o2])/\eqL e x y=eqL e (x.drop i) (y.drop i)) x.length rfT rfl ⟨rfl,by simp only[go_sem,seval],⟨_,_,rfl⟩,rfl⟩ ?_;rintro i ρ1 H1 dc mg ⟨rfl,Q5,⟨o1,o2,rfl⟩,hi⟩ hf;have f1:ρ1 1=.sl Po (y.map enc):=by rw[hf 1 rfl];simp only[go_sem,seval]
  have f2:ρ1 2=.fn h [] []:=by rw[hf 2 rfl];simp only[go_sem,seval]
  have f15:ρ1 15=.sl Po (x.map enc):=by rw[hf 15 rfl];simp only[go_sem,seval]
  have f16:ρ1 16=vi x.length:=by rw[hf 16 rfl];simp only[go_sem,seval]
  simp only[go_sem,seval,f16,Q5];refine aD (λhb=>?_) (λhb=>?_)
  ·have hlt:i<x.length:=by simpa using hb
   have sf:i<y.length:=omT;have sx:=λH=>hc x[i] y[i] H (hP _ (AS hlt));have pk:∀a,List.take k (enc a)=enc a:=λa=>CH (by rw[hk a];exact AQ _);have sh:List.drop k zs=[]:=List.drop_of_length_le (by rw[hz];exact AQ _);simp only[go_sem,seval,f1,f2,f15,Q5,hlt,getElem?_map_of hlt,getElem?_map_of sf,hk,hz,pk,sh,aS (hd _),aK (hd _),bQ (hd _),sx];refine aD (λhb=>?_) (λhb=>?_)
   ·have he:e x[i] y[i]=false:=by simpa using hb
    simp only[go_sem,seval,hi,aBh hlt sf,he]
   have he:e x[i] y[i]=true:=by simpa using hb
   simp only[go_sem,seval,Q5];rw[dW omT];exact⟨hlt,rfl,⟨_,_,rfl⟩,by rw[hi,aBh hlt sf,he,BR]⟩
  have hlt:i=x.length:=by
   have:¬i<x.length:=by simpa using hb
   omega
  subst hlt;rw[DH (AQ _),DH omT]at hi;simp only[go_sem,seval,hi,eqL])
 exact h1
def aPy{α:Type}{A:af}{f h:Nat}{v:α->AV}{enc:α->LA}{e:α->α->Bool}{P:α->Prop}(hf:A.fn f=N1 (aGo))(hp:A.bq f=N2) (hv:∀a,enc a=[v a]) (hd:∀a,(v a).data=Pa) (O9:∀a,(v a).ak=Pa) (hc:aLR A h v e P):aJe A f h enc e P:=by
 intro x y H hx hP;obtain⟨v1,H1,dc,h1,rfl,rfl,rfl⟩:=kN (args:=[.sl Po (x.map enc),.sl Po (y.map enc),.fn h [] []]) (H:=H) (K:=λv' H'' ba=>v'=.bool (eqL e x y)/\H''=H/\ba=[]) hf (by rw[hp];rfl) (by simp[aGo]) rfT (by
  simp only[aGo];simp only[go_sem,seval];refine aD (λhb=>?_) (λhb=>?_)
  ·have bl:x.length≠y.length:=by intro h;simp[h]at hb
   simp only[go_sem,seval,aJd bl]
  have Ig:x.length=y.length:=by
   have:¬((x.length:Int)≠y.length):=by simpa using hb
   omega
  simp only[go_sem,seval];refine aKt (λi ρ1 H1 wr=>wr=[]/\ρ1 17=vi i/\H1=H/\eqL e x y=eqL e (x.drop i) (y.drop i)) x.length rfT rfl ⟨rfl,by simp only[go_sem,seval],by simp only[go_sem,seval],rfl⟩ ?_;rintro i ρ1 H1 dc mg ⟨rfl,Q5,rfl,hi⟩ hf;have f1:ρ1 1=.sl Po (y.map enc):=by rw[hf 1 rfl];simp only[go_sem,seval]
  have f2:ρ1 2=.fn h [] []:=by rw[hf 2 rfl];simp only[go_sem,seval]
  have f15:ρ1 15=.sl Po (x.map enc):=by rw[hf 15 rfl];simp only[go_sem,seval]
  have f16:ρ1 16=vi x.length:=by rw[hf 16 rfl];simp only[go_sem,seval]
  simp only[go_sem,seval,f16,Q5];refine aD (λhb=>?_) (λhb=>?_)
  ·have hlt:i<x.length:=by simpa using hb
   have sf:i<y.length:=omT;have sx:=λH=>hc x[i] y[i] H (hP _ (AS hlt));have bd:∀a,(v a).strip=v a:=λa=>by
    have h1:=tT (hd a);cases Af:v a<;>first | rfl | skip
    all_goals first | (rw[Af]at h1;exact h1)|(have:=O9 a;rw[Af]at this;cases this)
   have hle:∀a (H:LO),dw H (v a)=N1 (v a,[]):=λa H=>by
    have h1:=xH (H:=H) (hd a) (O9 a);cases Af:v a<;>first | rfl | skip
    all_goals first | (rw[Af]at h1;exact h1)|(have:=O9 a;rw[Af]at this;cases this)
   simp only[go_sem,seval,f1,f2,f15,Q5,hlt,getElem?_map_of hlt,getElem?_map_of sf,hv,bd,hle,sx];refine aD (λhb=>?_) (λhb=>?_)
   ·have he:e x[i] y[i]=false:=by simpa using hb
    simp only[go_sem,seval,hi,aBh hlt sf,he]
   have he:e x[i] y[i]=true:=by simpa using hb
   simp only[go_sem,seval,Q5];rw[dW omT];exact⟨hlt,rfl,by rw[hi,aBh hlt sf,he,BR]⟩
  have hlt:i=x.length:=by
   have:¬i<x.length:=by simpa using hb
   omega
  subst hlt;rw[DH (AQ _),DH omT]at hi;simp only[go_sem,seval,hi,eqL])
 exact h1
def qV(g:SN):bw:=⟨24,[2,3],[.tmp 4],qS [qx 2 3 0,qx 3 3 1,qmc 4 (.bool Po)]<|qS [qf 5 0 2,ql 6 1 5,qf 7 0 3,ql 8 1 7,qb 9 .eql 6 8,qm 10 9,qT 11 10 (of 1 2),qT 12 10 (ol 1 11),qT 13 10 (of 1 3),qT 14 10 (ol 1 13),qT 15 10 (ob .eql 12 14),qp 16 10 15,qm 17 16,qT 18 17 (of 2 2),qT 19 17 (ol 1 18),qT 20 17 (of 2 3),qT 21 17 (ol 1 20),qT 22 17 (oc (g "bQ") [u 19,u 21,uf (g "aq")]),qp 23 17 22,qm 4 23]<|.ret⟩
def sW(g:SN):bw:=⟨17,[2,3],[.tmp 4],qS [qx 2 2 0,qx 3 2 1,qmc 4 (.bool Po)]<|qS [qf 5 0 2,ql 6 1 5,qf 7 0 3,ql 8 1 7,qb 9 .eql 6 8,qm 10 9,qT 11 10 (of 1 2),qT 12 10 (ol 1 11),qT 13 10 (of 1 3),qT 14 10 (ol 1 13),qT 15 10 (oc (g "dh") [u 12,u 14]),qp 16 10 15,qm 4 16]<|.ret⟩
def sX(g:SN):bw:=⟨8,[],[.tmp 4],qS [qmc 4 (.bool Po)]<|qS [qm 5 0,qm 6 1,qc 7 (g "de") [u 5,u 6,uf (g "cI")],qm 4 7]<|.ret⟩
def zG(g:SN):bw:=⟨98,[2,3],[.tmp 4],qS [qx 2 13 0,qx 3 13 1,qmc 4 (.bool Po)]<|qS [qmc 5 (.fn (g "cv") [] [])]<|qS [qmc 6 (.fn (g "cw") [] [])]<|qS [qf 7 0 2,ql 8 1 7,qf 9 0 3,ql 10 1 9,qb 11 .eql 8 10,qm 12 11,qT 13 12 (of 1 2),qT 14 12 (ol 1 13),qT 15 12 (of 1 3),qT 16 12 (ol 1 15),qT 17 12 (oc (g "cL") [u 14,u 16]),qp 18 12 17,qm 19 18,qT 20 19 (of 2 2),qT 21 19 (ola 3 20),qT 22 19 (of 2 3),qT 23 19 (ola 3 22),qT 24 19 (oc (g "aq") [u 21,u 23]),qp 25 19 24,qm 26 25,qT 27 26 (of 5 2),qT 28 26 (of 0 27),qT 29 26 (ol 1 28),qT 30 26 (of 5 3),qT 31 26 (of 0 30),qT 32 26 (ol 1 31),qT 33 26 (ob .eql 29 32),qp 34 26 33,qm 35 34,qT 36 35 (of 5 2),qT 37 35 (of 1 36),qT 38 35 (ol 1 37),qT 39 35 (of 5 3),qT 40 35 (of 1 39),qT 41 35 (ol 1 40),qT 42 35 (oc (g "cM") [u 38,u 41]),qp 43 35 42,qm 44 43,qT 45 44 (of 7 2),qT 46 44 (of 0 45),qT 47 44 (ol 1 46),qT 48 44 (of 7 3),qT 49 44 (of 0 48),qT 50 44 (ol 1 49),qT 51 44 (oc (g "df") [u 47,u 50,uf (g "bq")]),qp 52 44 51,qm 53 52,qT 54 53 (of 8 2),qT 55 53 (of 0 54),qT 56 53 (ol 1 55),qT 57 53 (of 8 3),qT 58 53 (of 0 57),qT 59 53 (ol 1 58),qT 60 53 (ob .eql 56 59),qp 61 53 60,qm 62 61,qT 63 62 (of 8 2),qT 64 62 (of 1 63),qT 65 62 (ol 1 64),qT 66 62 (of 8 3),qT 67 62 (of 1 66),qT 68 62 (ol 1 67),qT 69 62 (ob .eql 65 68),qp 70 62 69,qm 71 70,qT 72 71 (of 8 2),qT 73 71 (of 2 72),qT 74 71 (ol 1 73),qT 75 71 (of 8 3),qT 76 71 (of 2 75),qT 77 71 (ol 1 76),qT 78 71 (om 5),qT 79 71 (oc (g "dg") [u 74,u 77,u 78]),qp 80 71 79,qm 81 80,qT 82 81 (of 11 2),qT 83 81 (of 0 82),qT 84 81 (ol 1 83),qT 85 81 (of 11 3),qT 86 81 (of 0 85),qT 87 81 (ol 1 86),qT 88 81 (om 6),qT 89 81 (oc (g "dd") [u 84,u 87,u 88]),qp 90 81 89,qm 91 90,qT 92 91 (of 12 2),qT 93 91 (ol 1 92),qT 94 91 (of 12 3),qT 95 91 (ol 1 94),qT 96 91 (oc (g "bq") [u 93,u 95]),qp 97 91 96,qm 4 97]<|.ret⟩
noncomputable def eqv{α:Type}(a b:α):Bool:=@decide (a=b) (Classical.propDecidable _)
def fO{α:Type}{a b:α}:eqv a b=Pa↔a=b:=by unfold eqv;simp
def aRC{α:Type}{a:α}:eqv a a=true:=fO.2 rfl
def aKu{α:Type}{a b:α}(h:a≠b):eqv a b=false:=by unfold eqv;simp[h]
def aEc{α:Type}[BEq α][LawfulBEq α]{a b:α}:(a==b)=eqv a b:=by rw[DS,fO];simp
def aKv{a b:Int}:(a==b)=eqv a b:=aEc
def aLS{α:Type}:∀{x y:List α},eqL eqv x y=eqv x y
 | [],[]=>aRC.symm
 | [],_::_=>by rw[aKu siT];rfl
 |_::_,[]=>by rw[aKu siT];rfl
 |a::x,b::y=>by
  unfold eqL;rw[aLS,DS,AI,fO,fO,fO];simp
def aUu{a b:mr}:eqv a b=(eqv a.gg b.gg&&eqv a.text b.text):=by rw[DS,AI,fO,fO,fO];cases a;cases b;simp
def aPz{a b:Int×Int}:eqv a b=(eqv a.1 b.1&&eqv a.2 b.2):=by rw[DS,AI,fO,fO,fO];cases a;cases b;simp
def aKw{a b:Shape}:eqv a b=(eqv a.kind b.kind&&eqv a.points b.points):=by rw[DS,AI,fO,fO,fO];cases a;cases b;simp
def aRD{a b:ct}:eqv a b=(eqv a.step b.step&&(eqv a.length b.length&&eqv a.alter b.alter)):=by rw[DS];simp only[AI,fO];cases a;cases b;simp
def aRE{a b:Fact}:eqv a b=(eqv a.kind b.kind&&(eqv a.block b.block&&(eqv a.a b.a&&eqv a.b b.b))):=by rw[DS];simp only[AI,fO];cases a;cases b;simp
def pX{α:Type}(A:af)(f:Nat)(v:α->AV)(P:α->Prop):Prop:=aLR A f v eqv P
abbrev aEd{α:Type}(A:af)(f:Nat)(enc:α->LA):Prop:=∀(x y:List α) (H:LO),x.length<4611686018427387904->aG A f [.sl Po (x.map enc),.sl Po (y.map enc)] H=N1 (.bool (eqv x y),H,[])
abbrev aJf{α:Type}(A:af)(f h:Nat)(enc:α->LA)(P:α->Prop):Prop:=
 ∀(x y:List α) (H:LO),x.length<4611686018427387904->(∀a∈x,P a)->aG A f [.sl Po (x.map enc),.sl Po (y.map enc),.fn h [] []] H=N1 (.bool (eqv x y),H,[])
def aPx.eqv{α:Type}{A:af}{f:Nat}{enc:α->LA}(h:aPx A f enc eqv):aEd A f enc:=λx y H hx=>by rw[h x y H hx,aLS]
def aJe.eqv{α:Type}{A:af}{f f2:Nat}{enc:α->LA}{P:α->Prop}(h:aJe A f f2 enc eqv P):aJf A f f2 enc P:=λx y H hx hP=>by rw[h x y H hx hP,aLS]
def aXV{A:af}{f:Nat}(hf:A.fn f=N1 (oE 1 Po .no))(hp:A.bq f=N2):aEd A f bF:=
 (vO hf hp (λ_=>rfl) (λ_=>rfl) (λa b=>by rw[<- aEc];simp[asV,bF,aUi,bne])).eqv
def aT2{A:af}{f:Nat}(hf:A.fn f=N1 (oE 1 Po .no))(hp:A.bq f=N2):aEd A f aN:=
 (vO hf hp (λ_=>rfl) (λ_=>rfl) (λa b=>by rw[<- aEc];simp[asV,aN,aRy,bne])).eqv
def aGp{ts:List Tag}{x y:LA}{b:Bool}(h:lP ts x y=N1 b):kJ .neq (.cells ts) (.agg x) (.agg y)=N1 (.bool !b):=by simp[kJ,tN,h]
def aXW{A:af}{f:Nat}(hf:A.fn f=N1 (oE 2 Pa (.cells [.int,.str])))(hp:A.bq f=N2):aEd A f cZ:=
 (vO hf hp (λ_=>rfl) (λ_=>rfl) (λa b=>aGp (by
  rw[aUu];simp only[cZ,lP,aCO,Zv,aEc];cases eqv a.gg b.gg<;>cases eqv a.text b.text<;>rfl))).eqv
def aRF{A:af}{f:Nat}(hf:A.fn f=N1 (oE 2 Pa (.cells [.int,.int])))(hp:A.bq f=N2):aEd A f bL:=
 (vO hf hp (λ_=>rfl) (λ_=>rfl) (λa b=>aGp (by
  rw[aPz];simp only[bL,lP,aCO,Zv,aEc];cases eqv a.1 b.1<;>cases eqv a.2 b.2<;>rfl))).eqv
def aUv{A:af}{f:Nat}(hf:A.fn f=N1 (oE 3 Pa (.cells [.int,.int,.int])))(hp:A.bq f=N2):aEd A f bV:=
 (vO hf hp (λ_=>rfl) (λ_=>rfl) (λa b=>aGp (by
  rw[aRD];simp only[bV,lP,aCO,Zv,aEc];cases eqv a.step b.step<;>cases eqv a.length b.length<;>cases eqv a.alter b.alter<;>rfl))).eqv
def aJg{α:Type}{A:af}{f h:Nat}{v:α->AV}{enc:α->LA}{P:α->Prop}(hf:A.fn f=N1 aGo)(hp:A.bq f=N2)(hv:∀a,enc a=[v a])(hd:∀a,(v a).data=Pa)(O9:∀a,(v a).ak=Pa) (hc:pX A h v P):aJf A f h enc P:=(aPy hf hp hv hd O9 hc).eqv
def aPA{α:Type}{A:af}{f h k:Nat}{zs:LA}{enc:α->LA}{P:α->Prop}(hf:A.fn f=N1 (aLQ k zs))(hp:A.bq f=N2)(hz:zs.length=k)(hk:∀a,(enc a).length=k) (hd:∀a,iX (enc a)=Pa) (hc:pX A h (λa=>.agg (enc a)) P):aJf A f h enc P:=(aRB hf hp hz hk hd hc).eqv
abbrev Len{α:Type}(l:List α):Prop:=l.length<4611686018427387904
def aZ:∀l:List Expr,gO l=l.map aF
 | []=>rfl
 |e::r=>by rw[gO,aZ r];rfl
def cF(b:Block):(aE b).length=13:=by obtain⟨_,_,⟨_,_,_⟩,_,_,_,_,_,_,_,_⟩:=b;rfl
def dP(e:Expr):(aF e).length=3:=by cases e;rfl
def aJh{A:af}{g:SN}(h:Has A g "aq" (qV g)) (hf:A.fn (g "bQ")=N1 (aLQ 3 [.int .i64 0,.int .i64 0,.sl Pa []])) (hp:A.bq (g "bQ")=N2):pX A (g "aq") (λe=>.agg (aF e)) Expr.Ok:=by
 have key:∀n:Nat,pX A (g "aq") (λe=>.agg (aF e)) (λe=>Expr.Ok e/\SizeOf.sizeOf e<n):=by
  intro n
  induction n with
  |zero=>intro a b H ha;exact Zw ha.2 omT
  |succ n ih=>
   intro a b H ha;have hk:=aPA (enc:=aF) hf hp rfl dP aV ih;obtain⟨op,n1,kids⟩:=a;obtain⟨op',n1',kids'⟩:=b;obtain⟨⟨_,_,_,_,_,hl,E7⟩,gd⟩:=ha;have pt:=λH=>hk kids kids' H omT (λe he=>⟨E7 e he,by
    have:=GY he;simp only[Expr.mk.sizeOf_spec]at gd;omega⟩)
   have hE:eqv (Expr.mk op n1 kids) (Expr.mk op' n1' kids')=(eqv op op'&&(eqv n1 n1'&&eqv kids kids')):=by rw[DS];simp only[AI,fO];simp
   refine h.call ?_;simp only[qV,aF,aZ];cases e1:eqv op op' with
   |false=>simp only[go_sem,seval,aKv,hE,e1]
   |true=>cases e2:eqv n1 n1' with
    |false=>simp only[go_sem,seval,aKv,hE,e1,e2]
    |true=>simp only[go_sem,seval,aKv,hE,e1,e2,pt]
 intro a b H ha;exact key (SizeOf.sizeOf a+1) a b H ⟨ha,omT⟩
structure X0(A:af)(g:SN):Prop where
 block:Has A g "bT" (zG g)
 xy:Has A g "cv" (sW g)
 xz:Has A g "cw" (sX g)
 expr:Has A g "aq" (qV g)
 B2:Has A g "dg" (aLQ 2 [z0,(.sl Pa [])])
 K9:Has A g "bQ" (aLQ 3 [z0,z0,(.sl Pa [])])
 L0:Has A g "de" aGo
 B3:Has A g "dd" aGo
 L4:Has A g "df" aGo
 L5:Has A g "dh" (oE 2 Pa (.cells [.int,.int]))
 note:Has A g "cI" (oE 3 Pa (.cells [.int,.int,.int]))
 run:Has A g "cL" (oE 2 Pa (.cells [.int,.str]))
 int:Has A g "cM" (oE 1 Po .no)
 str:Has A g "bq" (oE 1 Po .no)
section
variable {A:af}{g:SN}(h:X0 A g)
include h
def aNZ:pX A (g "cv") (λs=>.agg (aH s)) Shape.Ok:=by
 intro a b H ha;have hP:=aRF h.L5.fn h.L5.bq;have hp:=λH=>hP a.points b.points H (by have:=ha.len;omega);refine h.xy.call ?_;simp only[sW,aH];cases e1:eqv a.kind b.kind with
 |false=>simp only[go_sem,seval,aKv,aKw,e1]
 |true=>simp only[go_sem,seval,aKv,aKw,e1,hp]
def aRG:pX A (g "cI") (λl:List ct=>.sl Po (l.map bV)) (λl=>l.length<=16):=by intro a b H ha;exact aUv h.note.fn h.note.bq a b H omT
def aPB:pX A (g "cw") (λl:List (List ct)=>.sl Po (l.map gH)) (λl=>l.length<=16/\∀b∈l,b.length<=16):=by intro a b H ha;have hE:=aJg (enc:=gH) h.L0.fn h.L0.bq (λ_=>rfl) (λ_=>aC aD9 _) (λ_=>rfl) (aRG h);have hp:=λH=>hE a b H (by have:=ha.1;omega) ha.2;refine h.xz.call ?_;simp only[sX];simp only[go_sem,seval,hp]
def aRH:pX A (g "bq") (λl:List Str=>.sl Po (l.map aN)) (λl=>l.length<=16):=by intro a b H ha;exact aT2 h.str.fn h.str.bq a b H omT
end
section
variable {A:af}{g:SN}(h:X0 A g)
include h
def aO0:pX A (g "bT") (λq=>.agg (aE q)) Block.Ok:=by
 intro a b H ha;have h1:=λH=>aXW h.run.fn h.run.bq a.runs b.runs H (by have:=ha.vw;omega);have h2:=λH=>aJh h.expr h.K9.fn h.K9.bq a.expr b.expr H ha.expr;have h3:=λH=>aXV h.int.fn h.int.bq a.eg b.eg H (by have:=ha.tj;omega);have h4:=λH=>(aJg (enc:=bY) h.L4.fn h.L4.bq (λ_=>rfl) (λ_=>aC bO _) (λ_=>rfl) (aRH h)) a.cd b.cd H (by have:=ha.uu;omega) (λr hr=>(ha.cd r hr).1);have h5:=λH=>(aPA (enc:=aH) h.B2.fn h.B2.bq rfl (λ_=>rfl) bW (aNZ h)) a.aw b.aw H (by have:=ha.fg;omega) ha.aw;have h6:=λH=>(aJg (enc:=bS) h.B3.fn h.B3.bq (λ_=>rfl) (λ_=>aC aFA _) (λ_=>rfl) (aPB h)) a.bo b.bo H (by have:=ha.uv;omega)
  (λr hr=>⟨(ha.bo r hr).1,λl hl=>((ha.bo r hr).2 l hl).1⟩)
 have h7:=λH=>aT2 h.str.fn h.str.bq a.lines b.lines H (by have:=ha.vz;omega);have hE:eqv a b=(eqv a.kind b.kind&&(eqv a.runs b.runs&&(eqv a.expr b.expr&&(eqv a.dn b.dn&&(eqv a.eg b.eg&&(eqv a.cd b.cd&&(eqv a.w b.w&&(eqv a.h b.h&&(eqv a.aw b.aw&&(eqv a.bo b.bo&&eqv a.lines b.lines)))))))))):=by rw[DS];simp only[AI,fO];cases a;cases b;simp
 cases Ew:a.expr with | mk op n kids=>
 cases nz:b.expr with | mk op' n' kids'=>
 rw[Ew,nz]at h2;rw[Ew,nz]at hE;simp only[aF,aZ]at h2;refine h.block.call ?_;simp only[zG,aE,Ew,nz,aF,aZ];cases e1:eqv a.kind b.kind with
 |false=>simp only[go_sem,seval,aKv,hE,e1]
 |true=>
  cases e2:eqv a.runs b.runs with
  |false=>simp only[go_sem,seval,aKv,hE,e1,h1,e2]
  |true=>
   cases e3:eqv (Expr.mk op n kids) (Expr.mk op' n' kids')with
   |false=>simp only[go_sem,seval,aKv,hE,e1,h1,e2,h2,e3]
   |true=>
    cases e4:eqv a.dn b.dn with
    |false=>simp only[go_sem,seval,aKv,hE,e1,h1,e2,h2,e3,e4]
    |true=>
     cases e5:eqv a.eg b.eg with
     |false=>simp only[go_sem,seval,aKv,hE,e1,h1,e2,h2,e3,e4,h3,e5]
     |true=>
      cases e6:eqv a.cd b.cd with
      |false=>simp only[go_sem,seval,aKv,hE,e1,h1,e2,h2,e3,e4,h3,e5,h4,e6]
      |true=>
       cases e7:eqv a.w b.w with
       |false=>simp only[go_sem,seval,aKv,hE,e1,h1,e2,h2,e3,e4,h3,e5,h4,e6,e7]
       |true=>
        cases e8:eqv a.h b.h with
        |false=>simp only[go_sem,seval,aKv,hE,e1,h1,e2,h2,e3,e4,h3,e5,h4,e6,e7,e8]
        |true=>
         cases e9:eqv a.aw b.aw with
         |false=>simp only[go_sem,seval,aKv,hE,e1,h1,e2,h2,e3,e4,h3,e5,h4,e6,e7,e8,h5,e9]
         |true=>
          cases e10:eqv a.bo b.bo with
          |false=>simp only[go_sem,seval,aKv,hE,e1,h1,e2,h2,e3,e4,h3,e5,h4,e6,e7,e8,h5,e9,h6,e10]
          |true=>simp only[go_sem,seval,aKv,hE,e1,h1,e2,h2,e3,e4,h3,e5,h4,e6,e7,e8,h5,e9,h6,e10,h7]
end
def xM(g:SN):bw:=⟨15,[],[.tmp 6],qS [qmc 6 (.bool Po)]<|qS [qm 7 0,qm 8 1,qb 9 .geq 7 8,qm 10 9,qT 11 10 (om 0),qT 12 10 (om 2),qT 13 10 (ob .leq 11 12),qp 14 10 13,qm 6 14]<|.ret⟩
def wi(n a b:Int):Bool:=decide (n ≥ a)&&decide (n<=b)
abbrev eO(A:af)(g:SN):Prop:=∀(n a b:Int) (H:LO),aG A (g "c") [vi n,vi a,vi b] H=N1 (.bool (wi n a b),H,[])
def kO{A:af}{g:SN}(h:Has A g "c" (xM g)):eO A g:=by
 intro n a b H;refine h.call ?_;simp only[xM];cases e1:decide (n ≥ a)with
 |false=>simp only[go_sem,↓aB,seval,e1,wi,BQ,BB]
 |true=>simp only[go_sem,↓aB,seval,e1,wi,BR,Zz]
structure mv{α:Type}(k:Nat)(agg:Bool)(enc:α->LA):Prop where
 len:∀a,(enc a).length=k
 data:∀a,iX (enc a)=Pa
 one:agg=Po->k=1
section
variable {α:Type}{k:Nat}{agg:Bool}{enc:α->LA}
def mv.of(h:mv k agg enc)(a:α):eD agg (enc a)=N1 (asV agg (enc a)):=by
 cases agg with
 |true=>rfl
 |false=>
  have h1:=(h.len a).trans (h.one rfl)
  match he:enc a,h1 with
  | [v],_=>rfl
def mv.dw(h:mv k agg enc)(a:α)(H:LO):dw H (asV agg (enc a))=N1 (asV agg (enc a),[]):=by
 cases agg with
 |true=>show dw H (.agg (enc a))=_;rw[aRx,aS (h.data a)];rfl
 |false=>
  have h1:=(h.len a).trans (h.one rfl);have h2:=h.data a
  match he:enc a,h1 with
  | [v],_=>rw[he]at h2;simp only[iX,AI]at h2;have:=xH (H:=H) h2.1.2 h2.1.1;show dw H v=N1 (v,[]);cases v<;>first | exact this | exact Zw h2.1.1 ED
def mv.strip(h:mv k agg enc)(a:α):(asV agg (enc a)).strip=asV agg (enc a):=by
 cases agg with
 |true=>show AV.agg ((enc a).map AV.aj)=_;rw[aK (h.data a)];rfl
 |false=>
  have h1:=(h.len a).trans (h.one rfl);have h2:=h.data a
  match he:enc a,h1 with
  | [v],_=>rw[he]at h2;simp only[iX,AI]at h2;have:=tT h2.1.2;show v.strip=v;cases v<;>first | exact this | exact Zw h2.1.1 ED
def mv.take(h:mv k agg enc)(a:α):(enc a).take k=enc a:=CH (by rw[h.len];exact AQ _)
def mv.still(h:mv k agg enc)(a:α):(enc a).all AV.still=true:=bR (h.data a)
def mv.ga(h:mv k agg enc)(a:α):(enc a).map AV.aj=enc a:=aK (h.data a)
end
structure jc(ay:LA):Prop where
 dw:∀H,kA H ay=N1 (ay,[])
 strip:ay.map AV.strip=ay
 aj:ay.map AV.aj=ay
 still:ay.all AV.still=Pa
def cQ:jc []:=⟨λ_=>rfl,rfl,rfl,rfl⟩
def jc.ep{ay:LA}(h:jc ay)(row:LA)(off:Nat):jc (.ep row off::ay):=by
 refine⟨λH=>?_, ?_, ?_, ?_⟩
 ·show (match kA H ay with | none=>N2 | some (r',l')=>N1 (AV.ep row off::r',[]++l'))=_;rw[h.dw];rfl
 ·rw[BI,h.strip];rfl
 ·rw[BI,h.aj];rfl
 rw[ES,h.still];rfl
def jc.ptr{ay:LA}(h:jc ay)(o v off:Nat):jc (.ptr o v off::ay):=by
 refine⟨λH=>?_, ?_, ?_, ?_⟩
 ·show (match kA H ay with | none=>N2 | some (r',l')=>N1 (AV.ptr o v off::r',[]++l'))=_;rw[h.dw];rfl
 ·rw[BI,h.strip];rfl
 ·rw[BI,h.aj];rfl
 rw[ES,h.still];rfl
def aMW{α:Type}(p:α->Bool)(l:List α):Int:=match l.findIdx? p with
 |some i=>(i:Int)
 |none => -1
def aLT{α:Type}{p:α->Bool}{l:List α}{i:Nat}(h:i<l.length)(hp:p l[i]=Pa)(hn:∀j (hj:j<i),p (l[j]'omT)=Po):aMW p l=i:=by unfold aMW;rw[GW.2 ⟨h,hp,λj hj=>by rw[hn j hj];simp⟩]
def aGq{α:Type}{p:α->Bool}{l:List α}(hn:∀j (hj:j<l.length),p l[j]=Po):aMW p l = -1:=by
 unfold aMW;rw[LG.2 λx hx=>by
  obtain⟨j,hj,rfl⟩:=List.getElem_of_mem hx;exact hn j hj]
def aLU{α:Type}{p:α->Bool}{l:List α}:decide (aMW p l ≥ 0)=l.any p:=by
 unfold aMW;cases h:l.findIdx? p with
 |some i=>obtain⟨h1,h2,_⟩:=GW.1 h;have:l.any p=true:=KS.2 ⟨_,AS h1,h2⟩;rw[this];simp
 |none=>
  have:l.any p=false:=by rw[JJ];intro hc;obtain⟨x,hx,hp⟩:=KS.1 hc;rw[LG.1 h x hx]at hp;cases hp
  rw[this];simp
abbrev bCi(k:Nat)(agg:Bool):ag:=
 qS [qb 9 .lss 8 7] <|.seq (qC 9 (.skip)
  (.exit 0)) <|.seq (.block 1 (qS [qm 10 8,
   qm 5 10] <|
  qS [qm 11 1,
   qm 12 0,
   qm 13 5,
   qi 14 12 13 k,
   qq 15 (.load k agg (u 14)),
   qq 16 (.dm (u 11) [(.tmp 15)])] <|
  qC 16 (qS [qm 17 5,
    qm 4 17] <|.ret)
   (.skip))) <|.region Po [qbi 18 .add 8 1,
  qm 8 18]
def aKx(k:Nat)(agg:Bool):bw:=⟨19,[],[.tmp 4],
 qS [qmc 4 z0] <|.seq (qS [qm 6 0,
  qn 7 6,
  qmc 8 z0] <|.block 0 (.loop (bCi k agg))) <|
 qS [qmc 4 (.int .i64 (-1))] <|.ret⟩
def aLV(fi:Nat):bw:=⟨9,[],[.tmp 4],
 qS [qmc 4 (.bool Po)] <|
 qS [qm 5 0,
  qm 6 1,
  qc 7 fi [u 5,u 6],
  qbi 8 .geq 7 0,
  qm 4 8] <|.ret⟩
def aRI(fw fc f1:Nat):bw:=⟨20,[],[.tmp 8],
 qS [qx 7 1 3,
  qmc 8 (.bool Po)] <|
 qS [qm 9 0,
  qn 10 9,
  qm 11 1,
  qm 12 2,
  qc 13 fw [u 10,u 11,u 12],
  qm 14 13,
  qT 15 14 (om 0),
  qT 16 14 (.mkf f1 [] [(.tmp 7)]),
  qT 17 14 (oc fc [u 15,u 16]),
  qT 18 14 (.un .not (u 17)),
  qp 19 14 18,
  qm 8 19] <|.ret⟩
def aRJ(k:Nat):bw:=⟨8,[],[.tmp 3],
 qS [qx 2 k 0,
  qmc 3 (.bool Po)] <|
 qS [ql 4 1 1,
  qla 5 k 2,
  qq 6 (.dm (u 4) [(.tmp 5)]),
  qq 7 (.un .not (u 6)),
  qm 3 7] <|.ret⟩
def aRK:bw:=⟨8,[],[.tmp 3],qS [qmc 3 (.bool Po)]<|qS [ql 4 1 1,qm 5 0,qq 6 (.dm (u 4) [(.tmp 5)]),qq 7 (.un .not (u 6)),qm 3 7]<|.ret⟩
section
variable {α:Type}{A:af}{k:Nat}{agg:Bool}{enc:α->LA}{ay:LA}{q:α->Bool}{l:List α}{H:LO}{f1:Nat}
abbrev aRL{α:Type}(l:List α):Prop:=l.length<4611686018427387904
abbrev aUw(A:af)(f1:Nat)(ay:LA)(v:α->AV)(q:α->Bool)(l:List α)(H:LO):Prop:=∀a∈l,aG A f1 (v a::ay) H=N1 (.bool (q a),H,[])
def aDa{f:Nat}(hf:A.fn f=N1 (aKx k agg))(hp:A.bq f=N2)(he:mv k agg enc)(hc:jc ay)(hl:aRL l)(h:aUw A f1 ay (λa=>asV agg (enc a)) q l H):aG A f [.sl Po (l.map enc),.fn f1 [] ay] H=N1 (vi (aMW q l),H,[]):=by
 obtain⟨v1,H1,dc,h1,rfl,rfl,rfl⟩:=kN (args:=[.sl Po (l.map enc),.fn f1 [] ay]) (H:=H) (K:=λv' H'' ba=>v'=vi (aMW q l)/\H''=H/\ba=[]) hf (by rw[hp];rfl) (by simp[aKx]) rfT (by
  simp only[aKx];simp only[go_sem,↓aB,seval,AF];refine bJ (id:=0) (λi ρ1 H1 wr=>wr=[]/\H1=H/\ρ1 8=vi i/\∀j (hj:j<i) (hl:j<l.length),q l[j]=Po) l.length
   (λρ1 H1 wr=>wr=[]/\H1=H/\∀j (hl:j<l.length),q l[j]=Po)
   rfT rfl ⟨rfl,siT,rfl,λj hj=>omT⟩ ?_ ?_
  ·rintro i ρ1 H1 dc mg ⟨rfl,rfl,e8,hn⟩ hf;have e0:ρ1 0=.sl Po (l.map enc):=hf 0 rfl;have e1:ρ1 1=.fn f1 [] ay:=hf 1 rfl;have e7:ρ1 7=vi l.length:=hf 7 rfl;simp only[go_sem,↓aB,seval,e8,e7];refine aD (λhb=>?_) (λhb=>?_)
   ·have hlt:i<l.length:=by simpa using hb
    have hg:(l.map enc)[i]? = N1 (enc l[i]):=getElem?_map_of hlt;have gq:(0:Int)<=(i:Int):=omT;have kx:((i:Int)).toNat=i:=omT;have Qe:=wS (i:=i) omT;have az:=h l[i] (AS hlt);cases hq:q l[i]with
    |true=>rw[hq]at az;simp only[go_sem,↓aB,seval,e0,e1,e8,hg,gq,kx,he.len,he.take,he.of,he.dw,he.strip,hc.dw,hc.strip,BI,az];exact (aLT (p:=q) hlt hq λj hj=>hn j hj omT).symm ▸ rfl
    |false=>
     rw[hq]at az;simp only[go_sem,↓aB,seval,e0,e1,e8,hg,gq,kx,he.len,he.take,he.of,he.dw,he.strip,hc.dw,hc.strip,BI,az,Qe];refine⟨hlt,λj hj mo=>?_⟩;by_cases e:j=i
     ·subst e;exact hq
     exact hn j omT mo
   have hi:i=l.length:=by simp at hb;omega
   subst hi;simp only[go_sem,seval];exact λj hj=>hn j hj hj
  rintro ρ' H' ba ⟨rfl,rfl,hn⟩ hf;simp only[go_sem,↓aB,seval,aGq (p:=q) hn])
 exact h1
def aGr{f fi:Nat}(hf:A.fn f=N1 (aLV fi))(hp:A.bq f=N2)(hc:jc ay)(hi:aG A fi [.sl Po (l.map enc),.fn f1 [] ay] H=N1 (vi (aMW q l),H,[])):aG A f [.sl Po (l.map enc),.fn f1 [] ay] H=N1 (.bool (l.any q),H,[]):=by
 obtain⟨v1,H1,dc,h1,rfl,rfl,rfl⟩:=kN (args:=[.sl Po (l.map enc),.fn f1 [] ay]) (H:=H) (K:=λv' H'' ba=>v'=.bool (l.any q)/\H''=H/\ba=[]) hf (by rw[hp];rfl) (by simp[aLV]) rfT (by
  simp only[aLV];simp only[go_sem,↓aB,seval,hi,aLU])
 exact h1
def aO1{f f2:Nat}(hf:A.fn f=N1 (aRJ k))(hp:A.bq f=N2)(he:mv k Pa enc)(hc:jc ay)(h:aUw A f2 ay (λa=>.agg (enc a)) q l H):aUw A f [.ep [.fn f2 [] ay] 0] (λa=>.agg (enc a)) (λa => !q a) l H:=by
 intro a ha;obtain⟨v1,H1,dc,h1,rfl,rfl,rfl⟩:=kN (args:=[.agg (enc a),.ep [.fn f2 [] ay] 0]) (H:=H) (K:=λv' H'' ba=>v'=.bool (!q a)/\H''=H/\ba=[]) hf (by rw[hp];rfl) (by simp[aRJ]) rfT (by
  have hl:=he.dw a H;have bd:=he.strip a;simp only[asV,Zv]at hl bd;have az:=h a ha;simp only[aRJ];simp only[go_sem,↓aB,seval,he.len,he.take,he.still,hl,bd,hc.dw,hc.strip,BI,az])
 exact h1
def aO2{f f2:Nat}(hf:A.fn f=N1 aRK)(hp:A.bq f=N2)(he:mv 1 Po enc)(hc:jc ay)(h:aUw A f2 ay (λa=>asV Po (enc a)) q l H):aUw A f [.ep [.fn f2 [] ay] 0] (λa=>asV Po (enc a)) (λa => !q a) l H:=by
 intro a ha;obtain⟨v1,H1,dc,h1,rfl,rfl,rfl⟩:=kN (args:=[asV Po (enc a),.ep [.fn f2 [] ay] 0]) (H:=H) (K:=λv' H'' ba=>v'=.bool (!q a)/\H''=H/\ba=[]) hf (by rw[hp];rfl) (by simp[aRK]) rfT (by
  have az:=h a ha;simp only[aRK];simp only[go_sem,↓aB,seval,he.dw,he.strip,hc.dw,hc.strip,BI,az])
 exact h1
def aPC{α:Type}{q:α->Bool}{l:List α}:l.any (λa => !q a) = !l.all q:=by
 induction l with
 |nil=>rfl
 |cons a r ih=>rw[List.any_cons,ES,ih,Bool.not_and]
def aPD{g:SN}{f fc g1:Nat}(hf:A.fn f=N1 (aRI (g "c") fc g1))(hp:A.bq f=N2)(hw:eO A g){lo hi:Int}(hl:aRL l) (h:wi l.length lo hi=Pa->aG A fc [.sl Po (l.map enc),.fn g1 [] [.ep [.fn f1 [] ay] 0]] H=N1 (.bool (l.any λa => !q a),H,[])):aG A f [.sl Po (l.map enc),vi lo,vi hi,.fn f1 [] ay] H=N1 (.bool (wi l.length lo hi&&l.all q),H,[]):=by
 obtain⟨v1,H1,dc,h1,rfl,rfl,rfl⟩:=kN (args:=[.sl Po (l.map enc),vi lo,vi hi,.fn f1 [] ay]) (H:=H) (K:=λv' H'' ba=>v'=.bool (wi l.length lo hi&&l.all q)/\H''=H/\ba=[]) hf (by rw[hp];rfl) (by simp[aRI]) rfT (by
  simp only[aRI];have dy:=hw l.length lo hi;cases e:wi l.length lo hi with
  |false=>rw[e]at dy;simp only[go_sem,↓aB,seval,AF,dy,BB,BQ]
  |true=>
   rw[e]at dy;have hh:=h e;rw[aPC]at hh;simp only[go_sem,↓aB,seval,AF,dy,Zz,BR,hh,PE])
 exact h1
end
structure fe(A:af)(g:SN)(k:Nat)(agg:Bool)(fa:Nat):Prop where
 ex:∃fc fi f1,(A.fn fa=N1 (aRI (g "c") fc f1)/\A.bq fa=N2)/\(A.fn fc=N1 (aLV fi)/\A.bq fc=N2)/\(A.fn fi=N1 (aKx k agg)/\A.bq fi=N2) /\
  (A.fn f1=N1 (if agg then aRJ k else aRK)/\A.bq f1=N2)
def fe.spec{α:Type}{A:af}{g:SN}{k:Nat}{agg:Bool}{fa:Nat}(h:fe A g k agg fa)(hw:eO A g){enc:α->LA}(he:mv k agg enc){ay:LA}(hc:jc ay){l:List α}(hl:aRL l){H:LO}{f1:Nat}{q:α->Bool}{lo hi:Int} (hs:wi l.length lo hi=Pa->aUw A f1 ay (λa=>asV agg (enc a)) q l H):aG A fa [.sl Po (l.map enc),vi lo,vi hi,.fn f1 [] ay] H=N1 (.bool (wi l.length lo hi&&l.all q),H,[]):=by
 obtain⟨fc,fi,g1,⟨a1,a2⟩,⟨b1,b2⟩,⟨c1,c2⟩,⟨d1,d2⟩⟩:=h.ex;refine aPD a1 a2 hw hl λe=>aGr b1 b2 (cQ.ep _ _) (aDa c1 c2 he (cQ.ep _ _) hl ?_);cases agg with
 |true=>exact aO1 d1 d2 he hc (hs e)
 |false=>have:=he.one rfl;subst this;exact aO2 d1 d2 he hc (hs e)
def xN(g:SN):bw:=⟨12,[],[.tmp 6],qS [qmc 6 (.bool Po)]<|qS [qm 7 0,qq 8 (.conv .s2b (u 7)),qm 9 1,qm 10 2,qc 11 (g "aT") [u 8,u 9,u 10,uf (g "ap")],qm 6 11]<|.ret⟩
def nK(g:SN):bw:=⟨9,[],[.tmp 2],qS [qmc 2 (.bool Po)]<|qS [qm 3 0,qq 4 (.bin .geq .no (u 3) (uc (.int .u8 32))),qm 5 4,qT 6 5 (om 0),qT 7 5 (.bin .leq .no (u 6) (uc (.int .u8 126))),qp 8 5 7,qm 2 8]<|.ret⟩
def aCm(g:SN):bw:=⟨6,[],[.tmp 4],qS [qx 2 1 0,qx 3 1 1,qmc 4 .bx]<|qS [qq 5 (.mkf (g "ar") [] [(.tmp 2),(.tmp 3)]),qm 4 5]<|.ret⟩
def xO(g:SN):bw:=⟨9,[],[.tmp 4],qS [qmc 4 (.bool Po)]<|qS [qm 5 0,ql 6 1 1,ql 7 1 2,qc 8 (g "T") [u 5,u 6,u 7],qm 4 8]<|.ret⟩
abbrev aFf(g:SN):List ae:=[qm 4 0,⟨N1 5,.bin .neq .no (u 4) (uc (.str [])),N2,[0]⟩,⟨N1 6,om 5,N2,[1,0]⟩,⟨N1 7,ol 1 3,N1 (N1 6,Pa),[2,1,0]⟩,⟨N1 8,om 0,N1 (N1 6,Pa),[2,1,0]⟩,⟨N1 9,.ixS (u 8) (ui 0),N1 (N1 6,Pa),[4,2,1,0]⟩,⟨N1 10,.dm (u 7) [(.tmp 9)],N1 (N1 6,Pa),[3,5,4,2,1,0]⟩,⟨N1 11,op 6 10,N2,[6,3,5,4,2,1,0]⟩,⟨N1 12,om 11,N2,[7,6,3,5,4,2,1,0]⟩,⟨N1 13,om 0,N1 (N1 12,Pa),[8,7,6,3,5,4,2,1,0]⟩,⟨N1 14,.conv .s2b (u 13),N1 (N1 12,Pa),[9,8,7,6,3,5,4,2,1,0]⟩,⟨N1 15,.mkf (g "al") [] [(.tmp 3)],N1 (N1 12,Pa),[8,7,6,3,5,4,2,1,0]⟩,⟨N1 16,oc (g "aT") [u 14,ui 1,ui 16,u 15],N1 (N1 12,Pa),[10,9,11,8,7,6,3,5,4,2,1,0]⟩,⟨N1 17,op 12 16,N2,[12,10,9,11,8,7,6,3,5,4,2,1,0]⟩,⟨N1 2,om 17,N2,[13,12,10,9,11,8,7,6,3,5,4,2,1,0]⟩]
abbrev mE:LN:=[]
def xP(g:SN):bw:=⟨18,[3],[.tmp 2],qS [qmc 2 (.bool Po)]<|qS [qq 3 (.alloc [.bx]),qz (.store 1 (u 3) (uf (g "G")))]<|.seq (.region Pa (aFf g))<|.ret⟩
def kP(g:SN):bw:=⟨9,[],[.tmp 2],qS [qmc 2 (.bool Po)]<|qS [qm 3 0,qq 4 (.bin .geq .no (u 3) (uc (.int .u8 97))),qm 5 4,qT 6 5 (om 0),qT 7 5 (.bin .leq .no (u 6) (uc (.int .u8 122))),qp 8 5 7,qm 2 8]<|.ret⟩
def nL(g:SN):bw:=⟨15,[],[.tmp 3],qS [qmc 3 (.bool Po)]<|qS [ql 4 1 1,qm 5 0,qq 6 (.dm (u 4) [(.tmp 5)]),qm 7 6,qF 8 7 (om 0),qF 9 7 (.bin .geq .no (u 8) (uc (.int .u8 48))),qF 10 7 (om 9),qT 11 10 (om 0),qT 12 10 (.bin .leq .no (u 11) (uc (.int .u8 57))),qF 13 7 (op 10 12),qq 14 (.pick (u 7) uT (u 13)),qm 3 14]<|.ret⟩
def xQ(g:SN):bw:=⟨16,[],[.tmp 2],qS [qx 1 3 0,qmc 2 (.bool Po)]<|qS [qf 3 0 1,ql 4 1 3,qc 5 (g "c") [u 4,ui (-1),ui 48],qm 6 5,qT 7 6 (of 1 1),qT 8 6 (ol 1 7),qT 9 6 (oc (g "c") [u 8,ui 0,ui 4]),qp 10 6 9,qm 11 10,qT 12 11 (of 2 1),qT 13 11 (ol 1 12),qT 14 11 (oc (g "c") [u 13,ui (-1),ui 1]),qp 15 11 14,qm 2 15]<|.ret⟩
def tV(g:SN):bw:=⟨11,[],[.tmp 2],qS [qx 1 2 0,qmc 2 (.bool Po)]<|qS [qf 3 0 1,ql 4 1 3,qc 5 (g "c") [u 4,ui 0,ui 2],qm 6 5,qT 7 6 (of 1 1),qT 8 6 (ol 1 7),qT 9 6 (oc (g "cr") [u 8,ui 1,ui 12,uf (g "ao")]),qp 10 6 9,qm 2 10]<|.ret⟩
def mF(g:SN):bw:=⟨11,[],[.tmp 2],qS [qx 1 2 0,qmc 2 (.bool Po)]<|qS [qf 3 0 1,ql 4 1 3,qc 5 (g "c") [u 4,ui 0,ui 1000],qm 6 5,qT 7 6 (of 1 1),qT 8 6 (ol 1 7),qT 9 6 (oc (g "c") [u 8,ui 0,ui 1000]),qp 10 6 9,qm 2 10]<|.ret⟩
@[go_sem] def aZB{H:LO}{l:List UInt8}:pT H .s2b (.str l)=if l.length<=1099511627776 then N1 (.sl Po (aJ l))else none:=(rfl)
@[go_sem] def aZC{n f:Nat}{a b:LA}:AV.under n (.fn f a b)=(dJ n a&&dJ n b):=(rfl)
@[go_sem] def aZD{n o:Nat}{r:LA}:AV.under n (.ep r o)=dJ n r:=(rfl)
@[go_sem] def bAZ{base f:Nat}{H:LO}{a b:LA}:aDR base H (.fn f a b)=N1 (.fn f a b,H,[]):=(rfl)
@[go_sem] def aUF{base t u:Nat}{ρ:bN}{H:LO}{wr:LN}:iE base [.tmp t,.tmp u] ρ H wr=match aBv H [ρ t,ρ u]with
  |some (vs',H',l)=>N1 (.tup vs',H',bE base wr l)
  |none=>none:=by
 simp only[iE,aEP,aNP];rfl
attribute [go_sem] aBv
def aRV(b:UInt8):LA:=[.int .u8 b.toNat]
def aMY:mv 1 Po aRV:=⟨λ_=>rfl,λ_=>rfl,λ_=>rfl⟩
def aLX:mv 1 Po bF:=⟨λ_=>rfl,aU,λ_=>rfl⟩
def aUG:mv 1 Po aN:=⟨λ_=>rfl,bO,λ_=>rfl⟩
def aUH:mv 1 Po bY:=⟨λ_=>rfl,cU,λ_=>rfl⟩
def aLY:mv 1 Po gH:=⟨λ_=>rfl,aFA,λ_=>rfl⟩
def aJk:mv 1 Po bS:=⟨λ_=>rfl,cR,λ_=>rfl⟩
def aUI:mv 2 Pa cZ:=⟨λ_=>rfl,cA,λh=>by cases h⟩
def aGu:mv 2 Pa bL:=⟨λ_=>rfl,aIq,λh=>by cases h⟩
def aKE:mv 2 Pa aH:=⟨λ_=>rfl,bW,λh=>by cases h⟩
def aMZ:mv 3 Pa bV:=⟨λ_=>rfl,aD9,λh=>by cases h⟩
def lF:mv 4 Pa aI:=⟨λ_=>rfl,eL,λh=>by cases h⟩
def aY1:mv 7 Pa gR:=⟨λ_=>rfl,aBI,λh=>by cases h⟩
def aJl:mv 4 Pa aO:=⟨λ_=>rfl,dV,λh=>by cases h⟩
def bT:mv 13 Pa aE:=⟨cF,bG,λh=>by cases h⟩
def dX:mv 3 Pa aF:=⟨dP,aV,λh=>by cases h⟩
def chB(c:UInt8):Bool:=decide ((c.toNat:Int) ≥ 32)&&decide ((c.toNat:Int)<=126)
def aUJ(c:UInt8):Bool:=decide ((c.toNat:Int) ≥ 97)&&decide ((c.toNat:Int)<=122)
def aKF(c:UInt8):Bool:=aUJ c || (decide ((c.toNat:Int) ≥ 48)&&decide ((c.toNat:Int)<=57))
def vP(lo hi:Int)(s:Str):Bool:=wi s.length lo hi&&s.all chB
def aO7:Str->Bool
 | []=>Po
 |c::r=>aUJ c&&(wi ((c::r).length:Nat) 1 16&&(c::r).all aKF)
def aGv(n:ct):Bool:=wi n.step (-1) 48&&wi n.length 0 4&&wi n.alter (-1) 1
def aKG(p:Int×Int):Bool:=wi p.1 0 1000&&wi p.2 0 1000
def vQ(s:Shape):Bool:=wi s.kind 0 2&&(wi s.points.length 1 12&&s.points.all aKG)
section
variable {A:af}{g:SN}
def aUK(h:Has A g "ap" (nK g))(c:UInt8)(H:LO):aG A (g "ap") [.int .u8 c.toNat] H=N1 (.bool (chB c),H,[]):=by
 refine h.call ?_;simp only[nK,chB];cases e1:decide ((c.toNat:Int) ≥ 32)with
 |false=>simp only[go_sem,↓aB,seval,e1,BQ,BB]
 |true=>simp only[go_sem,↓aB,seval,e1,BR,Zz]
abbrev aFB(A:af)(g:SN):Prop:=∀(s:Str) (lo hi:Int) (H:LO),s.length<=1000000->aG A (g "T") [.str s,vi lo,vi hi] H=N1 (.bool (vP lo hi s),H,[])
def qW(h:Has A g "T" (xN g))(h1:Has A g "ap" (nK g))(ha:fe A g 1 Po (g "aT"))(hw:eO A g):aFB A g:=by intro s lo hi H hs;refine h.call ?_;have hc:=ha.spec hw aMY cQ (l:=s) (H:=H) (f1:=g "ap") (q:=chB) (lo:=lo) (hi:=hi) (by show s.length<_;omega) λ_ c _=>aUK h1 c H;simp only[xN];simp only[go_sem,↓aB,seval,show s.length<=1099511627776 by omega];rw[show aJ s=s.map aRV from rfl,hc];simp only[go_sem,↓aB,seval,vP]
def aDb(h:Has A g "U" (aCm g))(lo hi:Int)(H:LO):aG A (g "U") [vi lo,vi hi] H=N1 (.fn (g "ar") [] [.ep [vi lo] 0,.ep [vi hi] 0],H,[]):=by refine h.call ?_;simp only[aCm];simp only[go_sem,↓aB,seval]
def aO8(h:Has A g "ar" (xO g))(ht:aFB A g)(s:Str)(lo hi:Int)(H:LO)(hs:s.length<=1000000):aG A (g "ar") [.str s,.ep [vi lo] 0,.ep [vi hi] 0] H=N1 (.bool (vP lo hi s),H,[]):=by refine h.call ?_;simp only[xO];simp only[go_sem,↓aB,seval,ht s lo hi H hs]
def aN0(h:Has A g "G" (kP g))(c:UInt8)(H:LO):aG A (g "G") [.int .u8 c.toNat] H=N1 (.bool (aUJ c),H,[]):=by
 refine h.call ?_;simp only[kP,aUJ];cases e1:decide ((c.toNat:Int) ≥ 97)with
 |false=>simp only[go_sem,↓aB,seval,e1,BQ,BB]
 |true=>simp only[go_sem,↓aB,seval,e1,BR,Zz]
def aLZ(h:Has A g "al" (nL g))(hl:Has A g "G" (kP g))(c:UInt8){H:LO}{o v:Nat}(ho:H[o]? = N1 (.box v [.fn (g "G") [] []])):aG A (g "al") [.int .u8 c.toNat,.ptr o v 0] H=N1 (.bool (aKF c),H,[]):=by
 refine h.call ?_;have hc:=aN0 hl c H;simp only[nL,aKF];cases e0:aUJ c with
 |true=>rw[e0]at hc;simp only[go_sem,↓aB,seval,ho,AJ,hc,CE,EP]
 |false=>
  rw[e0]at hc;cases e1:decide ((c.toNat:Int) ≥ 48)with
  |false=>simp only[go_sem,↓aB,seval,ho,AJ,hc,e1,II,BQ,Zz,BB]
  |true=>simp only[go_sem,↓aB,seval,ho,AJ,hc,e1,II,BR,Zz]
def aGw(h:Has A g "bJ" (xP g))(h1:Has A g "G" (kP g))(h2:Has A g "al" (nL g))(ha:fe A g 1 Po (g "aT"))(hw:eO A g) (s:Str) (H:LO) (hs:s.length<=1000000):aG A (g "bJ") [.str s] H=N1 (.bool (aO7 s),H,[]):=by
 refine h.call ?_;simp only[xP];simp only[go_sem,↓aB,seval];refine aY (aq:=mE) rfT rfT ?_;by_cases h0:s=[]
 ·subst h0;simp only[go_sem,↓aB,seval,mE,aO7,Zz,BB,bne,BT]
 obtain⟨c,r,Fb⟩:=ER h0;have bl:(s != ([]:Str))=true:=by rw[Fb];rfl
 have hg:s[0]? = N1 c:=by rw[Fb];rfl
 have yh:aO7 s=(aUJ c&&(wi s.length 1 16&&s.all aKF)):=by rw[Fb];rfl
 have hl:=aN0 h1 c (H++[.box 1 [.fn (g "G") [] []]]);have hc:=ha.spec hw aMY (cQ.ptr H.length 1 0) (l:=s) (H:=H++[.box 1 [.fn (g "G") [] []]]) (f1:=g "al") (q:=aKF) (lo:=1) (hi:=16) (by show s.length<_;omega)
  λ_ c _=>aLZ h2 h1 c (o:=H.length) (v:=1) siT
 have ax:s.length<=1099511627776:=omT;have cn:aJ s=s.map aRV:=rfl;rw[yh];cases e:aUJ c with
 |false=>rw[e]at hl;simp only[go_sem,↓aB,seval,mE,hl,bl,hg,BQ,Zz,BB]
 |true=>rw[e]at hl;simp only[go_sem,↓aB,seval,mE,hl,bl,hg,BR,Zz,ax,cn,hc]
def aM0(h:Has A g "aX" (xQ g))(hw:eO A g)(n:ct)(H:LO):aG A (g "aX") [.agg (bV n)] H=N1 (.bool (aGv n),H,[]):=by
 refine h.call ?_;simp only[xQ,aGv];have h1:=λH=>hw n.step (-1) 48 H;have h2:=λH=>hw n.length 0 4 H;have h3:=λH=>hw n.alter (-1) 1 H;cases e1:wi n.step (-1) 48 with
 |false=>simp only[go_sem,↓aB,seval,bV,h1,e1,BQ,BB]
 |true=>cases e2:wi n.length 0 4 with
  |false=>simp only[go_sem,↓aB,seval,bV,h1,h2,e1,e2,BQ,BR,Zz,BB]
  |true=>simp only[go_sem,↓aB,seval,bV,h1,h2,h3,e1,e2,BR,Zz]
def aKH(h:Has A g "ao" (mF g))(hw:eO A g)(p:Int×Int)(H:LO):aG A (g "ao") [.agg (bL p)] H=N1 (.bool (aKG p),H,[]):=by
 refine h.call ?_;simp only[mF,aKG];have h1:=λH=>hw p.1 0 1000 H;have h2:=λH=>hw p.2 0 1000 H;cases e1:wi p.1 0 1000 with
 |false=>simp only[go_sem,↓aB,seval,bL,h1,e1,BQ,BB]
 |true=>simp only[go_sem,↓aB,seval,bL,h1,h2,e1,BR,Zz]
def aKI(h:Has A g "ba" (tV g))(h1:Has A g "ao" (mF g))(ha:fe A g 2 Pa (g "cr"))(hw:eO A g)(s:Shape)(hs:s.points.length<=1000000)(H:LO):aG A (g "ba") [.agg (aH s)] H=N1 (.bool (vQ s),H,[]):=by
 refine h.call ?_;simp only[tV,vQ];have hk:=λH=>hw s.kind 0 2 H;have hc:=ha.spec hw aGu cQ (l:=s.points) (H:=H) (f1:=g "ao") (q:=aKG) (lo:=1) (hi:=12) (by show s.points.length<_;omega) λ_ p _=>aKH h1 hw p H;cases e1:wi s.kind 0 2 with
 |false=>simp only[go_sem,↓aB,seval,aH,hk,e1,BQ,BB]
 |true=>simp only[go_sem,↓aB,seval,aH,hk,hc,e1,BR,Zz]
end
abbrev aFg(g:SN):List ae:=[qm 9 3,⟨N1 10,obi .gtr 9 0,N2,[0]⟩,⟨N1 11,om 10,N2,[1,0]⟩,⟨N1 12,om 0,N1 (N1 11,Pa),[2,1,0]⟩,⟨N1 13,om 3,N1 (N1 11,Pa),[2,1,0]⟩,⟨N1 14,oi 12 13 2,N1 (N1 11,Pa),[3,4,2,1,0]⟩,⟨N1 15,of 0 14,N1 (N1 11,Pa),[5,3,4,2,1,0]⟩,⟨N1 16,ol 1 15,N1 (N1 11,Pa),[6,5,3,4,2,1,0]⟩,⟨N1 17,om 0,N1 (N1 11,Pa),[2,1,0]⟩,⟨N1 18,om 3,N1 (N1 11,Pa),[2,1,0]⟩,⟨N1 19,obi .sub 18 1,N1 (N1 11,Pa),[9,2,1,0]⟩,⟨N1 20,oi 17 19 2,N1 (N1 11,Pa),[8,10,9,2,1,0]⟩,⟨N1 21,of 0 20,N1 (N1 11,Pa),[11,8,10,9,2,1,0]⟩,⟨N1 22,ol 1 21,N1 (N1 11,Pa),[12,11,8,10,9,2,1,0]⟩,⟨N1 23,ob .eql 16 22,N1 (N1 11,Pa),[7,6,5,3,4,13,12,11,8,10,9,2,1,0]⟩,⟨N1 24,op 11 23,N2,[14,7,6,5,3,4,13,12,11,8,10,9,2,1,0]⟩]
abbrev mH:LN:=[]
abbrev aFh(g:SN):ag:=qS [qb 7 .lss 6 5]<|.seq (qC 7 (.skip) (.exit 0))<|.seq (.block 1 (qS [qm 8 6,qm 3 8]<|.seq (.region Pa (aFg g))<|qC 24 (qS [qmc 2 (.bool Po)]<|.ret) (.skip)))<|.region Po [qbi 25 .add 6 1,qm 6 25]
def xR(g:SN):bw:=⟨28,[],[.tmp 2],qS [qmc 2 (.bool Po)]<|.seq (qS [qm 4 0,qn 5 4,qmc 6 z0]<|.block 0 (.loop (aFh g)))<|qS [qm 26 0,qc 27 (g "cs") [u 26,ui 1,ui 8,uf (g "an")],qm 2 27]<|.ret⟩
def nM(g:SN):bw:=⟨11,[],[.tmp 2],qS [qx 1 2 0,qmc 2 (.bool Po)]<|qS [qf 3 0 1,ql 4 1 3,qc 5 (g "c") [u 4,ui 0,ui 1],qm 6 5,qT 7 6 (of 1 1),qT 8 6 (ol 1 7),qT 9 6 (oc (g "T") [u 8,ui 1,ui 200]),qp 10 6 9,qm 2 10]<|.ret⟩
def aBJ(g:SN):ag:=.block 0 (.seq (qS [qbi 5 .eql 3 0,qm 4 5]<|qC 4 (.skip) (qR [qbi 6 .eql 3 1,qm 4 6]))<|qC 4 (qS [qmc 2 z0]<|.ret) (.seq (qS [qbi 8 .eql 3 2,qm 7 8]<|qC 7 (.skip) (qR [qbi 9 .eql 3 8,qm 7 9]))<|qC 7 (qS [qmc 2 (vi 1)]<|.ret) (.skip)))
def xS(g:SN):bw:=⟨10,[],[.tmp 2],qS [qmc 2 z0]<|.seq (qS [qm 3 0]<|aBJ g)<|qS [qmc 2 (vi 2)]<|.ret⟩
def zH(g:SN):ag:=.block 0 (qS [qbi 15 .eql 13 0,qm 14 15]<|qC 14 (qR [qmc 6 (vi 999999)]) (qS [qbi 17 .eql 13 1,qm 16 17]<|qC 16 (qR [qmc 6 (vi 25)]) (.skip)))
abbrev aFi(g:SN):List ae:=[qm 18 1,⟨N1 19,obi .gtr 18 16,N2,[0]⟩,⟨N1 20,om 19,N2,[1,0]⟩,⟨N1 21,of 0 2,N1 (N1 20,Po),[2,1,0]⟩,⟨N1 22,ol 1 21,N1 (N1 20,Po),yq3⟩,⟨N1 23,oc (g "c") [u 22,ui 0,ui 10],N1 (N1 20,Po),yq4⟩,⟨N1 24,.un .not (u 23),N1 (N1 20,Po),yq5⟩,⟨N1 25,.pick (u 20) uT (u 24),N2,yq6⟩,⟨N1 26,om 25,N2,yq7⟩,⟨N1 27,of 1 2,N1 (N1 26,Po),yq8⟩,⟨N1 28,ol 1 27,N1 (N1 26,Po),yq9⟩,⟨N1 29,om 6,N1 (N1 26,Po),yq8⟩,⟨N1 30,oc (g "c") [u 28,ui 0,u 29],N1 (N1 26,Po),10::9::11::yq8⟩,⟨N1 31,.un .not (u 30),N1 (N1 26,Po),12::10::9::11::yq8⟩,⟨N1 32,.pick (u 26) uT (u 31),N2,13::12::10::9::11::yq8⟩,⟨N1 33,om 32,N2,14::13::12::10::9::11::yq8⟩,⟨N1 34,of 2 2,N1 (N1 33,Po),15::14::13::12::10::9::11::yq8⟩,⟨N1 35,ol 1 34,N1 (N1 33,Po),16::15::14::13::12::10::9::11::yq8⟩,⟨N1 36,on 35,N1 (N1 33,Po),17::16::15::14::13::12::10::9::11::yq8⟩,⟨N1 37,of 0 2,N1 (N1 33,Po),15::14::13::12::10::9::11::yq8⟩,⟨N1 38,ol 1 37,N1 (N1 33,Po),19::15::14::13::12::10::9::11::yq8⟩,⟨N1 39,oc (g "bb") [u 38],N1 (N1 33,Po),20::19::15::14::13::12::10::9::11::yq8⟩,⟨N1 40,ob .neq 36 39,N1 (N1 33,Po),18::17::16::21::20::19::15::14::13::12::10::9::11::yq8⟩,⟨N1 41,.pick (u 33) uT (u 40),N2,22::18::17::16::21::20::19::15::14::13::12::10::9::11::yq8⟩]
abbrev gL:LN:=[17,21]
abbrev aFj(g:SN):ag:=qS [qb 46 .lss 45 44]<|.seq (qC 46 (.skip) (.exit 1))<|.seq (.block 2 (qS [qi 47 43 45 3,qla 48 3 47,qq 9 (.alloc [z0,z0,(.sl Pa [])]),qs 3 9 48]<|qS [qla 50 3 9,qm 51 1,qbi 52 .add 51 1,qc 53 (g "aV") [u 50,u 52],qm 49 53,qq 54 (.ext 0 (u 49)),qq 55 (.ext 1 (u 49)),qm 10 54,qm 11 55]<|.seq (qS [qm 56 11,qq 57 (.un .not (u 56))]<|qC 57 (qS [qmc 4 z0,qmc 5 (.bool Po)]<|.ret) (.skip))<|.region Po [qm 58 7,qm 59 10,qb 60 .add 58 59,qm 7 60]))<|.region Po [qbi 61 .add 45 1,qm 45 61]
def xT(g:SN):bw:=⟨65,[9],[.tmp 4,.tmp 5],qS [qx 2 3 0,qmc 4 z0,qmc 5 (.bool Po)]<|qS [qmc 6 z0]<|.seq (qS [qf 12 0 2,ql 13 1 12]<|zH g)<|.seq (.seq (.region Pa (aFi g))<|qC 41 (qS [qmc 4 z0,qmc 5 (.bool Po)]<|.ret) (.skip))<|qS [qmc 7 (vi 1)]<|.seq (qS [qf 42 2 2,ql 43 1 42,qn 44 43,qmc 45 z0]<|.block 1 (.loop (aFj g)))<|qS [qm 62 7,qm 63 7,qbi 64 .leq 63 256,qm 4 62,qm 5 64]<|.ret⟩
def aAp(g:SN):bw:=⟨7,[],[.tmp 2],qS [qx 1 1 0,qmc 2 (.bool Po)]<|qS [qf 3 0 1,ql 4 1 3,qq 5 (.mkf (g "bH") [] [(.tmp 1)]),qc 6 (g "cT") [u 4,ui 1,ui 2,u 5],qm 2 6]<|.ret⟩
def vR(g:SN):bw:=⟨16,[],[.tmp 3],qS [qmc 3 (.bool Po)]<|qS [qm 4 0,qn 5 4,qf 6 0 1,ql 7 1 6,qq 8 (.iaV (u 7) (ui 0) 1),ql 9 1 8,qn 10 9,qb 11 .eql 5 10,qm 12 11,qT 13 12 (om 0),qT 14 12 (oc (g "cU") [u 13,ui 1,ui 32,uf (g "bI")]),qp 15 12 14,qm 3 15]<|.ret⟩
def qX(g:SN):bw:=⟨5,[],[.tmp 2],qS [qmc 2 (.bool Po)]<|qS [qm 3 0,qc 4 (g "cY") [u 3,ui 1,ui 16,uf (g "aX")],qm 2 4]<|.ret⟩
section
variable {A:af}{g:SN}
def sY(l:List mr)(i:Nat):Int:=((l[i]?).map mr.gg).getD 0
def aWm(l:List mr):Bool:=(GZ (l.length - 1)).all λi=>sY l (i+1) != sY l i
def aUL(r:mr):Bool:=wi r.gg 0 1&&vP 1 200 r.text
def aGx(l:List mr):Bool:=aWm l&&(wi l.length 1 8&&l.all aUL)
def aIs{l:List mr}{i:Nat}(h:i<l.length):sY l i=l[i].gg:=by unfold sY;rw[AP h];rfl
def aRW(h:Has A g "an" (nM g))(hw:eO A g)(ht:aFB A g)(r:mr)(hr:r.text.length<=1000000)(H:LO):aG A (g "an") [.agg (cZ r)] H=N1 (.bool (aUL r),H,[]):=by
 refine h.call ?_;simp only[nM,aUL];have h1:=λH=>hw r.gg 0 1 H;have h2:=λH=>ht r.text 1 200 H hr;cases e1:wi r.gg 0 1 with
 |false=>simp only[go_sem,↓aB,seval,cZ,h1,e1,BQ,BB]
 |true=>simp only[go_sem,↓aB,seval,cZ,h1,h2,e1,BR,Zz]
def aGy(h:Has A g "aZ" (xR g))(h1:Has A g "an" (nM g))(ha:fe A g 2 Pa (g "cs"))(hw:eO A g)(ht:aFB A g) (l:List mr) (hl:l.length<=1000000) (hr:∀r∈l,r.text.length<=1000000) (H:LO):aG A (g "aZ") [.sl Po (l.map cZ)] H=N1 (.bool (aGx l),H,[]):=by
 refine h.call ?_;have hc:=ha.spec hw aUI cQ (l:=l) (H:=H) (f1:=g "an") (q:=aUL) (lo:=1) (hi:=8) (by show l.length<_;omega) λ_ r hm=>aRW h1 hw ht r (hr r hm) H;simp only[xR];simp only[go_sem,↓aB,seval,AF];refine bJ (id:=0) (λi ρ1 H1 wr=>wr=[]/\H1=H/\ρ1 6=vi i/\∀j,j+1<i->sY l (j+1)≠sY l j) l.length
  (λρ1 H1 wr=>wr=[]/\H1=H/\∀j,j+1<l.length->sY l (j+1)≠sY l j)
  cB rfl ⟨rfl,siT,rfl,λj hj=>omT⟩ ?_ ?_
 ·rintro i ρ1 H1 dc mg ⟨rfl,rfl,e6,hn⟩ hf;have e0:ρ1 0=.sl Po (l.map cZ):=hf 0 rfl;have e5:ρ1 5=vi l.length:=hf 5 rfl;simp only[go_sem,↓aB,seval,e6,e5];refine aD (λhb=>?_) (λhb=>?_)
  ·have hlt:i<l.length:=by simpa using hb
   have Qe:=wS (i:=i) omT;have Ih:(l.map cZ)[i]? = N1 [vi (sY l i),.str l[i].text]:=by rw[getElem?_map_of hlt,aIs hlt];rfl
   simp only[go_sem,↓aB,seval];refine aY (aq:=mH) rfT rfT ?_;cases i with
   |zero=>simp only[go_sem,↓aB,seval,mH,e6,BB,Int.ofNat_zero,Dd,decide_false];exact⟨hlt,by rw[wrap_i64 deT deT],λj hj=>omT⟩
   |succ i=>
    have V8:decide (((i+1:Nat):Int)>0)=true:=by rw[decide_eq_true_eq];omega
    have dy:AR.wrap (((i+1:Nat):Int) - 1)=(i:Int):=by rw[wrap_i64 omT omT];omega
    have Ii:(l.map cZ)[i]? = N1 [vi (sY l i),.str (l[i]'omT).text]:=by rw[getElem?_map_of omT,aIs omT];rfl
    have gq:(0:Int)<=((i+1:Nat):Int):=omT;have lx:(0:Int)<=(i:Int):=omT;have kx:(((i+1:Nat):Int)).toNat=i+1:=omT;have zt:((i:Int)).toNat=i:=omT;cases hq:(sY l (i+1)==sY l i)with
    |true=>
     have hb:aGx l=false:=by
      have:aWm l=false:=by rw[JJ];intro hc;unfold aWm at hc;rw[AO]at hc;have:=hc i soT;simp at this hq;exact this hq
      unfold aGx;rw[this,BQ]
     simp only[go_sem,↓aB,seval,mH,e0,e6,Zz,V8,Ih,Ii,gq,lx,kx,zt,dy,hq,hb]
    |false=>
     simp only[go_sem,↓aB,seval,mH,e0,e6,Zz,V8,Ih,Ii,gq,lx,kx,zt,dy,hq,Qe];refine⟨hlt,λj hj=>?_⟩;by_cases e:j=i
     ·subst e;simpa using hq
     exact hn j omT
  have hi:i=l.length:=by simp at hb;omega
  subst hi;simp only[go_sem,seval];exact λj hj=>hn j hj
 rintro ρ' H' ba ⟨rfl,rfl,hn⟩ hf;have e0:ρ' 0=.sl Po (l.map cZ):=hf 0 rfl;have Fc:aWm l=true:=by unfold aWm;rw[AO];intro j hj;have:=hn j (by simp at hj;omega);simpa using this
 simp only[go_sem,↓aB,seval,e0,hc,aGx,Fc,BR]
def aAq(op:Int):Int:=if op=0 then 999999 else if op=1 then 25 else 0
def aCn(op:Int):Nat:=if op=0∨op=1 then 0 else if op=2∨op=8 then 1 else 2
def aPI(h:Has A g "bb" (xS g))(op:Int)(H:LO):aG A (g "bb") [vi op] H=N1 (vi (aCn op),H,[]):=by
 refine h.call ?_;simp only[xS,aBJ,aCn];by_cases e0:op=0
 ·subst e0;simp only[go_sem,↓aB,seval,true_or]
 by_cases e1:op=1
 ·subst e1;simp only[go_sem,↓aB,seval,or_true]
 have n0:(op==0)=false:=by simpa using e0
 have n1:(op==1)=false:=by simpa using e1
 by_cases e2:op=2
 ·subst e2;simp only[go_sem,↓aB,seval,or_self,true_or]
 by_cases e8:op=8
 ·subst e8;simp only[go_sem,↓aB,seval,or_self,or_true]
 have n2:(op==2)=false:=by simpa using e2
 have n8:(op==8)=false:=by simpa using e8
 simp only[go_sem,↓aB,seval,n0,n1,n2,n8,e0,e1,e2,e8,or_self]
mutual
def exS:Expr->Int->Nat×Bool
 |.mk op n ks,d=>if ((decide (d>16) || !wi op 0 10) || !wi n 0 (aAq op)) || ((ks.length:Int) != (aCn op:Int))then (0,Po)else match exL ks (d+1) 1 with
  |some s=>(s,decide ((s:Int)<=256))
  |none=>(0,Po)
def exL:List Expr->Int->Nat->Option Nat
 | [],_,s=>N1 s
 |k::r,d,s=>match exS k d with
  | (m,Pa)=>exL r d (s+m)
  | (_,Po)=>N2
end
def aT7{e:Expr}{d:Int}(h:(exS e d).2=Pa):(exS e d).1<=256:=by
 obtain⟨op,n,ks⟩:=e;unfold exS at h ⊢;split
 ·exact FF _
 rename_i hc;rw[Zx hc]at h;cases hx:exL ks (d+1) 1 with
 |none=>exact FF _
 |some s=>rw[hx]at h;simp at h ⊢;omega
mutual
def aN1:∀(e:Expr) (d:Int),(exS e d).2=Pa->(exS e d).1=gY e
 |.mk op n ks,d,h=>by
  unfold exS at h ⊢;split at h
  ·cases h
  rename_i hc;rw[Zx hc];cases hx:exL ks (d+1) 1 with
  |none=>rw[hx]at h;cases h
  |some s=>have:=aN2 ks (d+1) 1 s hx;show s=cP ks+1;omega
def aN2:∀(l:List Expr) (d:Int) (s t:Nat),exL l d s=N1 t->t=s+cP l
 | [],d,s,t,h=>by
  unfold exL at h;cases h;rfl
 |k::r,d,s,t,h=>by
  unfold exL at h;split at h
  ·rename_i m hm;have h1:=aN2 r d _ _ h;have h2:=aN1 k d (by rw[hm]);rw[hm]at h2;have h2:m=gY k:=h2;show t=s+(gY k+cP r);omega
  cases h
end
def aN3(op:Int):aCn op<=2:=by unfold aCn;split<;>(try split)<;>omega
def aM1(h:Has A g "aV" (xT g))(hk:Has A g "bb" (xS g))(hw:eO A g):∀(n:Nat) (e:Expr) (d:Int) (H:LO),SizeOf.sizeOf e<n->e.Ok->0<=d->d<=1000000 ->aG A (g "aV") [.agg (aF e),vi d] H=N1 (.tup [vi (exS e d).1,.bool (exS e d).2],H,[]):=by
 intro n
 induction n with
 |zero=>intro e d H hs;omega
 |succ n ih=>
  intro e d H hs he Cr Oh;obtain⟨op,m,ks⟩:=e;obtain⟨_,_,_,_,_,zp,E7⟩:=he;refine h.call ?_;simp only[xT];have gd:∀k∈ks,SizeOf.sizeOf k<n:=λk hm=>by
   have:=GY hm;simp only[Expr.mk.sizeOf_spec]at hs;omega
  simp only[go_sem,↓aB,seval,aF,aZ];refine aPw (W:=[15,14,6,17,16,6]) (λρ' H' ba=>ba=[]/\H'=H++[.gone 0]/\ρ' 6=vi (aAq op)) rfT ?_ ?_
  ·simp only[zH];by_cases e0:op=0
   ·subst e0;simp only[go_sem,↓aB,seval];rfl
   have n0:(op==0)=false:=by simpa using e0
   by_cases e1:op=1
   ·subst e1;simp only[go_sem,↓aB,seval];rfl
   have n1:(op==1)=false:=by simpa using e1
   simp only[go_sem,↓aB,seval,n0,n1];unfold aAq;rw[Zx e0,Zx e1]
  rintro ρ H' ba ⟨rfl,rfl,r6⟩ hf;have r1:ρ 1=vi d:=hf 1 rfl;have r2:ρ 2=.ep [vi op,vi m,.sl Po (ks.map aF)] 0:=hf 2 rfl;have k1:=λH=>hw op 0 10 H;have k2:=λH=>hw m 0 (aAq op) H;have k3:=λH=>aPI hk op H;have pt:=aN3 op;simp only[go_sem,seval];refine aY (aq:=gL) rfT rfT ?_;have hx:exS (.mk op m ks) d=if ((decide (d>16) || !wi op 0 10) || !wi m 0 (aAq op)) || ((ks.length:Int) != (aCn op:Int))then (0,Po)else match exL ks (d+1) 1 with
   |some s=>(s,decide ((s:Int)<=256))
   |none=>(0,Po):=by conv=>lhs;unfold exS
  cases e1:decide (d>16)with
  |true=>rw[e1]at hx;simp only[go_sem,↓aB,seval,gL,r1,e1,CE,hx,EP]
  |false=>
  rw[e1]at hx;cases e2:wi op 0 10 with
  |false=>rw[e2]at hx;simp only[go_sem,↓aB,seval,gL,r1,r2,e1,e2,k1,Zz,CE,hx,EP,GV]
  |true=>
  rw[e2]at hx;cases e3:wi m 0 (aAq op)with
  |false=>rw[e3]at hx;simp only[go_sem,↓aB,seval,gL,r1,r2,r6,e1,e2,e3,k1,k2,Zz,CE,hx,EP,GV]
  |true=>
  rw[e3]at hx;cases e4:((ks.length:Int) != (aCn op:Int))with
  |true=>rw[e4]at hx;simp only[go_sem,↓aB,seval,gL,eH,dG,r1,r2,r6,e1,e2,e3,e4,k1,k2,k3,Zz,aL,hx,EP,GV,AF]
  |false=>
  rw[e4]at hx;simp only[BT,IJ,BX,Zu]at hx;have ax:ks.length<=2:=by simp at e4;omega
  simp only[go_sem,↓aB,seval,gL,eH,dG,r1,r2,r6,e1,e2,e3,e4,k1,k2,k3,Zz,aL,AF];refine bJ (id:=1) (λi ρ1 H1 wr=>wr=[]/\ρ1 45=vi i/\(∃o1,H1=H++[o1])/\∃s:Nat,ρ1 7=vi s/\s<=1+256*i/\exL ks (d+1) 1=exL (ks.drop i) (d+1) s) ks.length
   (λρ1 H1 wr=>wr=[]/\(∃o1,H1=H++[o1])/\∃s:Nat,ρ1 7=vi s/\s<=1000/\exL ks (d+1) 1=N1 s)
   cB rfl ⟨rfl,rfl,⟨_,rfl⟩,1,rfl,omT,rfl⟩ ?_ ?_
  ·rintro i ρ1 H1 dc mg ⟨rfl,e45,⟨o1,rfl⟩,s,e7,lq,n9⟩ cq;have f1:ρ1 1=vi d:=(cq 1 rfl).trans r1;have f43:ρ1 43=.sl Po (ks.map aF):=cq 43 rfl;have f44:ρ1 44=vi ks.length:=cq 44 rfl;simp only[go_sem,↓aB,seval,e45,f44];refine aD (λhb=>?_) (λhb=>?_)
   ·have hlt:i<ks.length:=by simpa using hb
    have hg:(ks.map aF)[i]? = N1 (aF ks[i]):=getElem?_map_of hlt;have gq:(0:Int)<=(i:Int):=omT;have kx:((i:Int)).toNat=i:=omT;have Qe:=wS (i:=i) omT;have F3:AR.wrap (d+1)=d+1:=by rw[wrap_i64 omT omT]
    have tk:=AS hlt;have az:=λH=>ih ks[i] (d+1) H (gd _ tk) (E7 _ tk) omT (by simp at e1;omega);have bn:exL (ks.drop i) (d+1) s=match exS ks[i] (d+1)with
      | (k,Pa)=>exL (ks.drop (i+1)) (d+1) (s+k)
      | (_,Po)=>none:=by rw[FD hlt];conv=>lhs;unfold exL
    have hle:=aT7 (e:=ks[i]) (d:=d+1);cases C9:exS ks[i] (d+1)with
    |mk k b=>
     rw[C9]at bn hle;simp only[C9]at az;cases b with
     |false=>
      have sc:exS (.mk op m ks) d=(0,Po):=by rw[hx,n9,bn]
      simp only[go_sem,↓aB,seval,f1,f43,e45,hg,gq,kx,F3,dP,CH (PM (dP ks[i])),bQ (aV ks[i]),aS (aV ks[i]),aK (aV ks[i]),az,sc]
     |true=>
      have z8:k<=256:=hle rfl;have zh:AR.wrap ((s:Int)+(k:Int))=((s+k:Nat):Int):=by rw[wrap_i64 omT omT];omega
      simp only[go_sem,↓aB,seval,f1,f43,e45,e7,hg,gq,kx,F3,dP,CH (PM (dP ks[i])),bQ (aV ks[i]),aS (aV ks[i]),aK (aV ks[i]),az,Qe,zh];exact⟨hlt,⟨_,rfl⟩,s+k,rfl,omT,by rw[n9,bn]⟩
   have hi:i=ks.length:=by simp at hb;omega
   subst hi;simp only[go_sem,seval];exact⟨⟨_,rfl⟩,s,e7,omT,by rw[n9,DH (AQ _)];rfl⟩
  rintro ρ' H' ba ⟨rfl,⟨o1,rfl⟩,s,e7,lq,n9⟩ cq;rw[n9]at hx;simp only[go_sem,↓aB,seval,e7,hx]
end
def aKJ{n:Nat}(h:n<256):(CN n).toNat=n:=soT
def lev(op:Int):Nat:=if op=3∨op=4 then 1 else if op=5∨op=6 then 2 else if op=2∨op=7 then 3 else if op=9∨op=10 then 0 else 4
def sg(op:Int):UInt8:=if op=3 then 43 else if op=4 then 45 else if op=5 then 42 else if op=6 then 47 else if op=9 then 61 else 60
def bB1:Expr->Nat
 |.mk op _ _=>lev op
def par(e:Expr)(L:Nat)(s:Str):Str:=if bB1 e<L then 40::(s++[41])else s
def wX:Expr->Str
 |.mk op n []=>if op=0 then dec n.toNat else [CN (97+n.toNat)]
 |.mk op n [a]=>if op=2 then 45::par a 3 (wX a)else 82::40::(par a 1 (wX a)++[41])
 |.mk op n [a,b]=>if op=7 then par a 4 (wX a)++94::par b 3 (wX b)else par a (max 1 (lev op)) (wX a)++sg op::par b (lev op+1) (wX b)
 |.mk _ _ (_::_::_::_)=>[]
inductive Rt:Bool->Expr->Prop where
 |num (r:Bool) (n:Int):0<=n->n<=999999->Rt r (.mk 0 n [])
 |var (r:Bool) (n:Int):0<=n->n<=25->Rt r (.mk 1 n [])
 |un (r:Bool) (op:Int) (a:Expr):op=2∨op=8->Rt Po a->Rt r (.mk op 0 [a])
 |bin (r:Bool) (op:Int) (a b:Expr):3<=op->op<=7->Rt Po a->Rt Po b->Rt r (.mk op 0 [a,b])
 |cmp (op:Int) (a b:Expr):op=9∨op=10->Rt Po a->Rt Po b->Rt Pa (.mk op 0 [a,b])
def aY2{e:Expr}{L:Nat}{s:Str}(h:bB1 e<L):par e L s=40::(s++[41]):=Zy h
def aT8{e:Expr}{L:Nat}{s:Str}(h:L<=bB1 e):par e L s=s:=Zx omT
def aUM{op:Int}(h1:3<=op)(h2:op<=7):op=3∨op=4∨op=5∨op=6∨op=7:=omT
def sb(sep:Str):List Str->Str
 | []=>[]
 | [s]=>s
 |s::t::r=>s++sep++sb sep (t::r)
def esc(M:UInt8->Bool)(s:Str):Str:=s.flatMap λc=>if M c then [126,c] else [c]
def aFC(M:UInt8->Bool)(c:UInt8)(s:Str):esc M (c::s)=(if M c then [126,c] else [c])++esc M s:=rfl
def mL(c:UInt8):Bool:=c==126
def aPJ(l:List Str):Str:=sb [126,124] (l.map (esc mL))
def mG(c:UInt8):Bool:=c==126 || c==124 || c==59
def aRX(l:List (List Str)):Str:=sb [59] (l.map λr=>sb [124] (r.map (esc mG)))
def aUN:List Int->Str
 | []=>[]
 |n::r=>32::dec n.toNat++aUN r
def aWn(op:Int)(l:List Int):Str:=sg op::aUN l
def aPK(k:Nat):UInt8:=([99,100,101,102,103,97,98]:List UInt8).getD k 0
def aBy(n:ct):Str:=(if n.step<0 then [114] else [aPK (n.step % 7).toNat])++((if n.alter=1 then [35] else if n.alter = -1 then [95] else [])++((if 0<=n.step then [CN (48+(n.step / 7).toNat)] else [])++[CN (48+n.length.toNat)]))
def aO9(l:List ct):Str:=sb [32] (l.map aBy)
def aJm(l:List (List (List ct))):Str:=sb [47] (l.map λh=>sb [124] (h.map aO9))
def aHA:Int->List mr->Str
 |_,[]=>[]
 |p,r::l=>(if r.gg=p then [] else [126,124])++(esc mL r.text++aHA r.gg l)
def aKK(b:Block):Block:=⟨b.kind,if b.kind=0 then b.runs else [],if b.kind=1 then b.expr else .mk 0 0 [],if b.kind=2 then b.dn else 0,if b.kind=2 then b.eg else [],if b.kind=3 then b.cd else [],
 if b.kind=4 then b.w else 0,if b.kind=4 then b.h else 0,if b.kind=4 then b.aw else [],if b.kind=5 then b.bo else [],if b.kind=6 then b.lines else []⟩
def wB(b:Block):Str:=if b.kind=0 then aHA 0 b.runs else if b.kind=1 then wX b.expr else if b.kind=2 then aWn b.dn b.eg else if b.kind=3 then aRX b.cd else if b.kind=5 then aJm b.bo else aPJ b.lines
def iG(g:SN):bw:=⟨9,[],[.tmp 4],qS [qmc 4 (.bool Po)]<|qS [qm 5 0,qm 6 1,qc 7 (g "bj") [u 5,u 6],qbi 8 .geq 7 0,qm 4 8]<|.ret⟩
abbrev vS(g:SN):ag:=qS [qb 9 .lss 8 7]<|.seq (qC 9 (.skip) (.exit 0))<|.seq (.block 1 (qS [qm 10 8,qm 5 10]<|qS [qm 11 1,qm 12 0,qm 13 5,qi 14 12 13 1,ql 15 1 14,qb 16 .eql 11 15]<|qC 16 (qS [qm 17 5,qm 4 17]<|.ret) (.skip)))<|.region Po [qbi 18 .add 8 1,qm 8 18]
def gP(g:SN):bw:=⟨19,[],[.tmp 4],qS [qmc 4 z0]<|.seq (qS [qm 6 0,qn 7 6,qmc 8 z0]<|.block 0 (.loop (vS g)))<|qS [qmc 4 (.int .i64 (-1))]<|.ret⟩
def aBK(g:SN):ag:=.block 0 (qS [qbi 10 .eql 8 0,qm 9 10]<|qC 9 (qR [qf 11 1 1,ql 12 1 11,qf 13 1 3,qs 1 13 12]) (qS [qbi 15 .eql 8 1,qm 14 15]<|qC 14 (qR [qf 16 2 1,qla 17 3 16,qf 18 2 3,qs 3 18 17]) (qS [qbi 20 .eql 8 2,qm 19 20]<|qC 19 (qR [qf 21 5 1,qla 22 2 21,qf 23 5 3,qs 2 23 22]) (qS [qbi 25 .eql 8 3,qm 24 25]<|qC 24 (qR [qf 26 7 1,qla 27 1 26,qf 28 7 3,qs 1 28 27]) (qS [qbi 30 .eql 8 4,qm 29 30]<|qC 29 (qR [qf 31 8 1,qla 32 3 31,qf 33 8 3,qs 3 33 32]) (qS [qbi 35 .eql 8 5,qm 34 35]<|qC 34 (qR [qf 36 11 1,qla 37 1 36,qf 38 11 3,qs 1 38 37]) (qS [qbi 40 .eql 8 6,qm 39 40]<|qC 39 (qR [qf 41 12 1,ql 42 1 41,qf 43 12 3,qs 1 43 42]) (.skip))))))))
def aCo(g:SN):bw:=⟨45,[2,3],[.cell 2 13 Pa],qS [qx 1 13 0,qq 2 (.alloc [z0,(.sl Pa []),z0,z0,(.sl Pa []),z0,(.sl Pa []),(.sl Pa []),z0,z0,(.sl Pa []),(.sl Pa []),(.sl Pa [])])]<|qS [qf 4 0 1,ql 5 1 4,qq 6 (.build [z0,(.sl Pa []),z0,z0,(.sl Pa []),z0,(.sl Pa []),(.sl Pa []),z0,z0,(.sl Pa []),(.sl Pa []),(.sl Pa [])] [(0,1,(.tmp 5))]),qq 3 (.alloc [z0,(.sl Pa []),z0,z0,(.sl Pa []),z0,(.sl Pa []),(.sl Pa []),z0,z0,(.sl Pa []),(.sl Pa []),(.sl Pa [])]),qs 13 3 6]<|.seq (qS [qf 7 0 1,ql 8 1 7]<|aBK g)<|qS [qla 44 13 3,qs 13 2 44]<|.ret⟩
section
variable {A:af}{g:SN}
def aT9(l:List ct):Bool:=wi l.length 1 16&&l.all aGv
def aKL(n:Nat)(l:List (List ct)):Bool:=((l.length:Int)==(n:Int))&&(wi l.length 1 32&&l.all aT9)
def aUO(l:List (List (List ct))):Bool:=wi l.length 1 2&&l.all (aKL (l.headD []).length)
structure si(A:af)(g:SN):Prop where
 mel:Has A g "cu" (aAp g)
 Fe:Has A g "bH" (vR g)
 Ff:Has A g "bI" (qX g)
 note:Has A g "aX" (xQ g)
 Aj:fe A g 1 Po (g "cT")
 sj:fe A g 1 Po (g "cU")
 Ak:fe A g 3 Pa (g "cY")
def aOa(h:si A g)(hw:eO A g)(l:List ct)(hl:l.length<=16)(H:LO):aG A (g "bI") [.sl Po (l.map bV)] H=N1 (.bool (aT9 l),H,[]):=by refine h.Ff.call ?_;have hc:=h.Ak.spec hw aMZ cQ (l:=l) (H:=H) (f1:=g "aX") (q:=aGv) (lo:=1) (hi:=16) (by show l.length<_;omega) λ_ n _=>aM0 h.note hw n H;simp only[qX];simp only[go_sem,↓aB,seval,hc,aT9]
def aM2(h:si A g)(hw:eO A g){l0:List (List ct)}{ls:List (List (List ct))}(l:List (List ct))(hl:l.length<=16)(hb:∀b∈l,b.length<=16)(H:LO):aG A (g "bH") [.sl Po (l.map gH),.ep [.sl Po ((l0::ls).map bS)] 0] H=N1 (.bool (aKL l0.length l),H,[]):=by
 refine h.Fe.call ?_;have hc:=h.sj.spec hw aLY cQ (l:=l) (H:=H) (f1:=g "bI") (q:=aT9) (lo:=1) (hi:=32) (by show l.length<_;omega) λ_ b hm=>aOa h hw b (hb b hm) H;simp only[vR,aKL];cases e:((l.length:Int)==(l0.length:Int))with
 |false=>simp only[go_sem,↓aB,seval,AF,BI,BG,bS,e,BQ,BB]
 |true=>simp only[go_sem,↓aB,seval,AF,BI,BG,bS,e,BR,Zz,hc]
def aJn(h:si A g)(hw:eO A g)(l:List (List (List ct)))(hl:l.length<=16)(hb:∀x∈l,x.length<=16/\∀b∈x,b.length<=16)(H:LO):aG A (g "cu") [.agg [.sl Po (l.map bS)]] H=N1 (.bool (aUO l),H,[]):=by
 refine h.mel.call ?_;have hc:=h.Aj.spec hw aJk (cQ.ep [.sl Po (l.map bS)] 0) (l:=l) (H:=H) (f1:=g "bH") (q:=aKL (l.headD []).length) (lo:=1) (hi:=2) (by show l.length<_;omega) λ_ x hm=>by
  cases l with
  |nil=>cases hm
  |cons l0 ls=>exact aM2 h hw x (hb x hm).1 (hb x hm).2 H
 simp only[aAp];simp only[go_sem,↓aB,seval,hc,aUO]
def aM3(h:Has A g "bj" (gP g))(l:List Int)(s:Int)(hl:l.length<=1000000000)(H:LO):aG A (g "bj") [.sl Po (l.map bF),vi s] H=N1 (vi (aMW (λx=>s==x) l),H,[]):=by
 refine h.call ?_;simp only[gP];simp only[go_sem,↓aB,seval,AF];refine bJ (id:=0) (λi ρ1 H1 wr=>wr=[]/\H1=H/\ρ1 8=vi i/\∀j (hj:j<i) (hl:j<l.length),(s==l[j])=Po) l.length
  (λρ1 H1 wr=>wr=[]/\H1=H/\∀j (hl:j<l.length),(s==l[j])=Po)
  cB rfl ⟨rfl,siT,rfl,λj hj=>omT⟩ ?_ ?_
 ·rintro i ρ1 H1 dc mg ⟨rfl,rfl,e8,hn⟩ hf;have e0:ρ1 0=.sl Po (l.map bF):=hf 0 rfl;have e1:ρ1 1=vi s:=hf 1 rfl;have e7:ρ1 7=vi l.length:=hf 7 rfl;simp only[go_sem,↓aB,seval,e8,e7];refine aD (λhb=>?_) (λhb=>?_)
  ·have hlt:i<l.length:=by simpa using hb
   have hg:(l.map bF)[i]? = N1 [vi l[i]]:=getElem?_map_of hlt;have gq:(0:Int)<=(i:Int):=omT;have kx:((i:Int)).toNat=i:=omT;have Qe:=wS (i:=i) omT;cases hc:(s==l[i])with
   |true=>simp only[go_sem,↓aB,seval,e0,e1,e8,hg,gq,kx,hc];exact (aLT (p:=λx=>s==x) hlt hc λj hj=>hn j hj omT).symm ▸ rfl
   |false=>
    simp only[go_sem,↓aB,seval,e0,e1,e8,hg,gq,kx,hc,Qe];refine⟨hlt,λj hj mo=>?_⟩;by_cases e:j=i
    ·subst e;exact hc
    exact hn j omT mo
  have hi:i=l.length:=by simp at hb;omega
  subst hi;simp only[go_sem,seval];exact λj hj=>hn j hj hj
 rintro ρ' H' ba ⟨rfl,rfl,hn⟩ hf;simp only[go_sem,↓aB,seval,aGq (p:=λx=>s==x) hn]
def aHB(h:Has A g "bP" (iG g))(hi:Has A g "bj" (gP g))(l:List Int)(s:Int)(hl:l.length<=1000000000)(H:LO):aG A (g "bP") [.sl Po (l.map bF),vi s] H=N1 (.bool (l.any λx=>s==x),H,[]):=by refine h.call ?_;simp only[iG];simp only[go_sem,↓aB,seval,aM3 hi l s hl,aLU]
def aKM(h:Has A g "bK" (aCo g))(b:Block)(H:LO):aG A (g "bK") [.agg (aE b)] H=N1 (.agg (aE (aKK b)),H,[]):=by
 refine h.call ?_;obtain⟨kind,runs,⟨op,n,ks⟩,dn,eg,cd,w,hh,aw,bo,lines⟩:=b;simp only[aCo,aBK,aE,aF,aZ,aKK,DO,CW];have ur:∀n,eR n (runs.map cZ)=true:=λ_=>aA (aC cA runs);have ue:∀n,eR n (ks.map aF)=true:=λ_=>aA (aC aV ks);have ua:∀n,eR n (eg.map bF)=true:=λ_=>aA (aC aU eg);have ug:∀n,eR n (cd.map bY)=true:=λ_=>aA (aC cU cd);have us:∀n,eR n (aw.map aH)=true:=λ_=>aA (aC bW aw);have uh:∀n,eR n (bo.map bS)=true:=λ_=>aA (aC cR bo);have ul:∀n,eR n (lines.map aN)=true:=λ_=>aA (aC bO lines);by_cases e0:kind=0
 ·subst e0;simp only[go_sem,↓aB,seval,BY,aF,aZ,ur]
 have n0:(kind==0)=false:=by simpa using e0
 by_cases e1:kind=1
 ·subst e1;simp only[go_sem,↓aB,seval,BY,aF,aZ,ue]
 have n1:(kind==1)=false:=by simpa using e1
 by_cases e2:kind=2
 ·subst e2;simp only[go_sem,↓aB,seval,BY,aF,aZ,ua]
 have n2:(kind==2)=false:=by simpa using e2
 by_cases e3:kind=3
 ·subst e3;simp only[go_sem,↓aB,seval,BY,aF,aZ,ug]
 have n3:(kind==3)=false:=by simpa using e3
 by_cases e4:kind=4
 ·subst e4;simp only[go_sem,↓aB,seval,BY,aF,aZ,us]
 have n4:(kind==4)=false:=by simpa using e4
 by_cases e5:kind=5
 ·subst e5;simp only[go_sem,↓aB,seval,BY,aF,aZ,uh]
 have n5:(kind==5)=false:=by simpa using e5
 by_cases e6:kind=6
 ·subst e6;simp only[go_sem,↓aB,seval,BY,aF,aZ,ul]
 have n6:(kind==6)=false:=by simpa using e6
 simp only[go_sem,↓aB,seval,BY,aF,aZ,e0,e1,e2,e3,e4,e5,e6,n0,n1,n2,n3,n4,n5,n6]
end
abbrev aEg(g:SN):List ae:=[qla 5 13 1,qla 6 13 1,⟨N1 7,oc (g "bK") [u 6],N2,[1]⟩,⟨N1 8,oc (g "bT") [u 5,u 7],N2,[0,2,1]⟩,⟨N1 9,.un .not (u 8),N2,[3,0,2,1]⟩]
abbrev vT:LN:=[0,2]
abbrev aEh(g:SN):List ae:=[qf 71 12 1,⟨N1 72,ol 1 71,N2,[0]⟩,qc 73 (g "U") [ui 0,ui 80],⟨N1 74,oc (g "ak") [u 72,ui 1,ui 64,u 73],N2,[1,0,2]⟩,⟨N1 2,om 74,N2,[3,1,0,2]⟩]
abbrev vU:LN:=[1,2]
def vV(g:SN):ag:=.block 0 (qS [qbi 13 .eql 11 0,qm 12 13]<|qC 12 (qS [qf 14 1 1,ql 15 1 14,qc 16 (g "aZ") [u 15],qm 2 16]<|.ret) (qS [qbi 18 .eql 11 1,qm 17 18]<|qC 17 (qS [qf 20 2 1,qla 21 3 20,qc 22 (g "aV") [u 21,ui 1],qm 19 22,qq 23 (.ext 0 (u 19)),qq 24 (.ext 1 (u 19)),qm 3 23,qm 4 24]<|qS [qm 25 4,qm 2 25]<|.ret) (qS [qbi 27 .eql 11 2,qm 26 27]<|qC 26 (qS [qq 28 (.bsl 1 [z0] 4 [(0,(.const (vi 3))),(1,(.const (vi 4))),(2,(.const (vi 5))),(3,(.const (vi 6)))]),qf 29 5 1,qf 30 0 29,ql 31 1 30,qc 32 (g "bP") [u 28,u 31],qm 33 32,qT 34 33 (of 5 1),qT 35 33 (of 1 34),qT 36 33 (ol 1 35),qT 37 33 (oc (g "ct") [u 36,ui 1,ui 8,uf (g "bE")]),qp 38 33 37,qm 2 38]<|.ret) (qS [qbi 40 .eql 11 3,qm 39 40]<|qC 39 (qS [qf 41 7 1,qf 42 0 41,ql 43 1 42,qq 44 (.mkf (g "bF") [] [(.tmp 1)]),qc 45 (g "cq") [u 43,ui 1,ui 12,u 44],qm 2 45]<|.ret) (qS [qbi 47 .eql 11 4,qm 46 47]<|qC 46 (qS [qf 48 8 1,qf 49 0 48,ql 50 1 49,qc 51 (g "c") [u 50,ui 1,ui 1000],qm 52 51,qT 53 52 (of 8 1),qT 54 52 (of 1 53),qT 55 52 (ol 1 54),qT 56 52 (oc (g "c") [u 55,ui 1,ui 1000]),qp 57 52 56,qm 58 57,qT 59 58 (of 8 1),qT 60 58 (of 2 59),qT 61 58 (ol 1 60),qT 62 58 (oc (g "da") [u 61,ui 1,ui 8,uf (g "ba")]),qp 63 58 62,qm 2 63]<|.ret) (qS [qbi 65 .eql 11 5,qm 64 65]<|qC 64 (qS [qf 66 11 1,qla 67 1 66,qc 68 (g "cu") [u 67],qm 2 68]<|.ret) (qS [qbi 70 .eql 11 6,qm 69 70]<|qC 69 (.seq (.region Pa (aEh g))<|.ret) (.skip))))))))
def aBL(g:SN):bw:=⟨75,[],[.tmp 2],qS [qx 1 13 0,qmc 2 (.bool Po)]<|.seq (.seq (.region Pa (aEg g))<|qC 9 (qS [qmc 2 (.bool Po)]<|.ret) (.skip))<|.seq (qS [qf 10 0 1,ql 11 1 10]<|vV g)<|qS [qmc 2 (.bool Po)]<|.ret⟩
def zI(g:SN):bw:=⟨5,[],[.tmp 2],qS [qmc 2 (.bool Po)]<|qS [qm 3 0,qc 4 (g "c") [u 3,ui 0,ui 999999],qm 2 4]<|.ret⟩
def zJ(g:SN):bw:=⟨18,[],[.tmp 3],qS [qmc 3 (.bool Po)]<|qS [qm 4 0,qn 5 4,qf 6 7 1,qf 7 0 6,ql 8 1 7,qq 9 (.iaV (u 8) (ui 0) 1),ql 10 1 9,qn 11 10,qb 12 .eql 5 11,qm 13 12,qT 14 13 (om 0),qT 15 13 (oc (g "U") [ui 0,ui 20]),qT 16 13 (oc (g "ak") [u 14,ui 1,ui 12,u 15]),qp 17 13 16,qm 3 17]<|.ret⟩
section
variable {A:af}{g:SN}
def aUP(n:Int):Bool:=wi n 0 999999
def aUQ(n:Nat)(r:List Str):Bool:=((r.length:Int)==(n:Int))&&(wi r.length 1 12&&r.all (vP 0 20))
noncomputable def xU(b:Block):Bool:=
 if b.kind=0 then aGx b.runs
 else if b.kind=1 then (exS b.expr 1).2
 else if b.kind=2 then ([3,4,5,6]:List Int).any (λx=>b.dn==x)&&(wi b.eg.length 1 8&&b.eg.all aUP)
 else if b.kind=3 then wi b.cd.length 1 12&&b.cd.all (aUQ (b.cd.headD []).length)
 else if b.kind=4 then (wi b.w 1 1000&&wi b.h 1 1000)&&(wi b.aw.length 1 8&&b.aw.all vQ)
 else if b.kind=5 then aUO b.bo
 else if b.kind=6 then wi b.lines.length 1 64&&b.lines.all (vP 0 80)
 else Po
noncomputable def dQ(b:Block):Bool:=eqv b (aKK b)&&xU b
structure kb(A:af)(g:SN):Prop where
 block:Has A g "bD" (aBL g)
 xy:Has A g "bE" (zI g)
 xz:Has A g "bF" (zJ g)
 only:Has A g "bK" (aCo g)
 runs:Has A g "aZ" (xR g)
 L8:Has A g "an" (nM g)
 expr:Has A g "aV" (xT g)
 kids:Has A g "bb" (xS g)
 Sb:Has A g "U" (aCm g)
 Al:Has A g "ar" (xO g)
 shape:Has A g "ba" (tV g)
 Q7:Has A g "ao" (mF g)
 within:Has A g "c" (xM g)
 text:Has A g "T" (xN g)
 wg:Has A g "ap" (nK g)
 con:Has A g "bP" (iG g)
 ind:Has A g "bj" (gP g)
 mel:si A g
 same:X0 A g
 sj:fe A g 1 Po (g "aT")
 Q8:fe A g 2 Pa (g "cs")
 allI:fe A g 1 Po (g "ct")
 Am:fe A g 1 Po (g "cq")
 An:fe A g 1 Po (g "ak")
 Ao:fe A g 2 Pa (g "da")
 Ap:fe A g 2 Pa (g "cr")
def aRY(h:kb A g)(n:Int)(H:LO):aG A (g "bE") [vi n] H=N1 (.bool (aUP n),H,[]):=by refine h.xy.call ?_;have hw:=kO h.within n 0 999999;simp only[zI,aUP];simp only[go_sem,↓aB,seval,hw]
def aBj(h:kb A g)(l:List Str)(hl:l.length<=16)(ht:∀s∈l,s.length<=1000000)(a b lo hi:Int)(H:LO):aG A (g "ak") [.sl Po (l.map aN),vi lo,vi hi,.fn (g "ar") [] [.ep [vi a] 0,.ep [vi b] 0]] H=N1 (.bool (wi l.length lo hi&&l.all (vP a b)),H,[]):=
 have hw:=kO h.within
 h.An.spec hw aUG ((cQ.ep [vi b] 0).ep [vi a] 0) (by show l.length<_;omega) λ_ s hm=>aO8 h.Al (qW h.text h.wg h.sj hw) s a b H (ht s hm)
def aKN(h:kb A g){r0:List Str}{rs:List (List Str)}{c0 c1 c2 c3 c4 c5 c6 c8 c9 c10 c11 c12:AV}(r:List Str)(hl:r.length<=16)(ht:∀s∈r,s.length<=1000000)(H:LO):aG A (g "bF") [.sl Po (r.map aN),.ep [c0,c1,c2,c3,c4,c5,c6,.sl Po ((r0::rs).map bY),c8,c9,c10,c11,c12] 0] H=N1 (.bool (aUQ r0.length r),H,[]):=by
 refine h.xz.call ?_;have hu:=λH=>aDb h.Sb 0 20 H;have hc:=aBj h r hl ht 0 20 1 12 H;simp only[zJ,aUQ];cases e:((r.length:Int)==(r0.length:Int))with
 |false=>simp only[go_sem,↓aB,seval,AF,BI,BG,bY,e,BQ,BB]
 |true=>simp only[go_sem,↓aB,seval,AF,BI,BG,bY,e,BR,Zz,hu,hc]
def aEX(h:kb A g)(b:Block)(hb:b.Ok)(H:LO):aG A (g "bD") [.agg (aE b)] H=N1 (.bool (dQ b),H,[]):=by
 refine h.block.call ?_;have hw:=kO h.within;have ht:=qW h.text h.wg h.sj hw;have Lc:=aKM h.only b H;have Fg:=aO0 h.same b (aKK b) H hb;have tx:∀{s:Str},lI s->s.length<=1000000:=λh=>by have:_<=1000:=h;omega
 have h0:=aGy h.runs h.L8 h.Q8 hw ht b.runs (by have:=hb.vw;omega) (λr hr=>tx (hb.runs r hr).text) H;have h1:=aM1 h.expr h.kids hw _ b.expr 1 H (HR _) hb.expr deT deT;have h2:=aHB h.con h.ind [3,4,5,6] b.dn deT H;have zc:=h.allI.spec hw aLX cQ (l:=b.eg) (H:=H) (f1:=g "bE") (q:=aUP) (lo:=1) (hi:=8) (by have:=hb.tj;show b.eg.length<_;omega) λ_ n _=>aRY h n H;have h4:=h.Ao.spec hw aKE cQ (l:=b.aw) (H:=H) (f1:=g "ba") (q:=vQ) (lo:=1) (hi:=8) (by have:=hb.fg;show b.aw.length<_;omega)
  λ_ s hm=>aKI h.shape h.Q7 h.Ap hw s (by have:=(hb.aw s hm).len;omega) H
 have Fh:=λH=>hw b.w 1 1000 H;have Ij:=λH=>hw b.h 1 1000 H;have h5:=aJn h.mel hw b.bo hb.uv (λx hx=>⟨(hb.bo x hx).1,λl hl=>((hb.bo x hx).2 l hl).1⟩) H;have h6:=aBj h b.lines hb.vz (λs hs=>tx (hb.lines s hs)) 0 80 1 64 H;have Ld:=λH=>aDb h.Sb 0 80 H;have G3:=hb.uu;have Aq:=hb.cd;have jy:∃c0 c1 c2 c3 c4 c5 c6 c8 c9 c10 c11 c12,aE b=[c0,c1,c2,c3,c4,c5,c6,.sl Po (b.cd.map bY),c8,c9,c10,c11,c12]:=by obtain⟨_,_,⟨_,_,_⟩,_,_,_,_,_,_,_,_⟩:=b;exact⟨_,_,_,_,_,_,_,_,_,_,_,_,rfl⟩
 have h3:aG A (g "cq") [.sl Po (b.cd.map bY),vi 1,vi 12,.fn (g "bF") [] [.ep (aE b) 0]] H=N1 (.bool (wi b.cd.length 1 12&&b.cd.all (aUQ (b.cd.headD []).length)),H,[]):=by
  obtain⟨c0,c1,c2,c3,c4,c5,c6,c8,c9,c10,c11,c12,e⟩:=jy;rw[e];refine h.Am.spec hw aUH (cQ.ep _ 0) (l:=b.cd) (by show b.cd.length<_;omega) λ_ r hm=>?_;cases xg:b.cd with
  |nil=>rw[xg]at hm;cases hm
  |cons r0 rs=>have:=aKN h (r0:=r0) (rs:=rs) (c0:=c0) (c1:=c1) (c2:=c2) (c3:=c3) (c4:=c4) (c5:=c5) (c6:=c6) (c8:=c8) (c9:=c9) (c10:=c10) (c11:=c11) (c12:=c12) r (Aq r hm).1 (λs hs=>tx ((Aq r hm).2 s hs)) H;exact this
 simp only[aBL];simp only[go_sem,↓aB,seval,cF,bT.still,bT.ga];refine aY (aq:=vT) rfT rfT ?_;simp only[go_sem,↓aB,seval,vT,eH,dG,aL,cF,bT.take,aS (bG b),aS (bG (aKK b)),aK (bG b),aK (bG (aKK b)),Lc,Fg];cases e:eqv b (aKK b)with
 |false=>simp only[go_sem,↓aB,seval,dQ,e,BQ]
 |true=>
  have V5:dQ b=xU b:=by unfold dQ;rw[e,BR]
  rw[V5];obtain⟨op,n,ks,mn⟩:∃op n ks,b.expr=Expr.mk op n ks:=by cases b.expr;exact⟨_,_,_,rfl⟩
  have Ra:aF b.expr=[vi op,vi n,.sl Po (ks.map aF)]:=by rw[mn,aF,aZ]
  have ig:aE b=[vi b.kind,.sl Po (b.runs.map cZ),vi op,vi n,.sl Po (ks.map aF),vi b.dn,.sl Po (b.eg.map bF),.sl Po (b.cd.map bY),vi b.w,vi b.h,.sl Po (b.aw.map aH),.sl Po (b.bo.map bS),.sl Po (b.lines.map aN)]:=by unfold aE;rw[Ra];rfl
  rw[Ra]at h1;rw[ig]at h3;simp only[go_sem,↓aB,seval,ig];simp only[vV];unfold xU;by_cases e0:b.kind=0
  ·rw[e0];simp only[go_sem,↓aB,seval,h0]
  have n0:(b.kind==0)=false:=by simpa using e0
  rw[Zx e0];by_cases e1:b.kind=1
  ·rw[e1];simp only[go_sem,↓aB,seval,h1]
  have n1:(b.kind==1)=false:=by simpa using e1
  rw[Zx e1];by_cases e2:b.kind=2
  ·rw[e2];simp only[BI,BY,bF]at h2;cases k:([3,4,5,6]:List Int).any (λx=>b.dn==x)with
   |false=>rw[k]at h2;simp only[go_sem,↓aB,seval,h2,BQ,Zz,BB]
   |true=>rw[k]at h2;simp only[go_sem,↓aB,seval,h2,BR,Zz,zc]
  have n2:(b.kind==2)=false:=by simpa using e2
  rw[Zx e2];by_cases e3:b.kind=3
  ·rw[e3]at h3 ⊢;simp only[go_sem,↓aB,seval,h3]
  have n3:(b.kind==3)=false:=by simpa using e3
  rw[Zx e3];by_cases e4:b.kind=4
  ·rw[e4];cases k1:wi b.w 1 1000 with
   |false=>simp only[go_sem,↓aB,seval,Fh,k1,BQ,Zz,BB]
   |true=>cases k2:wi b.h 1 1000 with
    |false=>simp only[go_sem,↓aB,seval,Fh,Ij,k1,k2,BQ,MC,Zz,BB]
    |true=>simp only[go_sem,↓aB,seval,Fh,Ij,k1,k2,h4,BR,Zz]
  have n4:(b.kind==4)=false:=by simpa using e4
  rw[Zx e4];by_cases e5:b.kind=5
  ·rw[e5];simp only[go_sem,↓aB,seval,h5]
  have n5:(b.kind==5)=false:=by simpa using e5
  rw[Zx e5];by_cases e6:b.kind=6
  ·rw[e6];simp only[go_sem,↓aB,seval];refine aY (aq:=vU) rfT rfT ?_;simp only[go_sem,↓aB,seval,vU,eH,dG,aL,Ld,h6]
  have n6:(b.kind==6)=false:=by simpa using e6
  rw[Zx e6];simp only[go_sem,↓aB,seval,n0,n1,n2,n3,n4,n5,n6]
end
def sgI(op:Int):Int:=if op=0∨op=1 then 0 else if op=2 then 45 else if op=3 then 43 else if op=4 then 45 else if op=5 then 42 else if op=6 then 47 else if op=7 then 94 else if op=8 then 82 else if op=9 then 61 else 60
def aAr(op:Int):LA:=[vi (aCn op),vi (aAq op),vi (lev op),.int .u8 (sgI op)]
def aRZ:LA:=[vi 0,vi 999999,vi 4,.int .u8 0,vi 0,vi 25,vi 4,.int .u8 0,vi 1,vi 0,vi 3,.int .u8 45,vi 2,vi 0,vi 1,.int .u8 43,vi 2,vi 0,vi 1,.int .u8 45,vi 2,vi 0,vi 2,.int .u8 42,vi 2,vi 0,vi 2,.int .u8 47,
 vi 2,vi 0,vi 3,.int .u8 94,vi 1,vi 0,vi 4,.int .u8 82,vi 2,vi 0,vi 0,.int .u8 61,vi 2,vi 0,vi 0,.int .u8 60]
def hD{op:Int}(h0:0<=op)(h1:op<11):(aRZ.drop (op.toNat*4)).take 4=aAr op/\op.toNat*4+4<=aRZ.length:=by have:op=0∨op=1∨op=2∨op=3∨op=4∨op=5∨op=6∨op=7∨op=8∨op=9∨op=10:=omT;rcases this with rfl | rfl | rfl | rfl | rfl | rfl | rfl | rfl | rfl | rfl | rfl<;>exact⟨rfl,deT⟩
def xV(g:SN):bw:=⟨49,[5],[.tmp 4],qS [qx 2 3 0,qmc 4 (.bool Po)]<|.seq (qS [qf 6 0 2,ql 7 1 6,qbi 8 .lss 7 0,qm 9 8,qF 10 9 (of 0 2),qF 11 9 (ol 1 10),qF 12 9 (obi .geq 11 11),qq 13 (.pick (u 9) uT (u 12))]<|qC 13 (qS [qmc 4 (.bool Po)]<|.ret) (.skip))<|qS [qf 14 0 2,ql 15 1 14,qq 16 (.iaA 11 4 (uc (.ep aRZ 0)) (u 15)),qla 17 4 16,qq 5 (.alloc [z0,z0,z0,(.int .u8 0)]),qs 4 5 17]<|.seq (qS [qf 18 2 2,ql 19 1 18,qn 20 19,qf 21 0 5,ql 22 1 21,qb 23 .neq 20 22,qm 24 23,qF 25 24 (of 1 2),qF 26 24 (ol 1 25),qF 27 24 (obi .lss 26 0),qq 28 (.pick (u 24) uT (u 27)),qm 29 28,qF 30 29 (of 1 2),qF 31 29 (ol 1 30),qF 32 29 (of 1 5),qF 33 29 (ol 1 32),qF 34 29 (ob .gtr 31 33),qq 35 (.pick (u 29) uT (u 34)),qm 36 35,qF 37 36 (of 2 5),qF 38 36 (ol 1 37),qF 39 36 (obi .eql 38 0),qF 40 36 (om 39),qT 41 40 (om 1),qT 42 40 (.un .not (u 41)),qF 43 36 (op 40 42),qq 44 (.pick (u 36) uT (u 43))]<|qC 44 (qS [qmc 4 (.bool Po)]<|.ret) (.skip))<|qS [qf 45 2 2,ql 46 1 45,qc 47 (g "as") [u 46,uf (g "aR")],qq 48 (.un .not (u 47)),qm 4 48]<|.ret⟩
def qY(g:SN):bw:=⟨6,[],[.tmp 2],qS [qx 1 3 0,qmc 2 (.bool Po)]<|qS [qla 3 3 1,qc 4 (g "aQ") [u 3,uF],qq 5 (.un .not (u 4)),qm 2 5]<|.ret⟩
abbrev aGz(g:SN):ag:=qS [qb 10 .lss 9 8]<|.seq (qC 10 (.skip) (.exit 0))<|.seq (.block 1 (qS [qi 11 7 9 3,qla 12 3 11,qq 5 (.alloc [z0,z0,(.sl Pa [])]),qs 3 5 12]<|.region Po [qm 13 3,qla 14 3 5,qc 15 (g "aP") [u 14],qb 16 .add 13 15,qm 3 16]))<|.region Po [qbi 17 .add 9 1,qm 9 17]
def aAs(g:SN):bw:=⟨19,[5],[.tmp 2],qS [qx 1 3 0,qmc 2 z0]<|qS [qmc 3 (vi 1)]<|.seq (qS [qf 6 2 1,ql 7 1 6,qn 8 7,qmc 9 z0]<|.block 0 (.loop (aGz g)))<|qS [qm 18 3,qm 2 18]<|.ret⟩
abbrev aFk(g:SN):ag:=qS [qb 10 .lss 9 8]<|.seq (qC 10 (.skip) (.exit 0))<|.seq (.block 1 (qS [qi 11 7 9 3,qla 12 3 11,qq 5 (.alloc [z0,z0,(.sl Pa [])]),qs 3 5 12]<|.region Po [qm 13 3,qla 14 3 5,qc 15 (g "aO") [u 14],qq 16 (.mm Pa [(.tmp 13),(.tmp 15)]),qm 3 16]))<|.region Po [qbi 17 .add 9 1,qm 9 17]
def xW(g:SN):bw:=⟨20,[5],[.tmp 2],qS [qx 1 3 0,qmc 2 z0]<|qS [qmc 3 z0]<|.seq (qS [qf 6 2 1,ql 7 1 6,qn 8 7,qmc 9 z0]<|.block 0 (.loop (aFk g)))<|qS [qm 18 3,qbi 19 .add 18 1,qm 2 19]<|.ret⟩
def zK(g:SN):ag:=.block 0 (qS [qla 4 3 1,qc 5 (g "aP") [u 4],qbi 6 .gtr 5 256,qm 7 6,qF 8 7 (ola 3 1),qF 9 7 (oc (g "aO") [u 8]),qF 10 7 (obi .gtr 9 16),qq 11 (.pick (u 7) uT (u 10)),qm 3 11]<|qC 3 (qS [qmc 2 (vi 4)]<|.ret) (qS [qla 13 3 1,qc 14 (g "aQ") [u 13,uT],qq 15 (.un .not (u 14)),qm 12 15]<|qC 12 (qS [qmc 2 (vi 1)]<|.ret) (.skip)))
def aDc(g:SN):bw:=⟨16,[],[.tmp 2],qS [qx 1 3 0,qmc 2 z0]<|.seq (zK g)<|qS [qmc 2 z0]<|.ret⟩
mutual
def aBM:Expr->Nat
 |.mk _ _ ks=>mN ks+1
def mN:List Expr->Nat
 | []=>0
 |k::r=>max (aBM k) (mN r)
end
mutual
def aPL:∀e:Expr,aBM e<=gY e
 |.mk _ _ ks=>by unfold aBM gY;have:=aEi ks;omega
def aEi:∀l:List Expr,mN l<=cP l
 | []=>AQ _
 |k::r=>by unfold mN cP;have:=aPL k;have:=aEi r;omega
end
def aGA:∀(l:List Expr) (i:Nat),cP (l.take i)<=cP l
 | [],i=>by simp
 |k::r,0=>by simp[cP]
 |k::r,i+1=>by simp only[AA,cP];have:=aGA r i;omega
def aGB:∀(l:List Expr) (i:Nat) (h:i<l.length),cP (l.take (i+1))=cP (l.take i)+gY l[i]
 |k::r,0,h=>by simp[cP]
 |k::r,i+1,h=>by
  simp only[AA,cP,MD];rw[aGB r i (by simpa using h)];omega
def aEY:∀(l:List Expr) (i:Nat) (h:i<l.length),mN (l.take (i+1))=max (mN (l.take i)) (aBM l[i])
 |k::r,0,h=>by simp[mN]
 |k::r,i+1,h=>by
  simp only[AA,mN,MD];rw[aEY r i (by simpa using h)];omega
def aIt{l:List Expr}{k:Expr}(h:k∈l):gY k<=cP l:=by
 induction l with
 |nil=>cases h
 |cons a r ih=>
  unfold cP;rcases BD.1 h with rfl | h
  ·omega
  have:=ih h;omega
def aEj:∀l:List Expr,l.length<=cP l
 | []=>AQ _
 |k::r=>by
  have:=aEj r;have:1<=gY k:=by cases k;unfold gY;omega
  simp only[AW,cP];omega
section
variable {A:af}{g:SN}
def aPM(h:Has A g "aP" (aAs g)):∀(n:Nat) (e:Expr) (H:LO),SizeOf.sizeOf e<n->gY e<=1000->aG A (g "aP") [.agg (aF e)] H=N1 (vi (gY e),H,[]):=by
 intro n
 induction n with
 |zero=>intro e H hs;omega
 |succ n ih=>
  intro e H hs he;obtain⟨op,m,ks⟩:=e;refine h.call ?_;have gd:∀k∈ks,SizeOf.sizeOf k<n:=λk hm=>by
   have:=GY hm;simp only[Expr.mk.sizeOf_spec]at hs;omega
  unfold gY at he;have ax:=aEj ks;simp only[aAs];simp only[go_sem,↓aB,seval,aF,aZ,AF];refine bJ (id:=0) (λi ρ1 H1 wr=>wr=[]/\ρ1 9=vi i/\(∃o1,H1=H++[o1])/\ρ1 3=vi ((cP (ks.take i)+1:Nat):Int)) ks.length
   (λρ1 H1 wr=>wr=[]/\(∃o1,H1=H++[o1])/\ρ1 3=vi ((cP ks+1:Nat):Int))
   cB rfl ⟨rfl,rfl,⟨_,rfl⟩,rfl⟩ ?_ ?_
  ·rintro i ρ1 H1 dc mg ⟨rfl,e9,⟨o1,rfl⟩,e3⟩ cq;have f7:ρ1 7=.sl Po (ks.map aF):=cq 7 rfl;have f8:ρ1 8=vi ks.length:=cq 8 rfl;simp only[go_sem,↓aB,seval,e9,f8];refine aD (λhb=>?_) (λhb=>?_)
   ·have hlt:i<ks.length:=by simpa using hb
    have hg:(ks.map aF)[i]? = N1 (aF ks[i]):=getElem?_map_of hlt;have gq:(0:Int)<=(i:Int):=omT;have kx:((i:Int)).toNat=i:=omT;have Qe:=wS (i:=i) omT;have tk:=AS hlt;have Fg:=aIt tk;have az:=λH=>ih ks[i] H (gd _ tk) omT;have Oi:=aGB ks i hlt;have pk:=aGA ks i;have zh:AR.wrap (((cP (ks.take i)+1:Nat):Int)+(gY ks[i]:Int))=((cP (ks.take (i+1))+1:Nat):Int):=by rw[wrap_i64 omT omT];omega
    simp only[go_sem,↓aB,seval,f7,e9,e3,hg,gq,kx,dP,dX.take,bQ (aV ks[i]),aS (aV ks[i]),aK (aV ks[i]),az,Qe,zh];exact⟨hlt,_,rfl⟩
   have hi:i=ks.length:=by simp at hb;omega
   subst hi;simp only[go_sem,seval];exact⟨⟨_,rfl⟩,by rw[e3,DM]⟩
  rintro ρ' H' ba ⟨rfl,⟨o1,rfl⟩,e3⟩ cq;simp only[go_sem,↓aB,seval,e3,gY]
def aOb(h:Has A g "aO" (xW g)):∀(n:Nat) (e:Expr) (H:LO),SizeOf.sizeOf e<n->gY e<=1000->aG A (g "aO") [.agg (aF e)] H=N1 (vi (aBM e),H,[]):=by
 intro n
 induction n with
 |zero=>intro e H hs;omega
 |succ n ih=>
  intro e H hs he;obtain⟨op,m,ks⟩:=e;refine h.call ?_;have gd:∀k∈ks,SizeOf.sizeOf k<n:=λk hm=>by
   have:=GY hm;simp only[Expr.mk.sizeOf_spec]at hs;omega
  unfold gY at he;have ax:=aEj ks;have Ik:=aEi ks;simp only[xW];simp only[go_sem,↓aB,seval,aF,aZ,AF];refine bJ (id:=0) (λi ρ1 H1 wr=>wr=[]/\ρ1 9=vi i/\(∃o1,H1=H++[o1])/\ρ1 3=vi (mN (ks.take i))) ks.length
   (λρ1 H1 wr=>wr=[]/\(∃o1,H1=H++[o1])/\ρ1 3=vi (mN ks))
   cB rfl ⟨rfl,rfl,⟨_,rfl⟩,rfl⟩ ?_ ?_
  ·rintro i ρ1 H1 dc mg ⟨rfl,e9,⟨o1,rfl⟩,e3⟩ cq;have f7:ρ1 7=.sl Po (ks.map aF):=cq 7 rfl;have f8:ρ1 8=vi ks.length:=cq 8 rfl;simp only[go_sem,↓aB,seval,e9,f8];refine aD (λhb=>?_) (λhb=>?_)
   ·have hlt:i<ks.length:=by simpa using hb
    have hg:(ks.map aF)[i]? = N1 (aF ks[i]):=getElem?_map_of hlt;have gq:(0:Int)<=(i:Int):=omT;have kx:((i:Int)).toNat=i:=omT;have Qe:=wS (i:=i) omT;have tk:=AS hlt;have Fg:=aIt tk;have az:=λH=>ih ks[i] H (gd _ tk) omT;have zm:(if mN (ks.take i)<aBM ks[i] then (aBM ks[i]:Int)else (mN (ks.take i):Int))=((mN (ks.take (i+1)):Nat):Int):=by rw[aEY ks i hlt];split<;>omega
    simp only[go_sem,↓aB,seval,f7,e9,e3,hg,gq,kx,dP,dX.take,bQ (aV ks[i]),aS (aV ks[i]),aK (aV ks[i]),az,Qe,mmV,aEE,mm2];exact⟨hlt,⟨_,rfl⟩,by rw[<- zm]⟩
   have hi:i=ks.length:=by simp at hb;omega
   subst hi;simp only[go_sem,seval];exact⟨⟨_,rfl⟩,by rw[e3,DM]⟩
  rintro ρ' H' ba ⟨rfl,⟨o1,rfl⟩,e3⟩ cq;have dy:AR.wrap ((mN ks:Int)+1)=((mN ks+1:Nat):Int):=by rw[wrap_i64 omT omT];omega
  simp only[go_sem,↓aB,seval,e3,aBM,dy]
mutual
def aBN:Bool->Expr->Bool
 |r,.mk op n ks => !(decide (op<0) || decide (op ≥ 11))&&(!((((((ks.length:Int) != (aCn op:Int)) || decide (n<0)) || decide (n>aAq op)) || ((((lev op:Nat):Int)==0) && !r)))&&aEZ ks)
def aEZ:List Expr->Bool
 | []=>Pa
 |k::r=>aBN Po k&&aEZ r
end
def aIu:∀l:List Expr,aEZ l=l.all (aBN Po)
 | []=>rfl
 |k::r=>by unfold aEZ;rw[aIu r];rfl
def aOc(h:Has A g "aQ" (xV g))(h1:Has A g "aR" (qY g)){fi:Nat}(hc:A.fn (g "as")=N1 (aLV fi)/\A.bq (g "as")=N2) (hi:A.fn fi=N1 (aKx 3 Pa)/\A.bq fi=N2):∀(n:Nat) (e:Expr) (r:Bool) (H:LO),SizeOf.sizeOf e<n->e.Ok->aG A (g "aQ") [.agg (aF e),.bool r] H=N1 (.bool (aBN r e),H,[]):=by
 intro n
 induction n with
 |zero=>intro e r H hs;omega
 |succ n ih=>
  intro e r H hs he;obtain⟨op,m,ks⟩:=e;obtain⟨_,_,_,_,_,zp,E7⟩:=he;refine h.call ?_;have gd:∀k∈ks,SizeOf.sizeOf k<n:=λk hm=>by
   have:=GY hm;simp only[Expr.mk.sizeOf_spec]at hs;omega
  have po:∀H,aG A (g "as") [.sl Po (ks.map aF),.fn (g "aR") [] []] H=N1 (.bool (!aEZ ks),H,[]):=λH=>by
   have lq:aUw A (g "aR") [] (λk=>.agg (aF k)) (λk => !aBN Po k) ks H:=λk hk=>by
    have:=ih k Po H (gd k hk) (E7 k hk);refine h1.call ?_;simp only[qY];simp only[go_sem,↓aB,seval,dP,dX.take,dX.still,dX.ga,aS (aV k),this]
   have:=aGr hc.1 hc.2 cQ (aDa hi.1 hi.2 dX cQ (by show ks.length<_;omega) lq);rw[this,aPC,aIu]
  have hx:aBN r (.mk op m ks)=(!(decide (op<0) || decide (op ≥ 11))&&(!((((((ks.length:Int) != (aCn op:Int)) || decide (m<0)) || decide (m>aAq op)) || ((((lev op:Nat):Int)==0) && !r)))&&aEZ ks)):=by conv=>lhs;unfold aBN
  simp only[xV];cases e1:decide (op<0)with
  |true=>rw[e1]at hx;simp only[go_sem,↓aB,seval,aF,aZ,e1,hx,EP,BQ,CE]
  |false=>
  cases e2:decide (op ≥ 11)with
  |true=>rw[e1,e2]at hx;simp only[go_sem,↓aB,seval,aF,aZ,e1,e2,hx,GV,BQ,Zz]
  |false=>
  rw[e1,e2]at hx;simp only[IJ,BF,BR]at hx;have o0:0<=op:=by simp at e1;omega
  have o1:op<11:=by simp at e2;omega
  simp only[go_sem,↓aB,seval,aF,aZ,e1,e2,o0,o1,Zz,BC,(hD o0 o1).1,(hD o0 o1).2,aAr];cases e3:((ks.length:Int) != (aCn op:Int))with
  |true=>rw[e3]at hx;simp only[go_sem,↓aB,seval,hx,EP,BT,BQ,CE]
  |false=>
  cases e4:decide (m<0)with
  |true=>rw[e3,e4]at hx;simp only[go_sem,↓aB,seval,e4,hx,EP,GV,BT,BQ,Zz,CE]
  |false=>
  cases e5:decide (m>aAq op)with
  |true=>rw[e3,e4,e5]at hx;simp only[go_sem,↓aB,seval,e4,e5,hx,EP,GV,BT,BQ,Zz,CE]
  |false=>
  rw[e3,e4,e5]at hx;simp only[IJ,II]at hx;cases e6:(((lev op:Nat):Int)==0)with
  |false=>rw[e6]at hx;simp only[go_sem,↓aB,seval,e4,e5,e6,hx,BF,BQ,BR,Zz,po,PE]
  |true=>
   rw[e6]at hx;cases r with
   |true=>simp only[go_sem,↓aB,seval,e4,e5,e6,hx,BT,BF,BR,MC,Zz,po,PE]
   |false=>simp only[go_sem,↓aB,seval,e4,e5,e6,hx,BT,BF,BQ,Bx,Zz]
end
inductive ew(id k:Nat):List LA->AV->ah->Prop
 |nil (o:ah):ew id k [] (.sl Pa []) o
 |obj (ver:Nat) (rows:List LA):ew id k rows (.sr id ver rows.length) (.vec ver k rows)
section
variable {id k:Nat}{rows:List LA}{v:AV}{o:ah}
def ew.ak(h:ew id k rows v o):v.ak=true:=by cases h<;>rfl
def ew.aj(h:ew id k rows v o):v.cells=[v]:=by cases h<;>rfl
def getElem?_lt{α:Type}{l:List α}{i:Nat}{a:α}(h:l[i]? = N1 a):i<l.length:=by
 rcases Nat.lt_or_ge i l.length with h1 | h1
 ·exact h1
 rw[CY h1]at h;cases h
def aJo{α:Type}{l:List α}{i:Nat}{a:α}(h:l[i]? = N1 a):l.set i a=l:=by
 apply HN;intro j;by_cases e:i=j
 ·subst e;rw[BW (getElem?_lt h),h]
 rw[CL e]
def ew.app(h:ew id k rows v o){new:List LA}{bytes:Nat}(hn:new≠[])(hk:dF k new=Pa)(hr:(rows.length+new.length)*(bytes+1)<=1099511627776):∃v' o',ew id k (rows++new) v' o'/\∀H f,H[id]? = N1 o->eX H (N1 id) k bytes v (.sl f new)=N1 (v',H.set id o',[id]):=by
 obtain⟨a,l,rfl⟩:=ER hn;have ed:bP (rows.length+(a::l).length) bytes=true:=by unfold bP;simpa using hr
 cases h with
 |nil=>refine⟨.sr id (o.ver+1) (a::l).length,.vec (o.ver+1) k (a::l),ew.obj _ _,λH f ho=>?_⟩;unfold eX;simp only[cG,dO,hk];simp only[NM,dF,BT,BX,Zu,BR,AZ,BC];simp only[AZ,BC]at ed;rw[Zy (by rw[ed]),Zy (getElem?_lt ho)];simp only[bH,make,ho,HC,CW]
 |obj ver=>refine⟨.sr id ver (rows++a::l).length,.vec ver k (rows++a::l),ew.obj _ _,λH f ho=>?_⟩;unfold eX;simp only[cG,dO,hk];simp only[BT,BX,Zu,ho,ed,and_self,Zv,NM,BA]
def ew.dw(h:ew id k rows v o)(hd:gG rows=Pa):∃f l o',(∀H,H[id]? = N1 o->aA2 H v=N1 (.sl f rows,l))/\(∀H,H[id]? = N1 o->dL H l=H.set id o')/\(∀b wr,b<=id->bE b wr l=wr):=by
 cases h with
 |nil=>exact⟨Pa,[],o,λH _=>rfl,λH ho=>by rw[aJo ho];rfl,λ_ _ _=>rfl⟩
 |obj ver=>
  refine⟨Po,[id],.gone ver,λH ho=>?_,λH ho=>?_,λb wr hb=>?_⟩
  ·show (match H[id]? with
    |some (.vec v' _ bt)=>if v'=ver/\bt.length=rows.length/\bt.all (λr=>r.all AV.still)then N1 (AV.sl Po bt,[id])else N2
    |_=>N2)=_
   rw[ho];simp only[aT hd,and_self,Zv]
  ·simp only[dL,ho];rfl
  unfold bE;rw[Zx omT];rfl
end
abbrev aHC(g:SN):List ae:=[qm 16 0,qq 17 (.bsl 1 [(.int .u8 0)] 1 [(0,(.const (.int .u8 40)))]),⟨N1 18,oa 1 1 16 17,N2,[0,1]⟩,qla 19 3 4,⟨N1 20,.ee (uf (g "b")) [(.tmp 18),(.tmp 19),(.const z0)],N2,[3,2,0,1]⟩,qq 21 (.bsl 1 [(.int .u8 0)] 1 [(0,(.const (.int .u8 41)))]),⟨N1 22,oa 1 1 20 21,N2,[5,4,3,2,0,1]⟩,⟨N1 6,om 22,N2,[6,5,4,3,2,0,1]⟩]
abbrev aBO:LN:=[2,3]
abbrev aHD(g:SN):List ae:=[qm 42 0,qq 43 (.bsl 1 [(.int .u8 0)] 1 [(0,(.const (.int .u8 45)))]),⟨N1 44,oa 1 1 42 43,N2,[0,1]⟩,qf 45 2 4,⟨N1 46,ol 1 45,N2,[3]⟩,⟨N1 47,.iaV (u 46) (ui 0) 3,N2,[4,3]⟩,⟨N1 48,ola 3 47,N2,[5,4,3]⟩,⟨N1 49,.ee (uf (g "b")) [(.tmp 44),(.tmp 48),(.const (vi 3))],N2,[6,5,4,3,2,0,1]⟩,⟨N1 6,om 49,N2,[7,6,5,4,3,2,0,1]⟩]
abbrev aBP:LN:=[2,4,6]
abbrev aHE(g:SN):List ae:=[qm 52 0,qq 53 (.bsl 1 [(.int .u8 0)] 2 [(0,(.const (.int .u8 82))),(1,(.const (.int .u8 40)))]),⟨N1 54,oa 1 1 52 53,N2,[0,1]⟩,qf 55 2 4,⟨N1 56,ol 1 55,N2,[3]⟩,⟨N1 57,.iaV (u 56) (ui 0) 3,N2,[4,3]⟩,⟨N1 58,ola 3 57,N2,[5,4,3]⟩,⟨N1 59,.ee (uf (g "b")) [(.tmp 54),(.tmp 58),(.const (vi 1))],N2,[6,5,4,3,2,0,1]⟩,qq 60 (.bsl 1 [(.int .u8 0)] 1 [(0,(.const (.int .u8 41)))]),⟨N1 61,oa 1 1 59 60,N2,[8,7,6,5,4,3,2,0,1]⟩,⟨N1 6,om 61,N2,[9,8,7,6,5,4,3,2,0,1]⟩]
abbrev aBQ:LN:=[2,4,6]
abbrev aHF(g:SN):List ae:=[qm 64 0,qf 65 2 4,⟨N1 66,ol 1 65,N2,[1]⟩,⟨N1 67,.iaV (u 66) (ui 0) 3,N2,[2,1]⟩,⟨N1 68,ola 3 67,N2,[3,2,1]⟩,⟨N1 69,.ee (uf (g "b")) [(.tmp 64),(.tmp 68),(.const (vi 4))],N2,[0,4,3,2,1]⟩,qq 70 (.bsl 1 [(.int .u8 0)] 1 [(0,(.const (.int .u8 94)))]),⟨N1 71,oa 1 1 69 70,N2,[6,5,0,4,3,2,1]⟩,qf 72 2 4,⟨N1 73,ol 1 72,N2,[8]⟩,⟨N1 74,.iaV (u 73) (ui 1) 3,N2,[9,8]⟩,⟨N1 75,ola 3 74,N2,[10,9,8]⟩,⟨N1 76,.ee (uf (g "b")) [(.tmp 71),(.tmp 75),(.const (vi 3))],N2,[11,10,9,8,7,6,5,0,4,3,2,1]⟩,⟨N1 6,om 76,N2,[12,11,10,9,8,7,6,5,0,4,3,2,1]⟩]
abbrev aBR:LN:=[5,7,9,11]
def gV(g:SN):ag:=.block 0 (qS [qbi 26 .eql 24 0,qm 25 26]<|qC 25 (qS [qm 27 0,qf 28 1 4,ql 29 1 28,qq 30 (.ee (uf (g "br")) [(.tmp 27),(.tmp 29),(.const (vi 10))]),qm 6 30]<|.ret) (qS [qbi 32 .eql 24 1,qm 31 32]<|qC 31 (qS [qm 33 0,qf 34 1 4,ql 35 1 34,qq 36 (.bin .add .no (ui 97) (u 35)),qq 37 (.conv (.toInt .u8) (u 36)),qq 38 (.bsl 1 [(.int .u8 0)] 1 [(0,(.tmp 37))]),qa 39 1 1 33 38,qm 6 39]<|.ret) (qS [qbi 41 .eql 24 2,qm 40 41]<|qC 40 (.seq (.region Pa (aHD g))<|.ret) (qS [qbi 51 .eql 24 8,qm 50 51]<|qC 50 (.seq (.region Pa (aHE g))<|.ret) (qS [qbi 63 .eql 24 7,qm 62 63]<|qC 62 (.seq (.region Pa (aHF g))<|.ret) (.skip))))))
abbrev aHG(g:SN):List ae:=[qm 77 0,qf 78 2 4,⟨N1 79,ol 1 78,N2,[1]⟩,⟨N1 80,.iaV (u 79) (ui 0) 3,N2,[2,1]⟩,⟨N1 81,ola 3 80,N2,[3,2,1]⟩,qf 82 2 7,⟨N1 83,ol 1 82,N2,[5]⟩,⟨N1 84,.mm Pa [(.const (vi 1)),(.tmp 83)],N2,[6,5]⟩,⟨N1 85,.ee (uf (g "b")) [(.tmp 77),(.tmp 81),(.tmp 84)],N2,[0,4,3,2,1,7,6,5]⟩,qf 86 3 7,⟨N1 87,ol 1 86,N2,[9]⟩,⟨N1 88,.bsl 1 [(.int .u8 0)] 1 [(0,(.tmp 87))],N2,[10,9]⟩,⟨N1 89,oa 1 1 85 88,N2,[11,10,9,8,0,4,3,2,1,7,6,5]⟩,qf 90 2 4,⟨N1 91,ol 1 90,N2,[13]⟩,⟨N1 92,.iaV (u 91) (ui 1) 3,N2,[14,13]⟩,⟨N1 93,ola 3 92,N2,[15,14,13]⟩,qf 94 2 7,⟨N1 95,ol 1 94,N2,[17]⟩,⟨N1 96,obi .add 95 1,N2,[18,17]⟩,⟨N1 97,.ee (uf (g "b")) [(.tmp 89),(.tmp 93),(.tmp 96)],N2,[16,15,14,13,19,18,17,12,11,10,9,8,0,4,3,2,1,7,6,5]⟩,⟨N1 6,om 97,N2,[20,16,15,14,13,19,18,17,12,11,10,9,8,0,4,3,2,1,7,6,5]⟩]
abbrev aBS:LN:=[8,10,12,14,16,18]
def dN(g:SN):bw:=⟨98,[7,18,30,39,44,54,69,85],[.tmp 6],qS [qx 4 3 1,qmc 6 (.sl Pa [])]<|qS [qf 8 0 4,ql 9 1 8,qq 10 (.iaA 11 4 (uc (.ep aRZ 0)) (u 9)),qla 11 4 10,qq 7 (.alloc [z0,z0,z0,(.int .u8 0)]),qs 4 7 11]<|.seq (qS [qf 12 2 7,ql 13 1 12,qm 14 2,qb 15 .lss 13 14]<|qC 15 (.seq (.region Pa (aHC g))<|.ret) (.skip))<|.seq (qS [qf 23 0 4,ql 24 1 23]<|gV g)<|.seq (.region Pa (aHG g))<|.ret⟩
def aF0(g:SN):bw:=⟨9,[],[.tmp 2],qS [qx 1 3 0,qmc 2 (.str [])]<|.seq (qS [qla 3 3 1,qc 4 (g "bs") [u 3],qbi 5 .neq 4 0]<|qC 5 (qS [qmc 2 (.str [])]<|.ret) (.skip))<|qS [qla 6 3 1,qq 7 (.ee (uf (g "b")) [(.const (.sl Pa [])),(.tmp 6),(.const z0)]),qq 8 (.conv .b2s (u 7)),qm 2 8]<|.ret⟩
def vW(g:SN):bw:=⟨11,[10],[.tmp 6],qS [qmc 6 (.sl Pa [])]<|qS [qm 7 0,qm 8 1,qm 9 2,qq 10 (.ee (uf (g "bt")) [(.tmp 7),(.tmp 8),(.tmp 9)]),qm 6 10]<|.ret⟩
abbrev rb(s:Str):List LA:=s.map aRV
def aJp(s:Str):gG (rb s)=true:=aC (λb=>rfl) s
def aEk(s:Str):dF 1 (rb s)=true:=by cases s<;>rfl
def kG(s:Str):(rb s).length=s.length:=AF ..
inductive Q9(H:LO):Str->AV->Prop where
 |nil:Q9 H [] (.sl Pa [])
 |obj (id ver:Nat) (s:Str):H[id]? = N1 (.vec ver 1 (rb s))->Q9 H s (.sr id ver s.length)
def oX(H:LO)(t s:Str):AV->Out
 |.sr id ver _=>N1 (.sr id ver (t.length+s.length),H.set id (.vec ver 1 (rb (t++s))),[id])
 |_=>N1 (.own 1 (rb s),H,[])
def fY(A:af)(f:Nat)(args:LA)(s:Str):Prop:=∀(H:LO) (t:Str) (v:AV),Q9 H t v->t.length+s.length<=1000000->aG A f (v::args) H=oX H t s v
structure At(H:LO)(i:Nat)(t:Str)(v:AV)(L:LO)(o ver:Nat):Prop where
 place:o=H.length+i∨o<H.length
 lt:o<(H++L).length
 fin:∀(L':LO) (s:Str),L'.length=L.length->(match aDR H.length ((H++L').set o (.vec ver 1 (rb (t++s)))) (.sr o ver (t++s).length)with
  |some (v',H',l)=>N1 (cJ H.length (v',H',bE H.length (bE H.length [] [o]) l))
  |none=>N2)=oX H t s v
def vX(a b:Str):rb (a++b)=rb a++rb b:=DQ ..
def aS0{H L:LO}{o:Nat}{x:ah}(h:o<H.length):((H++L).set o x).take H.length=H.set o x:=by rw[DX _ _ h];exact KG siT
def aPN{H L:LO}{i:Nat}{x:ah}:((H++L).set (H.length+i) x).take H.length=H:=by rw[IP _ _ omT];exact KG rfl
def At.own{H L:LO}{i ver:Nat}(hi:i<L.length):At H i [] (.sl Pa []) L (H.length+i) ver:=by
 refine⟨.inl rfl,soT,λL' s hl=>?_⟩;have h1:((H++L').set (H.length+i) (.vec ver 1 (rb s)))[H.length+i]? = N1 (.vec ver 1 (rb s)):=BW soT;have bd:((rb s).all λr=>r.all AV.still)=true:=aT (aJp s);simp only[CW,aDR,h1,Nat.not_lt.2 (EG H.length i),Zu,kG,EG,bd,and_self,Zv,oX];have hg:dL ((H++L').set (H.length+i) (.vec ver 1 (rb s))) [H.length+i]=(H++L').set (H.length+i) (.gone ver):=by simp only[dL,h1,HC,ah.ver,EO]
 have hw:bE H.length (bE H.length [] [H.length+i]) [H.length+i]=[]:=by simp[bE,show ¬(H.length+i<H.length)by omega]
 rw[hg,hw,qQ (by show eR H.length (rb s)=Pa;exact aA (aJp s)),aPN]
def At.old{H L:LO}{i id ver:Nat}{t:Str}(h:H[id]? = N1 (.vec ver 1 (rb t))):At H i t (.sr id ver t.length) L id ver:=by
 have hid:=getElem?_lt h;refine⟨.inr hid,soT,λL' s hl=>?_⟩;have h1:((H++L').set id (.vec ver 1 (rb (t++s))))[id]? = N1 (.vec ver 1 (rb (t++s))):=BW soT;have hw:bE H.length [] [id]=[id]:=by simp[bE,hid]
 have gn:bE H.length [id] []=[id]:=rfl;simp only[aDR,hid,Zv,hw,gn,oX,BA];rw[xI (x:=.vec ver 1 (rb (t++s))) (by simp[AV.under,hid]) h1 (by show eR H.length (rb (t++s))=Pa;exact aA (aJp _)),aS0 hid]
@[go_sem] def aUR{b o:Nat}:bE b (bE b [] [o]) [o]=bE b [] [o]:=by by_cases h:o<b<;>simp[bE,h]
def Q9.app{H L:LO}{i:Nat}{t:Str}{v:AV}(hb:Q9 H t v)(ht:t.length<=1000000)(hi:i<L.length)(new:Str)(hn:new≠[])(hl:new.length<=1000000):∃o ver,At H i t v L o ver /\ ∀f,eX (H++L) (N1 (H.length+i)) 1 1 v (.sl f (rb new))=N1 (.sr o ver (t++new).length,(H++L).set o (.vec ver 1 (rb (t++new))),[o]):=by
 have bl:(rb new).isEmpty=false:=by cases new with | nil=>exact Zw rfl hn | cons a r=>rfl
 cases hb with
 |nil=>
  refine⟨H.length+i,((L[i]?).elim 0 ah.ver)+1,.own hi,λf=>?_⟩;have hr:bP (rb new).length 1=true:=by unfold bP;rw[kG];simp;omega
  have pw:bP (0+(rb new).length) 1=true:=by rw[BC];exact hr
  have hlt:H.length+i<(H++L).length:=soT;have hv:bH (H++L) (H.length+i)=((L[i]?).elim 0 ah.ver)+1:=by unfold bH;rw[BU omT,FL]
  unfold eX;simp only[cG,dO,aEk,bl,BT,BX,Zu,BR,show dF 1 []=Pa from rfl,AZ,Zv,hlt,hv,CW,BC];unfold make;rw[BU omT,FL];rw[kG]at hr ⊢;rw[Zy hr]
 |obj id ver t h=>
  refine⟨id,ver,.old h,λf=>?_⟩;have hid:=getElem?_lt h;have h1:(H++L)[id]? = N1 (.vec ver 1 (rb t)):=by rw[BM hid];exact h
  have hr:bP (t.length+(rb new).length) 1=true:=by unfold bP;rw[kG];simp;omega
  unfold eX;simp only[cG,dO,aEk,bl,BT,BX,Zu,h1,kG,vX,BA];rw[Zy];rw[kG]at hr;exact⟨trivial,trivial,trivial,hr⟩
def Q9.call{A:af}{f:Nat}{args:LA}{H L:LO}{i:Nat}{t s:Str}{v:AV}(hb:Q9 H t v)(ht:t.length+s.length<=1000000)(hi:i<L.length)(hf:fY A f args s):∃o ver,At H i t v L o ver /\ dY (N1 (H.length+i)) Pa (H++L) (aG A f (v::args) (H++L))=N1 (.sr o ver (t++s).length,(H++L).set o (.vec ver 1 (rb (t++s))),[o]):=by
 cases hb with
 |nil=>
  refine⟨H.length+i,((L[i]?).elim 0 ah.ver)+1,.own hi, ?_⟩;rw[hf (H++L) [] (.sl Pa []) .nil ht];have hlt:H.length+i<(H++L).length:=soT;have hv:bH (H++L) (H.length+i)=((L[i]?).elim 0 ah.ver)+1:=by unfold bH;rw[BU omT,FL]
  simp only[oX,dY,Zv,hlt,hv,kG,CW,De,BX,Zu];unfold make;rw[BU omT,FL]
 |obj id ver t h=>
  refine⟨id,ver,.old h, ?_⟩;have hid:=getElem?_lt h;have h1:(H++L)[id]? = N1 (.vec ver 1 (rb t)):=by rw[BM hid];exact h
  rw[hf (H++L) t _ (.obj id ver t h1) ht];simp only[oX,dY,Zv,BA]
def aN4{Z:LO}{o ver:Nat}{t new:Str}{f:Bool}{site:Option Nat}(ho:o<Z.length)(hn:new≠[])(hl:t.length+new.length<=10000000):eX (Z.set o (.vec ver 1 (rb t))) site 1 1 (.sr o ver t.length) (.sl f (rb new))=N1 (.sr o ver (t++new).length,Z.set o (.vec ver 1 (rb (t++new))),[o]):=by
 have bl:(rb new).isEmpty=false:=by cases new with | nil=>exact Zw rfl hn | cons a r=>rfl
 have h1:(Z.set o (.vec ver 1 (rb t)))[o]? = N1 (.vec ver 1 (rb t)):=BW ho;have hr:bP (t.length+(rb new).length) 1=true:=by unfold bP;rw[kG];simp;omega
 unfold eX;simp only[cG,dO,aEk,bl,BT,BX,Zu,h1,kG,vX,BA,EO];rw[Zy];rw[kG]at hr;exact⟨trivial,trivial,trivial,hr⟩
def aGC{A:af}{f:Nat}{args:LA}{Z:LO}{o ver:Nat}{t s:Str}(ho:o<Z.length)(ht:t.length+s.length<=1000000)(hf:fY A f args s):aG A f (.sr o ver t.length::args) (Z.set o (.vec ver 1 (rb t)))=N1 (.sr o ver (t++s).length,Z.set o (.vec ver 1 (rb (t++s))),[o]):=by rw[hf (Z.set o (.vec ver 1 (rb t))) t _ (.obj o ver t (BW ho)) ht];simp only[oX,BA,EO]
def At.done{H L:LO}{i:Nat}{t:Str}{v:AV}{o ver:Nat}(a:At H i t v L o ver){L':LO}(hl:L'.length=L.length)(s:Str):bnd (match (if o<H.length then N1 (AV.sr o ver (t.length+s.length),(H++L').set o (.vec ver 1 (rb (t++s))),[])else match ((H++L').set o (.vec ver 1 (rb (t++s))))[o]? with
    |some (.vec v' k rows)=>if v'=ver/\rows.length=t.length+s.length/\H.length<=o/\(rows.all λr=>r.all AV.still)=Pa then
      N1 (.own k rows,(H++L').set o (.gone ((((H++L').set o (.vec ver 1 (rb (t++s))))[o]?).elim 0 ah.ver)),[o])else N2
    |_=>N2)with
   |some (v',H',l)=>N1 (v',H',bE H.length (bE H.length [] [o]) l)
   |none=>N2) λr=>bnd (N1 (cJ H.length r)) λr=>N1 (r.1,r.2.1,r.2.2)=oX H t s v:=by
 have h:=a.fin L' s hl;rw[BA,aUq]at h;simp only[dL,EO]at h;generalize (if o<H.length then N1 (AV.sr o ver (t.length+s.length),(H++L').set o (.vec ver 1 (rb (t++s))),[])else match ((H++L').set o (.vec ver 1 (rb (t++s))))[o]? with
    |some (.vec v' k rows)=>if v'=ver/\rows.length=t.length+s.length/\H.length<=o/\(rows.all λr=>r.all AV.still)=Pa then
      N1 (.own k rows,(H++L').set o (.gone ((((H++L').set o (.vec ver 1 (rb (t++s))))[o]?).elim 0 ah.ver)),[o])else N2
    |_=>N2)=z at h ⊢
 cases z with
 |none=>dsimp only at h;cases v<;>cases h
 |some r=>obtain⟨v',H',l⟩:=r;exact h
def kQ(op:Int):(aAr op).length=4:=rfl
def oF(op:Int):(aAr op).all AV.ak=true:=rfl
def kS(op:Int):((aAr op).drop 2).take 1=[vi (lev op)]:=rfl
def aOd(op:Int):((aAr op).drop 3).take 1=[.int .u8 (sgI op)]:=rfl
def aPO(op n:Int)(a:Expr):wX (.mk op n [a])=if op=2 then 45::par a 3 (wX a)else 82::40::(par a 1 (wX a)++[41]):=by conv=>lhs;unfold wX
def aN5(op n:Int)(a b:Expr):wX (.mk op n [a,b])=if op=7 then par a 4 (wX a)++94::par b 3 (wX b)else par a (max 1 (lev op)) (wX a)++sg op::par b (lev op+1) (wX b):=by conv=>lhs;unfold wX
section
variable {A:af}{g:SN}
abbrev aFl(op:Int):LO:=[.box 1 (aAr op),.gone 0,.gone 0,.gone 0,.gone 0,.gone 0,.gone 0,.gone 0]
def aUS(h:Has A g "b" (dN g))(hi:∀n:Int,0<=n->n<=999999->fY A (g "br") [vi n,vi 10] (dec n.toNat)){n:Int}(h0:0<=n)(h9:n<=999999){op:Int}(eo:op=0){L:Nat}(hL:L<=lev op):fY A (g "b") [.agg (aF (.mk op (n) [])),vi L] (wX (.mk op (n) [])):=by
 intro H t v hb ht;obtain⟨v1,H1,dc,h1,h2⟩:=h.bp (args:=[v,.agg (aF (.mk op (n) [])),vi L]) (H:=H) (K:=λv' H'' ba=>N1 (v',H'',ba)=oX H t (wX (.mk op (n) [])) v) (by
  have pq:decide (lev op<L)=false:=by rw[decide_eq_false_iff_not];omega
  have o0:0<=op:=omT;have o1:op<11:=omT;simp only[dN];simp only[go_sem,↓aB,seval,aF,aZ,o0,o1,BC,(hD o0 o1).1,(hD o0 o1).2,kQ,oF,AJ,kS,pq];subst eo;have hw:wX (.mk 0 n [])=dec n.toNat:=by unfold wX;rfl
  rw[hw]at ht ⊢;obtain⟨o,ver,jk,kq⟩:=hb.call (L:=aFl 0) (i:=2) ht deT (hi n h0 h9);simp only[gV];simp only[go_sem,↓aB,seval,kq];exact jk.done rfl _)
 rw[h1,h2]
def aUT(h:Has A g "b" (dN g)){n:Int}(h0:0<=n)(h1:n<=25){op:Int}(eo:op=1){L:Nat}(hL:L<=lev op):fY A (g "b") [.agg (aF (.mk op (n) [])),vi L] (wX (.mk op (n) [])):=by
 intro H t v hb ht;obtain⟨v1,H1,dc,h1,h2⟩:=h.bp (args:=[v,.agg (aF (.mk op (n) [])),vi L]) (H:=H) (K:=λv' H'' ba=>N1 (v',H'',ba)=oX H t (wX (.mk op (n) [])) v) (by
  have pq:decide (lev op<L)=false:=by rw[decide_eq_false_iff_not];omega
  have o0:0<=op:=omT;have o1:op<11:=omT;simp only[dN];simp only[go_sem,↓aB,seval,aF,aZ,o0,o1,BC,(hD o0 o1).1,(hD o0 o1).2,kQ,oF,AJ,kS,pq];subst eo;have hw:wX (.mk 1 n [])=[CN (97+n.toNat)]:=by unfold wX;rfl
  rw[hw]at ht ⊢;obtain⟨o,ver,jk,kq⟩:=hb.app (L:=aFl 1) (i:=3) (by simp at ht;omega) deT [CN (97+n.toNat)] siT siT;have kq:eX (H++aFl 1) (N1 (H.length+3)) 1 1 v (.sl Pa [[.int .u8 ((CN (97+n.toNat)).toNat:Nat)]])=_:=kq Pa;have hc:IntKind.u8.wrap (AR.wrap (97+n))=(((CN (97+n.toNat)).toNat:Nat):Int):=by rw[aKJ omT,wrap_i64 omT omT];unfold GA;simp[IntKind.bits,IntKind.signed];omega
  simp only[gV];simp only[go_sem,↓aB,seval,pT,hc,kq];exact jk.done rfl _)
 rw[h1,h2]
def aUU(h:Has A g "b" (dN g)){a:Expr}(ia:∀L:Nat,L<=4->fY A (g "b") [.agg (aF a),vi L] (par a L (wX a))){op:Int}(eo:op=2){L:Nat}(hL:L<=lev op):fY A (g "b") [.agg (aF (.mk op (0) [a])),vi L] (wX (.mk op (0) [a])):=by
 intro H t v hb ht;obtain⟨v1,H1,dc,h1,h2⟩:=h.bp (args:=[v,.agg (aF (.mk op (0) [a])),vi L]) (H:=H) (K:=λv' H'' ba=>N1 (v',H'',ba)=oX H t (wX (.mk op (0) [a])) v) (by
  have pq:decide (lev op<L)=false:=by rw[decide_eq_false_iff_not];omega
  have o0:0<=op:=omT;have o1:op<11:=omT;simp only[dN];simp only[go_sem,↓aB,seval,aF,aZ,o0,o1,BC,(hD o0 o1).1,(hD o0 o1).2,kQ,oF,AJ,kS,pq];subst eo;have hw:wX (.mk 2 0 [a])=45::par a 3 (wX a):=aPO 2 0 a;rw[hw]at ht ⊢;have hl:t.length+(1+(par a 3 (wX a)).length)<=1000000:=by simp at ht;omega
  obtain⟨o,ver,jk,db⟩:=hb.app (L:=aFl 2) (i:=4) omT deT [45] siT siT;have db:eX (H++aFl 2) (N1 (H.length+4)) 1 1 v (.sl Pa [[.int .u8 45]])=_:=db Pa;have az:aG A (g "b") [.sr o ver (t++[45]).length,.agg (aF a),vi 3] _=_:=aGC (t:=t++[45]) (ver:=ver) jk.lt soT (ia 3 deT);simp only[BA,AW,AZ,BC]at db az;have hd:=jk.done (L':=aFl 2) rfl (45::par a 3 (wX a));rw[show t++45::par a 3 (wX a)=t++[45]++par a 3 (wX a)by simp,show t.length+(45::par a 3 (wX a)).length=t.length+1+(par a 3 (wX a)).length by simp;omega]at hd;simp only[gV];simp only[go_sem,↓aB,seval];refine aY (aq:=aBP) rfT rfT ?_;simp only[go_sem,↓aB,seval,aBP,eH,dG,aL,db,az,BI,BY,BG,dP,dX.take,CP];exact hd)
 rw[h1,h2]
def aS1(h:Has A g "b" (dN g)){a:Expr}(ia:∀L:Nat,L<=4->fY A (g "b") [.agg (aF a),vi L] (par a L (wX a))){op:Int}(eo:op=8){L:Nat}(hL:L<=lev op):fY A (g "b") [.agg (aF (.mk op (0) [a])),vi L] (wX (.mk op (0) [a])):=by
 intro H t v hb ht;obtain⟨v1,H1,dc,h1,h2⟩:=h.bp (args:=[v,.agg (aF (.mk op (0) [a])),vi L]) (H:=H) (K:=λv' H'' ba=>N1 (v',H'',ba)=oX H t (wX (.mk op (0) [a])) v) (by
  have pq:decide (lev op<L)=false:=by rw[decide_eq_false_iff_not];omega
  have o0:0<=op:=omT;have o1:op<11:=omT;simp only[dN];simp only[go_sem,↓aB,seval,aF,aZ,o0,o1,BC,(hD o0 o1).1,(hD o0 o1).2,kQ,oF,AJ,kS,pq];subst eo;have hw:wX (.mk 8 0 [a])=82::40::(par a 1 (wX a)++[41]):=aPO 8 0 a;rw[hw]at ht ⊢;have hl:t.length+(3+(par a 1 (wX a)).length)<=1000000:=by simp at ht;omega
  obtain⟨o,ver,jk,db⟩:=hb.app (L:=aFl 8) (i:=5) omT deT [82,40] siT siT;have db:eX (H++aFl 8) (N1 (H.length+5)) 1 1 v (.sl Pa [[.int .u8 82],[.int .u8 40]])=_:=db Pa;have az:aG A (g "b") [.sr o ver (t++[82,40]).length,.agg (aF a),vi 1] _=_:=aGC (t:=t++[82,40]) (ver:=ver) jk.lt soT (ia 1 deT);have ll:∀site,eX _ site 1 1 _ (.sl Pa [[.int .u8 41]])=_:=λsite=>aN4 (Z:=H++aFl 8) (ver:=ver) (t:=t++[82,40]++par a 1 (wX a)) (new:=[41]) (f:=Pa) (site:=site) jk.lt siT soT;simp only[BA,AW,AZ,BC,NA]at db az ll;have hd:=jk.done (L':=aFl 8) rfl (82::40::(par a 1 (wX a)++[41]));rw[show t++82::40::(par a 1 (wX a)++[41])=t++[82,40]++par a 1 (wX a)++[41] by simp,show t.length+(82::40::(par a 1 (wX a)++[41])).length=t.length+2+(par a 1 (wX a)).length+1 by simp;omega]at hd;simp only[gV];simp only[go_sem,↓aB,seval];refine aY (aq:=aBQ) rfT rfT ?_;simp only[go_sem,↓aB,seval,aBQ,eH,dG,aL,db,az,ll,BI,BY,BG,dP,dX.take,CP];exact hd)
 rw[h1,h2]
def aUV(h:Has A g "b" (dN g)){a b:Expr}(ia:∀L:Nat,L<=4->fY A (g "b") [.agg (aF a),vi L] (par a L (wX a)))(ib:∀L:Nat,L<=4->fY A (g "b") [.agg (aF b),vi L] (par b L (wX b))){op:Int}(eo:op=7){L:Nat}(hL:L<=lev op):fY A (g "b") [.agg (aF (.mk op (0) [a,b])),vi L] (wX (.mk op (0) [a,b])):=by
 intro H t v hb ht;obtain⟨v1,H1,dc,h1,h2⟩:=h.bp (args:=[v,.agg (aF (.mk op (0) [a,b])),vi L]) (H:=H) (K:=λv' H'' ba=>N1 (v',H'',ba)=oX H t (wX (.mk op (0) [a,b])) v) (by
  have pq:decide (lev op<L)=false:=by rw[decide_eq_false_iff_not];omega
  have o0:0<=op:=omT;have o1:op<11:=omT;simp only[dN];simp only[go_sem,↓aB,seval,aF,aZ,o0,o1,BC,(hD o0 o1).1,(hD o0 o1).2,kQ,oF,AJ,kS,pq];subst eo;have hw:wX (.mk 7 0 [a,b])=par a 4 (wX a)++94::par b 3 (wX b):=aN5 7 0 a b;rw[hw]at ht ⊢;have hl:t.length+((par a 4 (wX a)).length+(1+(par b 3 (wX b)).length))<=1000000:=by simp at ht;omega
  obtain⟨o,ver,jk,kq⟩:=hb.call (L:=aFl 7) (i:=6) omT deT (ia 4 deT);have kq:dY (N1 (H.length+6)) Pa (H++aFl 7) (aG A (g "b") [v,.agg (aF a),vi 4] (H++aFl 7))=_:=kq;have ll:∀site,eX _ site 1 1 _ (.sl Pa [[.int .u8 94]])=_:=λsite=>aN4 (Z:=H++aFl 7) (ver:=ver) (t:=t++par a 4 (wX a)) (new:=[94]) (f:=Pa) (site:=site) jk.lt siT soT;have az:aG A (g "b") [.sr o ver (t++par a 4 (wX a)++[94]).length,.agg (aF b),vi 3] _=_:=aGC (t:=t++par a 4 (wX a)++[94]) (ver:=ver) jk.lt soT (ib 3 deT);simp only[BA,AW,AZ,BC]at kq az ll;have hd:=jk.done (L':=aFl 7) rfl (par a 4 (wX a)++94::par b 3 (wX b));rw[show t++(par a 4 (wX a)++94::par b 3 (wX b))=t++par a 4 (wX a)++[94]++par b 3 (wX b)by simp,show t.length+(par a 4 (wX a)++94::par b 3 (wX b)).length=t.length+(par a 4 (wX a)).length+1+(par b 3 (wX b)).length by simp;omega]at hd;simp only[gV];simp only[go_sem,↓aB,seval];refine aY (aq:=aBR) rfT rfT ?_;simp only[go_sem,↓aB,seval,aBR,eH,dG,aL,kq,az,ll,BI,BY,BG,CT,dP,dX.take,CP];exact hd)
 rw[h1,h2]
def aGD(h:Has A g "b" (dN g)){op:Int}(ho:op=3∨op=4∨op=5∨op=6∨op=9∨op=10){a b:Expr}(ia:∀L:Nat,L<=4->fY A (g "b") [.agg (aF a),vi L] (par a L (wX a)))(ib:∀L:Nat,L<=4->fY A (g "b") [.agg (aF b),vi L] (par b L (wX b))){L:Nat}(hL:L<=lev op):fY A (g "b") [.agg (aF (.mk (op) (0) [a,b])),vi L] (wX (.mk (op) (0) [a,b])):=by
 intro H t v hb ht;obtain⟨v1,H1,dc,h1,h2⟩:=h.bp (args:=[v,.agg (aF (.mk (op) (0) [a,b])),vi L]) (H:=H) (K:=λv' H'' ba=>N1 (v',H'',ba)=oX H t (wX (.mk (op) (0) [a,b])) v) (by
  have pq:decide (lev (op)<L)=false:=by rw[decide_eq_false_iff_not];omega
  have o0:0<=op:=omT;have o1:op<11:=omT;simp only[dN];simp only[go_sem,↓aB,seval,aF,aZ,o0,o1,BC,(hD o0 o1).1,(hD o0 o1).2,kQ,oF,AJ,kS,pq];have hw:wX (.mk op 0 [a,b])=par a (max 1 (lev op)) (wX a)++sg op::par b (lev op+1) (wX b):=by rw[aN5,Zx omT]
  rw[hw]at ht ⊢;have hl:t.length+((par a (max 1 (lev op)) (wX a)).length+(1+(par b (lev op+1) (wX b)).length))<=1000000:=by simp at ht;omega
  have yv:lev op<=2:=by have:op=3∨op=4∨op=5∨op=6∨op=9∨op=10:=omT;rcases this with rfl | rfl | rfl | rfl | rfl | rfl<;>decide
  have ot:sgI op=(((sg op).toNat:Nat):Int):=by have:op=3∨op=4∨op=5∨op=6∨op=9∨op=10:=omT;rcases this with rfl | rfl | rfl | rfl | rfl | rfl<;>decide
  obtain⟨o,ver,jk,kq⟩:=hb.call (L:=aFl op) (i:=7) omT (by show 7<8;decide) (ia (max 1 (lev op)) omT);have kq:dY (N1 (H.length+7)) Pa (H++aFl op) (aG A (g "b") [v,.agg (aF a),vi ((max 1 (lev op):Nat):Int)] (H++aFl op))=_:=kq;have ll:∀site,eX _ site 1 1 _ (.sl Pa [[.int .u8 (((sg op).toNat:Nat):Int)]])=_:=λsite=>aN4 (Z:=H++aFl op) (ver:=ver) (t:=t++par a (max 1 (lev op)) (wX a)) (new:=[sg op]) (f:=Pa) (site:=site) jk.lt siT soT;have az:aG A (g "b") [.sr o ver (t++par a (max 1 (lev op)) (wX a)++[sg op]).length,.agg (aF b),vi ((lev op+1:Nat):Int)] _=_:=aGC (t:=t++par a (max 1 (lev op)) (wX a)++[sg op]) (ver:=ver) jk.lt soT (ib (lev op+1) omT);simp only[BA,AW,AZ,BC]at kq az ll;have hd:=jk.done (L':=aFl op) rfl (par a (max 1 (lev op)) (wX a)++sg op::par b (lev op+1) (wX b));rw[show t++(par a (max 1 (lev op)) (wX a)++sg op::par b (lev op+1) (wX b))=t++par a (max 1 (lev op)) (wX a)++[sg op]++par b (lev op+1) (wX b)by simp,show t.length+(par a (max 1 (lev op)) (wX a)++sg op::par b (lev op+1) (wX b)).length=t.length+(par a (max 1 (lev op)) (wX a)).length+1+(par b (lev op+1) (wX b)).length by simp;omega]at hd;have n0:(op==0)=false:=soT;have n1:(op==1)=false:=soT;have n2:(op==2)=false:=soT;have n7:(op==7)=false:=soT;have n8:(op==8)=false:=soT;have E1:(if ((lev op:Nat):Int)>1 then ((lev op:Nat):Int)else 1)=((max 1 (lev op):Nat):Int):=by split<;>omega
  have L9:AR.wrap (((lev op:Nat):Int)+1)=((lev op+1:Nat):Int):=by rw[wrap_i64 omT omT];omega
  have bl:o≠H.length:=by rcases jk.place with h | h<;>omega
  have cj:∀x,((H++aFl op).set o x)[H.length]? = N1 (.box 1 (aAr op)):=λx=>by
   rw[CL bl,BU (AQ _),GD];rfl
  have Le:(H.length==o)=false:=by simpa using λh=>bl h.symm
  simp only[gV];simp only[go_sem,↓aB,seval,n0,n1,n2,n7,n8];refine aY (aq:=aBS) rfT rfT ?_;simp only[go_sem,↓aB,seval,aBS,eH,dG,aL,kq,az,ll,ot,mmV,aEE,mm2,E1,L9,cj,Le,kQ,kS,aOd,BI,BY,BG,CT,dP,dX.take,CP];exact hd)
 rw[h1,h2]
end
def cO(g:SN):bw:=⟨19,[14],[.tmp 4,.tmp 5],qS [qmc 4 z0,qmc 5 .bj]<|qS [qm 6 0,qc 7 (g "w") [u 6]]<|qS [qm 8 0,qm 9 0,qq 10 (.cz (u 9)),qf 11 1 10,ql 12 1 11,qm 13 1,qq 14 (.ni 5 1 1 (u 12) (u 13)),qq 15 (.cz (u 8)),qf 16 1 15,qs 1 16 14]<|qS [qm 17 1,qq 18 (.fg (u 17)),qm 4 18,qmc 5 .bj]<|.ret⟩
def gW(g:SN):bw:=⟨17,[14],[.tmp 4],qS [qmc 4 .bj]<|qS [qm 5 0,qc 6 (g "w") [u 5]]<|qS [qm 7 0,qm 8 0,qq 9 (.cz (u 8)),qf 10 1 9,ql 11 1 10,qm 12 1,qq 13 (.bsl 1 [(.int .u8 0)] 1 [(0,(.tmp 12))]),qq 14 (.ni 5 1 1 (u 11) (u 13)),qq 15 (.cz (u 7)),qf 16 1 15,qs 1 16 14]<|qS [qmc 4 .bj]<|.ret⟩
def iY(g:SN):bw:=⟨8,[],[.tmp 2],qS [qmc 2 z0]<|qS [qm 3 0,qq 4 (.cz (u 3)),qf 5 1 4,ql 6 1 5,qn 7 6,qm 2 7]<|.ret⟩
@[go_sem] def aTa{base:Nat}{ρ:bN}{H:LO}{wr:LN}:iE base [] ρ H wr=N1 (.tup [],H,wr):=(rfl)
@[go_sem] def aUW{n:Nat}:AV.under n .ar=true:=(rfl)
@[go_sem] def aUX{base:Nat}{H:LO}:aDR base H .bj=N1 (.bj,H,[]):=(rfl)
def aBT{tB tP o v ty:Nat}{x:AV}{H:LO}(h:H[o]? = N1 (.cw v ty [.ptr o v 0,x])):fB tB tP [.ptr o v 0] H=N1 (.tup [],[],[]):=by simp[fB,h]
def PSt(H:LO)(ty o v o2 v2:Nat)(T:Str):LO:=(H.set o (.cw v ty [.ptr o v 0,.sr o2 v2 T.length])).set o2 (.gl v2 5 1 (rb T))
structure gf(n o o2:Nat):Prop where
 lo:o<n
 lo2:o2<n
 ne:o≠o2
section
variable {H L:LO}{ty o v o2 v2:Nat}{T S:Str}
def iZ:(PSt H ty o v o2 v2 T).length=H.length:=by unfold PSt;simp
def tW(c:gf H.length o o2):(PSt H ty o v o2 v2 T)[o]? = N1 (.cw v ty [.ptr o v 0,.sr o2 v2 T.length]):=by unfold PSt;rw[CL (Ne.symm c.ne),BW c.lo]
def aM4(c:gf H.length o o2):(PSt H ty o v o2 v2 T)[o2]? = N1 (.gl v2 5 1 (rb T)):=by unfold PSt;rw[BW (by have:=c.lo2;simpa using this)]
def aEl(c:gf H.length o o2):PSt H ty o v o2 v2 T++L=PSt (H++L) ty o v o2 v2 T:=by unfold PSt;rw[<- DX _ _ (by have:=c.lo2;simpa using this),<- DX _ _ c.lo]
def aM5(c:gf H.length o o2){x:ah}(hx:x=.gl v2 5 1 (rb S)):((PSt H ty o v o2 v2 T).set o2 x).set o (.cw v ty [.ptr o v 0,.sr o2 v2 S.length])=PSt H ty o v o2 v2 S:=by subst hx;unfold PSt;rw[EO,List.set_comm _ _ (Ne.symm c.ne),EO]
def aKO(c:gf H.length o o2):(PSt H ty o v o2 v2 T).set o (.cw v ty [.ptr o v 0,.sr o2 v2 T.length])=PSt H ty o v o2 v2 T:=aJo (tW c)
def gf.mono{n m:Nat}(c:gf n o o2)(h:n<=m):gf m o o2:=⟨by have:=c.lo;omega,by have:=c.lo2;omega,c.ne⟩
def aS2(c:gf H.length o o2):(PSt (H++L) ty o v o2 v2 T).take H.length=PSt H ty o v o2 v2 T:=by rw[<- aEl c,<- iZ (H:=H) (ty:=ty) (o:=o) (v:=v) (o2:=o2) (v2:=v2) (T:=T)];exact KG rfl
end
abbrev Wr2(o o2:Nat)(wr:LN):Prop:=∀x∈wr,x=o∨x=o2
def bZ{o o2 b:Nat}:∀{l wr:LN},Wr2 o o2 wr->Wr2 o o2 l->Wr2 o o2 (bE b wr l)
 | [],wr,h,_=>h
 |x::r,wr,h,hl=>by
  unfold bE;split
  ·refine bZ (λy hy=>?_) λy hy=>hl y (BZ _ hy);rcases BD.1 hy with rfl | hy
   ·exact hl _ List.mem_cons_self
   exact h y hy
  exact bZ h λy hy=>hl y (BZ _ hy)
def kT{o o2:Nat}:Wr2 o o2 []:=λx h=>by cases h
def aM6{H L:LO}{ty o v o2 v2:Nat}{T:Str}{res:AV}{wr:LN}(c:gf H.length o o2)(R0:res.under H.length=Pa)(ma:Wr2 o o2 wr):cJ H.length (res,PSt (H++L) ty o v o2 v2 T,wr)=(res,PSt H ty o v o2 v2 T,wr):=by
 have c':=c.mono (m:=(H++L).length) siT;rw[aEb R0,aS2 c];rw[AO];intro x hx;rcases ma x hx with rfl | rfl
 ·rw[tW c'];have:=c.lo;have:=c.lo2;simp[ah.under,dJ,AV.under, *]
 rw[aM4 c'];show eR H.length (rb T)=Pa;exact aA (aJp T)
section
variable {A:af}{g:SN}
def aS3(h:Has A g "aI" (iY g)){H:LO}{ty o v o2 v2:Nat}{T:Str}(c:gf H.length o o2):aG A (g "aI") [.ptr o v 0] (PSt H ty o v o2 v2 T)=N1 (vi T.length,PSt H ty o v o2 v2 T,[]):=by refine h.call ?_;have hb:=tW (ty:=ty) (v:=v) (v2:=v2) (T:=T) c;have hl:=iZ (H:=H) (ty:=ty) (o:=o) (v:=v) (o2:=o2) (v2:=v2) (T:=T);simp only[iY];simp only[go_sem,↓aB,seval,AJ,hb]
def aN6{H:LO}{ty o v o2 v2:Nat}{T s:Str}{site:Option Nat}(c:gf H.length o o2)(hl:T.length+s.length<=100000000):∃Z w,vB (PSt H ty o v o2 v2 T) site 5 1 1 (.sr o2 v2 T.length) (.str s)=N1 (.sr o2 v2 (T++s).length,Z,w)/\Wr2 o o2 w/\Z.set o (.cw v ty [.ptr o v 0,.sr o2 v2 (T++s).length])=PSt H ty o v o2 v2 (T++s)/\Z[o]? = N1 (.cw v ty [.ptr o v 0,.sr o2 v2 T.length])/\Z.length=H.length:=by
 have h1:=aM4 (ty:=ty) (v:=v) (v2:=v2) (T:=T) c;have hr:bP (T.length+s.length) 1=true:=by unfold bP;simp;omega
 have tz:dF 1 (aJ s)=true:=aEk s;have ax:(aJ s).length=s.length:=kG s;cases s with
 |nil=>refine⟨PSt H ty o v o2 v2 T,[], ?_,kT,by rw[AJ];exact aKO c,tW c,iZ⟩;unfold vB;simp only[cG,tz,BT,BX,Zu,h1,kG,ax,hr,and_self,Zv];simp[aJ]
 |cons a r=>have bl:(aJ (a::r)).isEmpty=false:=rfl;refine⟨(PSt H ty o v o2 v2 T).set o2 (.gl v2 5 1 (rb T++aJ (a::r))),[o2], ?_,λx hx=>by simp at hx;exact .inr hx,aM5 c (by rw[vX];rfl),by rw[CL (Ne.symm c.ne)];exact tW c,by rw[CP];exact iZ⟩;unfold vB;simp only[cG,tz,BT,BX,Zu,h1,kG,ax,hr,and_self,Zv,bl,BA]
def vY(h:Has A g "f" (cO g)){tB tP:Nat}(hp:A.bq (g "w")=N1 (fB tB tP)){H:LO}{ty o v o2 v2:Nat}{T s:Str}(c:gf H.length o o2)(hl:T.length+s.length<=100000000):∃wr,aG A (g "f") [.ptr o v 0,.str s] (PSt H ty o v o2 v2 T)=N1 (.tup [vi s.length,.bj],PSt H ty o v o2 v2 (T++s),wr)/\Wr2 o o2 wr:=by
 have c1:=c.mono (m:=(H++[ah.gone 0]).length) siT;obtain⟨v1,H1,dc,h1,h2,h3,h4⟩:=h.bp (args:=[.ptr o v 0,.str s]) (H:=PSt H ty o v o2 v2 T) (K:=λv' H'' ba=>v'=.tup [vi s.length,.bj]/\H''=PSt H ty o v o2 v2 (T++s)/\Wr2 o o2 ba) (by
  have sx:aG A (g "w") [.ptr o v 0] (PSt (H++[.gone 0]) ty o v o2 v2 T)=N1 (.tup [],PSt (H++[.gone 0]) ty o v o2 v2 T,[]):=by refine dT ?_;rw[hp];show fB tB tP [.ptr o v 0] _=_;exact aBT (tW c1)
  have hb:=tW (ty:=ty) (v:=v) (v2:=v2) (T:=T) c1;have Qk:=iZ (H:=H) (ty:=ty) (o:=o) (v:=v) (o2:=o2) (v2:=v2) (T:=T);obtain⟨Z,w,e1,e2,e3,e4,e5⟩:=aN6 (site:=N1 H.length) (ty:=ty) (v:=v) (v2:=v2) (s:=s) c1 hl;simp only[cO];simp only[go_sem,↓aB,seval,Qk,aEl c,sx,hb,e1,e4];rw[BA]at e3;have hw:Wr2 o o2 (bE H.length (bE H.length [] w) [o]):=bZ (bZ kT e2) λx hx=>by simp at hx;exact .inl hx
  rw[e3,aM6 c rfl hw];exact⟨rfl,rfl,hw⟩)
 subst h2 h3;exact⟨dc,h1,h4⟩
def tX(h:Has A g "Q" (gW g)){tB tP:Nat}(hp:A.bq (g "w")=N1 (fB tB tP)){H:LO}{ty o v o2 v2:Nat}{T:Str}{b:UInt8}(c:gf H.length o o2)(hl:T.length+1<=100000000):∃wr,aG A (g "Q") [.ptr o v 0,.int .u8 b.toNat] (PSt H ty o v o2 v2 T)=N1 (.bj,PSt H ty o v o2 v2 (T++[b]),wr)/\Wr2 o o2 wr:=by
 have c1:=c.mono (m:=(H++[ah.gone 0]).length) siT;obtain⟨v1,H1,dc,h1,h2,h3,h4⟩:=h.bp (args:=[.ptr o v 0,.int .u8 b.toNat]) (H:=PSt H ty o v o2 v2 T) (K:=λv' H'' ba=>v'=.bj/\H''=PSt H ty o v o2 v2 (T++[b])/\Wr2 o o2 ba) (by
  have sx:aG A (g "w") [.ptr o v 0] (PSt (H++[.gone 0]) ty o v o2 v2 T)=N1 (.tup [],PSt (H++[.gone 0]) ty o v o2 v2 T,[]):=by refine dT ?_;rw[hp];show fB tB tP [.ptr o v 0] _=_;exact aBT (tW c1)
  have hb:=tW (ty:=ty) (v:=v) (v2:=v2) (T:=T) c1;have Qk:=iZ (H:=H) (ty:=ty) (o:=o) (v:=v) (o2:=o2) (v2:=v2) (T:=T);obtain⟨Z,w,e1,e2,e3,e4,e5⟩:=aN6 (site:=N1 H.length) (ty:=ty) (v:=v) (v2:=v2) (s:=[b]) c1 hl;have e1:vB (PSt (H++[.gone 0]) ty o v o2 v2 T) (N1 H.length) 5 1 1 (.sr o2 v2 T.length) (.sl Pa [[.int .u8 b.toNat]])=N1 (.sr o2 v2 (T++[b]).length,Z,w):=e1;simp only[gW];simp only[go_sem,↓aB,seval,Qk,aEl c,sx,hb,e1,e4];rw[BA]at e3;have hw:Wr2 o o2 (bE H.length (bE H.length [] w) [o]):=bZ (bZ kT e2) λx hx=>by simp at hx;exact .inl hx
  simp only[AW,AZ,BC]at e3;rw[e3,aM6 c rfl hw];exact⟨rfl,rfl,hw⟩)
 subst h2 h3;exact⟨dc,h1,h4⟩
end
@[go_sem] def aZE{base o v f:Nat}{H:LO}:aDR base H (.ptr o v f)=N1 (.ptr o v f,H,[]):=(rfl)
@[go_sem] def aY3{o v f:Nat}:AV.tn (.ptr o v f)=true:=(rfl)
@[go_sem] def aZF{base t:Nat}{H:LO}{x:AV}:aDR base H (.ifc t x)=N1 (.ifc t x,H,[]):=(rfl)
@[go_sem] def aUY{base i v f:Nat}{H:LO}{wr:LN}:cJ base (.ptr (base+i) v f,H,wr)=(.ptr (base+i) v f,H,wr):=by unfold cJ;dsimp only;rw[Zx];have:decide (base+i<base)=false:=siT;simp[AV.under,this]
@[go_sem] def aUZ{base i v f t:Nat}{H:LO}{wr:LN}:cJ base (.ifc t (.ptr (base+i) v f),H,wr)=(.ifc t (.ptr (base+i) v f),H,wr):=by unfold cJ;dsimp only;rw[Zx];have:decide (base+i<base)=false:=siT;simp[AV.under,this]
def aBU:LA:=AX 257 .ar
def aPP:LA:=AX 256 (.int .u8 0)
def aEm(f:UInt8->Option Str)(i:Nat):AV:=match f (CN i)with
 |some l=>.sl Po (aJ l)
 |none=>.ar
def bsr(f:UInt8->Option Str)(x:AV):LA:=(GZ 256).map (aEm f)++[x]
def pH{f:UInt8->Option Str}{x:AV}:(bsr f x).length=257:=by simp[bsr]
def aV0{f:UInt8->Option Str}{x:AV}{i:Nat}(h:i<256):(bsr f x)[i]? = N1 (aEm f i):=by unfold bsr;rw[BM (by simpa using h),BN,HQ h];rfl
def aN7{α:Type}{L:List α}{i:Nat}{a:α}(h:L[i]? = N1 a):(L.drop i).take 1=[a]:=by have hi:=getElem?_lt h;rw[AP hi]at h;rw[FD hi];simp only[AA,AE];simpa using h
def aGE{f:UInt8->Option Str}{x:AV}(c:UInt8):((bsr f x).drop c.toNat).take 1=[aEm f c.toNat]:=aN7 (aV0 (EC c))
def aJq{f:UInt8->Option Str}{x:AV}:((bsr f x).drop 256).take 1=[x]:=aN7 (by unfold bsr;rw[BU siT];simp)
def aJr{L:LA}{i:Nat}{v:AV}(h:i<L.length):L.take i++[v]++L.drop (i+1)=L.set i v:=by rw[List.set_eq_take_append_cons_drop,Zy h,List.append_assoc];rfl
def aV1{f:UInt8->Option Str}{x:AV}(c:UInt8)(s:Str):(bsr f x).take c.toNat++[.sl Po (aJ s)]++(bsr f x).drop (c.toNat+1)=bsr (λd=>if d=c then N1 s else f d) x:=by
 have hc:=EC c;rw[aJr (by rw[pH];omega)];unfold bsr;rw[DX _ _ (by simpa using hc)];congr 1;apply HN;intro j;by_cases hj:j<256
 ·by_cases e:c.toNat=j
  ·subst e;rw[BW (by simpa using hc),BN,HQ hj];simp[aEm]
  rw[CL e,BN,BN,HQ hj];have:¬(CN j=c):=λh=>e (by rw[<- h];simp;omega);simp[aEm,this]
 rw[CY soT,CY soT]
def aM7{f:UInt8->Option Str}{x y:AV}:(bsr f x).take 256++[y]++(bsr f x).drop 257=bsr f y:=by rw[aJr (by rw[pH];omega)];unfold bsr;rw[IP _ _ siT];simp
def aIv:aBU.length=257:=List.length_replicate
def aGF:aBU.drop 257=[]:=DH (by rw[aIv];exact AQ _)
def aS4{x:AV}:aBU.take 256++[x]=bsr (λ_=>N2) x:=by
 rw[show aBU.take 256++[x]=aBU.take 256++[x]++aBU.drop (256+1)by rw[aGF,AJ],aJr (by simp[aBU])];unfold bsr aBU;apply HN;intro j;by_cases hj:j<256
 ·rw[CL omT,BM (by simpa using hj),BN,HQ hj,List.getElem?_replicate,Zy omT];rfl
 by_cases e:256=j
 ·subst e;rw[BW siT,BU siT];simp
 rw[CY soT,CY soT]
def aY4{f:UInt8->Option Str}{x:AV}(hx:x.ak=Pa):(bsr f x).all AV.ak=true:=by
 rw[AO];intro a ha;unfold bsr at ha;rw[List.mem_append,List.mem_map]at ha;rcases ha with⟨i,_,rfl⟩ | ha
 ·unfold aEm;split<;>rfl
 rw[List.mem_singleton]at ha;rw[ha];exact hx
def fP(ps:List (UInt8×Str)):List LA:=ps.flatMap λp=>[[.str [p.1]],[.str p.2]]
def gI:List (UInt8×Str)->UInt8->Option Str
 | [],_=>N2
 |p::r,c=>if c=p.1 then N1 p.2 else gI r c
def aGG:∀ps:List (UInt8×Str),(fP ps).length=2*ps.length
 | []=>rfl
 |p::r=>by
  have:=aGG r;unfold fP at this ⊢;simp only[List.flatMap_cons,BA,this,AW,AZ];omega
def aGH:∀(ps:List (UInt8×Str)) (j:Nat) (h:j<ps.length),(fP ps)[2*j]? = N1 [.str [ps[j].1]]/\(fP ps)[2*j+1]? = N1 [.str ps[j].2]
 |p::r,0,h=>⟨rfl,rfl⟩
 |p::r,j+1,h=>by
  have:=aGH r j (by simpa using h);exact this
def aGI:∀{ps:List (UInt8×Str)} {c:UInt8},c∉ps.map EM->gI ps c=N2
 | [],_,_=>rfl
 |p::r,c,h=>by
  simp only[BI,BD,not_or]at h;unfold gI;rw[Zx h.1,aGI h.2]
def jA(g:SN):bw:=⟨12,[9,11],[.tmp 2],qS [qmc 2 .nilPtr]<|.seq (qS [qm 3 0,qn 4 3,qbi 5 .rem 4 2,qbi 6 .eql 5 1]<|qC 6 (qR [qq 7 (.km 9 (uc (.str [115,116,114,105,110,103,115,46,78,101,119,82,101,112,108,97,99,101,114,58,32,111,100,100,32,97,114,103,117,109,101,110,116,32,99,111,117,110,116]))),qz (.bad)]) (.skip))<|qS [qm 8 0,qq 9 (.app 1 16 (uc .ar) (u 8)),qq 10 (.build [(.int .u32 0),(.int .i32 0),(.int .u32 0),.bj,.ar] [(4,1,(.tmp 9))]),qx 11 5 10,qm 2 11]<|.ret⟩
abbrev tY(g:SN):List ae:=[qm 29 3,⟨N1 30,.iaV (u 29) (ui 0) 1,N2,[0]⟩,⟨N1 31,ol 1 30,N2,[1,0]⟩,qm 32 3,⟨N1 33,.iaV (u 32) (ui 1) 1,N2,[3]⟩,⟨N1 34,ol 1 33,N2,[4,3]⟩,⟨N1 35,oc (g "dl") [u 31,u 34],N2,[2,1,0,5,4,3]⟩,⟨N1 36,.km 335 (u 35),N2,[6,2,1,0,5,4,3]⟩,⟨N1 2,om 36,N2,[7,6,2,1,0,5,4,3]⟩]
abbrev tZ(g:SN):ag:=.seq (qS [qm 37 5,qm 38 3,qn 39 38,qb 40 .lss 37 39]<|qC 40 (.skip) (.exit 0))<|.seq (.block 1 (.seq (qS [qm 43 3,qm 44 5,qi 45 43 44 1,ql 46 1 45,qq 47 (.fg (u 46)),qbi 48 .neq 47 1]<|qC 48 (qS [qm 49 3,qc 50 (g "dk") [u 49],qq 51 (.km 337 (u 50)),qm 2 51]<|.ret) (.skip))<|qS [qm 52 3,qm 53 5,qbi 54 .add 53 1,qi 55 52 54 1,ql 56 1 55,qq 57 (.fg (u 56)),qbi 58 .neq 57 1]<|qC 58 (qR [qmc 4 (.bool Po)]) (.skip)))<|.region Po [qm 41 5,qbi 42 .add 41 2,qm 5 42]
abbrev uA(g:SN):ag:=qS [qbi 62 .lss 61 256]<|.seq (qC 62 (.skip) (.exit 2))<|.seq (.block 3 (qS [qm 63 61,qm 7 63]<|.region Po [qm 64 7,qm 65 7,qq 66 (.conv (.toInt .u8) (u 65)),qq 67 (.iaA 256 1 (u 6) (u 64)),qs 1 67 66]))<|.region Po [qbi 68 .add 61 1,qm 61 68]
abbrev uB(g:SN):ag:=.seq (qS [qm 72 8,qbi 73 .geq 72 0]<|qC 73 (.skip) (.exit 4))<|.seq (.block 5 (qS [qm 76 3,qm 77 8,qi 78 76 77 1,ql 79 1 78,qq 80 (.ixS (u 79) (ui 0)),qm 9 80]<|qS [qm 81 3,qm 82 8,qbi 83 .add 82 1,qi 84 81 83 1,ql 85 1 84,qq 86 (.ixS (u 85) (ui 0)),qm 10 86]<|.region Po [qm 87 9,qm 88 10,qq 89 (.iaA 256 1 (u 6) (u 87)),qs 1 89 88]))<|.region Po [qm 74 8,qbi 75 .sub 74 2,qm 8 75]
abbrev uC(g:SN):ag:=.seq (qS [qm 99 12,qbi 100 .geq 99 0]<|qC 100 (.skip) (.exit 6))<|.seq (.block 7 (qS [qm 103 3,qm 104 12,qi 105 103 104 1,ql 106 1 105,qq 107 (.ixS (u 106) (ui 0)),qm 13 107]<|qS [qm 108 3,qm 109 12,qbi 110 .add 109 1,qi 111 108 110 1,ql 112 1 111,qm 14 112]<|.seq (qS [qm 113 13,qf 114 0 11,qq 115 (.iaA 256 1 (u 114) (u 113)),ql 116 1 115,qq 117 (.ky Po (u 116))]<|qC 117 (qR [qf 118 256 11,ql 119 1 118,qm 120 13,qq 121 (.bsl 1 [(.int .u8 0)] 1 [(0,(.tmp 120))]),qq 122 (.conv .b2s (u 121)),qq 123 (.bsl 1 [(.str [])] 1 [(0,(.tmp 122))]),qa 124 1 16 119 123,qf 125 256 11,qs 1 125 124]) (.skip))<|.region Po [qm 126 13,qm 127 14,qq 128 (.conv .s2b (u 127)),qf 129 0 11,qq 130 (.iaA 256 1 (u 129) (u 126)),qs 1 130 128]))<|.region Po [qm 101 12,qbi 102 .sub 101 2,qm 12 102]
def gA(g:SN):bw:=⟨132,[94,11],[.tmp 2],qS [qmc 2 .bj]<|qS [qm 15 0,qq 16 (.cz (u 15)),qf 17 4 16,ql 18 1 17,qm 3 18]<|.seq (qS [qm 19 3,qn 20 19,qbi 21 .eql 20 2,qm 22 21,qT 23 22 (om 3),qT 24 22 (.iaV (u 23) (ui 0) 1),qT 25 22 (ol 1 24),qT 26 22 (.fg (u 25)),qT 27 22 (obi .gtr 26 1),qp 28 22 27]<|qC 28 (.seq (.region Pa (tY g))<|.ret) (.skip))<|qS [qmc 4 (.bool Pa)]<|.seq (qS [qmc 5 z0]<|.block 0 (.loop (tZ g)))<|.seq (qS [qm 59 4]<|qC 59 (qS [qq 60 (.build aPP []),qq 6 (.alloc aPP),qs 256 6 60]<|.seq (qS [qmc 61 z0]<|.block 2 (.loop (uA g)))<|.seq (qS [qm 69 3,qn 70 69,qbi 71 .sub 70 2,qm 8 71]<|.block 4 (.loop (uB g)))<|qS [qq 90 (.km 341 (u 6)),qm 2 90]<|.ret) (.skip))<|qS [qm 91 3,qn 92 91,qbi 93 .quo 92 2,qq 94 (.mks 1 16 [(.str [])] (ui 0) (u 93)),qq 95 (.build aBU [(256,1,(.tmp 94))]),qq 11 (.alloc aBU),qs 257 11 95]<|.seq (qS [qm 96 3,qn 97 96,qbi 98 .sub 97 2,qm 12 98]<|.block 6 (.loop (uC g)))<|qS [qq 131 (.km 345 (u 11)),qm 2 131]<|.ret⟩
def gJ(g:SN):bw:=⟨10,[],[],qS [qm 2 0,qm 3 0,qc 4 (g "aJ") [u 3],qq 5 (.cz (u 2)),qf 6 3 5,qs 1 6 4]<|.region Po [qm 7 0,qq 8 (.cz (u 7)),qf 9 4 8,qz (.store 1 (u 9) (uc (.sl Pa [])))]⟩
section
variable {A:af}{g:SN}
def zL(h:Has A g "at" (jA g))(ps:List (UInt8×Str))(h0:ps≠[])(h1:ps.length<=1000)(H:LO):aG A (g "at") [.sl Po (fP ps)] H = N1 (.ptr (H.length+1) 1 0,H++[.vec 1 1 (fP ps),.box 1 [.int .u32 0,.int .i32 0,.int .u32 0,.bj,.sr H.length 1 (fP ps).length]],[]):=by
 refine h.call ?_;have hl:=aGG ps;obtain⟨p,r,rfl⟩:=ER h0;have bl:(fP (p::r)).isEmpty=false:=rfl;have tz:dF 1 (fP (p::r))=true:=rfl;have hr:bP (fP (p::r)).length 16=true:=by unfold bP;rw[hl];simp at h1 ⊢;omega
 have zu:∀ek,kJ .rem ek (vi ((fP (p::r)).length:Nat)) (vi 2)=N1 (vi 0):=λek=>by
  rw[tS deT,hl];congr 2;have:(((2*(p::r).length:Nat):Int)).tmod 2=0:=by rw[OV];exact Int.mul_tmod_right ..
  exact this
 generalize fP (p::r)=rows at *;simp only[jA];simp only[go_sem,↓aB,seval,zu,eX,cG,dO,bl,tz,hr,BT,BX]
def aOe(h:Has A g "aJ" (gA g))(ps:List (UInt8×Str))(h0:2<=ps.length)(h1:ps.length<=1000)(hd:(ps.map EM).Nodup)(hp:∀p∈ps,p.2.length≠1/\p.2.length<=1000){H:LO}{o v o1 v1:Nat}{a b c d:AV} (ho:H[o]? = N1 (.box v [a,b,c,d,.sr o1 v1 (fP ps).length])) (zw:H[o1]? = N1 (.vec v1 1 (fP ps))):aG A (g "aJ") [.ptr o v 0] H=N1 (.ifc 345 (.ptr (H.length+1) 1 0),H++[.vec 1 1 (ps.reverse.map λp=>[.str [p.1]]),.box 1 (bsr (gI ps) (.sr H.length 1 ps.length))],[]):=by
 refine h.call ?_;have gr:=getElem?_lt ho;have Fi:=getElem?_lt zw;have go:∀L,(H++L)[o]? = N1 (.box v [a,b,c,d,.sr o1 v1 (fP ps).length]):=λL=>by rw[BM gr];exact ho
 have go1:∀L,(H++L)[o1]? = N1 (.vec v1 1 (fP ps)):=λL=>by rw[BM Fi];exact zw
 have hl:=aGG ps;have ya:(((fP ps).length:Int)==2)=false:=by rw[hl];simp;omega
 simp only[gA];simp only[go_sem,↓aB,seval,go,ya,BB];refine bJ (id:=0) (λi ρ1 H1 wr=>wr=[]/\H1=H++[.gone 0,.gone 0]/\ρ1 5=vi ((2*i:Nat):Int)/\ρ1 4=.bool (i==0)) ps.length
  (λρ1 H1 wr=>wr=[]/\H1=H++[.gone 0,.gone 0]/\ρ1 4=.bool Po)
  cB rfl ⟨rfl,rfl,rfl,rfl⟩ ?_ ?_
 ·rintro i ρ1 H1 dc mg ⟨rfl,rfl,e5,e4⟩ hf;have e3:ρ1 3=.sr o1 v1 (fP ps).length:=hf 3 rfl;simp only[go_sem,↓aB,seval,e5,e3];refine aD (λhb=>?_) (λhb=>?_)
  ·have hlt:i<ps.length:=by simp at hb;omega
   obtain⟨Q6,V4⟩:=aGH ps i hlt;obtain⟨q1,q2⟩:=hp _ (AS hlt);have gq:(0:Int)<=((2*i:Nat):Int):=omT;have cr:((2*i:Nat):Int)<(((fP ps).length:Nat):Int):=by rw[hl];omega
   have kx:(((2*i:Nat):Int)).toNat=2*i:=omT;have dy:AR.wrap (((2*i:Nat):Int)+1)=((2*i+1:Nat):Int):=by rw[wrap_i64 omT omT];omega
   have lx:(0:Int)<=((2*i+1:Nat):Int):=omT;have Ql:((2*i+1:Nat):Int)<(((fP ps).length:Nat):Int):=by rw[hl];omega
   have zt:(((2*i+1:Nat):Int)).toNat=2*i+1:=omT;have gn:AR.wrap (((2*i:Nat):Int)+2)=((2*(i+1):Nat):Int):=by rw[wrap_i64 omT omT];omega
   have Fj:((((ps[i].2).length:Nat):Int) != 1)=true:=soT;simp only[go_sem,↓aB,seval,e5,e3,gq,cr,kx,dy,lx,Ql,zt,go1,Q6,V4,Fj,gn,AW,AZ];exact hlt
  have hi:i=ps.length:=by simp at hb;omega
  subst hi;simp only[go_sem,seval];rw[e4,show (ps.length==0)=Po from by rw[beq_eq_false_iff_ne];omega]
 rintro ρ' H' ba ⟨rfl,rfl,e4⟩ hf;have e3:ρ' 3=.sr o1 v1 (fP ps).length:=hf 3 rfl;have hq:∀ek,kJ .quo ek (.int .i64 (((fP ps).length:Nat):Int)) (vi 2)=N1 (vi (ps.length:Nat)):=λek=>by
  rw[aAl deT,hl];have:(((2*ps.length:Nat):Int)).tdiv 2=(ps.length:Int):=by rw[OV];exact Int.mul_tdiv_cancel_left _ deT
  rw[this,wrap_i64 omT omT]
 have Il:¬((0:Int)=(ps.length:Int)):=omT;have V9:(0:Int)<(ps.length:Int):=omT;have R1:bP ps.length 16=true:=by unfold bP;simp;omega
 have gn:AR.wrap ((((fP ps).length:Nat):Int) - 2)=2*((ps.length:Int) - 1 - (0:Nat)):=by rw[hl,wrap_i64 omT omT];omega
 simp only[go_sem,↓aB,seval,e4,e3,hq,Il,V9,R1,pH,aS4,aIv,aGF,aY4,AJ,gn];refine bJ (id:=6) (λi ρ1 H1 wr=>wr=[]/\ρ1 12=vi (2*((ps.length:Int) - 1 - (i:Nat)))/\H1=H++[.vec 1 1 ((ps.drop (ps.length - i)).reverse.map λp=>[.str [p.1]]),.box 1 (bsr (gI (ps.drop (ps.length - i))) (.sr H.length 1 i))]) ps.length
  (λρ1 H1 wr=>wr=[]/\H1=H++[.vec 1 1 (ps.reverse.map λp=>[.str [p.1]]),.box 1 (bsr (gI ps) (.sr H.length 1 ps.length))])
  cB rfl ⟨rfl,rfl,by rw[Nat.sub_zero,DH (AQ _)];rfl⟩ ?_ ?_
 ·rintro i ρ1 H1 dc mg ⟨rfl,e12,rfl⟩ cq;have f3:ρ1 3=.sr o1 v1 (fP ps).length:=(cq 3 rfl).trans e3;have f11:ρ1 11=.ptr (H.length+1) 1 0:=cq 11 rfl;simp only[go_sem,↓aB,seval,e12];refine aD (λhb=>?_) (λhb=>?_)
  ·obtain⟨k,hk⟩:∃k,ps.length=i+1+k:=⟨ps.length - 1 - i,by simp at hb;omega⟩;have hlt:k<ps.length:=omT;have ek:2*((ps.length:Int) - 1 - (i:Nat))=((2*k:Nat):Int):=omT;rw[ek]at e12;rw[show ps.length - i=k+1 by omega];obtain⟨Q6,V4⟩:=aGH ps k hlt;obtain⟨q1,q2⟩:=hp _ (AS hlt);have gq:(0:Int)<=((2*k:Nat):Int):=omT;have cr:((2*k:Nat):Int)<(((fP ps).length:Nat):Int):=by rw[hl];omega
   have kx:(((2*k:Nat):Int)).toNat=2*k:=omT;have dy:AR.wrap (((2*k:Nat):Int)+1)=((2*k+1:Nat):Int):=by rw[wrap_i64 omT omT];omega
   have lx:(0:Int)<=((2*k+1:Nat):Int):=omT;have Ql:((2*k+1:Nat):Int)<(((fP ps).length:Nat):Int):=by rw[hl];omega
   have zt:(((2*k+1:Nat):Int)).toNat=2*k+1:=omT;have pr:AR.wrap (((2*k:Nat):Int) - 2)=2*((ps.length:Int) - 1 - ((i+1:Nat):Int)):=by rw[wrap_i64 omT omT];omega
   have Im:ps.drop k=ps[k]::ps.drop (k+1):=FD hlt;generalize Oj:ps[k]=p at *;obtain⟨c,s⟩:=p;have F5:c∉(ps.drop (k+1)).map EM:=by
    have h1:((ps.drop k).map EM).Nodup:=by rw[List.map_drop];exact hd.sublist (List.drop_sublist _ _)
    rw[Im,BI,List.nodup_cons]at h1;exact h1.1
   have bc:aEm (gI (ps.drop (k+1))) c.toNat=.ar:=by unfold aEm;rw[show CN c.toNat=c by simp,aGI F5]
   have jg:(0:Int)<=((c.toNat:Nat):Int):=omT;have mj:((c.toNat:Nat):Int)<256:=by have:=EC c;omega
   have D2:(((c.toNat:Nat):Int)).toNat=c.toNat:=omT;have nc:c.toNat+1<=257:=by have:=EC c;omega
   have ax:((ps.drop (k+1)).reverse.map λp=>[AV.str [p.1]]).length=i:=soT;have R1:bP (i+1) 16=true:=by unfold bP;simp;omega
   have rh:∀H:LO,pT H .b2s (.sl Pa [[.int .u8 ((c.toNat:Nat):Int)]])=N1 (.str [c]):=λH=>by
    simp[pT,dO,cM]
   have nu:s.length<=1099511627776:=by have:s.length<=1000:=q2;omega
   simp only[go_sem,↓aB,seval,e12,f3,f11,go1,gq,cr,kx,dy,lx,Ql,zt,Q6,V4,BG,jg,mj,D2,nc,BC,Nat.mul_one,pH,aGE,aJq,bc,rh,eX,cG,dO,ax,R1,aM7,aV1,nu,pr];refine⟨omT, ?_⟩;rw[show ps.length - (i+1)=k by omega,Im,List.reverse_cons,DQ];rfl
  have hi:i=ps.length:=by simp at hb;omega
  subst hi;simp only[go_sem,seval];rw[GD,AD]
 rintro ρ2 H2 en ⟨rfl,rfl⟩ cq;have f11:ρ2 11=.ptr (H.length+1) 1 0:=cq 11 rfl;simp only[go_sem,↓aB,seval,f11]
def mY{base o:Nat}{v:AV}{H:LO}{x:ah}(h1:H[o]? = N1 x)(h2:x.under base=Po):cJ base (v,H,[o])=(v,H,[o]):=by unfold cJ;dsimp only;rw[Zx];rw[AI,ES,MB,Bx,h1];intro h;simp[h2]at h
def aEn{n k:Nat}{a b c d:AV}:dJ n [a,b,c,.ifc 345 (.ptr (n+k) 1 0),d]=false:=by have:decide (n+k<n)=false:=siT;simp[dJ,AV.under,this]
def aHH(h:Has A g "aK" (gJ g))(hb:Has A g "aJ" (gA g))(ps:List (UInt8×Str))(h0:2<=ps.length)(h1:ps.length<=1000)(hd:(ps.map EM).Nodup)(hp:∀p∈ps,p.2.length≠1/\p.2.length<=1000){H:LO}{o v o1 v1:Nat}{a b c d:AV} (ho:H[o]? = N1 (.box v [a,b,c,d,.sr o1 v1 (fP ps).length])) (zw:H[o1]? = N1 (.vec v1 1 (fP ps))):aG A (g "aK") [.ptr o v 0] H=N1 (.tup [],H.set o (.box v [a,b,c,.ifc 345 (.ptr (H.length+1) 1 0),.sl Pa []])++[.vec 1 1 (ps.reverse.map λp=>[.str [p.1]]),.box 1 (bsr (gI ps) (.sr H.length 1 ps.length))],[o]):=by
 refine h.call ?_;have gr:=getElem?_lt ho;have go:∀L,(H++L)[o]? = N1 (.box v [a,b,c,d,.sr o1 v1 (fP ps).length]):=λL=>by rw[BM gr];exact ho
 have go2:∀L x,((H++L).set o x)[o]? = N1 x:=λL x=>BW soT;have ss:=aOe hb ps h0 h1 hd hp ho zw;simp only[gJ];simp only[go_sem,↓aB,seval,AJ,ss,go,go2];rw[nJ gr,vN,mY (go2 _ _) (by rw[aBg];exact aEn),DX _ _ gr];exact⟨rfl,rfl,rfl⟩
end
section
variable {A:af}{g:SN}
def aPQ(h:Has A g "bv" nI){F:Nat}{H H':LO}{o v:Nat}{d e d' e':AV} (ho:H[o]? = N1 (.box v [.int .u32 0,.int .i32 0,.int .u32 0,d,e])) (hc:aG A F [.ptr o v 0] (H.set o (.box v [.int .u32 0,.int .i32 1,.int .u32 0,d,e]))=N1 (.tup [],H',[o])) (z7:H'[o]? = N1 (.box v [.int .u32 0,.int .i32 1,.int .u32 0,d',e'])) (hu:dJ H.length [d',e']=Po) (ax:H.length<=H'.length):aG A (g "bv") [.ptr o v 0,.fn F [.ptr o v 0] []] H=N1 (.tup [],H'.set o (.box v [.int .u32 1,.int .i32 0,.int .u32 0,d',e']),[o]):=by
 have gr:=getElem?_lt ho;have Fk:=getElem?_lt z7;refine h.call ?_;simp only[nI,aRp,aWZ,aX0,aTS];have g1:∀x,(H.set o x)[o]? = N1 x:=λx=>BW gr;have g2:∀x,(H'.set o x)[o]? = N1 x:=λx=>BW Fk;simp only[go_sem,↓aB,seval,AJ,ho,hc,z7,g2,EO,nJ gr,vN,aPt];have Rz:ah.under H.length (.box v [.int .u32 1,.int .i32 0,.int .u32 0,d',e'])=false:=by rw[aBg];simpa only[aLO,aPu,BR,aNX]using hu
 rw[mY (g2 _) Rz];exact⟨rfl,rfl,rfl⟩
def aAt(g:SN):bw:=⟨12,[],[],qS [qm 4 0,qq 5 (.cz (u 4)),qf 6 0 5,qc 7 (g "bY") [u 6],qq 8 (.un .not (u 7))]<|qC 8 (qR [qm 9 0,qm 10 1,qc 11 (g "bv") [u 9,u 10]]) (.skip)⟩
def iH(g:SN):bw:=⟨17,[],[.tmp 4],qS [qmc 4 (.str [])]<|qS [qm 5 0,qq 6 (.cz (u 5)),qf 7 0 6,qm 8 0,qq 9 (.mkf (g "aK") [(.tmp 8)] []),qc 10 (g "aL") [u 7,u 9]]<|qS [qm 11 0,qq 12 (.cz (u 11)),qf 13 3 12,ql 14 1 13,qm 15 1,qq 16 (.nb [(191,117),(335,362),(337,365),(341,369),(345,371)] (u 14) [(.tmp 15)]),qm 4 16]<|.ret⟩
structure mh(A:af)(g:SN):Prop where
 build:Has A g "aJ" (gA g)
 zx:Has A g "aK" (gJ g)
 Fl:Has A g "bv" nI
 load:A.bq (g "bY")=N1 aAi
 once:Has A g "aL" (aAt g)
 Ar:Has A g "ab" (iH g)
def aIw(v o1 v1 n:Nat):ah:=.box v [.int .u32 0,.int .i32 0,.int .u32 0,.bj,.sr o1 v1 n]
def qZ(v b:Nat):ah:=.box v [.int .u32 1,.int .i32 0,.int .u32 0,.ifc 345 (.ptr b 1 0),.sl Pa []]
def uD(ps:List (UInt8×Str))(k:Nat):LO:=[.vec 1 1 (ps.reverse.map λp=>[.str [p.1]]),.box 1 (bsr (gI ps) (.sr k 1 ps.length))]
def aKP(F:mh A g){H:LO}{o v:Nat}{n:Int}{r:LA}(ho:H[o]? = N1 (.box v (.int .u32 n::r))):aG A (g "bY") [.ptr o v 0] H=N1 (.bool (n != 0),H,[]):=by
 refine dT ?_;rw[F.load];simp only[Option.bind_some,aAi];have:bC H 1 (.ptr o v 0)=N1 [.int .u32 n]:=by unfold bC;simp[ho]
 rw[this]
def aOf(F:mh A g){H:LO}{o v b:Nat}{f:AV}(ho:H[o]? = N1 (qZ v b)):aG A (g "aL") [.ptr o v 0,f] H=N1 (.tup [],H,[]):=by refine F.once.call ?_;have hl:=aKP F ho;rw[show ((1:Int) != 0)=Pa from rfl]at hl;simp only[aAt];simp only[go_sem,↓aB,seval,AJ,hl]
def aOg(F:mh A g)(ps:List (UInt8×Str))(h0:2<=ps.length)(h1:ps.length<=1000)(hd:(ps.map EM).Nodup)(hp:∀p∈ps,p.2.length≠1/\p.2.length<=1000){H:LO}{o v o1 v1:Nat} (ho:H[o]? = N1 (aIw v o1 v1 (fP ps).length)) (zw:H[o1]? = N1 (.vec v1 1 (fP ps))):aG A (g "aL") [.ptr o v 0,.fn (g "aK") [.ptr o v 0] []] H=N1 (.tup [],H.set o (qZ v (H.length+1))++uD ps H.length,[o]):=by
 have gr:=getElem?_lt ho;have bl:o≠o1:=λe=>by subst e;rw[ho]at zw;cases zw
 refine F.once.call ?_;have hl:=aKP F ho;rw[show ((0:Int) != 0)=Po from rfl]at hl;have g1:∀x,(H.set o x)[o]? = N1 x:=λx=>BW gr;have hb:=aHH F.zx F.build ps h0 h1 hd hp (a:=.int .u32 0) (b:=.int .i32 1) (c:=.int .u32 0) (d:=.bj) (v:=v) (o:=o) (g1 _) (by rw[CL bl];exact zw);have hs:=aPQ F.Fl ho hb (by rw[BM (by simpa using gr),EO,g1]) (by
  have:decide (H.length+1<H.length)=false:=siT;simp[dJ,AV.under,this]) siT
 rw[DX _ _ (by simpa using gr),EO,EO,CP]at hs;simp only[aAt];simp only[go_sem,↓aB,seval,AJ,hl,hs];rw[nJ gr,vN,mY (x:=qZ v (H.length+1)) (by rw[BM (by simpa using gr),g1];rfl) (by unfold qZ;rw[aBg];exact aEn)];exact⟨rfl,rfl,rfl⟩
def nS(f:UInt8->Option Str)(s:Str):Str:=s.flatMap λc=>match f c with
 |some t=>t
 |none=>[c]
def aM8(A:af)(n:Nat)(ps:List (UInt8×Str)):Prop:=∀(H:LO) (b k:Nat) (s:Str),H[b]? = N1 (.box 1 (bsr (gI ps) (.sr k 1 ps.length)))->H[k]? = N1 (.vec 1 1 (ps.reverse.map λp=>[.str [p.1]]))->s.length<=1000 ->
 aG A n [.ptr b 1 0,.str s] H=N1 (.str (nS (gI ps) s),H,[])
def aY5:List.lookup (345:Nat) [((191:Nat),(117:Nat)),(335,362),(337,365),(341,369),(345,371)]=N1 371:=rfl
def aJs(F:mh A g){ps:List (UInt8×Str)}(hB:aM8 A 371 ps){H:LO}{o v b k:Nat}{s:Str}(hs:s.length<=1000)(ho:H[o]? = N1 (qZ v b))(hb:H[b]? = N1 (.box 1 (bsr (gI ps) (.sr k 1 ps.length))))(hk:H[k]? = N1 (.vec 1 1 (ps.reverse.map λp=>[.str [p.1]]))):aG A (g "ab") [.ptr o v 0,.str s] H=N1 (.str (nS (gI ps) s),H,[]):=by refine F.Ar.call ?_;have h1:∀f,aG A (g "aL") [.ptr o v 0,f] H=N1 (.tup [],H,[]):=λf=>aOf F ho;have h2:=hB H b k s hb hk hs;unfold qZ at ho;simp only[iH];simp only[go_sem,↓aB,seval,AJ,h1,h2,ho,aY5]
def aDd(F:mh A g){ps:List (UInt8×Str)}(hB:aM8 A 371 ps)(h0:2<=ps.length)(h1:ps.length<=1000)(hd:(ps.map EM).Nodup)(hp:∀p∈ps,p.2.length≠1/\p.2.length<=1000){H:LO}{o v o1 v1:Nat} {s:Str} (hs:s.length<=1000) (ho:H[o]? = N1 (aIw v o1 v1 (fP ps).length)) (zw:H[o1]? = N1 (.vec v1 1 (fP ps))):aG A (g "ab") [.ptr o v 0,.str s] H=N1 (.str (nS (gI ps) s),H.set o (qZ v (H.length+1))++uD ps H.length,[o]):=by
 have gr:=getElem?_lt ho;refine F.Ar.call ?_;have hO:=aOg F ps h0 h1 hd hp ho zw;have g1:(H.set o (qZ v (H.length+1))++uD ps H.length)[o]? = N1 (qZ v (H.length+1)):=by rw[BM (by simpa using gr)];exact BW gr
 have g2:(H.set o (qZ v (H.length+1))++uD ps H.length)[H.length+1]? = N1 (.box 1 (bsr (gI ps) (.sr H.length 1 ps.length))):=by rw[BU siT,CP];simp[uD]
 have g3:(H.set o (qZ v (H.length+1))++uD ps H.length)[H.length]? = N1 (.vec 1 1 (ps.reverse.map λp=>[.str [p.1]])):=by rw[BU siT,CP];simp[uD]
 have h2:=hB _ _ _ s g2 g3 hs;generalize Ol:(H.set o (qZ v (H.length+1))++uD ps H.length)=H' at *;have g1':H'[o]? = N1 (.box v [.int .u32 1,.int .i32 0,.int .u32 0,.ifc 345 (.ptr (H.length+1) 1 0),.sl Pa []]):=g1;simp only[iH];simp only[go_sem,↓aB,seval,AJ,hO,h2,g1',aY5];rw[nJ gr,vN,mY g1 (by unfold qZ;rw[aBg];exact aEn)];exact⟨rfl,rfl,rfl⟩
end
def xX{A:af}{N:Nat}{c:Ctx}{b:Bool}{x1 x2 rest:ag}{ρ:bN}{H:LO}{wr:LN}{Q:bf->bN->LO->LN->Prop}{t1 t2 t3 tg}{W:LN}(P:bN->LO->LN->Prop) (hW:xJ x1++xJ x2=W) (h1:b=Pa->wc A N c x1 ρ H wr (aZy P ⟨⟩) ⟨⟩) (h2:b=Po->wc A N c x2 ρ H wr (aZy P ⟨⟩) ⟨⟩) (hr:∀ρ' H' ba,P ρ' H' ba->(∀t,W.contains t=Po->ρ' t=ρ t)->wc A N c rest ρ' H' ba Q ⟨⟩):zF b (wc A N c x1 ρ H wr (aNW A N c rest Q t1) t2) (wc A N c x2 ρ H wr (aNW A N c rest Q t1) t3) tg:=by
 have sub:∀(V:LN) (ρ':bN),(∀t∈V,t∈W)->(∀t,V.contains t=Po->ρ' t=ρ t)->∀t,W.contains t=Po->ρ' t=ρ t:=λV ρ' hs h t ht=>h t (by
  rw[<- Bool.not_eq_true,EH]at ht ⊢;exact λhm=>ht (hs t hm))
 refine aD (λhb=>?_) (λhb=>?_)
 ·exact aPw (W:=xJ x1) P rfl (h1 hb) λρ' H' ba hP hf=>hr ρ' H' ba hP (sub _ ρ' (λt ht=>by rw[<- hW];exact CZ _ ht) hf)
 exact aPw (W:=xJ x2) P rfl (h2 hb) λρ' H' ba hP hf=>hr ρ' H' ba hP (sub _ ρ' (λt ht=>by rw[<- hW];exact CX _ ht) hf)
def aDe:∀(e:Expr) (r:Bool),aBN r e=Pa->Rt r e
 |.mk op n ks,r,h=>by
  unfold aBN at h;simp only[AI,KB,Bool.or_eq_false_iff,decide_eq_false_iff_not,bne_eq_false_iff_eq,Bool.and_eq_false_iff,beq_eq_false_iff_ne]at h;obtain⟨⟨h1,h2⟩,⟨⟨⟨h3,h4⟩,h5⟩,h6⟩,h7⟩:=h;have h3:ks.length=aCn op:=omT;have:op=0∨op=1∨op=2∨op=3∨op=4∨op=5∨op=6∨op=7∨op=8∨op=9∨op=10:=omT;have two:aCn op=2->(op=9∨op=10->r=Pa)->(op≠9/\op≠10->3<=op/\op<=7)->aAq op=0->Rt r (.mk op n ks):=λhk hr ho hm=>by
   rw[hk]at h3
   match ks,h3 with
   | [a,b],_=>
    simp only[aEZ,AI]at h7;have ra:=aDe a Po h7.1;have rb:=aDe b Po h7.2.1;have hn:n=0:=omT;subst hn;by_cases hc:op=9∨op=10
    ·have:=hr hc;subst this;exact .cmp op a b hc ra rb
    have:=ho ⟨λh=>hc (.inl h),λh=>hc (.inr h)⟩;exact .bin r op a b this.1 this.2 ra rb
  have one:aCn op=1->(op=2∨op=8)->aAq op=0->Rt r (.mk op n ks):=λhk ho hm=>by
   rw[hk]at h3
   match ks,h3 with
   | [a],_=>simp only[aEZ,AI]at h7;have ra:=aDe a Po h7.1;have hn:n=0:=omT;subst hn;exact .un r op a ho ra
  have nil:aCn op=0->ks=[]:=λhk=>by rw[hk]at h3;exact List.eq_nil_of_length_eq_zero h3
  have root:((lev op:Nat):Int)=0->r=true:=λhl=>by
   rcases h6 with h6 | h6
   ·exact Zw hl h6
   simpa using h6
  rcases this with rfl | rfl | rfl | rfl | rfl | rfl | rfl | rfl | rfl | rfl | rfl
  ·rw[nil rfl];exact .num r n omT (by have:aAq 0=999999:=rfl;omega)
  ·rw[nil rfl];exact .var r n omT (by have:aAq 1=25:=rfl;omega)
  ·exact one rfl (.inl rfl) rfl
  ·exact two rfl omT omT rfl
  ·exact two rfl omT omT rfl
  ·exact two rfl omT omT rfl
  ·exact two rfl omT omT rfl
  ·exact two rfl omT omT rfl
  ·exact one rfl (.inr rfl) rfl
  ·exact two rfl (λ_=>root rfl) omT rfl
  exact two rfl (λ_=>root rfl) omT rfl
def uE{e:Expr}{L:Nat}{s:Str}:(par e L s).length<=s.length+2:=by unfold par;split<;>simp
def aIx:∀{e:Expr} {r:Bool},Rt r e->(wX e).length<=10*gY e
 |_,_,.num _ n h0 h9=>by
  have h1:wX (.mk 0 n [])=dec n.toNat:=by unfold wX;rfl
  have h2:=aGn 5 n.toNat omT;rw[h1];simp only[gY,cP];omega
 |_,_,.var _ n h0 h1=>by
  have h1:wX (.mk 1 n [])=[CN (97+n.toNat)]:=by unfold wX;rfl
  rw[h1];simp only[gY,cP,AW,AZ];omega
 |_,_,.un _ op a ho ha=>by
  have ih:=aIx ha;have h3:=uE (e:=a) (L:=3) (s:=wX a);have h1:=uE (e:=a) (L:=1) (s:=wX a);rw[aPO];simp only[gY,cP];split<;>simp only[AW,BA,AZ]<;>omega
 |_,_,.bin _ op a b h1 h2 ha hb=>by
  have ia:=aIx ha;have ib:=aIx hb;have k1:=uE (e:=a) (L:=4) (s:=wX a);have k2:=uE (e:=a) (L:=max 1 (lev op)) (s:=wX a);have k3:=uE (e:=b) (L:=3) (s:=wX b);have k4:=uE (e:=b) (L:=lev op+1) (s:=wX b);rw[aN5];simp only[gY,cP];split<;>simp only[AW,BA]<;>omega
 |_,_,.cmp op a b ho ha hb=>by
  have ia:=aIx ha;have ib:=aIx hb;have k1:=uE (e:=a) (L:=4) (s:=wX a);have k2:=uE (e:=a) (L:=max 1 (lev op)) (s:=wX a);have k3:=uE (e:=b) (L:=3) (s:=wX b);have k4:=uE (e:=b) (L:=lev op+1) (s:=wX b);rw[aN5];simp only[gY,cP];split<;>simp only[AW,BA]<;>omega
section
variable {A:af}{g:SN}
def aPR(h:Has A g "b" (dN g)){op n:Int}{ks:List Expr}(o0:0<=op)(o1:op<11)(h0:fY A (g "b") [.agg (aF (.mk op n ks)),vi 0] (wX (.mk op n ks))){L:Nat}(hL:lev op<L):fY A (g "b") [.agg (aF (.mk op n ks)),vi L] (40::(wX (.mk op n ks)++[41])):=by
 intro H t v hb ht;obtain⟨v1,H1,dc,h1,h2⟩:=h.bp (args:=[v,.agg (aF (.mk op n ks)),vi L]) (H:=H) (K:=λv' H'' ba=>N1 (v',H'',ba)=oX H t (40::(wX (.mk op n ks)++[41])) v) (by
  have pq:decide (lev op<L)=true:=by simpa using hL
  have hl:t.length+(2+(wX (.mk op n ks)).length)<=1000000:=by simp at ht;omega
  obtain⟨o,ver,jk,db⟩:=hb.app (L:=aFl op) (i:=1) omT (by show 1<8;decide) [40] siT siT;have db:eX (H++aFl op) (N1 (H.length+1)) 1 1 v (.sl Pa [[.int .u8 40]])=_:=db Pa;have az:aG A (g "b") [.sr o ver (t++[40]).length,.agg (aF (.mk op n ks)),vi 0] _=_:=aGC (t:=t++[40]) (ver:=ver) jk.lt soT h0;have ll:∀site,eX _ site 1 1 _ (.sl Pa [[.int .u8 41]])=_:=λsite=>aN4 (Z:=H++aFl op) (ver:=ver) (t:=t++[40]++wX (.mk op n ks)) (new:=[41]) (f:=Pa) (site:=site) jk.lt siT soT;simp only[BA,AW,AZ,BC,aF,aZ]at db az ll;have hd:=jk.done (L':=aFl op) rfl (40::(wX (.mk op n ks)++[41]));rw[show t++40::(wX (.mk op n ks)++[41])=t++[40]++wX (.mk op n ks)++[41] by simp,show t.length+(40::(wX (.mk op n ks)++[41])).length=t.length+1+(wX (.mk op n ks)).length+1 by simp;omega]at hd;simp only[dN];simp only[go_sem,↓aB,seval,aF,aZ,o0,o1,BC,(hD o0 o1).1,(hD o0 o1).2,kQ,oF,AJ,kS,pq];refine aY (aq:=aBO) rfT rfT ?_;simp only[go_sem,↓aB,seval,aBO,eH,dG,aL,db,az,ll,BI,BY,CP];exact hd)
 rw[h1,h2]
abbrev aBk(A:af)(g:SN):Prop:=∀n:Int,0<=n->n<=999999->fY A (g "br") [vi n,vi 10] (dec n.toNat)
def aS5(h:Has A g "b" (dN g))(hi:aBk A g):∀{e:Expr} {r:Bool},Rt r e->∀L:Nat,L<=4->fY A (g "b") [.agg (aF e),vi L] (par e L (wX e)):=by
 have fin:∀{op n:Int} {ks:List Expr},0<=op->op<11->(∀L:Nat,L<=lev op->fY A (g "b") [.agg (aF (.mk op n ks)),vi L] (wX (.mk op n ks))) ->
   ∀L:Nat,L<=4->fY A (g "b") [.agg (aF (.mk op n ks)),vi L] (par (.mk op n ks) L (wX (.mk op n ks))):=λ{op n ks} o0 o1 hh L hL=>by
  by_cases hl:lev op<L
  ·rw[aY2 (e:=.mk op n ks) hl];exact aPR h o0 o1 (hh 0 (FF _)) hl
  rw[aT8 (e:=.mk op n ks) (OM hl)];exact hh L (OM hl)
 intro e r hr
 induction hr with
 |num _ n h0 h9=>exact fin deT deT λL hL=>aUS h hi h0 h9 rfl hL
 |var _ n h0 h1=>exact fin deT deT λL hL=>aUT h h0 h1 rfl hL
 |un _ op a ho ha ih=>
  rcases ho with rfl | rfl
  ·exact fin deT deT λL hL=>aUU h ih rfl hL
  exact fin deT deT λL hL=>aS1 h ih rfl hL
 |bin _ op a b h1 h2 ha hb ia ib=>
  refine fin omT omT λL hL=>?_;rcases aUM h1 h2 with h3 | h3 | h3 | h3 | h3
  ·exact aGD h omT ia ib hL
  ·exact aGD h omT ia ib hL
  ·exact aGD h omT ia ib hL
  ·exact aGD h omT ia ib hL
  exact aUV h ia ib h3 hL
 |cmp op a b ho ha hb ia ib=>exact fin omT omT λL hL=>aGD h omT ia ib hL
def aBV(e:Expr):Int:=if decide ((gY e:Int)>256) || decide ((aBM e:Int)>16)then 4 else if aBN Pa e then 0 else 1
structure lu(A:af)(g:SN):Prop where
 valid:Has A g "bs" (aDc g)
 size:Has A g "aP" (aAs g)
 depth:Has A g "aO" (xW g)
 right:Has A g "aQ" (xV g)
 R3:Has A g "aR" (qY g)
 con:∃fi,(A.fn (g "as")=N1 (aLV fi)/\A.bq (g "as")=N2)/\(A.fn fi=N1 (aKx 3 Pa)/\A.bq fi=N2)
 put:Has A g "b" (dN g)
 text:Has A g "ca" (aF0 g)
def aCp(h:lu A g)(e:Expr)(he:e.Ok)(hs:gY e<=1000)(H:LO):aG A (g "bs") [.agg (aF e)] H=N1 (vi (aBV e),H,[]):=by
 refine h.valid.call ?_;have h1:=λH=>aPM h.size _ e H (HR _) hs;have h2:=λH=>aOb h.depth _ e H (HR _) hs;obtain⟨fi,c1,c2⟩:=h.con;have h3:=λH=>aOc h.right h.R3 c1 c2 _ e Pa H (HR _) he;simp only[aDc,zK];unfold aBV;cases e1:decide ((gY e:Int)>256)with
 |true=>simp only[go_sem,↓aB,seval,dP,dX.take,dX.still,dX.ga,aS (aV e),h1,e1,CE,EP]
 |false=>cases e2:decide ((aBM e:Int)>16)with
  |true=>simp only[go_sem,↓aB,seval,dP,dX.take,dX.still,dX.ga,aS (aV e),h1,h2,e1,e2,Zz,GV]
  |false=>cases e3:aBN Pa e with
   |true=>simp only[go_sem,↓aB,seval,dP,dX.take,dX.still,dX.ga,aS (aV e),h1,h2,h3,e1,e2,e3,Zz,IJ,BX]
   |false=>simp only[go_sem,↓aB,seval,dP,dX.take,dX.still,dX.ga,aS (aV e),h1,h2,h3,e1,e2,e3,Zz,IJ,BX]
def aKQ{e:Expr}(h:aBV e=0):Rt Pa e:=by
 unfold aBV at h;split at h
 ·cases h
 split at h
 ·rename_i hr;exact aDe e Pa hr
 cases h
def oO:∀s:Str,cM (rb s)=N1 s
 | []=>rfl
 |c::r=>by
  show (cM (rb r)).map (CN ((c.toNat:Int).toNat) :: ·)=_;rw[oO r];simp
def aJt(h:lu A g)(hi:aBk A g)(e:Expr)(he:e.Ok)(hs:gY e<=1000)(hv:aBV e=0)(H:LO):aG A (g "ca") [.agg (aF e)] H=N1 (.str (wX e),H,[]):=by refine h.text.call ?_;have h1:=aCp h e he hs;rw[hv]at h1;have hr:=aKQ hv;have hl:=aIx hr;have h2:=aS5 h.put hi hr 0 deT;rw[aT8 (FF _)]at h2;have h3:∀H,aG A (g "b") [.sl Pa [],.agg (aF e),vi 0] H=N1 (.own 1 (rb (wX e)),H,[]):=λH=>h2 H [] (.sl Pa []) .nil soT;simp only[aF0];simp only[go_sem,↓aB,seval,dP,dX.take,dX.still,dX.ga,aS (aV e),h1,h3,pT,oO]
end
end Go.AM
end
