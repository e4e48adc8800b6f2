/- Part 2: lemmas for the last text. -/
import Derived.Test.YtcndplokeppakaaGreatDoorK01
import Derived.Lib.Bytealg
set_option linter.unusedVariables false
set_option linter.unusedSimpArgs false
open Array renaming length_toList -> DI, range -> CV, getElem?_modify -> DJ, map -> JO, getD_eq_getD_getElem? -> CR, getElem?_eq_getElem -> CM, replicate -> NW, getElem?_eq_some_iff -> KM
open Bool renaming and_eq_true -> AI, false_eq_true -> BX, or_eq_true -> EA, not_eq_true' -> KB, true_and -> BR, rec -> MM, true -> QS, false -> QT
open Go renaming Program -> CU, World -> BL, TypeId -> BP, Operand -> CA, Value -> BE, run_underlying -> BH, Oper -> HP, undef -> EE, Deferred -> HU, Exit -> QX
open Go.Code renaming region -> PJ, roundsIn -> LL
open Go.Deferred renaming ofValue -> JF
open Go.Exit renaming inBlock -> Px
open Go.Fence renaming wide -> FJ
open Go.Instr renaming fill -> FZ, keyThatStays -> MR, mapUpdate -> IH, enterLoop -> JZ
open Go.MapKept renaming run_findKey -> LY, run_getObj_map -> FH, run_setObj_map -> LD
open Go.Obj.cells renaming injEq -> QH
open Go.Region renaming wanted -> OJ, binds -> LZ, ready -> HO
open Go.Result renaming andThen_ok -> BJ, andThen -> DL
open Go.Sem renaming run_bind -> BS, run_pure -> CB
open Go.World renaming putObj_heap_other -> GK, cell? -> EF, putObj_heap_same -> LR
open List renaming replicate -> AX, all_eq_true -> AO, take_of_length_le -> CH, getElem_mem -> AS, range -> GZ, getElem?_eq_some_iff -> AH, getElem_of_mem -> MQ, mem_of_getElem? -> AN, length_cons -> AW, length_eq_one_iff -> FQ, getElem?_set -> FB, getElem?_append_left -> BM, getElem?_append_right -> BU, getElem?_map -> BN, isEmpty_iff -> NU, mem_append -> AY, mem_flatMap -> IM, getElem?_cons_zero -> BG, mem_cons_of_mem -> BZ, mem_iff_getElem? -> CO, getElem?_zipIdx -> ML, mem_cons -> BD, getElem?_eq_none -> CY, getElem?_eq_getElem -> AP, findIdx?_eq_some_iff_getElem -> GW, ext_getElem? -> HN, mem_singleton -> CG, mem_filter -> OK, range' -> FM, length_append -> BA, mem_range'_1 -> FC, zipIdx_cons -> NX, filter_cons -> JV, all_cons -> ES, rec -> IU
open List.cons renaming injEq -> JG
open Nat renaming le_refl -> AQ, zero_add -> BC, lt_of_lt_of_le -> FU, le_trans -> HX, add_zero -> DU, le_total -> PI, exists_eq_add_of_le -> GN, lt_trichotomy -> NV, zero_le -> FF, strongRecOn -> KK, le_max_left -> GJ, le_max_right -> GC, beq -> EY, eq_of_beq_eq_true -> ET
open Option renaming map_some -> DE, ne_none_iff_exists' -> OQ, rec -> JA, some -> QQ, none -> N2
open Option.some renaming injEq -> AG, inj -> DZ
open Prod renaming fst -> EM
open Prod.mk renaming injEq -> BK
open UInt8 renaming ofNat -> CN
open Bool renaming not_true -> BT
section
namespace Go.AM
open Go
section
variable {P:CU}{ab:cu}{g:G}{H:LO}{w w':BL}{ρ:LA}{a:Act}
variable {dst:Option Tmp}{type:BP}{pos:String}{after:Array Edge}{guard:Option (Nat×Bool)}
theorem aCS{k:Nat}:∀(parts:List (Nat×CA)) (aps:List (Nat×aa)),parts.length=aps.length->∀(g:G) (H:LO),WF g H w->(∀(j:Nat) i X i' x,parts[j]? = QQ (i,X)->aps[j]? = QQ (i',x)->i'=i/\ai g (x.ev ρ) (a.eval X)) ->∀(rows:List LA) (cells:Array BE),bz g k rows cells.toList->rows.all (fun r=>r.all AV.still)=QS->∀out H' l,nW ρ k H rows aps=QQ (out,H',l) ->∃g' dh,Step g H w g' H' w l/\FZ (fun i=>QQ (i*k,k)) cells (parts.map fun p=>(p.1,a.eval p.2))=QQ dh/\bz g' k out dh.toList/\out.length=rows.length/\out.all (fun r=>r.all AV.still)=QS
 | [],aps,hl,g,H,hw,_,rows,cells,hr,bd,out,H',l,h=>by
  cases aps with
  |nil=>simp only[nW,AG,BK]at h;obtain⟨rfl,rfl,rfl⟩:=h;exact⟨g,cells,.refl hw,rfl,hr,rfl,bd⟩
  |cons _ _=>simp at hl
 | (i,X)::parts,aps,hl,g,H,hw,hp,rows,cells,hr,bd,out,H',l,h=>by
  cases aps with
  |nil=>simp at hl
  |cons p aps=>
   obtain⟨i',x⟩:=p;simp only[nW]at h;split at h
   ·rename_i v H1 l1 Dz;split at h
    ·rename_i hc;split at h
     ·rename_i bt H'' l' mz;simp only[AG,BK]at h;obtain⟨rfl,rfl,rfl⟩:=h;obtain⟨h1,h2⟩:=hp 0 i X i' x rfl rfl;subst h1;obtain⟨g1,bn,Kc⟩:=qO hw Dz h2;have hv:=Kc.cells (jM hc.2.2);have E4:=hv.1;simp only[DI]at E4;have gj:=hr.mono bn.le;have ax:=hr.len;simp only[DI]at ax;have hb:i'*k+k<=rows.length*k:=by
       have:(i'+1)*k<=rows.length*k:=Nat.mul_le_mul_right _ hc.2.1;grind
      obtain⟨cells1,e1,e2⟩:=aCR (place:=fun i=>QQ (i*k,k)) (cells:=cells) (i:=i') (off:=i'*k) (v:=a.eval X) (rest:=parts.map fun p=>(p.1,a.eval p.2)) soT omT;have nv:bz g1 k (rows.set i' v.cells) cells1.toList:=by rw[e1];have:=gj.set hc.2.1 hv hc.1;grind
      have q7:(rows.set i' v.cells).all (fun r=>r.all AV.still)=true:=by grind
      obtain⟨g',dh,e3,e4,e5,e6,e7⟩:=aCS parts aps (by simpa using hl) g1 H1 bn.wf
       (fun j i X o x h1 h2=>by obtain⟨a1,a2⟩:=hp (j+1) i X o x (by simpa using h1) (by simpa using h2);exact⟨a1,a2.mono bn.le⟩) _ cells1 nv q7 _ _ _ mz
      exact⟨g',dh,bn.trans e3,by grind,e5,by rw[e6];simp,e7⟩
     cases h
    cases h
   cases h
theorem bA1{t e:BP}{k n:Nat}{parts:Array (Nat×CA)}{zs:LA}{aps:List (Nat×aa)}(ht:P.underlying t=QQ (.slice e))(hk:size? P e=QQ k)(hz:zeroCells? P ab e=QQ zs)(hp:aFK ab n parts.toList=QQ aps) (O1:zs.length=k) (hn:n*k<=16777216) (bd:zs.all AV.still=QS) {call:Nat->LA->LO->Out} {site:Option Nat} {av:AV} {H':LO} {wr:LN} (h:evW call H ρ site (.bsl k (zs.map AV.aj) n aps)=QQ (av,H',wr)) (hw:WF g H w) (hg:bM P ab g) (hs:aX g ρ a.tmps):aA8 P ⟨dst,.buildSlice t n parts,type,pos,after,guard⟩ a w fun v w'=>∃g',Step g H w g' H' w' wr/\ai g' av v:=by
 simp only[evW]at h;obtain⟨it,z,hi,tq,ub⟩:=zeroCells?_spec hz;obtain⟨i',nr,gd⟩:=size?_info hk;rw[hi]at nr;cases nr;obtain⟨h1,h2⟩:=aC8 hp;have me:bz g k (AX n (zs.map AV.aj)) (((CV (n*k)).map (z.cells[· % z.cells.size]!)).toList):=aFx (ub g).aj (by grind);have rr:(AX n (zs.map AV.aj)).all (fun r=>r.all AV.still)=true:=by grind [AO,jN]
 have cl:∀cells,FZ (fun i=>QQ (i*k,k)) ((CV (n*k)).map (z.cells[· % z.cells.size]!)) (parts.toList.map fun p=>(p.1,a.eval p.2))=QQ cells ->
   (execOp a.eval ⟨dst,.buildSlice t n parts,type,pos,after,guard⟩).run P w=.ok (.value (.slice (QQ ⟨w.heap.size,0,N2⟩) n n)) (w.alloc (.cells cells e)):=fun cells e1=>by
  have hf:FZ (fun i=>QQ (i*k,k)) ((CV (n*k)).map (z.cells[· % z.cells.size]!)) (parts.map fun p=>(p.1,a.eval p.2)).toList=QQ cells:=by simp_all
  grind [execOp,BS,aBF,BJ,CB]
 split at h
 ·rename_i id;split at h
  ·rename_i rows hb;split at h
   ·rename_i hid;cases h;obtain⟨cells,e1,e2,e3,e4⟩:=aA6 (g:=g) (a:=a) (ρ:=ρ) parts.toList aps h1 (fun j i X i' x e1 e2=>by
     grind [aQ]) _ _ me (vF rr) _ hb
    have ax:rows.length=n:=by rw[e3];simp
    have kq:=e2.len;have gm:cells.toList.take (rows.length*k)=cells.toList:=CH omT;obtain⟨g',s1,s2⟩:=Step.Py (w':=w.alloc (.cells cells e)) hw hid (c:=cells) (t:=e) rfl (k:=k) (cap:=n) (by grind) e4 omT (by grind);rw[ax]at s2;exact .inl ⟨_,_,cl cells e1,g',s1,s2⟩
   cases h
  cases h
 split at h
 ·rename_i rows H1 dc Pw;cases h;obtain⟨g1,cells,bn,e1,e2,e3,e4⟩:=aCS (a:=a) (ρ:=ρ) parts.toList aps h1 g H hw (fun j i X i' x e1 e2=>by
   grind [aQ]) _ _ me rr _ _ _ Pw
  have ax:rows.length=n:=by rw[e3];simp
  have kq:=e2.len;have gm:cells.toList.take (rows.length*k)=cells.toList:=CH omT;have Pv:=Step.ir (w':=w.alloc (.cells cells e)) bn.wf cells e (0,0) rfl;have hv:=ai.rp (g:=g1) (f:=QS) (cap:=n) (b:=w.heap.size) e4 omT (fun _=>ax.symm) (by rw[gm];exact e2.mono Pv.le);rw[ax]at hv;refine .inl ⟨_,_,cl cells e1,_,(bn.trans Pv).weaken fun o ho=>by simpa using ho,hv⟩
 cases h
structure xj(g:G)(H:LO)(n0:Nat)(w:BL)(k:Nat)(rows:List LA)(b cap:Nat):Prop where
 ki:n0<=b
 hlt:b<w.heap.size
 cm:rows.length<=cap
 dr:aQV w b
 cn:∀row∈rows,row.length=k
 dq:rows.all (fun r=>r.all AV.still)=QS
 eh:∀j,j<cap*k->(w.cell? ⟨b,j,N2⟩).isSome
 dj:∀(i j:Nat) (row:LA) c,rows[i]? = QQ row->row[j]? = QQ c->∃y,w.cell? ⟨b,i*k+j,N2⟩=QQ y/\ai g c y
 Qm:∀j,g.perm b j=N2
 pd:∀o l x,au g H o l x->l.b≠b
 u7:g.whole b=N2
def pN(g:G)(H:LO)(n0:Nat)(w:BL)(av:AV)(v:BE):Prop:=
 match av with
 |.own k rows=>∃b cap,v=.slice (QQ ⟨b,0,N2⟩) rows.length cap/\xj g H n0 w k rows b cap
 |av=>ai g av v
def gS(P:CU)(ab:cu)(call:Nat->LA->LO->Out):Prop:=
 ∀f args H av H' wr,call f args H=QQ (av,H',wr)->∀g w xs,WF g H w->bM P ab g->fU g args xs ->
  (∃F,P.funcs[f]? = QQ F/\(F.name == "runtime.NumGoroutine")=QT/\F.body.isNone=QT) /\
  Calls P f xs.toArray w fun e w'=>match e with
   |.returned v=>∃g',Step g H w g' H' w' wr/\pN g' H' w.heap.size w' av v
   |_=>False
def aOS(P:CU)(ab:cu)(call:Nat->LA->LO->Out):Prop:=
 ∀o v Pq H av H' wr,call YF (.own 0 []::.yld o v::Pq) H=QQ (av,H',wr)->∀g w l xs,WF g H w->bM P ab g->ai g (.yld o v) (.func (.yield l) #[] #[])->fU g Pq xs ->
  ∃r,w.heap[l]? = QQ (.loop r)/\r.params.size=xs.length /\
   RoundIn FJ 0 P l r.fn ((r.params.zip xs.toArray).foldl (fun tmps (t,a)=>tmps.setIfInBounds t a) r.tmps) r.assign r.body w fun e w'=>match e with
    |.returned v=>∃g',Step g H w g' H' w' wr/\ai g' av v
    |_=>False
def oT(P:CU)(ab:cu)(call:Nat->LA->LO->Out):Prop:=gS P ab call/\aOS P ab call
theorem aC9:∀(rows:List LA) {g:G} {H:LO},WF g H w->∀{bt:List LA} {H':LO} {l:LN},aLw H rows=QQ (bt,H',l) ->∀(xss:List (List BE)),(rows.length=xss.length/\∀(i:Nat) r xs,rows[i]? = QQ r->xss[i]? = QQ xs->fU g r xs) ->∃g',Step g H w g' H' w l/\bt.length=xss.length/\∀(i:Nat) r xs,bt[i]? = QQ r->xss[i]? = QQ xs->fU g' r xs
 | [],g,H,hw,bt,H',l,h,xss,hx=>by
  cases h;exact⟨g,.refl hw,hx.1,fun i r xs h=>by simp at h⟩
 |r::rs,g,H,hw,bt,H',l,h,xss,hx=>by
  cases xss with
  |nil=>grind
  |cons xs xss=>
   unfold aLw at h;split at h
   ·rename_i r' H1 l1 hf;split at h
    ·rename_i rs' H2 l2 hr;cases h;have h0:=hx.2 0 r xs rfl rfl;obtain⟨g1,s1,v1⟩:=qO hw hf (fU.agg (vs:=xs.toArray) (by simpa using h0));obtain⟨ys,e1,qe⟩:=v1.fu;cases e1;have O6:fU g1 r' xs:=by grind
     obtain⟨g2,s2,ax,dj⟩:=aC9 rs s1.wf hr xss ⟨by grind,fun i r xs e1 e2=>(hx.2 (i+1) r xs (by simpa using e1) (by simpa using e2)).mono s1.le⟩;refine⟨g2,s1.trans s2,by grind,fun i r xs e1 e2=>?_⟩;cases i with
     |zero=>simp at e1 e2;subst e1;subst e2;exact O6.mono s2.le
     |succ i=>grind
    cases h
   cases h
theorem aCT(hw:WF g H w){v v':AV}{H':LO}{l:LN}(h:aA3 H v=QQ (v',H',l)){x:BE}(hx:ai g v x):∃g',Step g H w g' H' w l/\ai g' v' x:=by
 unfold aA3 at h;split at h
 ·rename_i o ve n;split at h
  ·rename_i v0 k rows ho;split at h
   ·rename_i hc;obtain⟨rfl,ax⟩:=hc;split at h
    ·rename_i bt H1 l1 hi;split at h
     ·rename_i nc;split at h
      ·rename_i v2 H2 l2 hf;cases h;have hb:∃lc,au g H o lc (.vec v0 k rows):=by
        cases hx with
        |sr _ _ _ lc b cap hl hv hn jg hh=>
         have bd:lc.st=v0:=by have:=hw.st o _ lc ho hl;simp only[ah.ver]at this;omega
         exact⟨lc,ho,rfl,hl,bd⟩
       obtain⟨lc,hb⟩:=hb;obtain⟨h0,ow,cm,dr,hk,eh,bc⟩:=hw.obj o lc _ hb;have cj:∀(i j:Nat),i<rows.length->j<k->∃y,w.cell? ⟨lc.b,i*k+j,N2⟩=QQ y:=fun i j hi hj=>by
        have yg:=hk rows[i] (AS hi);obtain⟨_,y,hy,_⟩:=bc i j rows[i] (rows[i][j]'omT) (by simp[hi]) siT;grind
       generalize re:((GZ rows.length).map fun i=>(GZ k).map fun j=>(w.cell? ⟨lc.b,i*k+j,N2⟩).getD EE)=xss;have dj:rows.length=xss.length/\∀(i:Nat) r xs,rows[i]? = QQ r->xss[i]? = QQ xs->fU g r xs:=by subst re;refine⟨siT,fun i r xs e1 e2=>?_⟩;have hi:i<rows.length:=(AH.1 e1).1;simp[hi]at e2;subst e2;refine⟨by grind,fun j c y e3 e4=>?_⟩;grind
       obtain⟨g1,s1,qe,gj⟩:=aC9 rows hw hi xss dj;have tp:o∉l1:=by grind
       have hlt:o<H.length:=hw.lt o lc hb.loc;have fo:au g1 H1 o lc (.vec v0 k rows):=⟨by rw[s1.same o hlt tp];exact ho,rfl,by rw[s1.aq o hlt tp];exact hb.loc,hb.st⟩;have lz:=hx.mono s1.le;have U8:bt.length=rows.length:=by grind
       have s2:Step g1 H1 w g1 (H1.set o (.vec v0 k bt)) w [o]:=by
        refine Step.write (xs:=[]) (off:=0) s1.wf fo rfl rfl ⟨by rw[h0,U8],ow,by grind,dr,fun r hr=>?_,eh,fun i j r c e1 e2=>?_⟩
        ·obtain⟨i,hi,he⟩:=MQ hr;have l8:i<xss.length:=omT;have:=(gj i r xss[i] (by grind) (by simp[l8])).1;grind
        have hi:i<bt.length:=(AH.1 e1).1;have l8:i<xss.length:=omT;have hl:=gj i r xss[i] e1 (by simp[l8]);have hj:j<r.length:=(AH.1 e2).1;have Y1:j<xss[i].length:=by rw[<- hl.1];exact hj
        refine⟨AO.1 (AO.1 nc.2 r (AN e1)) c (AN e2),xss[i][j], ?_,hl.2 j c _ e2 (by simp[Y1])⟩;subst re;have nh:j<k:=by grind
        obtain⟨y,hy⟩:=cj i j omT nh;show w.cell? _=_;simp[hy]
       obtain⟨g3,s3,v3⟩:=qO s2.wf hf lz;exact⟨g3,s1.trans (s2.trans s3),v3⟩
      cases h
     cases h
    cases h
   cases h
  cases h
 exact qO hw h hx
theorem aIY(hw:WF g H w){v:AV}{H':LO}{l:LN}(h:pE H v=QQ (H',l)){x:BE}(hx:ai g v x):∃g',Step g H w g' H' w l:=by
 unfold pE at h;split at h
 ·cases h;exact⟨g,.refl hw⟩
 ·rename_i o ve n;split at h
  ·rename_i v0 k rows ho;split at h
   ·rename_i hc;obtain⟨rfl,ax⟩:=hc;split at h
    ·rename_i bt H1 l1 hi;split at h
     ·rename_i nc;cases h;have hb:∃lc,au g H o lc (.vec v0 k rows):=by
       cases hx with
       |sr _ _ _ lc b cap hl hv hn jg hh=>
        have bd:lc.st=v0:=by have:=hw.st o _ lc ho hl;simp only[ah.ver]at this;omega
        exact⟨lc,ho,rfl,hl,bd⟩
      obtain⟨lc,hb⟩:=hb;obtain⟨h0,ow,cm,dr,hk,eh,bc⟩:=hw.obj o lc _ hb;have cj:∀(i j:Nat),i<rows.length->j<k->∃y,w.cell? ⟨lc.b,i*k+j,N2⟩=QQ y:=fun i j hi hj=>by
       have yg:=hk rows[i] (AS hi);obtain⟨_,y,hy,_⟩:=bc i j rows[i] (rows[i][j]'omT) (by simp[hi]) siT;grind
      generalize re:((GZ rows.length).map fun i=>(GZ k).map fun j=>(w.cell? ⟨lc.b,i*k+j,N2⟩).getD EE)=xss;have dj:rows.length=xss.length/\∀(i:Nat) r xs,rows[i]? = QQ r->xss[i]? = QQ xs->fU g r xs:=by subst re;refine⟨siT,fun i r xs e1 e2=>?_⟩;have hi:i<rows.length:=(AH.1 e1).1;simp[hi]at e2;subst e2;refine⟨by grind,fun j c y e3 e4=>?_⟩;grind
      obtain⟨g1,s1,qe,gj⟩:=aC9 rows hw hi xss dj;have tp:o∉l1:=by grind
      have hlt:o<H.length:=hw.lt o lc hb.loc;have fo:au g1 H1 o lc (.vec v0 k rows):=⟨by rw[s1.same o hlt tp];exact ho,rfl,by rw[s1.aq o hlt tp];exact hb.loc,hb.st⟩;have lz:=hx.mono s1.le;have U8:bt.length=rows.length:=by grind
      have s2:Step g1 H1 w g1 (H1.set o (.vec v0 k bt)) w [o]:=by
       refine Step.write (xs:=[]) (off:=0) s1.wf fo rfl rfl ⟨by rw[h0,U8],ow,by grind,dr,fun r hr=>?_,eh,fun i j r c e1 e2=>?_⟩
       ·obtain⟨i,hi,he⟩:=MQ hr;have l8:i<xss.length:=omT;have:=(gj i r xss[i] (by grind) (by simp[l8])).1;grind
       have hi:i<bt.length:=(AH.1 e1).1;have l8:i<xss.length:=omT;have hl:=gj i r xss[i] e1 (by simp[l8]);have hj:j<r.length:=(AH.1 e2).1;have Y1:j<xss[i].length:=by rw[<- hl.1];exact hj
       refine⟨AO.1 (AO.1 nc.2 r (AN e1)) c (AN e2),xss[i][j], ?_,hl.2 j c _ e2 (by simp[Y1])⟩;subst re;have nh:j<k:=by grind
       obtain⟨y,hy⟩:=cj i j omT nh;show w.cell? _=_;simp[hy]
      exact⟨g1,s1.trans s2⟩
     cases h
    cases h
   cases h
  cases h
 cases h
theorem aI1(hw:WF g H w){v v':AV}{H':LO}{l:LN}(h:aMD H v=QQ (v',H',l)){x:BE}(hx:ai g v x):∃g',Step g H w g' H' w l/\ai g' v' x:=by
 unfold aMD at h;split at h
 ·rename_i hf;cases h;exact qO hw hf hx
 split at h
 ·split at h
  ·rename_i hf;cases h;obtain⟨ys,rfl,hl⟩:=hx.fu;obtain⟨y,hy⟩:∃y,ys.toList=[y]:=by
    have:=hl.1;grind [AW,List.length_nil,FQ]
   obtain⟨g',h1,h2⟩:=aCT hw hf (hl.2 0 _ y rfl (by rw[hy];rfl));refine⟨g',h1, ?_⟩;have:ys = #[y]:=by grind
   subst this;refine ai.agg _ _ rfl fun i a z e1 e2=>?_;grind
  cases h
 exact aCT hw h hx
theorem aJY{n0:Nat}(hw:WF g H w){k:Nat}{rows:List LA}{b cap:Nat}(h:xj g H n0 w k rows b cap):∃g',Step g H w g' H w []/\ai g' (.sl QT rows) (.slice (QQ ⟨b,0,N2⟩) rows.length cap):=by
 have hle:g.le (g.bh b fun i=>w.cell? ⟨b,i,N2⟩):=by
  refine⟨fun b' i y hy=>?_,fun o l hl=>⟨l,hl,AQ _,fun _=>⟨AQ _,fun _=>rfl⟩⟩,fun _ _ hx=>hx,rfl,rfl⟩;by_cases e:b'=b
  ·subst e;rw[h.Qm i]at hy;cases hy
  simp only[G.bh,e,Zu];exact hy
 have dx:∀o l x,au (g.bh b fun i=>w.cell? ⟨b,i,N2⟩) H o l x->au g H o l x:=fun o l x hb=>⟨hb.Pr,hb.alive,hb.loc,hb.st⟩;refine⟨g.bh b fun i=>w.cell? ⟨b,i,N2⟩,⟨hle,⟨fun b' i y hy=>?_,hw.lt,hw.blk,hw.st,fun o l x hb=>(hw.obj o l x (dx _ _ _ hb)).aq hle rfl,fun o l x hb j=>?_,fun o o' l l' x x' hb du=>hw.inj o o' l l' x x' (dx _ _ _ hb) (dx _ _ _ du),
   hw.whole.aq rfl rfl ⟨rfl,rfl⟩ (fun _ _ _=>rfl) fun o l y hl=>.inr ⟨o,l,y,dx _ _ _ hl,rfl⟩⟩,
  aDS.refl _ _ _,fun _ _ _=>rfl,AQ _,fun _ l' hl=>.inr ⟨l',hl,rfl⟩,fun _ _ _=>rfl⟩, ?_⟩
 ·by_cases e:b'=b
  ·subst e;simpa only[G.bh,Zv]using hy
  simp only[G.bh,e,Zu]at hy;exact hw.perm b' i y hy
 ·have bl:=h.pd o l x (dx _ _ _ hb);simp only[G.bh,bl,Zu];exact hw.jh o l x (dx _ _ _ hb) j
 refine .sl QT rows b 0 cap k h.cm siT h.cn (AO.1 h.dq) (fun i j hi hj=>?_) fun i j row c x h1 h2 h3=>?_
 ·have yg:=h.cn rows[i] (AS hi);obtain⟨y,hy,_⟩:=h.dj i j rows[i] (rows[i][j]'omT) (by simp[hi]) siT;simp only[G.bh,Zv,BC,hy];rfl
 obtain⟨y,hy,hr⟩:=h.dj i j row c h1 h2;simp only[G.bh,Zv,BC,hy,AG]at h3;subst h3;exact hr.mono hle
theorem aI2{n0:Nat}(hw:WF g H w){k:Nat}{rows:List LA}{b cap:Nat}(h:xj g H n0 w k rows b cap){id:Nat}(hid:id<H.length):∃g',g'.perm=g.perm/\g.le g'/\WF g' (make H id (.vec · k rows)) w/\(∀o,o≠id->g'.obj o=g.obj o)/\(∀l',g'.obj id=QQ l'->l'.b=b) /\ ai g' (.sr id (bH H id) rows.length) (.slice (QQ ⟨b,0,N2⟩) rows.length cap):=by
 have hx:H[id]? = QQ H[id]:=by simp[hid]
 have hv:bH H id=H[id].ver+1:=by simp[bH,hid]
 generalize kg:(⟨b,bH H id,rows.length,k,cap⟩:Loc)=l';have hle:g.le (g.setObj id l'):=by
  refine⟨fun _ _ _ hx=>hx,fun o' l hl=>?_,fun _ _ hx=>hx,rfl,rfl⟩;by_cases e:o'=id
  ·subst e;have:=hw.st o' _ l hx hl;grind [G.setObj,bH]
  exact⟨l,by simp only[G.setObj,e,Zu];exact hl,AQ _,fun _=>⟨AQ _,fun _=>rfl⟩⟩
 have dx:∀o' l x,o'≠id->au (g.setObj id l') (make H id (.vec · k rows)) o' l x->au g H o' l x:=fun o' l x bl hb=>⟨by rw[<- getElem?_set_ne' H _ (Ne.symm bl)];exact hb.Pr,hb.alive,by have:=hb.loc;simpa only[G.setObj,bl,Zu]using this,hb.st⟩;have gy:∀l x,au (g.setObj id l') (make H id (.vec · k rows)) id l x->l=l'/\x=.vec (bH H id) k rows:=fun l x hb=>by
  have h1:=hb.Pr;have h2:=hb.loc;grind [make,G.setObj]
 refine⟨g.setObj id l',rfl,hle,⟨hw.perm,fun o' l hl=>?_,fun o' l hl=>?_,fun o' x l Qy hl=>?_,fun o' l x hb=>?_,fun o' l x hb j=>?_,fun o1 o2 l1 l2 x1 x2 fo dp e=>?_,⟨fun b' x hx=>⟨(hw.whole.blocks b' x hx).1,fun o' l y hl=>by
    by_cases e:o'=id
    ·subst e;obtain⟨rfl,rfl⟩:=gy l y hl;rw[<- kg];intro e2;have e3:b=b':=e2;have h0:=h.u7;have jr:g.whole b'=QQ x:=hx;grind
    exact (hw.whole.blocks b' x hx).2 o' l y (dx o' l y e hl)⟩,hw.whole.io⟩⟩,fun o bl=>by simp[G.setObj,bl],fun l2 iq=>?_, ?_⟩
 ·by_cases e:o'=id
  ·subst e;simpa [make]using hid
  simp only[G.setObj,e,Zu]at hl;simpa [make]using hw.lt o' l hl
 ·by_cases e:o'=id
  ·subst e;simp[G.setObj]at hl;subst hl;rw[<- kg];exact h.hlt
  simp only[G.setObj,e,Zu]at hl;exact hw.blk o' l hl
 ·by_cases e:o'=id
  ·subst e;simp[G.setObj]at hl;simp[make,hid]at Qy;subst hl;subst Qy;rw[<- kg];show bH H o'<=H[o'].ver+1;omega
  simp only[G.setObj,e,Zu]at hl;rw[make,getElem?_set_ne' H _ (Ne.symm e)]at Qy;exact hw.st o' x l Qy hl
 ·by_cases e:o'=id
  ·subst e;obtain⟨rfl,rfl⟩:=gy l x hb;rw[<- kg];refine⟨rfl,rfl,h.cm,h.dr,h.cn,h.eh,fun i j row c h1 h2=>⟨aEG (AO.1 (AO.1 h.dq row (AN h1)) c (AN h2)), ?_⟩⟩;obtain⟨y,hy,hr⟩:=h.dj i j row c h1 h2;refine⟨y,hy, ?_⟩;rw[kg];exact hr.mono hle
  exact (hw.obj o' l x (dx o' l x e hb)).aq hle rfl
 ·by_cases e:o'=id
  ·subst e;obtain⟨rfl,rfl⟩:=gy l x hb;rw[<- kg];exact h.Qm j
  exact hw.jh o' l x (dx o' l x e hb) j
 ·by_cases e1:o1=id
  ·by_cases e2:o2=id
   ·rw[e1,e2]
   subst e1;obtain⟨rfl,rfl⟩:=gy l1 x1 fo;exact Zw (by grind) (h.pd o2 l2 x2 (dx _ _ _ e2 dp))
  by_cases e2:o2=id
  ·subst e2;obtain⟨rfl,rfl⟩:=gy l2 x2 dp;exact Zw (by grind) (h.pd o1 l1 x1 (dx _ _ _ e1 fo))
  exact hw.inj o1 o2 l1 l2 x1 x2 (dx _ _ _ e1 fo) (dx _ _ _ e2 dp) e
 ·simp[G.setObj]at iq;grind
 subst kg;exact .sr id _ _ _ _ _ (by simp[G.setObj];rfl) (AQ _) (fun _=>AQ _) h.cm fun _ _=>⟨rfl,rfl⟩
end
section
variable {P:CU}{ab:cu}{g:G}{H:LO}{w w':BL}{ρ:LA}{a:Act}
variable {dst:Option Tmp}{type:BP}{pos:String}{after:Array Edge}{guard:Option (Nat×Bool)}
theorem aTw{t:BP}{call:Nat->LA->LO->Out}{site:Option Nat} {av:AV} {H':LO} {wr:LN} (h:evW call H ρ site .jn=QQ (av,H',wr)) (hw:WF g H w):aA8 P ⟨dst,.makeMap t N2,type,pos,after,guard⟩ a w fun v w'=>∃g',Step g H w g' H' w' wr/\ai g' av v:=by
 simp only[evW]at h;split at h
 ·rename_i id;split at h
  ·rename_i hid;cases h;have e:(w.alloc (.map #[] 0)).heap=w.heap.push (.map #[] 0):=rfl;have bd:=Step.update (w':=w.alloc (.map #[] 0)) hw id (.map (bH H id) []) ⟨w.heap.size,bH H id,0,0,0⟩ hid (by rw[e];simp) (fun b hb _=>cK e hb) (by rw[e];simp) (.inl (AQ _)) rfl rfl (fun l hl=>by
    have hx:H[id]? = QQ H[id]:=by simp[hid]
    have:=hw.st id _ l hx hl;have hv:bH H id=H[id].ver+1:=by simp[bH,hid]
    exact⟨by show l.st<=bH H id;omega,fun e=>by have e':bH H id=l.st:=e;omega⟩)
    fun hle=>⟨rfl,#[],0,by rw[e];simp,rfl,fun i k v e h=>by simp at h⟩
   refine .inl ⟨.map (QQ w.heap.size),w.alloc (.map #[] 0),by simp[execOp,Instr.makeMap,DL],_,bd, ?_⟩;exact .mp id _ _ _ (by simp[G.setObj];rfl) (AQ _) fun _ _=>rfl
  cases h
 cases h
theorem bA2{t kt et:BP}{K:IntKind}{M X V:CA}{m k v:aa}(ht:P.underlying t=QQ (.map kt et))(hk:P.underlying kt=QQ (.int K)) (hM:fA ab M=QQ m) (hX:fA ab X=QQ k) (hV:fA ab V=QQ v) {call:Nat->LA->LO->Out} {site:Option Nat} {av:AV} {H':LO} {wr:LN} (h:evW call H ρ site (.ins m k v)=QQ (av,H',wr)) (hw:WF g H w) (hg:bM P ab g) (hs:aX g ρ a.tmps):aA8 P ⟨dst,.insert t M X V,type,pos,after,guard⟩ a w fun v w'=>∃g',Step g H w g' H' w' wr/\ai g' av v:=by
 have hm:=aQ hM hg hs;have hx:=aQ hX hg hs;have hv:=(aQ hV hg hs).strip;simp only[evW]at h;split at h
 ·rename_i kk o ver e1;rw[e1]at hm;split at h
  ·rename_i v' es ho;split at h
   ·rename_i hc;obtain⟨nn,Y2,dq⟩:=hc;obtain⟨l,entries,clock,hb,J8,bb,dj,ax⟩:=aFT hw ho nn hm;have E8:∀b,(Instr.checkKey b 10000 kt (a.eval X)).run P w=.ok () w:=fun b=>pG hk b 9999 (a.eval X);have step:∀(es':List (AV×AV)) (xs':Array MapEntry) (clock':Nat),aTs g es' xs'.toList ->
      ∃g',Step g H w g' (H.set o (.map ver es')) { w with heap:=w.heap.setIfInBounds l.b (.map xs' clock') } [o]:=fun es' xs' clock' hr=>by
     have hlt:=hw.blk o l hb.loc;have uj:∀b,b≠l.b->(w.heap.setIfInBounds l.b (.map xs' clock'))[b]? = w.heap[b]? := fun b bl=>by simp[Ne.symm bl]
     refine⟨_,Step.update hw o (.map ver es') l (hw.lt o l hb.loc) siT (fun b _ bl=>uj b fun e=>bl l _ hb e.symm) (by simpa using hlt) (.inr ⟨l,_,hb,rfl⟩) hb.st rfl (fun l2 iq=>?_)
      fun hle=>⟨ax,xs',clock',by simp[hlt],by simpa using hr.1,fun i k v e h1 h2=>?_⟩⟩
     ·have:l2=l:=by have:=hb.loc;rw[iq]at this;exact DZ this
      subst this;exact⟨AQ _,fun _=>⟨AQ _,fun _=>rfl⟩⟩
     have:=hr.2 i k v e h1 (by simpa using h2);exact⟨this.1.mono hle,this.2.mono hle⟩
    split at h
    ·rename_i j x hf;obtain⟨j',e',k',n,h1,h2,h3,h4,h5⟩:=iQ (K:=K) hx es entries.toList 0 _ dj hf;have hj:entries[j']? = QQ e':=by simpa using h2
     simp only[BC]at h1;subst h1;simp only[AG,BK]at h;obtain⟨rfl,rfl,rfl⟩:=h;have O5:a.eval X=.int k' n:=by rw[h4]at hx;cases hh:a.eval X<;>rw[hh]at hx<;>cases hx;rfl
     have Kd:e'.key=.int k' n:=by have:=(dj.2 j _ _ e' h3 h2).1;cases hh:e'.key<;>rw[hh]at this<;>cases this;rfl
     have qo:=LY (w:=w) hk h5;have bd:(MR (.int k' n) (.int k' n)).run P w=.ok (.int k' n) w:=by simp[MR,Instr.sameBits]
     have cl:(IH t (a.eval M) (a.eval X) (a.eval V)).run P w=.ok () { w with heap:=w.heap.setIfInBounds l.b (.map (entries.modify j fun e=>{ e with key:=.int k' n,val:=a.eval V }) clock) }:=by rw[O5]at qo E8;simp[IH,BH ht,J8,O5,FH bb,E8,qo,hj,Kd,bd,LD _ bb,DL]
     obtain⟨g',ml⟩:=step (es.set j (k.ev ρ,(v.ev ρ).strip)) (entries.modify j fun e=>{ e with key:=.int k' n,val:=a.eval V }) clock ⟨by simpa using dj.1,fun i k2 v2 e2 h6 h7=>by
      have zf:(entries.modify j fun e=>{ e with key:=.int k' n,val:=a.eval V })[i]? = QQ e2:=by rw[<- Array.getElem?_toList];exact h7
      rw[DJ]at zf;by_cases e:j=i
      ·subst e;have hlt:j<es.length:=(AH.1 h3).1;simp only[FB,Zv,hlt]at h6;rw[Zy rfl,hj]at zf;simp only[DE,AG]at zf;subst zf;simp only[AG,BK]at h6;obtain⟨rfl,rfl⟩:=h6;exact⟨by rw[<- O5];exact hx,hv⟩
      rw[Zx e]at zf;rw[getElem?_set_ne' _ _ e]at h6;exact dj.2 i k2 v2 e2 h6 (by simpa using zf)⟩
     exact .inr (.inl ⟨_,by simp[execOp,cl],g',ml,.undef _⟩)
    ·rename_i hf;have h5:=iQ (K:=K) hx es entries.toList 0 _ dj hf;simp only[AG,BK]at h;obtain⟨rfl,rfl,rfl⟩:=h;have qo:=LY (w:=w) hk h5;have cl:(IH t (a.eval M) (a.eval X) (a.eval V)).run P w=.ok () { w with heap:=w.heap.setIfInBounds l.b (.map (entries.push { key:=a.eval X,val:=a.eval V,born:=clock }) (clock+1)) }:=by
      simp[IH,BH ht,J8,FH bb,E8,qo,LD _ bb,DL]
     obtain⟨g',ml⟩:=step (es++[(k.ev ρ,(v.ev ρ).strip)]) (entries.push { key:=a.eval X,val:=a.eval V,born:=clock }) (clock+1) ⟨by simpa using dj.1,fun i k2 v2 e2 h6 h7=>by
      have zf:(entries.toList++[{ key:=a.eval X,val:=a.eval V,born:=clock }])[i]? = QQ e2:=by simpa using h7
      by_cases e:i<es.length
      ·rw[BM e]at h6;rw[BM (by rw[<- dj.1];exact e)]at zf;exact dj.2 i k2 v2 e2 h6 zf
      rw[BU omT]at h6;rw[BU (by rw[<- dj.1];omega),<- dj.1]at zf;cases hd:i - es.length with
      |zero=>rw[hd]at h6 zf;simp at h6 zf;obtain⟨rfl,rfl⟩:=h6;subst zf;exact⟨hx,hv⟩
      |succ d=>rw[hd]at h6;simp at h6⟩
     exact .inr (.inl ⟨_,by simp[execOp,cl],g',ml,.undef _⟩)
    cases h
   cases h
  cases h
 cases h
end
section
variable {P:CU}{ab:cu}{g:G}{H:LO}{w w':BL}{ρ:LA}{a:Act}
variable {dst:Option Tmp}{type:BP}{pos:String}{after:Array Edge}{guard:Option (Nat×Bool)}
theorem ai.atom{g g':G}{v:AV}{x:BE}(h:ai g v x)(ha:v.atom=QS):ai g' v x:=by cases h<;>first | (simp[AV.atom]at ha;done) | exact .bool _ | exact .int _ _ | exact .str _ | exact .bx | exact .nilPtr | exact .bj | exact .ar
theorem ai.atomic{g g':G}{v:AV}{x:BE}(h:ai g v x)(ha:v.atomic=QS):ai g' v x:=by
 have lists:∀{cs:LA} {xs:List BE},fU g cs xs->cs.all AV.atom=QS->fU g' cs xs:=fun hl hc=>⟨hl.1,fun i c y h1 h2=>(hl.2 i c y h1 h2).atom (AO.1 hc c (AN h1))⟩;unfold AV.atomic at ha;split at ha
 ·obtain⟨vs,rfl,hl⟩:=h.fu;exact (lists hl ha).agg
 ·obtain⟨vs,rfl,hl⟩:=h.np;have:=lists hl ha;exact .tup _ vs (by simpa using this.1) fun i c y h1 h2=>this.2 i c y h1 (by simpa using h2)
 exact h.atom ha
theorem fU.append{Pq bs:LA}{xs ys:List BE}(h1:fU g Pq xs)(h2:fU g bs ys):fU g (Pq++bs) (xs++ys):=by
 refine⟨by simp[h1.1,h2.1],fun i c y hc hy=>?_⟩;rw[List.getElem?_append]at hc hy;have:=h1.1;split at hc
 ·rename_i hi;rw[Zy omT]at hy;exact h1.2 i c y hc hy
 rename_i hi;rw[Zx omT]at hy;exact h2.2 _ c y hc (by grind)
theorem fU.strip{Pq:LA}{xs:List BE}(h:fU g Pq xs):fU g (Pq.map AV.strip) xs:=by
 refine⟨by simpa using h.1,fun i a x ha hx=>?_⟩;rw[BN]at ha;cases hq:Pq[i]? with
 |none=>grind
 |some b=>simp[hq]at ha;subst ha;exact (h.2 i b x hq hx).strip
theorem qE{c:Bool}{o id:Nat}{wr:LN}(h:o∈wr):o∈(if c=QS then wr else id::wr):=by grind
theorem aJZ(hw:WF g H w){g1 g2:G}{H1 H2:LO}(h1:g1.io=(w.os,w.output))(h2:Step g1 H1 w g2 H2 w' []):Step g H w g H w' []:=by
 have da:∀b,b<w.heap.size->w'.heap[b]? = w.heap[b]? := fun b hb=>h2.frame.2 b hb fun o ho=>by simp at ho
 have kh:w'.os=w.os/\w'.output=w.output:=by have:=h2.wf.whole.io;rw[h2.le.io,h1]at this;grind
 refine⟨G.le.refl g,⟨fun b i x hx=>?_,hw.lt,fun o l hl=>FU (hw.blk o l hl) h2.frame.1,hw.st,fun o l x hb=>?_,hw.jh,hw.inj,hw.whole.aq rfl rfl kh (fun b hb _=>da b hb) fun o l y hl=>.inr ⟨o,l,y,hl,rfl⟩⟩,⟨h2.frame.1,fun b hb _=>da b hb⟩,fun _ _ _=>rfl,AQ _,fun _ l' hl=>.inr ⟨l',hl,rfl⟩,fun _ _ _=>rfl⟩
 ·rw[cell_of_heap (da b (hw.ko hx))];exact hw.perm b i x hx
 exact (hw.obj o l x hb).aq (G.le.refl g) (da l.b (hw.blk o l hb.loc))
theorem aDV{o:HP}{fid:Nat}{first ay args:LA}{vf vx vc:List BE}(yo:fU g first vf)(hrx:fU g args vx)(hlc:fU g ay vc){call:Nat->LA->LO->Out}(az:oT P ab call){site:Option Nat} {av:AV} {H':LO} {wr:LN} (h:cX call H site (.fn fid first ay) args=QQ (av,H',wr)) (hw:WF g H w) (hg:bM P ab g) (u9:∀Fn,P.funcs[fid]? = QQ Fn->(Fn.name == "runtime.NumGoroutine")=QT->Fn.body.isNone=QT->(execOp a.eval o).run P w=.ok (.enter fid (vf++vx++vc).toArray) w):aA8 P o a w fun v w'=>∃g',Step g H w g' H' w' wr/\ai g' av v:=by
 simp only[cX]at h;split at h
 ·cases h
 rename_i args' lent vn;split at h
 ·cases h
 rename_i v H2 en hc;have hargs:fU g (first++args++ay) (vf++vx++vc):=(yo.append hrx).append hlc;obtain⟨l1,l2⟩:=pU hw vn hargs;obtain⟨g1,jj,l6⟩:=iR lent g H hw fun o ho=>.inl (l1 o ho);have xk:=(l2 g1 l6).strip;obtain⟨⟨Fn,Qd,jq,gh⟩,kr⟩:=az.1 fid _ _ v H2 en hc g1 w _ jj.wf (hg.mono jj.le) xk;have cl:=u9 Fn Qd jq gh;refine .inr (.inr (.inl ⟨fid,_,w,cl,kr.mono fun e w' he=>?_⟩));cases e with
 |panicked c=>exact he
 |outgrown=>exact he
 |returned rv=>
  obtain⟨g2,uk,Pz⟩:=he;split at h
  ·rename_i ja;have sz:lent=[]:=by grind
   subst sz;have bn:=jj.trans uk;simp only[List.nil_append]at bn;split at h
   ·rename_i k rows;obtain⟨b,cap,rfl,xl⟩:=Pz;split at h
    ·rename_i id;split at h
     ·rename_i hid;cases h;obtain⟨g3,hp,hle,U9,uj,gy,hv⟩:=aI2 bn.wf xl hid;refine⟨g3,⟨bn.le.trans hle,U9, ?_,fun o ho hn=>?_,by simpa [make]using bn.len,fun o l' kg=>?_,fun o ho hn=>?_⟩,hv⟩
      ·refine bn.frame.weaken fun o ho=>?_;grind
      ·have bl:o≠id:=fun e=>by
        grind
       have ze:o∉en:=fun hm=>hn (qE hm);rw[make,getElem?_set_ne' _ _ (Ne.symm bl)];exact bn.same o ho ze
      ·by_cases e:o=id
       ·subst e;rw[gy l' kg];exact .inl xl.ki
       rw[uj o e]at kg;exact bn.mc o l' kg
      have bl:o≠id:=fun e=>by
       grind
      have ze:o∉en:=fun hm=>hn (qE hm);rw[uj o bl];exact bn.aq o ho ze
     cases h
    cases h;obtain⟨g3,F1,hv⟩:=aJY bn.wf xl;exact⟨g3,(bn.trans F1).weaken fun o ho=>by simpa using ho,hv⟩
   cases h;rename_i tp;have:pN g2 H' w.heap.size w' av rv=ai g2 av rv:=by cases av<;>first | rfl | grind
   grind
  split at h
  ·rename_i fj;cases h;simp only[AI]at fj;obtain⟨⟨ma,_⟩,jk⟩:=fj;have Ea:en=[]:=by grind
   subst Ea;have:pN g2 H2 w.heap.size w' av rv=ai g2 av rv:=by cases av<;>first | rfl | (simp[AV.atomic,AV.atom]at jk)
   rw[this]at Pz;exact⟨g,aJZ hw (jj.le.io.trans hw.whole.io) uk,Pz.atomic jk⟩
  cases h
theorem aNG{o:HP}{fid:Nat}{first ay args:LA}{vf vx vc:List BE}(yo:fU g first vf)(hrx:fU g args vx)(hlc:fU g ay vc){call:Nat->LA->LO->Out}(az:oT P ab call){site:Option Nat} {av:AV} {H':LO} {wr:LN} (h:iN call H site (.fn fid first ay) args=QQ (av,H',wr)) (hw:WF g H w) (hg:bM P ab g) (u9:∀Fn,P.funcs[fid]? = QQ Fn->(Fn.name == "runtime.NumGoroutine")=QT->Fn.body.isNone=QT->(execOp a.eval o).run P w=.ok (.enter fid (vf++vx++vc).toArray) w):aA8 P o a w fun v w'=>∃g',Step g H w g' H' w' wr/\ai g' av v:=by
 simp only[iN]at h;split at h
 ·cases h
 rename_i v H2 en hc;have hargs:fU g (first++args++ay) (vf++vx++vc):=(yo.append hrx).append hlc;obtain⟨⟨Fn,Qd,jq,gh⟩,kr⟩:=az.1 fid _ _ v H2 en hc g w _ hw hg hargs;have cl:=u9 Fn Qd jq gh;refine .inr (.inr (.inl ⟨fid,_,w,cl,kr.mono fun e w' he=>?_⟩));cases e with
 |panicked c=>exact he
 |outgrown=>exact he
 |returned rv=>
  obtain⟨g2,bn,Pz⟩:=he;split at h
  ·rename_i k rows;obtain⟨b,cap,rfl,xl⟩:=Pz;split at h
   ·rename_i id;split at h
    ·rename_i hid;cases h;obtain⟨g3,hp,hle,U9,uj,gy,hv⟩:=aI2 bn.wf xl hid;refine⟨g3,⟨bn.le.trans hle,U9, ?_,fun o ho hn=>?_,by simpa [make]using bn.len,fun o l' kg=>?_,fun o ho hn=>?_⟩,hv⟩
     ·refine bn.frame.weaken fun o ho=>?_;grind
     ·have bl:o≠id:=fun e=>by
       grind
      have ze:o∉en:=fun hm=>hn (qE hm);rw[make,getElem?_set_ne' _ _ (Ne.symm bl)];exact bn.same o ho ze
     ·by_cases e:o=id
      ·subst e;rw[gy l' kg];exact .inl xl.ki
      rw[uj o e]at kg;exact bn.mc o l' kg
     have bl:o≠id:=fun e=>by
      grind
     have ze:o∉en:=fun hm=>hn (qE hm);rw[uj o bl];exact bn.aq o ho ze
    cases h
   cases h;obtain⟨g3,F1,hv⟩:=aJY bn.wf xl;exact⟨g3,(bn.trans F1).weaken fun o ho=>by simpa using ho,hv⟩
  cases h;rename_i tp;have:pN g2 H' w.heap.size w' av rv=ai g2 av rv:=by cases av<;>first | rfl | grind
  grind
theorem aTx{ty:BP}{ts:Array BP}{F:CA}{X:Array CA}{f:aa}{xs:List aa}(hF:fA ab F=QQ f)(hX:sB ab X.toList=QQ xs){call:Nat->LA->LO->Out}(az:oT P ab call){site:Option Nat} {av:AV} {H':LO} {wr:LN} (h:evW call H ρ site (.ee f xs)=QQ (av,H',wr)) (hw:WF g H w) (hg:bM P ab g) (hs:aX g ρ a.tmps):aA8 P ⟨dst,.call { callee:=.value F,args:=X,argTypes:=ts },ty,pos,after,guard⟩ a w fun v w'=>∃g',Step g H w g' H' w' wr/\ai g' av v:=by
 have Rm:=aQ hF hg hs;have hrx:=mJ hX hg hs;simp only[evW]at h;generalize yp:f.ev ρ=fv at h Rm;cases fv with
 |fn fid first ay=>
  obtain⟨vf,vc,ef,yo,hlc⟩:=Rm.rm;refine aNG yo hrx hlc az h hw hg fun Fn Qd jq gh=>?_;have rq:(vf++X.map a.eval++vc)=(vf.toList++X.toList.map a.eval++vc.toList).toArray:=by grind
  have hn:¬(Fn.name = "runtime.NumGoroutine"):=by grind
  have hb:¬(Fn.body=N2):=fun e=>by grind
  simp_all [execOp,resolve,JF,invoke,callFunc]
 |_=>simp[iN]at h
theorem aTy{ty:BP}{ts:Array BP}{F:CA}{X:Array CA}{f:aa}{xs:List aa}(hF:fA ab F=QQ f)(hX:sB ab X.toList=QQ xs){call:Nat->LA->LO->Out}(az:oT P ab call){site:Option Nat} {av:AV} {H':LO} {wr:LN} (h:evW call H ρ site (.dm f xs)=QQ (av,H',wr)) (hw:WF g H w) (hg:bM P ab g) (hs:aX g ρ a.tmps):aA8 P ⟨dst,.call { callee:=.value F,args:=X,argTypes:=ts },ty,pos,after,guard⟩ a w fun v w'=>∃g',Step g H w g' H' w' wr/\ai g' av v:=by
 have Rm:=aQ hF hg hs;have hrx:=mJ hX hg hs;simp only[evW]at h;generalize yp:f.ev ρ=fv at h Rm;cases fv with
 |fn fid first ay=>
  obtain⟨vf,vc,ef,yo,hlc⟩:=Rm.rm;refine aDV yo hrx hlc az h hw hg fun Fn Qd jq gh=>?_;have rq:(vf++X.map a.eval++vc)=(vf.toList++X.toList.map a.eval++vc.toList).toArray:=by grind
  have hn:¬(Fn.name = "runtime.NumGoroutine"):=by grind
  have hb:¬(Fn.body=N2):=fun e=>by grind
  simp_all [execOp,resolve,JF,invoke,callFunc]
 |yld oy vy=>
  simp only[cX]at h;split at h
  ·cases h
  rename_i args' lent vn;split at h
  ·cases h
  rename_i b H2 en hc;split at h;rotate_left
  ·cases h
  rename_i fj;simp only[AI,NU]at fj;obtain⟨sz,jk⟩:=fj;subst sz;cases h;obtain⟨l1,l2⟩:=pU hw vn hrx;obtain⟨g1,jj,l6⟩:=iR [] g H hw fun o ho=>.inl (l1 o ho);have xk:=(l2 g1 l6).strip;generalize je:a.eval F=fx at Rm;cases Rm with
  |yld _ _ ly r hl hv hh=>
   obtain⟨rec,bb,gd,xm⟩:=az.2 oy vy _ _ _ _ _ hc g1 w r _ jj.wf (hg.mono jj.le) ((ai.yld oy vy ly r hl hv hh).mono jj.le) xk;have cl:=run_yield (P:=P) (args:=X.map a.eval) bb (by grind);have rq:(X.toList.map a.eval).toArray=X.map a.eval:=by grind
   refine .inr (.inr (.inr ⟨r,_,_,_,_,w, ?_,xm.mono fun e w' he=>?_⟩))
   ·grind [execOp,resolve,JF,invoke]
   cases e with
   |panicked c=>exact he
   |outgrown=>exact he
   |returned rv=>obtain⟨g2,uk,Pz⟩:=he;have bn:=jj.trans uk;grind
 |_=>simp[cX]at h
theorem aNH{m:String}{t:BP}{f:FuncId}(hm:aJL P m t=QQ f)(n:Nat)(v:BE):(method (n+1) t v m).run P w=.ok (f,v) w:=by
 unfold aJL at hm;split at hm
 ·rename_i i e hi hu;split at hm
  ·rename_i r hr;split at hm
   ·rename_i hp;split at hm
    all_goals simp_all [method,typeInfo,follow,receiverAt,BH,Place.get]
   cases hm
  cases hm
 cases hm
theorem aWD{ty:BP}{ts:Array BP}{F:CA}{m:String}{X:Array CA}{f:aa}{xs:List aa}(hF:fA ab F=QQ f)(hX:sB ab X.toList=QQ xs){call:Nat->LA->LO->Out}(az:oT P ab call){site:Option Nat} {av:AV} {H':LO} {wr:LN} (h:evW call H ρ site (.nb (aIU P m) f xs)=QQ (av,H',wr)) (hw:WF g H w) (hg:bM P ab g) (hs:aX g ρ a.tmps):aA8 P ⟨dst,.call { callee:=.invoke F m,args:=X,argTypes:=ts },ty,pos,after,guard⟩ a w fun v w'=>∃g',Step g H w g' H' w' wr/\ai g' av v:=by
 have Rm:=aQ hF hg hs;have hrx:=mJ hX hg hs;simp only[evW]at h;generalize yp:f.ev ρ=fv at h Rm;cases fv with
 |ifc t v=>
  dsimp only at h;split at h
  ·rename_i fid hl;generalize mn:a.eval F=ex at Rm;cases Rm with
   |ifc t v x hv hx=>
    refine aDV (vf:=[x]) (vc:=[]) ⟨rfl,fun i c y h1 h2=>?_⟩ hrx ⟨rfl,fun i c y h1 h2=>by simp at h1⟩ az h hw hg fun Fn Qd jq gh=>?_
    ·grind
    have hn:¬(Fn.name = "runtime.NumGoroutine"):=by grind
    have hb:¬(Fn.body=N2):=fun e=>by grind
    have h0:(#[Value.iface t x]++JO a.eval X)[0]? = QQ (.iface t x):=by grind
    have rq:(#[x]++(JO a.eval X).extract 0 X.size)=([x]++X.toList.map a.eval++[]).toArray:=by grind
    rw[<- rq];simp[execOp,resolve,invoke,callMethod,mn,h0,callFunc,Qd,hn,hb,Made.depth,aNH (aNy P hl) (P.types.size+99)]
  cases h
 |_=>simp at h
theorem aIZ{d:TypeDesc}{α:Type}{x:Option α}{y:α}(h:(if (d matches .int _)then N2 else x)=QQ y):(∀k,d≠.int k)/\x=QQ y:=by cases d<;>first | (simp at h;done) | exact⟨fun k e=>(by cases e),by simpa using h⟩
theorem aK0{o:HP}{op:df}(hc:cOp P ab o=QQ op){call:Nat->LA->LO->Out}(az:oT P ab call){site:Option Nat}{av:AV}{H':LO}{wr:LN}(h:evW call H ρ site op=QQ (av,H',wr))(hw:WF g H w)(hg:bM P ab g)(hs:aX g ρ a.tmps):aA8 P o a w fun v w'=>∃g',Step g H w g' H' w' wr/\ai g' av v:=by
 obtain⟨dst,o,type,pos,after,guard⟩:=o;unfold cOp at hc;dsimp only at hc;split at hc
 ·obtain⟨x,hx,rfl⟩:=map_some hc;simp[evW]at h
 ·obtain⟨x,hx,rfl⟩:=map_some hc;simp[evW]at h
 ·split at hc
  ·cases hc;simp[evW]at h
  cases hc
 ·split at hc
  ·obtain⟨zs,hz,rfl⟩:=map_some hc;exact aR3 hz h hw
  obtain⟨zs,hz,rfl⟩:=map_some hc;exact aTu hz h hw
 ·grind [aZY,aZX]
 ·repeat' split at hc
  all_goals first | (cases hc;done)|(obtain⟨x,hx,rfl⟩:=map_some hc;simp[evW]at h)
 ·grind [bA1]
 ·split at hc
  ·cases hc;simp[evW]at h
  cases hc
 ·grind [aTt]
 ·obtain⟨x,hx,rfl⟩:=map_some hc;simp[evW]at h
 ·split at hc
  ·split at hc
   ·obtain⟨x,hx,rfl⟩:=map_some hc;simp[evW]at h
   ·obtain⟨x,hx,rfl⟩:=map_some hc;simp[evW]at h
   cases hc
  split at hc
  ·cases hc;simp[evW]at h
  cases hc
 ·obtain⟨x,hx,rfl⟩:=map_some hc;simp[evW]at h
 ·split at hc
  ·cases hc;simp[evW]at h
  cases hc
 ·split at hc
  ·cases hc;simp[evW]at h
  cases hc
 ·grind [aZZ]
 ·grind [evW]
 ·grind [evW]
 ·grind [evW]
 ·grind [evW]
 ·grind [evW]
 ·obtain⟨x,hx,rfl⟩:=map_some hc;simp[evW]at h
 ·split at hc
  ·cases hc
  ·obtain⟨x,hx,rfl⟩:=map_some hc;simp[evW]at h
  cases hc
 ·cases hc;exact aTw h hw
 ·grind [bA2]
 ·grind [evW]
 ·split at hc
  ·grind [evW]
  ·rename_i s x t u h1 h2;obtain⟨S,X,rfl,hS,hX⟩:=aJW h1;cases mX h2;split at hc
   ·rename_i e d ht hu;obtain⟨hd,hc⟩:=aIZ hc;grind [aWC,aWB]
   cases hc
  ·rename_i x y t u h1 h2;obtain⟨X,Y,rfl,hX,hY⟩:=aJW h1;grind [mX,bA0]
  all_goals grind [evW]
 all_goals grind [aWD,aTx,aTy]
end
section
variable {P:CU}{ab:cu}{g:G}{H:LO}{w w':BL}{ρ:LA}{a:Act}
theorem aX.put{tmps:Array BE}(h:aX g ρ tmps){v:AV}{x:BE}(hv:ai g v x)(d:Nat):aX g (ρ.set d v) (tmps.setIfInBounds d x):=by
 refine⟨by simpa using h.1,fun t=>?_⟩;by_cases e:t=d
 ·subst e;by_cases hlt:t<ρ.length
  ·have:t<tmps.size:=by have:=h.1;omega
   simp_all
  have h1:¬(t<tmps.size):=by have:=h.1;omega
  simp only[FB,hlt,Zu];simp;exact .undef _
 have h1:=h.2 t;simp_all [getElem?_set_ne',Ne.symm,CR,Array.getElem?_setIfInBounds_ne]
theorem aX.bg(h:aX g ρ a.tmps){v:AV}{x:BE}(hv:ai g v x)(d:Option Tmp):aX g (bg ρ d v) (a.put d x).tmps:=by
 cases d with
 |none=>exact h
 |some d=>exact h.put hv d
theorem aDW(a:Act)(d:Option Tmp)(v:BE):(a.put d v).defers=a.defers:=by cases d<;>rfl
theorem aX.bool(h:aX g ρ a.tmps){t:Nat}{b:Bool}(hb:ρ[t]? = QQ (.bool b)):a.tmps[t]? = QQ (.bool b):=by
 have hlt:t<ρ.length:=(AH.1 hb).1;have rn:t<a.tmps.size:=by have:=h.1;omega
 have:=h.2 t;rw[hb]at this;simp only[Option.getD_some]at this;have:=this.jx;simp_all
theorem aK1{all:Array HP}{o:HP}{ao:ae}(xg:ao.guard=aFL all.toList o.guard)(h:aX g ρ a.tmps)(hok:pF ρ ao=QS):OJ o (yielded all a.tmps)=wanted ρ ao:=by
 unfold pF at hok;unfold Go.AM.wanted OJ;rw[xg]at hok ⊢;cases hq:o.guard with
 |none=>simp[aFL]
 |some jw=>
  obtain⟨j,want⟩:=jw;rw[hq]at hok;simp only[aFL]at hok ⊢;cases hd:(all.toList[j]?).bind (·.dst)with
  |none=>grind
  |some t=>
   rw[hd]at hok;simp only at hok ⊢;have V0:(all[j]?).bind (·.dst)=QQ t:=by grind
   cases hb:ρ[t]? with
   |none=>grind
   |some v=>
    rw[hb]at hok;cases v<;>try (simp at hok;done)
    ·rename_i b;have:=h.bool hb;grind [yielded]
    rename_i vs;cases vs with
    |cons _ _=>simp at hok
    |nil=>
     have hr:=h.2 t;have he:(ρ[t]?).getD .undef=.tup []:=by rw[hb];rfl
     rw[he]at hr;obtain⟨xs,hx,hl⟩:=ai.np hr;have gd:xs = #[]:=by have:=hl.1;grind
     subst gd;simp only[yielded,V0,Option.bind_some];rw[CR]at hx;grind
structure vr(P:CU)(ab:cu)(all:Array HP)(o:HP)(ao:ae):Prop where
 dst:ao.dst=o.dst
 op:ao.op=(cOp P ab o).getD .bad
 guard:ao.guard=aFL all.toList o.guard
theorem cE(base:Nat):∀(l wr:LN),(∀o∈wr,o∈bE base wr l)/\∀o∈l,o<base->o∈bE base wr l
 | [],wr=>⟨fun o h=>h,fun o h=>by simp at h⟩
 |x::l,wr=>by
  unfold bE;split
  ·obtain⟨h1,h2⟩:=cE base l (x::wr);grind
  rename_i hc;obtain⟨h1,h2⟩:=cE base l wr;grind
theorem aNI{all:Array HP}{o:HP}{ao:ae}(hc:vr P ab all o ao){call:Nat->LA->LO->Out}(az:oT P ab call){c:Ctx}{av:AV}{H':LO}{wr:LN} (h:aOI call c QT H ρ ao=QQ (av,H',wr)) (hw:WF g H w) (hg:bM P ab g) (hs:aX g ρ a.tmps):aA8 P o a w fun v w'=>∃g',Step g H w g' H' w' wr/\ai g' av v:=by
 unfold aOI at h;have Qx:∀op,ao.op=op->op≠.bad->cOp P ab o=QQ op:=fun op e hb=>by
  rw[hc.op]at e;cases hq:cOp P ab o with
  |none=>grind
  |some op'=>grind
 by_cases F2:ao.op=.bad
 ·rw[F2]at h;simp[isW,evR]at h
 have Ht:=Qx _ rfl F2;split at h
 ·exact aK0 Ht az h hw hg hs
 split at h
 ·rename_i v hv;cases h;exact (aJX Ht hv hw hg hs).Te
 cases h
def aA9(P:CU)(ab:cu)(base:Nat)(g:G)(H:LO)(w:BL)(d:List HU)(s':gp)(a':Act)(w':BL):Prop:=
 ∃g' W,Step g H w g' s'.H w' W/\(∀o∈W,o<base->o∈s'.wr)/\aX g' s'.ρ a'.tmps/\a'.defers=d/\bM P ab g'
theorem aA9.refl{base:Nat}{s:gp}(hw:WF g s.H w)(hs:aX g s.ρ a.tmps)(hg:bM P ab g):aA9 P ab base g s.H w a.defers s a w:=⟨g,[],.refl hw,fun o h=>by simp at h,hs,rfl,hg⟩
theorem aJ0{call:Nat->LA->LO->Out}{c:Ctx}:∀(l:List ae) (s s':gp),jL call c l s=QQ s'->∀o∈s.wr,o∈s'.wr
 | [],s,s',h=>by grind [jL,AG]
 |o::l,s,s',h=>by
  unfold jL at h;split at h
  ·split at h
   ·split at h
    ·exact fun x hx=>aJ0 l _ s' h x ((cE _ _ _).1 x hx)
    cases h
   exact fun x hx=>aJ0 l _ s' h x hx
  cases h
theorem aCa{all:Array HP}{call:Nat->LA->LO->Out}(az:oT P ab call){c:Ctx}{Q:QX->Act->BL->Prop}{r:Option Nat}:∀(l:List HP) (al:List ae),l.length=al.length->(∀(i:Nat) o ao,l[i]? = QQ o->al[i]? = QQ ao->vr P ab all o ao)->∀(s s':gp),jL call c al s=QQ s' ->∀(g:G) (a:Act) (w:BL),WF g s.H w->bM P ab g->aX g s.ρ a.tmps->(∀a' w',aA9 P ab c.base g s.H w a.defers s' a' w'->Q .normal a' w')->wpListIn (fr r) 0 P all Q l a w
 | [],al,hl,_,s,s',h,g,a,w,hw,hg,hs,hQ=>by
  cases al with
  |nil=>simp only[jL,AG]at h;subst h;exact hQ a w (.refl hw hs hg)
  |cons _ _=>simp at hl
 |o::l,al,hl,hc,s,s',h,g,a,w,hw,hg,hs,hQ=>by
  cases al with
  |nil=>simp at hl
  |cons ao al=>
   have jg:=hc 0 o ao rfl rfl;have mz:∀(i:Nat) o ao,l[i]? = QQ o->al[i]? = QQ ao->vr P ab all o ao:=fun i o ao h1 h2=>hc (i+1) o ao (by simpa using h1) (by simpa using h2);unfold jL at h;split at h
   ·rename_i hok;have F3:=aK1 jg.guard hs hok;unfold wpListIn;split at h
    ·rename_i Eb;rw[F3,Zy Eb];split at h
     ·rename_i v H' wr je;refine (aNI jg az je hw hg hs).wp fun x w1 ⟨g1,bn,hv⟩=>?_;have lq:aX g1 (bg s.ρ ao.dst v) (a.put o.dst x).tmps:=by rw[jg.dst];exact (hs.mono bn.le).bg hv o.dst
      refine aCa az l al (by simpa using hl) mz _ s' h g1 _ w1 bn.wf (hg.mono bn.le) lq fun a' w' hr=>hQ a' w' ?_;obtain⟨g2,W,h1,h2,h3,h4,h5⟩:=hr;refine⟨g2,wr++W,bn.trans h1,fun o' ho hb=>?_,h3,by rw[h4,aDW],h5⟩;rcases AY.1 ho with ho | ho
      ·exact aJ0 al _ s' h o' ((cE _ _ _).2 o' ho hb)
      grind
     cases h
    rename_i Eb;rw[F3,Zx Eb];refine⟨fun _ _=>trivial, ?_⟩;have lq:aX g (bg s.ρ ao.dst (.tup [])) (a.put o.dst EE).tmps:=by rw[jg.dst];exact hs.bg (.skip g) o.dst
    refine aCa az l al (by simpa using hl) mz _ s' h g _ w hw hg lq fun a' w' hr=>hQ a' w' ?_;grind [aDW]
   cases h
theorem aCU(all:Array HP):∀(l:List HP) (pres:List LN),(aDQ P ab all.toList l pres).length=l.length /\ ∀(i:Nat) o ao,l[i]? = QQ o->(aDQ P ab all.toList l pres)[i]? = QQ ao->vr P ab all o ao
 | [],pres=>⟨rfl,fun i o ao h=>by simp at h⟩
 |o::l,pres=>by
  obtain⟨h1,h2⟩:=aCU all l (pres++[aJM pres o]);refine⟨by simp[aDQ,h1],fun i o' ao e1 e2=>?_⟩;cases i with
  |zero=>simp[aDQ]at e1 e2;subst e1;subst e2;exact⟨rfl,rfl,rfl⟩
  |succ i=>exact h2 i o' ao (by simpa using e1) (by simpa [aDQ]using e2)
theorem aFW{call:Nat->LA->LO->Out}{c:Ctx}:∀{l:List ae} {s:gp},jL call c (aTn QT l) s=jL call c l s
 | [],s=>rfl
 |o::r,s=>by
  have ih:∀s,jL call c (r.map fun o=>⟨o.dst,o.op,o.guard,[]⟩) s=jL call c r s:=fun s=>aFW (l:=r);show jL call c (⟨o.dst,o.op,o.guard,[]⟩::r.map fun o=>⟨o.dst,o.op,o.guard,[]⟩) s=_;unfold jL;simp only[ih];rfl
theorem aK2{id:Nat}{ops:Array HP}{call:Nat->LA->LO->Out}(az:oT P ab call){c:Ctx}{s s':gp} (h:jL call c (aDQ P ab ops.toList ops.toList []) s=QQ s') {Q:QX->Act->BL->Prop} (hw:WF g s.H w) (hg:bM P ab g) (hs:aX g s.ρ a.tmps) (hQ:∀a' w',aA9 P ab c.base g s.H w a.defers s' a' w'->Q .normal a' w') {r:Option Nat}:(PJ id ops QT).wpIn (fr r) 0 P Q a w:=by grind [aCU,wpIn_region_list,aCa]
end
theorem aa.fy{ρ ρ':LA}{x:aa}(h:∀t∈x.slot,ρ[t]? = ρ'[t]?):x.ev ρ=x.ev ρ':=by
 cases x with
 |tmp t=>simp only[aa.ev,h t (by simp[aa.slot])]
 |const v=>rfl
theorem aCV{ρ ρ':LA}{xs:List aa}(h:∀t∈xs.flatMap aa.slot,ρ[t]? = ρ'[t]?):xs.map (aa.ev ρ)=xs.map (aa.ev ρ'):=
 List.map_congr_left fun x hx=>aa.fy fun t ht=>h t (IM.2 ⟨x,hx,ht⟩)
theorem aEJ{ρ ρ':LA}{x:Option aa}(h:∀t∈aFI x,ρ[t]? = ρ'[t]?):x.map (aa.ev ρ)=x.map (aa.ev ρ'):=by
 cases x with
 |none=>rfl
 |some x=>simp only[DE];rw[aa.fy h]
theorem zB{ρ ρ':LA}:∀(ps:List (Nat×Nat×aa)) (cs:LA),(∀t∈ps.flatMap (fun p=>p.2.2.slot),ρ[t]? = ρ'[t]?)->iA ρ cs ps=iA ρ' cs ps
 | [],cs,_=>rfl
 | (o,s,x)::ps,cs,h=>by
  have hx:x.ev ρ=x.ev ρ':=aa.fy fun t ht=>h t (by simp[ht]);simp only[iA,hx];split
  ·exact zB ps _ fun t ht=>h t (by grind)
  rfl
theorem aAa{ρ ρ':LA}{k:Nat}:∀(ps:List (Nat×aa)) (rows:List LA),(∀t∈ps.flatMap (fun p=>p.2.slot),ρ[t]? = ρ'[t]?)->lW ρ k rows ps=lW ρ' k rows ps
 | [],rows,_=>rfl
 | (i,x)::ps,rows,h=>by
  have hx:x.ev ρ=x.ev ρ':=aa.fy fun t ht=>h t (by simp[ht]);simp only[lW,hx];split
  ·exact aAa ps _ fun t ht=>h t (by grind)
  rfl
theorem zC{ρ ρ':LA}{k:Nat}:∀(ps:List (Nat×aa)) (rows:List LA),(∀t∈ps.flatMap (fun p=>p.2.slot),ρ[t]? = ρ'[t]?)->jW ρ k rows ps=jW ρ' k rows ps
 | [],rows,_=>rfl
 | (i,x)::ps,rows,h=>by
  have hx:x.ev ρ=x.ev ρ':=aa.fy fun t ht=>h t (by simp[ht]);simp only[jW,hx];split
  ·exact zC ps _ fun t ht=>h t (by grind)
  rfl
theorem aCW{ρ ρ':LA}{k:Nat}:∀(ps:List (Nat×aa)) (H:LO) (rows:List LA),(∀t∈ps.flatMap (fun p=>p.2.slot),ρ[t]? = ρ'[t]?)->nW ρ k H rows ps=nW ρ' k H rows ps
 | [],H,rows,_=>rfl
 | (i,x)::ps,H,rows,h=>by
  have hx:x.ev ρ=x.ev ρ':=aa.fy fun t ht=>h t (by simp[ht]);simp only[nW,hx];split
  ·split
   ·rw[aCW ps _ _ fun t ht=>h t (by grind)]
   rfl
  rfl
theorem aOT{ρ ρ':LA}{H:LO}{op:df}(h:∀t∈op.bm,ρ[t]? = ρ'[t]?):evR H ρ op=evR H ρ' op:=by
 have e1:∀{x:aa},(∀t∈x.slot,t∈op.bm)->x.ev ρ=x.ev ρ':=fun hx=>aa.fy fun t ht=>h t (hx t ht);have e2:∀{x:Option aa},(∀t∈aFI x,t∈op.bm)->x.map (aa.ev ρ)=x.map (aa.ev ρ'):=fun hx=>aEJ fun t ht=>h t (hx t ht);have e3:∀{xs:List aa},(∀t∈xs.flatMap aa.slot,t∈op.bm)->xs.map (aa.ev ρ)=xs.map (aa.ev ρ'):=fun hx=>aCV fun t ht=>h t (hx t ht);cases op with
 |bad=>rfl
 |mov x=>simp only[evR];rw[e1 fun t ht=>ht]
 |pick c a b=>grind [evR,df.bm]
 |alloc zs=>rfl
 |gv t zs=>rfl
 |box k x=>simp only[evR];rw[e1 fun t ht=>ht]
 |build zs ps=>simp only[evR];rw[zB ps zs h]
 |bsl k zs n ps=>simp only[evR];rw[aAa ps _ h]
 |load k agg x=>simp only[evR];rw[e1 fun t ht=>ht]
 |store k x v=>rfl
 |cz x=>simp only[evR];rw[e1 fun t ht=>ht]
 |ky neg x=>simp only[evR];rw[e1 fun t ht=>ht]
 |bin o ek x y=>grind [evR,df.bm]
 |un o x=>simp only[evR];rw[e1 fun t ht=>ht]
 |conv c x=>simp only[evR];rw[e1 fun t ht=>ht]
 |mkf f a b=>
  have ha:=e3 (xs:=a) fun t ht=>by simp only[df.bm,AY];exact .inl ht
  have hb:=e3 (xs:=b) fun t ht=>by simp only[df.bm,AY];exact .inr ht
  have Y3:a.map (fun x=>(x.ev ρ).aj)=a.map (fun x=>(x.ev ρ').aj):=by simp_all
  have du:b.map (fun x=>(x.ev ρ).aj)=b.map (fun x=>(x.ev ρ').aj):=by simp_all
  simp only[evR];grind
 |mks k b zs l c=>grind [evR,df.bm]
 |fm x lo hi=>grind [evR,df.bm]
 |gw k x lo hi mx=>simp_all [evR,df.bm]
 |view k x lo=>simp_all [evR,df.bm,aEJ]
 |na n k x lo hi mx=>grind [evR,df.bm]
 |fa o x=>simp only[evR];rw[e1 fun t ht=>ht]
 |fld o k agg x=>simp only[evR];rw[e1 fun t ht=>ht]
 |iaV x i k=>grind [evR,df.bm]
 |iaA n k x i=>grind [evR,df.bm]
 |ixS x i=>grind [evR,df.bm]
 |ixA n k agg x i=>grind [evR,df.bm]
 |fg x=>simp only[evR];rw[e1 fun t ht=>ht]
 |qk x=>simp only[evR];rw[e1 fun t ht=>ht]
 |zb n=>rfl
 |mm mx xs=>simp only[evR];rw[e3 fun t ht=>ht]
 |app k b s x=>rfl
 |ext i x=>simp only[evR];rw[e1 fun t ht=>ht]
 |km i x=>simp only[evR];rw[e1 fun t ht=>ht]
 |dm f xs=>rfl
 |ee f xs=>rfl
 |ni t k b s x=>rfl
 |tbx t k x=>rfl
 |cpy k x y=>rfl
 |nb t f xs=>rfl
 |jn=>rfl
 |ins m k v=>rfl
 |look z m k ok=>grind [evR,df.bm]
theorem aOU{call:Nat->LA->LO->Out}{ρ ρ':LA}{H:LO}{site:Option Nat}{op:df}(h:∀t∈op.bm,ρ[t]? = ρ'[t]?):evW call H ρ site op=evW call H ρ' site op:=by
 have e1:∀{x:aa},(∀t∈x.slot,t∈op.bm)->x.ev ρ=x.ev ρ':=fun hx=>aa.fy fun t ht=>h t (hx t ht);have e3:∀{xs:List aa},(∀t∈xs.flatMap aa.slot,t∈op.bm)->xs.map (aa.ev ρ)=xs.map (aa.ev ρ'):=fun hx=>aCV fun t ht=>h t (hx t ht);cases op with
 |box k x=>simp only[evW];rw[e1 fun t ht=>ht]
 |tbx t k x=>simp only[evW];rw[e1 fun t ht=>ht]
 |bsl k zs n ps=>simp only[evW];rw[aCW ps _ _ h,zC ps _ h]
 |store k x v=>grind [evW,df.bm]
 |mks k b zs l c=>grind [evW,df.bm]
 |cpy k x y=>grind [evW,df.bm]
 |ni t k b s x=>grind [evW,df.bm]
 |app k b s x=>grind [evW,df.bm]
 |dm f xs=>grind [evW,df.bm]
 |ee f xs=>grind [evW,df.bm]
 |nb tb f xs=>grind [evW,df.bm]
 |ins m k v=>simp_all [evW,df.bm]
 |_=>rfl
theorem aNJ{ρ ρ':LA}{op:df}(h:∀t∈op.bm,ρ[t]? = ρ'[t]?):aIR ρ op=aIR ρ' op:=by
 cases op with
 |load k agg x=>simp only[aIR];rw[aa.fy h]
 |conv c x=>cases c<;>simp only[aIR];rw[aa.fy h]
 |look z m k ok=>grind [aIR,aa.fy,df.bm]
 |view k x lo=>grind [aIR,aa.fy,df.bm]
 |_=>rfl
theorem aK3{ρ ρ':LA}{o:ae}(h:∀t∈o.names,ρ[t]? = ρ'[t]?):wanted ρ o=wanted ρ' o/\pF ρ o=pF ρ' o:=by
 unfold wanted pF;cases hg:o.guard with
 |none=>grind
 |some tw=>
  obtain⟨t,want⟩:=tw;cases t with
  |none=>grind
  |some t=>simp_all [ae.names,and_self]
def AV.F4:AV->LN
 |.ptr o _ _=>[o]
 |.vp o _ _ _ _ _=>[o]
 |_=>[]
theorem aOV(ρ:LA)(k:Nat)(agg:Bool)(x:aa):aIR ρ (.load k agg x)=(x.ev ρ).F4:=by simp only[aIR];cases x.ev ρ<;>rfl
theorem aHu{H H':LO}{k:Nat}{v:AV}(h:∀o∈v.F4,H[o]? = H'[o]?):bC H k v=bC H' k v:=by
 cases v<;>simp only[bC]
 ·rw[h _ (by simp[AV.F4])]
 rw[h _ (by simp[AV.F4])]
theorem aR4{ρ:LA}{H H':LO}{op:df}(h:∀o∈aIR ρ op,H[o]? = H'[o]?):evR H ρ op=evR H' ρ op:=by
 cases op with
 |load k agg x=>grind [evR,aHu,aOV]
 |conv c x=>
  simp only[evR];cases c with
  |b2s=>
   have:dO H (x.ev ρ)=dO H' (x.ev ρ):=by
    have h':∀o v n,x.ev ρ=.sr o v n->H[o]? = H'[o]? := fun o v n e=>h o (by simp[aIR,e]);have zc:∀o v n k lo,x.ev ρ=.srv o v n k lo->H[o]? = H'[o]? := fun o v n k lo e=>h o (by simp[aIR,e]);have D9:∀o v n k,x.ev ρ=.srw o v n k->H[o]? = H'[o]? := fun o v n k e=>h o (by simp[aIR,e]);revert h' zc D9;cases x.ev ρ<;>intro h' zc D9<;>simp only[dO]
    all_goals grind
   cases hx:x.ev ρ<;>rw[hx]at this<;>simp only[pT,this]
  |_=>cases x.ev ρ<;>rfl
 |look z m k ok=>simp only[evR];have h':∀o v,m.ev ρ=.mp o v->H[o]? = H'[o]? := fun o v e=>h o (by simp[aIR,e]);grind
 |view k x lo=>simp only[evR];have h':∀o v n,x.ev ρ=.sr o v n->H[o]? = H'[o]? := fun o v n e=>h o (by simp[aIR,e]);grind
 |_=>rfl
def Fr(H H':LO)(wr:LN):Prop:=H.length<=H'.length/\∀o,o<H.length->o∉wr->H'[o]? = H[o]?
theorem Fr.refl(H:LO)(wr:LN):Fr H H wr:=⟨AQ _,fun _ _ _=>rfl⟩
theorem Fr.trans{H H1 H2:LO}{a b:LN}(h:Fr H H1 a)(h':Fr H1 H2 b):Fr H H2 (a++b):=⟨HX h.1 h'.1,fun o ho hn=>by
  simp only[AY,not_or]at hn;rw[h'.2 o (FU ho h.1) hn.2,h.2 o ho hn.1]⟩
theorem Fr.weaken{H H':LO}{a b:LN}(h:Fr H H' a)(hs:∀o∈a,o∈b):Fr H H' b:=⟨h.1,fun o ho hn=>h.2 o ho fun hm=>hn (hs o hm)⟩
theorem Fr.set(H:LO)(o:Nat)(x:ah):Fr H (H.set o x) [o]:=⟨siT,fun o' _ hn=>getElem?_set_ne' _ _ (fun e=>hn (by simp[e]))⟩
theorem aDX:∀(l:LN) (H:LO),Fr H (dL H l) l
 | [],H=>.refl H _
 |o::l,H=>by
  have:=(Fr.set H o (.gone ((H[o]?).elim 0 ah.ver))).trans (aDX l _);exact this
theorem aFX{H H':LO}{v v':AV}{l:LN}(h:fix H v=QQ (v',H',l)):Fr H H' l:=by grind [fix,aDX]
theorem aJ1:∀(rows:List LA) {H H':LO} {bt:List LA} {l:LN},aLw H rows=QQ (bt,H',l)->Fr H H' l
 | [],H,H',bt,l,h=>by cases h;exact .refl _ _
 |r::rs,H,H',bt,l,h=>by
  unfold aLw at h;split at h
  ·rename_i r' H1 l1 hf;split at h
   ·rename_i rs' H2 l2 hr;cases h;exact (aFX hf).trans (aJ1 rs hr)
   cases h
  cases h
theorem aI3{H H':LO}{v v':AV}{l:LN}(h:aA3 H v=QQ (v',H',l)):Fr H H' l:=by
 unfold aA3 at h;split at h
 ·split at h
  ·split at h
   ·split at h
    ·rename_i hi;split at h
     ·split at h
      ·rename_i hf;cases h;exact (aJ1 _ hi).trans ((Fr.set _ _ _).trans (aFX hf))
      cases h
     cases h
    cases h
   cases h
  cases h
 exact aFX h
theorem aNK{H H':LO}{v:AV}{l:LN}(h:pE H v=QQ (H',l)):Fr H H' l:=by
 unfold pE at h;split at h
 ·cases h;exact .refl _ _
 ·split at h
  ·split at h
   ·split at h
    ·rename_i hi;split at h
     ·cases h;exact (aJ1 _ hi).trans (Fr.set _ _ _)
     cases h
    cases h
   cases h
  cases h
 cases h
theorem aOW{H H':LO}{v v':AV}{l:LN}(h:aMD H v=QQ (v',H',l)):Fr H H' l:=by unfold aMD at h;grind [aFX,aI3]
theorem aI4{ρ:LA}{k:Nat}:∀(ps:List (Nat×aa)) (H:LO) (rows out:List LA) (H':LO) (l:LN),nW ρ k H rows ps=QQ (out,H',l)->Fr H H' l
 | [],H,rows,out,H',l,h=>by simp only[nW,AG,BK]at h;obtain⟨_,rfl,rfl⟩:=h;exact .refl _ _
 | (i,x)::ps,H,rows,out,H',l,h=>by
  simp only[nW]at h;split at h
  ·rename_i hf;split at h
   ·split at h
    ·rename_i hr;simp only[AG,BK]at h;obtain⟨_,rfl,rfl⟩:=h;exact (aFX hf).trans (aI4 ps _ _ _ _ _ hr)
    cases h
   cases h
  cases h
def sQ(call:Nat->LA->LO->Out):Prop:=∀f args H v H' wr,call f args H=QQ (v,H',wr)->Fr H H' wr
theorem aCX{H H':LO}{vs:LA}{p:AV}{wr:LN}(h:storeCells H vs p=QQ (H',wr)):Fr H H' wr:=by unfold storeCells at h;grind [Fr.set]
theorem aR5{H H':LO}{site:Option Nat}{k b:Nat}{s x v:AV}{wr:LN}(h:eX H site k b s x=QQ (v,H',wr)):Fr H H' wr:=by
 unfold eX at h;split at h
 ·cases h
 split at h
 ·cases h
 split at h
 ·split at h
  ·cases h;exact .refl _ _
  split at h
  ·split at h
   ·split at h
    ·cases h;exact Fr.set _ _ _
    cases h
   cases h
  cases h
 ·split at h
  ·cases h;exact .refl _ _
  split at h
  ·split at h
   ·split at h
    ·cases h;exact Fr.set _ _ _
    cases h
   cases h
  cases h
 ·split at h
  ·split at h
   ·split at h
    ·cases h;exact .refl _ _
    cases h;exact Fr.set _ _ _
   cases h
  cases h
 ·grind [Fr.set]
 cases h
theorem aOX{H H':LO}{site:Option Nat}{ty k b:Nat}{s x v:AV}{wr:LN}(h:vB H site ty k b s x=QQ (v,H',wr)):Fr H H' wr:=by
 unfold vB at h;split at h
 ·cases h
 split at h
 ·cases h
 split at h
 ·split at h
  ·cases h;exact .refl _ _
  split at h
  ·split at h
   ·split at h
    ·cases h;exact Fr.set _ _ _
    cases h
   cases h
  cases h
 ·split at h
  ·split at h
   ·split at h
    ·cases h;exact .refl _ _
    cases h;exact Fr.set _ _ _
   cases h
  cases h
 cases h
theorem aI5{call:Nat->LA->LO->Out}(hc:sQ call){H H':LO}{site:Option Nat}{f v:AV}{args:LA}{wr:LN}(h:cX call H site f args=QQ (v,H',wr)):Fr H H' wr:=by
 unfold cX at h;split at h
 ·split at h
  ·cases h
  rename_i args' lent hl;split at h
  ·cases h
  rename_i v1 H1 dc az;have h1:=hc _ _ _ _ _ _ az;split at h
  ·rename_i he;have:lent=[]:=by simpa using he
   subst this;have h2:Fr H H1 dc:=h1;split at h
   ·split at h
    ·split at h
     ·cases h;refine (h2.trans (Fr.set _ _ _)).weaken fun o ho=>?_;grind
     cases h
    grind
   grind
  split at h
  ·cases h;exact .refl _ _
  cases h
 ·split at h
  ·cases h
  rename_i args' lent hl;split at h
  ·cases h
  rename_i v1 H1 dc az;have h1:=hc _ _ _ _ _ _ az;split at h
  ·rename_i he;simp only[AI,NU]at he;have:lent=[]:=he.1;subst this;cases h;exact h1
  cases h
 cases h
theorem aNL{call:Nat->LA->LO->Out}(hc:sQ call){H H':LO}{site:Option Nat}{f v:AV}{args:LA}{wr:LN}(h:iN call H site f args=QQ (v,H',wr)):Fr H H' wr:=by
 unfold iN at h;split at h
 ·split at h
  ·cases h
  rename_i v1 H1 dc az;have h2:=hc _ _ _ _ _ _ az;split at h
  ·split at h
   ·split at h
    ·cases h;refine (h2.trans (Fr.set _ _ _)).weaken fun o ho=>?_;grind
    cases h
   grind
  grind
 cases h
theorem aSL{call:Nat->LA->LO->Out}(hc:sQ call){H H':LO}{ρ:LA}{site:Option Nat}{op:df}{v:AV}{wr:LN}(h:evW call H ρ site op=QQ (v,H',wr)):Fr H H' wr:=by
 unfold evW at h;split at h
 ·split at h
  ·split at h
   ·cases h;exact Fr.set _ _ _
   cases h
  cases h
 ·split at h
  ·split at h
   ·cases h;exact Fr.set _ _ _
   cases h
  cases h
 ·split at h
  ·split at h
   ·cases h;exact Fr.set _ _ _
   cases h
  cases h
 ·split at h
  ·split at h
   ·cases h;exact Fr.set _ _ _
   cases h
  cases h
 ·grind [aCX]
 ·split at h
  ·split at h
   ·split at h
    ·cases h;exact Fr.set _ _ _
    cases h
   cases h
  grind [aI4]
 ·split at h
  ·split at h
   ·split at h
    ·split at h
     ·cases h;exact Fr.set _ _ _
     cases h
    cases h;exact .refl _ _
   split at h
   ·split at h
    ·cases h;exact Fr.set _ _ _
    cases h
   cases h
  cases h
 ·exact aR5 h
 ·exact aOX h
 ·exact aI5 hc h
 ·exact aNL hc h
 ·grind [aI5]
 ·split at h
  ·split at h
   ·split at h
    ·split at h
     ·cases h;exact .refl _ _
     grind [Fr.set]
    cases h
   cases h
  cases h
 ·split at h
  ·split at h
   ·cases h;exact Fr.set _ _ _
   cases h
  cases h
 ·grind [Fr.set]
 cases h
theorem aTz{call:Nat->LA->LO->Out}(hc:sQ call){c:Ctx}{d:Bool}{H H':LO}{ρ:LA}{o:ae}{v:AV}{wr:LN}(h:aOI call c d H ρ o=QQ (v,H',wr)):Fr H H' wr:=by
 unfold aOI at h;split at h
 ·exact aSL hc h
 split at h
 ·cases h;exact .refl _ _
 cases h
theorem aJ2{call:Nat->LA->LO->Out}(hc:sQ call){c:Ctx}{H H':LO}{ρ:LA}{o:ae}{v:AV}{rd:LN}{wr:Option LN}(h:aFJ call c H ρ o=QQ (v,H',rd,wr)):Fr H H' (wr.getD [])/\(wr=N2->H'=H)/\H'.length=H.length:=by
 unfold aFJ at h;split at h
 ·cases h;exact⟨.refl _ _,fun _=>rfl,rfl⟩
 split at h
 ·grind [aSL]
 split at h
 ·cases h;exact⟨.refl _ _,fun _=>rfl,rfl⟩
 cases h
def FrB(base:Nat)(s s':gp):Prop:=s.H.length<=s'.H.length/\(∀o∈s.wr,o∈s'.wr)/\∀o,o<s.H.length->o<base->o∉s'.wr->s'.H[o]? = s.H[o]?
theorem FrB.refl(base:Nat)(s:gp):FrB base s s:=⟨AQ _,fun _ h=>h,fun _ _ _ _=>rfl⟩
theorem FrB.trans{base:Nat}{s s1 s2:gp}(h:FrB base s s1)(h':FrB base s1 s2):FrB base s s2:=⟨HX h.1 h'.1,fun o ho=>h'.2.1 o (h.2.1 o ho),fun o ho hb hn=>by
  rw[h'.2.2 o (FU ho h.1) hb hn,h.2.2 o ho hb fun hm=>hn (h'.2.1 o hm)]⟩
theorem FrB.of{base:Nat}{s:gp}{H':LO}{ρ:LA}{wr:LN}(h:Fr s.H H' wr):FrB base s ⟨ρ,H',bE base s.wr wr⟩:=⟨h.1,(cE base wr s.wr).1,fun o ho hb hn=>h.2 o ho fun hm=>hn ((cE base wr s.wr).2 o hm hb)⟩
theorem aJ3{call:Nat->LA->LO->Out}(hc:sQ call){c:Ctx}:∀(l:List ae) (s s':gp),jL call c l s=QQ s'->FrB c.base s s'
 | [],s,s',h=>by simp only[jL,AG]at h;subst h;exact .refl _ _
 |o::l,s,s',h=>by
  unfold jL at h;split at h
  ·split at h
   ·split at h
    ·rename_i je;exact (FrB.of (aTz hc je)).trans (aJ3 hc l _ s' h)
    cases h
   have:=aJ3 hc l _ s' h;exact this
  cases h
theorem aFY{call:Nat->LA->LO->Out}(hc:sQ call){c:Ctx}:∀(l:List ae) (i:Nat) (s s':gp) (log:Log),nT call c i l s=QQ (s',log)->FrB c.base s s'
 | [],i,s,s',log,h=>by simp only[nT,AG,BK]at h;obtain⟨rfl,_⟩:=h;exact .refl _ _
 |o::l,i,s,s',log,h=>by
  unfold nT at h;split at h
  ·split at h
   ·split at h
    ·rename_i je;split at h
     ·rename_i mz;cases h;exact (FrB.of (aJ2 hc je).1).trans (aFY hc l _ _ _ _ mz)
     cases h
    cases h
   have:=aFY hc l _ _ s' log h;exact this
  cases h
theorem aLB{c:Ctx}{d:Option Nat}{id:Nat}(h:c.site d=QQ id):c.base<=id:=by
 unfold Ctx.site at h;split at h
 ·cases h
 obtain⟨i,_,rfl⟩:=map_some h;omega
theorem wW{c:Ctx}:∀(l:List ae) (H H':LO),cS c H l=QQ H'->H.length=H'.length/\∀o,o<c.base->H'[o]? = H[o]?
 | [],H,H',h=>by simp only[cS,AG]at h;subst h;grind
 |o::l,H,H',h=>by
  unfold cS at h;split at h
  ·rename_i id hid;split at h
   ·obtain⟨h1,h2⟩:=wW l _ H' h;refine⟨by rw[<- h1];simp[make],fun o' z7=>?_⟩;rw[h2 o' z7,make,getElem?_set_ne' _ _ (by have:=aLB hid;omega)]
   cases h
  exact wW l H H' h
theorem aLC{call:Nat->LA->LO->Out}(hc:sQ call){c:Ctx}{d:Bool}{l:List ae}{s s':gp}(h:iO call c d l s=QQ s'):FrB c.base s s':=by
 unfold iO at h;split at h
 ·split at h
  ·rename_i H0 hp;split at h
   ·rename_i s1 log je;split at h
    ·cases h;obtain⟨h1,h2⟩:=wW _ _ _ hp;have h3:=aFY hc _ _ _ _ _ je;refine⟨?_,h3.2.1,fun o ho hb hn=>?_⟩
     ·rw[h1];exact h3.1
     have:=h3.2.2 o (by grind) hb hn;grind
    cases h
   cases h
  cases h
 split at h
 ·cases h
 exact aJ3 hc l s s' h
theorem sR{c:Ctx}:∀(ts:List (Nat×Nat)) (s s':gp),nX c s ts=QQ s'->FrB c.base s s'
 | [],s,s',h=>by simp only[nX,AG]at h;subst h;exact .refl _ _
 | (0,t)::ts,s,s',h=>by
  unfold nX at h;split at h
  ·rename_i hf;exact (FrB.of (aOW hf)).trans (sR ts _ s' h)
  cases h
 | (k+1,t)::ts,s,s',h=>by
  unfold nX at h;split at h
  ·exact sR ts _ s' h
  split at h
  ·rename_i hk;exact (FrB.of (aNK hk)).trans (sR ts _ s' h)
  split at h
  ·split at h
   ·rename_i hf;split at h
    ·rename_i bd;exact (FrB.of ((aOW hf).trans (aCX bd))).trans (sR ts _ s' h)
    cases h
   cases h
  cases h
structure Rec where
 v:AV
 want:Bool
 rd:LN
 wr:Option LN
 H2:LO
def uZ(p:Nat->Bool):Nat->List (ae×Rec)->LA->LA
 |_,[],ρ=>ρ
 |k,(o,r)::l,ρ=>uZ p (k+1) l (if p k then bg ρ o.dst r.v else ρ)
def cW(H:LO):List (ae×Rec)->Nat->LO
 | [],_=>H
 |_::_,0=>H
 |x::l,m+1=>cW x.2.H2 l m
structure yq(call:Nat->LA->LO->Out)(c:Ctx)(ρ:LA)(H:LO)(o:ae)(r:Rec):Prop where
 guard:pF ρ o=QS
 want:r.want=wanted ρ o
 yes:r.want=QS->aFJ call c H ρ o=QQ (r.v,r.H2,r.rd,r.wr)
 no:r.want=QT->r.v=.tup []/\r.H2=H/\r.rd=[]/\r.wr=N2
def aFe:Nat->List (ae×Rec)->Log
 |_,[]=>[]
 |i,(_,r)::l=>if r.want then (i,r.rd,r.wr)::aFe (i+1) l else aFe (i+1) l
theorem aDY(p:Nat->Bool):∀(l:List (ae×Rec)) (n:Nat) (ρ:LA),uZ p (n+1) l ρ=uZ (fun j=>p (j+1)) n l ρ
 | [],_,_=>rfl
 | (o,r)::l,n,ρ=>by simp only[uZ];exact aDY p l (n+1) _
theorem aMG(p q:Nat->Bool):∀(l:List (ae×Rec)) (n:Nat) (ρ:LA),(∀k,n<=k->k<n+l.length->p k=q k)->uZ p n l ρ=uZ q n l ρ
 | [],_,_,_=>rfl
 | (o,r)::l,n,ρ,h=>by
  simp only[uZ];rw[h n (AQ _) siT];exact aMG p q l (n+1) _ fun k h1 h2=>h k omT soT
theorem fH(ρ:LA)(d:Option Nat)(v:AV):(bg ρ d v).length=ρ.length:=by cases d<;>simp[bg]
theorem aFZ(ρ:LA)(d:Option Nat)(v:AV)(t:Nat)(h:d≠QQ t):(bg ρ d v)[t]? = ρ[t]? := by
 cases d with
 |none=>rfl
 |some d=>exact getElem?_set_ne' _ _ (fun e=>h (by rw[e]))
theorem aK4(ρ ρ':LA)(d:Option Nat)(v:AV)(t:Nat)(hl:ρ.length=ρ'.length)(h:ρ[t]? = ρ'[t]?):(bg ρ d v)[t]? = (bg ρ' d v)[t]? := by
 cases d with
 |none=>exact h
 |some d=>simp only[bg,FB,hl,h]
theorem aFy(p:Nat->Bool):∀(l:List (ae×Rec)) (n:Nat) (ρ:LA),(uZ p n l ρ).length=ρ.length
 | [],_,_=>rfl
 | (o,r)::l,n,ρ=>by
  simp only[uZ];rw[aFy p l];split
  ·exact fH _ _ _
  rfl
theorem aCY(p q:Nat->Bool)(t:Nat):∀(l:List (ae×Rec)) (n:Nat) (ρ ρ':LA),ρ.length=ρ'.length->ρ[t]? = ρ'[t]? ->(∀(k:Nat) o r,l[k]? = QQ (o,r)->o.dst=QQ t->p (n+k)=q (n+k))->(uZ p n l ρ)[t]? = (uZ q n l ρ')[t]?
 | [],_,ρ,ρ',_,h,_=>h
 | (o,r)::l,n,ρ,ρ',hl,h,hk=>by
  simp only[uZ];refine aCY p q t l (n+1) _ _ ?_ ?_ fun k o' r' h1 h2=>?_
  ·split<;>split<;>simp[fH,hl]
  ·by_cases e:o.dst=QQ t
   ·have:=hk 0 o r rfl e;simp only[DU]at this;grind [aK4]
   have e1:∀(b:Bool) (ρ:LA),(if b=QS then bg ρ o.dst r.v else ρ)[t]? = ρ[t]? := fun b ρ=>by
    split
    ·exact aFZ _ _ _ _ e
    rfl
   rw[e1,e1,h]
  have:=hk (k+1) o' r' (by simpa using h1) h2;grind
theorem aR6(p:Nat->Bool)(i:Nat):∀(l:List (ae×Rec)) (n:Nat) (ρ ρ':LA) (o:ae) (r:Rec),l[i]? = QQ (o,r)->ρ.length=ρ'.length->p (n+i)=QT ->(∀(k:Nat) o' r',l[k]? = QQ (o',r')->i<k->∀t,o.dst=QQ t->o'.dst=QQ t->p (n+k)=QT)->∀(t:Nat),ρ[t]? = ρ'[t]? ->(uZ (fun j=>p j || j==n+i) n l ρ)[t]? = (bg (uZ p n l ρ') o.dst r.v)[t]? := by
 intro l n ρ ρ' o r hi hl hp hk t ht;by_cases e:o.dst=QQ t
 ·
  have ax:(uZ p n l ρ').length=ρ'.length:=aFy _ _ _ _;rw[e];simp only[bg,FB,Zv,ax];have sc:∀(l:List (ae×Rec)) (n:Nat) (ρ:LA),uZ (fun _=>QT) n l ρ=ρ:=by
   intro l
   induction l with
   |nil=>intro n ρ;rfl
   |cons x l ih=>simp_all [uZ,BX,Zu]
  have key:∀(q:Nat->Bool) (l:List (ae×Rec)) (n:Nat) (i:Nat) (ρ:LA),l[i]? = QQ (o,r)->q (n+i)=QS->(∀(k:Nat) o' r',l[k]? = QQ (o',r')->i<k->o'.dst=QQ t->q (n+k)=QT) ->
    (uZ q n l ρ)[t]? = if t<ρ.length then QQ r.v else none:=by
   intro q l
   induction l with
   |nil=>grind
   |cons x l ih=>
    intro n i ρ h hq z8;obtain⟨o1,r1⟩:=x;cases i with
    |zero=>
     simp only[BG,AG,BK]at h;obtain⟨h1,h2⟩:=h;simp only[DU]at hq;simp only[uZ,hq,Zv];have:=aCY q (fun _=>QT) t l (n+1) (bg ρ o1.dst r1.v) (bg ρ o1.dst r1.v) rfl rfl fun k o' r' h3 h4=>by
      have h5:=z8 (k+1) o' r' (by simpa using h3) omT h4;grind
     grind [bg]
    |succ i=>
     simp only[uZ];rw[ih (n+1) i _ (by simpa using h) (by grind) fun k o' r' h1 h2 h3=>by
      have:=z8 (k+1) o' r' (by simpa using h1) omT h3;grind]
     split<;>simp[fH]
  grind
 rw[aFZ _ _ _ _ e];refine aCY _ _ t l n ρ ρ' hl ht fun k o' r' h1 h2=>?_;have:k≠i:=fun ek=>by grind
 simp[this]
theorem aEK{call:Nat->LA->LO->Out}{c:Ctx}:∀(al:List ae) (i:Nat) (s s':gp) (log:Log),nT call c i al s=QQ (s',log) ->∃tr:List (ae×Rec),tr.map (·.1)=al/\log=aFe i tr/\s'.ρ=uZ (fun _=>QS) 0 tr s.ρ/\s'.H=cW s.H tr tr.length /\ (∀(k:Nat) o r,tr[k]? = QQ (o,r)->yq call c (uZ (fun j=>decide (j<k)) 0 tr s.ρ) (cW s.H tr k) o r/\cW s.H tr (k+1)=r.H2/\∀x∈r.wr.getD [],x<c.base->x∈s'.wr) /\ (∀x∈s.wr,x∈s'.wr)
 | [],i,s,s',log,h=>by
  simp only[nT,AG,BK]at h;obtain⟨rfl,rfl⟩:=h;exact⟨[],rfl,rfl,rfl,rfl,fun k o r h=>by simp at h,fun _ h=>h⟩
 |o::al,i,s,s',log,h=>by
  have step:∀(r:Rec) (s1:gp) (log1:Log),yq call c s.ρ s.H o r->s1.ρ=bg s.ρ o.dst r.v->s1.H=r.H2->(∀x∈s.wr,x∈s1.wr)->(∀x∈r.wr.getD [],x<c.base->x∈s1.wr) ->
    nT call c (i+1) al s1=QQ (s',log1)->log=(if r.want then (i,r.rd,r.wr)::log1 else log1) ->
    ∃tr:List (ae×Rec),tr.map (·.1)=o::al/\log=aFe i tr/\s'.ρ=uZ (fun _=>QS) 0 tr s.ρ/\s'.H=cW s.H tr tr.length /\
     (∀(k:Nat) o r,tr[k]? = QQ (o,r)->yq call c (uZ (fun j=>decide (j<k)) 0 tr s.ρ) (cW s.H tr k) o r/\cW s.H tr (k+1)=r.H2/\∀x∈r.wr.getD [],x<c.base->x∈s'.wr) /\
     (∀x∈s.wr,x∈s'.wr):=by
   intro r s1 log1 hr hρ hH hw gn mz zg;obtain⟨tr,h1,h2,h3,h4,h5,h6⟩:=aEK al (i+1) s1 s' log1 mz;refine⟨(o,r)::tr,by simp[h1],by rw[zg,h2];simp only[aFe], ?_, ?_,fun k o' r' hk=>?_,fun x hx=>h6 x (hw x hx)⟩
   ·simp only[uZ,Zv];rw[aDY,<- hρ];exact h3
   ·simp only[AW,cW];grind
   cases k with
   |zero=>
    simp only[BG,AG,BK]at hk;obtain⟨rfl,rfl⟩:=hk;have sc:∀(l:List (ae×Rec)) (n:Nat) (ρ:LA),uZ (fun j=>decide (j<0)) n l ρ=ρ:=by
     intro l
     induction l with
     |nil=>intro n ρ;rfl
     |cons x l ih=>simp_all [uZ,Nat.not_lt_zero,decide_false,BX,Zu]
    rw[sc];refine⟨hr, ?_,fun x hx hb=>h6 x (gn x hx hb)⟩;simp only[cW];cases tr<;>rfl
   |succ k=>grind [uZ,aDY,cW]
  unfold nT at h;split at h
  ·rename_i hg;split at h
   ·rename_i hw;split at h
    ·rename_i v H' rd wr je;split at h
     ·rename_i s2 log2 mz;cases h;exact step ⟨v,QS,rd,wr,H'⟩ _ log2 ⟨hg,hw.symm,fun _=>je,fun e=>(by cases e)⟩ rfl rfl (fun x hx=>(cE _ _ _).1 x hx) (fun x hx hb=>(cE _ _ _).2 x hx hb) mz rfl
     cases h
    cases h
   rename_i hw;exact step ⟨.tup [],QT,[],N2,s.H⟩ ⟨bg s.ρ o.dst (.tup []),s.H,s.wr⟩ log ⟨hg,(by simpa using hw),fun e=>(by cases e),fun _=>⟨rfl,rfl,rfl,rfl⟩⟩ rfl rfl (fun x hx=>hx) (fun x hx=>by simp at hx) h rfl
  cases h
theorem aK5:∀(tr:List (ae×Rec)) (i k:Nat) (o:ae) (r:Rec),tr[k]? = QQ (o,r)->r.want=QS->(i+k,r.rd,r.wr)∈aFe i tr
 | [],i,k,o,r,h,_=>by simp at h
 | (o1,r1)::tr,i,k,o,r,h,hw=>by
  cases k with
  |zero=>simp only[BG,AG,BK]at h;obtain⟨rfl,rfl⟩:=h;simp[aFe,hw]
  |succ k=>have:=aK5 tr (i+1) k o r (by simpa using h) hw;grind [aFe,BZ]
def bBq(pre:LN)(i:Nat)(r r':Rec):Prop:=
 i∈pre∨(match r.wr,r'.wr with
  |some _,QQ _=>False
  |some ws,N2=>∀x∈r'.rd,x∉ws
  |none,QQ ws=>∀x∈r.rd,x∉ws
  |none,N2=>True)
theorem aG0{a b:LN}(h:dG a b=QS):∀x∈a,x∉b:=by intro x hx hb;have:=AO.1 h x hx;grind
theorem aI6(pre:Nat->LN):∀(tr:List (ae×Rec)) (n:Nat),eH pre (aFe n tr)=QS->∀(i j:Nat) o r o' r',i<j->tr[i]? = QQ (o,r)->tr[j]? = QQ (o',r')->r.want=QS->r'.want=QS ->bBq (pre (n+j)) (n+i) r r'
 | [],n,h,i,j,o,r,o',r',Y4,hi,hj,hw,tv=>by simp at hi
 | (o1,r1)::tr,n,h,i,j,o,r,o',r',Y4,hi,hj,hw,tv=>by
  cases i with
  |zero=>
   simp only[BG,AG,BK]at hi;obtain⟨rfl,rfl⟩:=hi;cases j with
   |zero=>omega
   |succ j=>
    have hm:=aK5 tr (n+1) j o' r' (by simpa using hj) tv;simp only[aFe,hw,Zv,eH,AI]at h;have:=AO.1 h.1 _ hm;rw[show n+1+j=n+(j+1)by omega]at this;simp only[EA,List.contains_iff_mem]at this;rcases this with this | this
    ·exact .inl this
    refine .inr ?_;grind [aG0]
  |succ i=>
   cases j with
   |zero=>omega
   |succ j=>
    have h':eH pre (aFe (n+1) tr)=true:=by
     simp only[aFe]at h;split at h
     all_goals simp_all [eH,AI]
    have:=aI6 pre tr (n+1) h' i j o r o' r' omT (by simpa using hi) (by simpa using hj) hw tv;grind
theorem aK6:∀(tr:List (ae×Rec)) (H:LO) (m m':Nat),m<=tr.length->m'<=tr.length ->(∀(k:Nat) o r,tr[k]? = QQ (o,r)->r.wr=N2->r.H2=cW H tr k)->(∀(k:Nat) o r,tr[k]? = QQ (o,r)->r.wr≠N2->(k<m↔k<m'))->cW H tr m=cW H tr m':=by
 intro tr H m m' hm oq hR hW;have next:∀(tr:List (ae×Rec)) (H:LO) (k:Nat) o r,tr[k]? = QQ (o,r)->cW H tr (k+1)=r.H2:=by
  intro tr
  induction tr with
  |nil=>grind
  |cons x tr ih=>
   intro H k o r h;cases k with
   |zero=>simp only[BG,AG]at h;subst h;simp only[cW];cases tr<;>rfl
   |succ k=>simp only[cW];grind
 have walk:∀(d a:Nat),a+d<=tr.length->(∀(k:Nat) o r,tr[k]? = QQ (o,r)->r.wr≠N2->¬(a<=k/\k<a+d))->cW H tr (a+d)=cW H tr a:=by
  intro d
  induction d with
  |zero=>grind
  |succ d ih=>
   intro a hd hn;have hlt:a+d<tr.length:=omT;have hk:tr[a+d]? = QQ (tr[a+d].1,tr[a+d].2):=by simp[hlt]
   grind
 rcases PI m m' with h | h
 ·obtain⟨d,rfl⟩:=GN h;exact (walk d m oq fun k o r h1 h2 h3=>by grind).symm
 obtain⟨d,rfl⟩:=GN h;exact walk d m' hm fun k o r h1 h2 h3=>by grind
section
variable {P:CU}{ab:cu}
theorem aMH(all:List HP):∀(l:List HP) (pres:List LN) (i:Nat) o,l[i]? = QQ o ->∃ao,(aDQ P ab all l pres)[i]? = QQ ao/\ao.pre=aJM (pres++((aDQ P ab all l pres).take i).map ae.pre) o
 | [],pres,i,o,h=>by simp at h
 |o1::l,pres,i,o,h=>by
  cases i with
  |zero=>simp at h;subst h;exact⟨_,rfl,by simp[aDQ]⟩
  |succ i=>obtain⟨ao,h1,h2⟩:=aMH all l (pres++[aJM pres o1]) i o (by simpa using h);refine⟨ao,by simpa [aDQ]using h1, ?_⟩;rw[h2];simp[aDQ]
structure K3(ops:Array HP)(al:List ae):Prop where
 len:al.length=ops.size
 back:∀(k:Nat) ao,al[k]? = QQ ao->∀x∈ao.pre,x<k
 of:∀(k:Nat) o ao,ops[k]? = QQ o->al[k]? = QQ ao->∀e∈o.after,LZ .any e=QS->e.on∈ao.pre
 to:∀(k:Nat) o ao,ops[k]? = QQ o->al[k]? = QQ ao->∀x∈ao.pre,∃e∈o.after,LZ .any e=QS/\(x=e.on∨∃ao',al[e.on]? = QQ ao'/\x∈ao'.pre)
 ord:∀(i j:Nat) o p,i≠j->al[i]? = QQ o->al[j]? = QQ p->∀t,p.dst=QQ t->t∈o.names->(if i<j then i∈p.pre else j∈o.pre)
theorem aR7{ops:Array HP}(hd:aOK (aDQ P ab ops.toList ops.toList [])=QS):K3 ops (aDQ P ab ops.toList ops.toList []):=by
 have ax:(aDQ P ab ops.toList ops.toList []).length=ops.size:=by rw[(aCU ops ops.toList []).1];simp
 have da:∀(k:Nat) ao,(aDQ P ab ops.toList ops.toList [])[k]? = QQ ao->ao.pre.all (fun x=>decide (x<k))=QS /\
   ((aDQ P ab ops.toList ops.toList []).zipIdx.all fun(p,j)=>k==j || aLx k ao j p)=true:=fun k ao h=>by
  have hm:(ao,k)∈(aDQ P ab ops.toList ops.toList []).zipIdx:=by rw[CO];exact⟨k,by simp[ML,h]⟩
  have:=AO.1 hd _ hm;simpa only[AI]using this
 have sd:∀(k:Nat) o ao,ops[k]? = QQ o->(aDQ P ab ops.toList ops.toList [])[k]? = QQ ao->ao.pre=aJM (((aDQ P ab ops.toList ops.toList []).take k).map ae.pre) o:=fun k o ao h1 h2=>by
  obtain⟨ao',h3,h4⟩:=aMH (P:=P) (ab:=ab) ops.toList ops.toList [] k o (by simpa using h1);rw[h2]at h3;cases h3;simpa using h4
 refine⟨ax,fun k ao h x hx=>?_,fun k o ao h1 h2 e he hb=>?_,fun k o ao h1 h2 x hx=>?_,fun i j o p bl h1 h2 t ht hn=>?_⟩
 ·simpa using AO.1 (da k ao h).1 x hx
 ·rw[sd k o ao h1 h2];unfold aJM;rw[aIW,IM];exact⟨e,by simpa using he,by simp[hb]⟩
 ·rw[sd k o ao h1 h2]at hx;unfold aJM at hx;rw[aIW,IM]at hx;obtain⟨e,he,hx⟩:=hx;split at hx
  ·rename_i hb;refine⟨e,by simpa using he,hb, ?_⟩;rcases BD.1 hx with rfl | hx
   ·exact .inl rfl
   refine .inr ?_;rw[BN,List.getElem?_take]at hx;split at hx
   ·cases hq:(aDQ P ab ops.toList ops.toList [])[e.on]? with
    |none=>rw[hq]at hx;simp at hx
    |some ao'=>rw[hq]at hx;exact⟨ao',rfl,by simpa using hx⟩
   simp at hx
  simp at hx
 have hm:(p,j)∈(aDQ P ab ops.toList ops.toList []).zipIdx:=by rw[CO];exact⟨j,by simp[ML,h2]⟩
 have:=AO.1 (da i o h1).2 _ hm;simp only[aLx,ht,EA,beq_iff_eq,bl,false_or,KB]at this;rcases this with h | h
 ·have:¬(t∈o.names):=by simpa using h
  exact Zw hn this
 split
 ·rename_i hlt;rw[Zy hlt]at h;simpa using h
 rename_i hlt;rw[Zx hlt]at h;simpa using h
def cnt:Nat->(Nat->Bool)->Nat
 |0,_=>0
 |k+1,p=>cnt k p+(if p k then 0 else 1)
theorem aK7{p q:Nat->Bool}:∀(n:Nat),(∀k,k<n->p k=q k)->cnt n p=cnt n q
 |0,_=>rfl
 |n+1,h=>by simp only[cnt];rw[aK7 n fun k hk=>h k omT,h n omT]
theorem aOY{p q:Nat->Bool}{i:Nat}:∀(n:Nat),i<n->p i=QT->q i=QS->(∀k,k≠i->q k=p k)->cnt n q+1=cnt n p
 |0,h,_,_,_=>by omega
 |n+1,h,hp,hq,hr=>by
  simp only[cnt];by_cases e:i=n
  ·subst e;rw[aK7 (p:=q) (q:=p) i fun k hk=>hr k omT];simp[hp,hq]
  have:=aOY n omT hp hq hr;rw[hr n (Ne.symm e)];omega
theorem aMI{p:Nat->Bool}:∀(n:Nat),cnt n p=0->∀k,k<n->p k=QS
 |0,_,k,hk=>by omega
 |n+1,h,k,hk=>by
  simp only[cnt]at h;by_cases e:k=n
  ·subst e;cases hp:p k with
   |true=>rfl
   |false=>simp[hp]at h
  exact aMI n omT k omT
theorem aSM{p:Nat->Bool}:∀(n:Nat),cnt n p<=n
 |0=>AQ _
 |n+1=>by simp only[cnt];have:=aSM (p:=p) n;split<;>omega
end
section
variable {P:CU}{ab:cu}{ops:Array HP}{call:Nat->LA->LO->Out}{c:Ctx}{tr:List (ae×Rec)}{ρ0:LA}{H0:LO}{ba:LN}
structure Env(P:CU)(ab:cu)(ops:Array HP)(call:Nat->LA->LO->Out)(c:Ctx)(tr:List (ae×Rec))(ρ0:LA)(H0:LO)(ba:LN):Prop where
 az:oT P ab call
 fr:sQ call
 pre:K3 ops (tr.map (·.1))
 comp:∀(i:Nat) o ao r,ops[i]? = QQ o->tr[i]? = QQ (ao,r)->vr P ab ops o ao
 ok:∀(k:Nat) o r,tr[k]? = QQ (o,r)->yq call c (uZ (fun j=>decide (j<k)) 0 tr ρ0) (cW H0 tr k) o r
 next:∀(k:Nat) o r,tr[k]? = QQ (o,r)->cW H0 tr (k+1)=r.H2
 wrs:∀(k:Nat) o r,tr[k]? = QQ (o,r)->∀x∈r.wr.getD [],x<c.base->x∈ba
 pair:∀(i j:Nat) o r o' r',i<j->tr[i]? = QQ (o,r)->tr[j]? = QQ (o',r')->r.want=QS->r'.want=QS->bBq o'.pre i r r'
 pf:∀(k:Nat) o r zs id,tr[k]? = QQ (o,r)->o.op=.alloc zs->c.site o.dst=QQ id->o.guard=N2/\o.pre=[]/\id<H0.length/\∃v,H0[id]? = QQ (.box v zs)
theorem zD{k:Nat}{o:ae}{r:Rec}(h:tr[k]? = QQ (o,r)):(tr.map (·.1))[k]? = QQ o:=by simp[h]
theorem Env.quiet(E:Env P ab ops call c tr ρ0 H0 ba){k:Nat}{o:ae}{r:Rec}(h:tr[k]? = QQ (o,r))(hn:r.wr=N2):r.H2=cW H0 tr k:=by
 have hr:=E.ok k o r h;cases hw:r.want with
 |false=>exact (hr.no hw).2.1
 |true=>exact (aJ2 E.fr (hr.yes hw)).2.1 hn
theorem Env.qg(E:Env P ab ops call c tr ρ0 H0 ba){k:Nat}{o:ae}{r:Rec}(h:tr[k]? = QQ (o,r))(hn:r.wr≠N2):r.want=true:=by
 have hr:=E.ok k o r h;cases hw:r.want with
 |false=>exact Zw (hr.no hw).2.2.2 hn
 |true=>rfl
theorem Env.step(E:Env P ab ops call c tr ρ0 H0 ba){k:Nat}{o:ae}{r:Rec}(h:tr[k]? = QQ (o,r)):r.H2.length=(cW H0 tr k).length/\∀x,x∉r.wr.getD []->r.H2[x]? = (cW H0 tr k)[x]? := by
 have hr:=E.ok k o r h;cases hw:r.want with
 |false=>rw[(hr.no hw).2.1];exact⟨rfl,fun _ _=>rfl⟩
 |true=>
  obtain⟨h1,_,h3⟩:=aJ2 E.fr (hr.yes hw);refine⟨h3,fun x hx=>?_⟩;by_cases hlt:x<(cW H0 tr k).length
  ·exact h1.2 x hlt hx
  rw[CY omT,CY omT]
theorem Env.len(E:Env P ab ops call c tr ρ0 H0 ba):∀m,m<=tr.length->(cW H0 tr m).length=H0.length
 |0,_=>by cases tr<;>rfl
 |m+1,h=>by
  have hk:tr[m]? = QQ (tr[m].1,tr[m].2):=AP omT;rw[E.next m _ _ hk,(E.step hk).1];exact E.len m omT
theorem Env.read(E:Env P ab ops call c tr ρ0 H0 ba){x m m':Nat}(hm:m<=tr.length)(oq:m'<=tr.length) (h:∀(k:Nat) o r,tr[k]? = QQ (o,r)->r.wr≠N2->(k<m↔k<m')∨x∉r.wr.getD []):(cW H0 tr m)[x]? = (cW H0 tr m')[x]? := by
 have walk:∀(d a:Nat),a+d<=tr.length->(∀(k:Nat) o r,tr[k]? = QQ (o,r)->r.wr≠N2->a<=k->k<a+d->x∉r.wr.getD [])->(cW H0 tr (a+d))[x]? = (cW H0 tr a)[x]? := by
  intro d
  induction d with
  |zero=>intro a _ _;rfl
  |succ d ih=>
   intro a hd hn;have hk:tr[a+d]? = QQ (tr[a+d].1,tr[a+d].2):=AP omT;rw[show a+(d+1)=a+d+1 by omega,E.next (a+d) _ _ hk];have:x∉tr[a+d].2.wr.getD []:=by
    cases hq:tr[a+d].2.wr with
    |none=>simp
    |some w=>have:=hn (a+d) _ _ hk (by rw[hq];simp) omT omT;rwa [hq]at this
   rw[(E.step hk).2 x this];exact ih a omT fun k o r h1 h2 h3 h4=>hn k o r h1 h2 h3 omT
 rcases PI m m' with hle | hle
 ·obtain⟨d,rfl⟩:=GN hle;exact (walk d m oq fun k o r h1 h2 h3 h4=>(h k o r h1 h2).elim (fun h5=>omT) id).symm
 obtain⟨d,rfl⟩:=GN hle;exact walk d m' hm fun k o r h1 h2 h3 h4=>(h k o r h1 h2).elim (fun h5=>omT) id
structure Inv(P:CU)(ab:cu)(c:Ctx)(tr:List (ae×Rec))(ρ0:LA)(H0:LO)(ba:LN)(g0:G)(w0:BL)(d:List HU)(L:Nat->Bool)(g:G)(a:Act)(w:BL):Prop where
 closed:∀(k:Nat) o r,tr[k]? = QQ (o,r)->L k=QS->∀x∈o.pre,L x=QS
 pos:∃m,m<=tr.length/\(∀(k:Nat) o r,tr[k]? = QQ (o,r)->r.wr≠N2->(L k=QS↔k<m))/\∃W,Step g0 H0 w0 g (cW H0 tr m) w W/\∀o∈W,o<c.base->o∈ba
 bm:aX g (uZ L 0 tr ρ0) a.tmps
 defers:a.defers=d
 ab:bM P ab g
 unb:∀(k:Nat) o r zs id,tr[k]? = QQ (o,r)->o.op=.alloc zs->c.site o.dst=QQ id->L k=QT->∀l,g.obj id=QQ l->l.st<(H0[id]?).elim 0 ah.ver
variable {g0:G}{w0:BL}{d:List HU}{L:Nat->Bool}{g:G}{a:Act}{w:BL}
theorem Inv.names(E:Env P ab ops call c tr ρ0 H0 ba)(I:Inv P ab c tr ρ0 H0 ba g0 w0 d L g a w){i:Nat}{o:ae}{r:Rec}(hi:tr[i]? = QQ (o,r))(hL:L i=QT)(hp:∀x∈o.pre,L x=QS):∀t∈o.names,(uZ L 0 tr ρ0)[t]? = (uZ (fun j=>decide (j<i)) 0 tr ρ0)[t]? := by
 intro t ht;refine aCY _ _ t tr 0 ρ0 ρ0 rfl rfl fun k ok rk hk hd=>?_;simp only[BC];by_cases e:k=i
 ·subst e;rw[hL];simp
 have:=E.pre.ord i k o ok (Ne.symm e) (zD hi) (zD hk) t hd ht;split at this
 ·rename_i hlt;have h1:L k=false:=by
   cases hq:L k with
   |false=>rfl
   |true=>have:=I.closed k ok rk hk hq i this;rw[hL]at this;cases this
  rw[h1];simp;omega
 rename_i hlt;rw[hp k this];simp;omega
theorem Inv.put(E:Env P ab ops call c tr ρ0 H0 ba)(I:Inv P ab c tr ρ0 H0 ba g0 w0 d L g a w){i:Nat}{o:ae}{r:Rec}(hi:tr[i]? = QQ (o,r))(hL:L i=QT){g':G}(hle:g.le g'){x:BE}(hv:ai g' r.v x):aX g' (uZ (fun j=>L j || j==i) 0 tr ρ0) (a.put o.dst x).tmps:=by
 have h1:=(I.bm.mono hle).bg hv o.dst;refine⟨by rw[aFy];have:=h1.1;rw[fH,aFy]at this;exact this,fun t=>?_⟩;have:=aR6 L i tr 0 ρ0 ρ0 o r hi rfl (by simpa using hL) (fun k o' r' hk hlt t h2 h3=>by
  simp only[BC];have:=E.pre.ord i k o o' omT (zD hi) (zD hk) t h3 (by simp[ae.names,h2]);rw[Zy hlt]at this;cases hq:L k with
  |false=>rfl
  |true=>have:=I.closed k o' r' hk hq i this;rw[hL]at this;cases this) t rfl
 simp only[BC]at this;rw[this];exact h1.2 t
theorem Inv.F6(E:Env P ab ops call c tr ρ0 H0 ba)(I:Inv P ab c tr ρ0 H0 ba g0 w0 d L g a w){i:Nat}{o:ae}{r:Rec}(hi:tr[i]? = QQ (o,r))(hL:L i=QT)(hp:∀x∈o.pre,L x=QS)(hw:r.wr≠N2):∀(k:Nat) ok rk,tr[k]? = QQ (ok,rk)->rk.wr≠N2->(L k=QS↔k<i):=by
 intro k ok rk hk pg;rcases NV k i with h | h | h
 ·have:=E.pair k i ok rk o r h hk hi (E.qg hk pg) (E.qg hi hw);rcases this with this | this
  ·simp[hp k this,h]
  cases hq:rk.wr with
  |none=>exact Zw hq pg
  |some a=>cases Qq:r.wr with
   |none=>exact Zw Qq hw
   |some b=>rw[hq,Qq]at this;exact this.elim
 ·subst h;rw[hL];simp
 have:=E.pair i k o r ok rk h hi hk (E.qg hi hw) (E.qg hk pg);rcases this with this | this
 ·have h1:L k=false:=by
   cases hq:L k with
   |false=>rfl
   |true=>have:=I.closed k ok rk hk hq i this;rw[hL]at this;cases this
  rw[h1];simp;omega
 cases hq:r.wr with
 |none=>exact Zw hq hw
 |some a=>cases Qq:rk.wr with
  |none=>exact Zw Qq pg
  |some b=>rw[hq,Qq]at this;exact this.elim
theorem Inv.reads(E:Env P ab ops call c tr ρ0 H0 ba)(I:Inv P ab c tr ρ0 H0 ba g0 w0 d L g a w){i m:Nat}{o:ae}{r:Rec}(hi:tr[i]? = QQ (o,r))(hL:L i=QT)(hp:∀x∈o.pre,L x=QS)(hw:r.wr=N2)(K4:r.want=QS) (hm:m<=tr.length) (kj:∀(k:Nat) o r,tr[k]? = QQ (o,r)->r.wr≠N2->(L k=QS↔k<m)):∀x∈r.rd,(cW H0 tr m)[x]? = (cW H0 tr i)[x]? := by
 intro x hx;have hlt:i<tr.length:=(AH.1 hi).1;refine E.read hm omT fun k ok rk hk pg=>?_;have Qz:=kj k ok rk hk pg;obtain⟨ws,zh⟩:=OQ.1 pg;rcases NV k i with h | h | h
 ·cases hq:L k with
  |true=>rw[hq]at Qz;left;simp at Qz;omega
  |false=>
   have:=E.pair k i ok rk o r h hk hi (E.qg hk pg) K4;rcases this with this | this
   ·rw[hp k this]at hq;cases hq
   rw[zh,hw]at this;right;rw[zh];exact this x hx
 ·subst h;rw[hi]at hk;cases hk;exact Zw hw pg
 cases hq:L k with
 |false=>rw[hq]at Qz;left;simp at Qz;omega
 |true=>
  have:=E.pair i k o r ok rk h hi hk K4 (E.qg hk pg);rcases this with this | this
  ·have:=I.closed k ok rk hk hq i this;rw[hL]at this;cases this
  rw[hw,zh]at this;right;rw[zh];exact this x hx
end
section
variable {P:CU}{ab:cu}{ops:Array HP}{call:Nat->LA->LO->Out}{c:Ctx}{tr:List (ae×Rec)}{ρ0:LA}{H0:LO}{ba:LN}
variable {g0:G}{w0:BL}{d:List HU}{L:Nat->Bool}{g:G}{a:Act}{w:BL}
theorem aA8.mono{o:HP}{R R':BE->BL->Prop}(h:aA8 P o a w R)(hr:∀v w',R v w'->R' v w'):aA8 P o a w R':=by
 rcases h with⟨v,w',h1,h2⟩ | ⟨w',h1,h2⟩ | ⟨f,args,w1,h1,h2⟩ | ⟨l,f,t,b,c,w1,h1,h2⟩
 ·exact .inl ⟨v,w',h1,hr _ _ h2⟩
 ·exact .inr (.inl ⟨w',h1,hr _ _ h2⟩)
 ·exact .inr (.inr (.inl ⟨f,args,w1,h1,h2.mono fun e w' he=>by grind⟩))
 exact .inr (.inr (.inr ⟨l,f,t,b,c,w1,h1,h2.mono fun e w' he=>by grind⟩))
theorem aMJ{c:Ctx}{d1 d2:Option Nat}{id:Nat}(h1:c.site d1=QQ id)(h2:c.site d2=QQ id):d1=d2/\∃t,d1=QQ t:=by
 unfold Ctx.site at h1 h2;cases d1 with
 |none=>simp at h1
 |some t1=>
  cases d2 with
  |none=>simp at h2
  |some t2=>simp only at h1 h2;obtain⟨i1,e1,f1⟩:=map_some h1;obtain⟨i2,e2,f2⟩:=map_some h2;have:i1=i2:=omT;subst this;obtain⟨x1,y1,_⟩:=GW.1 e1;obtain⟨x2,y2,_⟩:=GW.1 e2;grind
theorem Env.zi(E:Env P ab ops call c tr ρ0 H0 ba){k:Nat}{o:ae}{r:Rec}{zs:LA}{id:Nat}(hk:tr[k]? = QQ (o,r))(ho:o.op=.alloc zs)(hs:c.site o.dst=QQ id):r.want=QS/\r.rd=[id]/\r.wr=N2/\r.v=.ptr id (((cW H0 tr k)[id]?).elim 0 ah.ver) 0:=by
 obtain⟨h1,h2,h3,h4⟩:=E.pf k o r zs id hk ho hs;have hr:=E.ok k o r hk;have hw:r.want=true:=by rw[hr.want];unfold wanted;rw[h1]
 have:=hr.yes hw;grind [aFJ,AG,BK]
theorem aCZ{α:Type}{f:α->df}{x:Option α}{y:df}(h:x.map f=QQ y)(hf:∀z,f z≠y):False:=by simp_all
theorem aOZ{dst op type pos after guard zs}(nw:cOp P ab ⟨dst,op,type,pos,after,guard⟩=QQ (.alloc zs)):∃t,op=.alloc t/\zeroCells? P ab t=QQ zs:=by
 unfold cOp at nw;dsimp only at nw;split at nw
 case h_4=>
  split at nw
  all_goals simp_all
 all_goals grind [aCZ]
theorem Inv.apart(E:Env P ab ops call c tr ρ0 H0 ba)(I:Inv P ab c tr ρ0 H0 ba g0 w0 d L g a w){k:Nat}{o:ae}{r:Rec}{zs:LA}{id:Nat}(hk:tr[k]? = QQ (o,r))(ho:o.op=.alloc zs)(hs:c.site o.dst=QQ id)(hL:L k=QT) {i:Nat} {oi:ae} {ri:Rec} (hi:tr[i]? = QQ (oi,ri)) (Kf:L i=QS∨∀x∈oi.pre,L x=QS) (hw:ri.wr≠N2):id∉ri.wr.getD []:=by
 obtain⟨h1,h2,h3,h4⟩:=E.zi hk ho hs;obtain⟨ws,zh⟩:=OQ.1 hw;have sd:∀x∈oi.pre,L x=true:=by
  rcases Kf with h | h
  ·exact I.closed i oi ri hi h
  exact h
 rcases NV k i with h | h | h
 ·have:=E.pair k i o r oi ri h hk hi h1 (E.qg hi hw);rcases this with this | this
  all_goals grind
 ·grind
 have:=E.pair i k oi ri o r h hi hk (E.qg hi hw) h1;rcases this with this | this
 ·rw[(E.pf k o r zs id hk ho hs).2.1]at this;simp at this
 grind
theorem Inv.go(E:Env P ab ops call c tr ρ0 H0 ba)(I:Inv P ab c tr ρ0 H0 ba g0 w0 d L g a w){i:Nat}{o:ae}{r:Rec}(hi:tr[i]? = QQ (o,r))(hL:L i=QT)(hp:∀x∈o.pre,L x=QS) {oo:HP} {x:BE} {g':G} {w':BL} (Ec:o.dst=oo.dst) (hle:g.le g') (hv:ai g' r.v x) (kj:∃m,m<=tr.length/\(∀(k:Nat) ok rk,tr[k]? = QQ (ok,rk)->rk.wr≠N2->((L k || k==i)=QS↔k<m))/\∃W,Step g0 H0 w0 g' (cW H0 tr m) w' W/\∀o∈W,o<c.base->o∈ba) (F7:∀(k:Nat) ok rk zs id,tr[k]? = QQ (ok,rk)->ok.op=.alloc zs->c.site ok.dst=QQ id->k≠i->L k=QT->g'.obj id=g.obj id):Inv P ab c tr ρ0 H0 ba g0 w0 d (fun j=>L j || j==i) g' (a.put oo.dst x) w':=by
 refine⟨fun k ok rk hk A2 y hy=>?_,kj, ?_,by rw[aDW,I.defers],I.ab.mono hle,fun k ok rk zs id hk ho hs A2 l hl=>?_⟩
 ·simp only[EA,beq_iff_eq]at A2 ⊢;rcases A2 with h | h
  ·exact .inl (I.closed k ok rk hk h y hy)
  grind
 ·rw[<- Ec];exact I.put E hi hL hle hv
 simp only[Bool.or_eq_false_iff,beq_eq_false_iff_ne]at A2;rw[F7 k ok rk zs id hk ho hs A2.2 A2.1]at hl;exact I.unb k ok rk zs id hk ho hs A2.1 l hl
theorem Inv.no(E:Env P ab ops call c tr ρ0 H0 ba)(I:Inv P ab c tr ρ0 H0 ba g0 w0 d L g a w){i:Nat}{o:ae}{r:Rec}(hi:tr[i]? = QQ (o,r))(hL:L i=QT)(hp:∀x∈o.pre,L x=QS) {oo:HP} (Ec:o.dst=oo.dst) (hw:r.want=QT):Inv P ab c tr ρ0 H0 ba g0 w0 d (fun j=>L j || j==i) g (a.put oo.dst EE) w:=by obtain⟨h1,h2,h3,h4⟩:=(E.ok i o r hi).no hw;refine I.go E hi hL hp Ec (G.le.refl g) (by rw[h1];exact .skip _) ?_ fun _ _ _ _ _ _ _ _ _ _=>rfl;obtain⟨m,hm,kj,W,hs,hb⟩:=I.pos;grind
theorem Inv.yes(E:Env P ab ops call c tr ρ0 H0 ba)(I:Inv P ab c tr ρ0 H0 ba g0 w0 d L g a w){i:Nat}{o:ae}{r:Rec}(hi:tr[i]? = QQ (o,r))(hL:L i=QT)(hp:∀x∈o.pre,L x=QS) {oo:HP} (Ed:ops[i]? = QQ oo) (hw:r.want=QS):aA8 P oo a w fun x w'=>∃g',Inv P ab c tr ρ0 H0 ba g0 w0 d (fun j=>L j || j==i) g' (a.put oo.dst x) w':=by
 have nx:=E.comp i oo o r Ed hi;have xp:=E.ok i o r hi;have je:=xp.yes hw;have xq:=I.names E hi hL hp;have hlt:i<tr.length:=(AH.1 hi).1;obtain⟨m,hm,kj,W,hs,hb⟩:=I.pos;have se:∀t∈o.op.bm,(uZ L 0 tr ρ0)[t]? = (uZ (fun j=>decide (j<i)) 0 tr ρ0)[t]? := fun t ht=>xq t (by simp[ae.names,ht]);have Qx:∀op,o.op=op->op≠.bad->cOp P ab oo=QQ op:=fun op e F2=>by
  rw[nx.op]at e;cases hq:cOp P ab oo with
  |none=>grind
  |some op'=>grind
 unfold aFJ at je;split at je
 ·
  rename_i zs id su qh;simp only[AG,BK]at je;obtain⟨Kg,hH2,zj,ma⟩:=je;obtain⟨_,Y5,hid,v,Y6⟩:=E.pf i o r zs id hi su qh;have Hu:(cW H0 tr m)[id]? = QQ (.box v zs):=by
   have h0:cW H0 tr 0=H0:=by cases tr<;>rfl
   have zj:(cW H0 tr m)[id]? = (cW H0 tr 0)[id]? := ?_
   ·grind
   refine E.read hm (FF _) fun k ok rk hk pg=>?_;cases hq:L k with
   |false=>grind
   |true=>right;exact I.apart E hi su qh hL hk (.inl hq) pg
  have Kh:(cW H0 tr i)[id]? = QQ (.box v zs):=by rw[<- I.reads E hi hL hp ma.symm hw hm kj id (by grind)];exact Hu
  have O7:id<(cW H0 tr m).length:=by grind
  have nw:=Qx _ su siT;obtain⟨dst,op,type,pos,after,guard⟩:=oo;have F7:=I.unb i o r zs id hi su qh hL;rw[Y6]at F7;have lg:(cW H0 tr m).set id (.box v zs)=cW H0 tr m:=by apply HN;grind
  have j8:=aOZ nw;obtain⟨t,rfl,hz⟩:=j8;obtain⟨it,z,Y7,tq,ub⟩:=zeroCells?_spec hz;have bn:Step g (cW H0 tr m) w (g.setObj id ⟨w.heap.size,v,0,0,0⟩) ((cW H0 tr m).set id (.box v zs)) (w.alloc (.cells z.cells t)) [id]:=by
   refine Step.update hs.wf id (.box v zs) ⟨w.heap.size,v,0,0,0⟩ O7 siT (fun b du _=>cK (o:=.cells z.cells t) rfl du) siT (.inl (AQ _)) rfl rfl (fun l hl=>?_) fun hle=>⟨rfl,wV (t:=t) rfl,fun j c hj=>?_⟩
   ·grind [ah.ver,Nat.le_of_lt]
   have hl:=ub g;have tt:j<zs.length:=(AH.1 hj).1;have ax:=hl.1;simp at ax;rw[kD (t:=t) rfl];exact⟨z.cells[j]'omT,siT,(hl.2 j c _ hj siT).mono hle⟩
  rw[lg]at bn;refine .inl ⟨.pointer (QQ ⟨w.heap.size,0,N2⟩),w.alloc (.cells z.cells t),by simp[execOp,Instr.alloc,zeroValue,typeInfo,Y7,tq,newVar,newRow],_,I.go E hi hL hp nx.dst bn.le ?_ ?_ ?_⟩
  ·rw[<- Kg,Kh];exact .ptr id v 0 _ _ (by simp[G.setObj];rfl) (AQ _) fun _ _=>rfl
  ·refine⟨m,hm,fun k ok rk hk pg=>?_,W++[id],hs.trans bn,fun o' ho du=>?_⟩
   ·grind
   rcases AY.1 ho with ho | ho
   ·grind
   simp only[CG]at ho;subst ho;have:=aLB qh;omega
  intro k ok rk zs' id' hk z7 ml bl A2;have:id'≠id:=fun e=>by
   subst e;obtain⟨e1,t1,e2⟩:=aMJ ml qh;have:=E.pre.ord i k o ok (Ne.symm bl) (zD hi) (zD hk) t1 e2 (by simp[ae.names,show o.dst=QQ t1 from e1 ▸ e2]);split at this
   ·rw[(E.pf k ok rk zs' id' hk z7 ml).2.1]at this;simp at this
   grind
  simp[G.setObj,this]
 rename_i op site Qr;have bl:o.op≠.bad:=fun e=>by
  rw[e]at je;simp[isW,evR]at je
 have nw:=Qx _ rfl bl;split at je
 ·
  split at je
  ·rename_i v H' wr Y8;split at je
   ·simp only[AG,BK]at je;obtain⟨rfl,rfl,zj,ma⟩:=je;have K5:r.wr≠none:=by grind
    have Y9:=I.F6 E hi hL hp K5;have Ee:cW H0 tr m=cW H0 tr i:=aK6 tr H0 m i hm omT (fun k ok rk hk hn=>E.quiet hk hn) fun k ok rk hk pg=>by grind
    rw[<- Ee,<- aOU se]at Y8;have Ef:=aK0 nw E.az Y8 hs.wf I.ab I.bm;have Z0:cW H0 tr (i+1)=r.H2:=E.next i o r hi
    refine aA8.mono Ef fun x w' ⟨g',bd,hv⟩=>⟨g',I.go E hi hL hp nx.dst bd.le hv ⟨i+1,omT,fun k ok rk hk pg=>?_,W++wr,by rw[Z0];exact hs.trans bd,fun o' ho du=>?_⟩ fun k ok rk zs id hk z7 ml bl A2=>?_⟩
    ·grind
    ·rcases AY.1 ho with ho | ho
     ·grind
     exact E.wrs i o r hi o' (by grind) du
    have:=I.apart E hk z7 ml A2 hi (.inr hp) K5;rw[<- ma]at this;exact bd.aq id (by rw[E.len m hm];exact (E.pf k ok rk zs id hk z7 ml).2.2.1) this
   cases je
  cases je
 ·
  split at je
  ·rename_i v Z1;simp only[AG,BK]at je;obtain⟨rfl,hH2,zj,ma⟩:=je;have A3:=I.reads E hi hL hp ma.symm hw hm kj;rw[<- zj,<- aNJ se]at A3;rw[<- aOT se,<- aR4 A3]at Z1;have Ef:=(aJX nw Z1 hs.wf I.ab I.bm).Te;refine aA8.mono Ef fun x w' ⟨g',bd,hv⟩=>⟨g',I.go E hi hL hp nx.dst bd.le hv ⟨m,hm,fun k ok rk hk pg=>?_,W++[],hs.trans bd,fun o' ho du=>hb o' (by simpa using ho) du⟩ fun k ok rk zs id hk z7 ml bl A2=>?_⟩
   ·grind
   exact bd.aq id (by rw[E.len m hm];exact (E.pf k ok rk zs id hk z7 ml).2.2.1) siT
  cases je
end
section
variable {P:CU}{ab:cu}{g:G}{H:LO}{w:BL}{a:Act}
theorem Step.laid(hw:WF g H w){id:Nat}(f:Nat->ah)(hf:∀n,(f n).ver=n)(hid:id<H.length):Step g H w g (make H id f) w [id]:=by
 have Qr:∀l x,au g (make H id f) id l x->False:=fun l x hb=>by
  have h1:=hb.Pr;simp only[make,FB,Zv,hid]at h1;injection h1 with h1;have h2:=hw.st id _ l (AP hid) hb.loc;have h3:=hb.st;grind
 have hold:∀o l x,au g (make H id f) o l x->o≠id/\au g H o l x:=fun o l x hb=>by
  have bl:o≠id:=fun e=>by grind
  exact⟨bl,⟨by have:=hb.Pr;rwa [make,getElem?_set_ne' _ _ (Ne.symm bl)]at this,hb.alive,hb.loc,hb.st⟩⟩
 refine⟨G.le.refl g,⟨hw.perm,fun o l hl=>by simpa [make]using hw.lt o l hl,hw.blk,fun o x l hx hl=>?_,fun o l x hb=>hw.obj o l x (hold o l x hb).2,fun o l x hb=>hw.jh o l x (hold o l x hb).2,
  fun o o' l l' x x' h1 h2=>hw.inj o o' l l' x x' (hold _ _ _ h1).2 (hold _ _ _ h2).2,hw.whole.aq rfl rfl ⟨rfl,rfl⟩ (fun _ _ _=>rfl) fun o l y hl=>.inr ⟨o,l,y,(hold _ _ _ hl).2,rfl⟩⟩,aDS.refl g _ w,fun o _ ho=>?_,by simp[make],fun _ l' hl=>.inr ⟨l',hl,rfl⟩,fun _ _ _=>rfl⟩
 ·by_cases e:o=id
  ·subst e;simp only[make,FB,Zv,hid]at hx;injection hx with hx;rw[<- hx,hf];have:=hw.st o _ l (AP hid) hl;grind
  rw[make,getElem?_set_ne' _ _ (Ne.symm e)]at hx;exact hw.st o x l hx hl
 rw[make,getElem?_set_ne' _ _ (fun e=>ho (by simp[e]))]
theorem wY{c:Ctx}:∀(l:List ae) (H H':LO),WF g H w->cS c H l=QQ H'->∃W,Step g H w g H' w W/\∀o∈W,c.base<=o
 | [],H,H',hw,h=>by simp only[cS,AG]at h;subst h;exact⟨[],.refl hw,fun _ h=>by simp at h⟩
 |o::l,H,H',hw,h=>by
  unfold cS at h;split at h
  ·rename_i zs id su hid;split at h
   ·rename_i hc;have h1:=Step.laid hw (ah.box · zs) (fun _=>rfl) hc.1;obtain⟨W,h2,h3⟩:=wY l _ H' h1.wf h;refine⟨_,h1.trans h2,fun o' ho=>?_⟩;grind [CG,aLB]
   cases h
  exact wY l H H' hw h
theorem aAb{c:Ctx}{id:Nat}:∀(l:List ae) (H H':LO),cS c H l=QQ H'->(∀(k:Nat) o zs,l[k]? = QQ o->o.op=.alloc zs->c.site o.dst≠QQ id)->H'[id]? = H[id]?
 | [],H,H',h,_=>by simp only[cS,AG]at h;subst h;rfl
 |o::l,H,H',h,hn=>by
  unfold cS at h;have ze:∀(k:Nat) o zs,l[k]? = QQ o->o.op=.alloc zs->c.site o.dst≠QQ id:=fun k o' zs h1=>hn (k+1) o' zs (by simpa using h1);split at h
  ·rename_i zs id' su hid;split at h
   ·rw[aAb l _ H' h ze,make,getElem?_set_ne' _ _ (fun e=>by subst e;exact hn 0 o zs rfl su hid)]
   cases h
  exact aAb l H H' h ze
theorem aAc{c:Ctx}:∀(l:List ae) (H H':LO),cS c H l=QQ H'->∀(k:Nat) o zs id,l[k]? = QQ o->o.op=.alloc zs->c.site o.dst=QQ id->o.pre=[]
 | [],H,H',h=>fun k o zs id hk=>by simp at hk
 |o::l,H,H',h=>fun k o' zs id hk ho hs=>by
  unfold cS at h;split at h
  ·split at h
   ·rename_i hc;cases k with
    |zero=>grind
    |succ k=>exact aAc l _ H' h k o' zs id (by simpa using hk) ho hs
   cases h
  rename_i Qr;cases k with
  |zero=>simp only[BG,AG]at hk;grind
  |succ k=>exact aAc l H H' h k o' zs id (by simpa using hk) ho hs
theorem wZ{c:Ctx}:∀(l:List ae) (H H':LO),WF g H w->cS c H l=QQ H' ->(∀(i j:Nat) o p zs zs' id,i<j->l[i]? = QQ o->l[j]? = QQ p->o.op=.alloc zs->p.op=.alloc zs'->c.site o.dst=QQ id->c.site p.dst≠QQ id) ->∀(k:Nat) o zs id,l[k]? = QQ o->o.op=.alloc zs->c.site o.dst=QQ id->o.guard=N2/\o.pre=[]/\id<H'.length/\∃v,H'[id]? = QQ (.box v zs)/\∀lc,g.obj id=QQ lc->lc.st<v
 | [],H,H',hw,h,_=>fun k o zs id hk=>by simp at hk
 |o::l,H,H',hw,h,hd=>fun k o' zs id hk ho hs=>by
  unfold cS at h;have V0:∀(i j:Nat) o p zs zs' id,i<j->l[i]? = QQ o->l[j]? = QQ p->o.op=.alloc zs->p.op=.alloc zs'->c.site o.dst=QQ id->c.site p.dst≠QQ id:=
   fun i j o p zs zs' id h1 h2 h3=>hd (i+1) (j+1) o p zs zs' id omT (by simpa using h2) (by simpa using h3)
  split at h
  ·rename_i zs1 id1 Z2 Z3;split at h
   ·rename_i hc;have h1:=Step.laid hw (ah.box · zs1) (fun _=>rfl) hc.1;cases k with
    |zero=>simp only[BG,AG]at hk;subst hk;rw[Z2]at ho;cases ho;rw[Z3]at hs;injection hs with hs;subst hs;have hg:=aAb (id:=id1) l _ H' h fun k p zs' xe hp=>hd 0 (k+1) o p zs zs' id1 omT rfl (by grind) Z2 hp Z3;have hl:=(wW _ _ _ h).1;refine⟨by simp_all,by grind,by rw[<- hl];simp[make];exact hc.1,bH H id1,by rw[hg];simp[make,hc.1,bH],fun lc hlc=>?_⟩;have:=hw.st id1 _ lc (AP hc.1) hlc;grind [bH,AP]
    |succ k=>exact wZ l _ H' h1.wf h V0 k o' zs id (by simpa using hk) ho hs
   cases h
  rename_i Qr;cases k with
  |zero=>grind
  |succ k=>exact wZ l _ H' hw h V0 k o' zs id (by simpa using hk) ho hs
def aAd(listed:Array Bool)(i:Nat):Bool:=listed.getD i QT
theorem aG1{listed:Array Bool}{i:Nat}(hi:i<listed.size):(fun j=>aAd listed j || j==i)=aAd (listed.setIfInBounds i QS):=by funext j;unfold aAd;simp only[CR,Array.getElem?_setIfInBounds];grind
section
variable {ops:Array HP}{call:Nat->LA->LO->Out}{c:Ctx}{tr:List (ae×Rec)}{ρ0:LA}{H0:LO}{ba:LN}{g0:G}{w0:BL}{d:List HU}
theorem aG2{listed:Array Bool}(hs:listed.size=ops.size){i:Nat}:i∈HO .any ops listed↔i<ops.size/\aAd listed i=QT/\∀o,ops[i]? = QQ o->∀e∈o.after,LZ .any e=QS->aAd listed e.on=true:=by
 unfold HO aAd;simp only[OK,List.mem_range,AI,KB];constructor
 ·rintro⟨h1,h2,h3⟩;refine⟨h1, ?_,fun o ho e he hb=>?_⟩
  ·grind
  grind [Array.all_eq_true_iff_forall_mem]
 grind
theorem aP0(E:Env P ab ops call c tr ρ0 H0 ba){listed:Array Bool}(hs:listed.size=ops.size)(h:HO .any ops listed=[]):∀i,i<ops.size->aAd listed i=true:=by
 intro i
 induction i using KK with
 |_ i ih=>
  intro hi;cases hq:aAd listed i with
  |true=>rfl
  |false=>
   have:i∈HO .any ops listed:=by rw[aG2 hs];refine⟨hi,hq,fun o ho e he hb=>?_⟩;have ax:=E.pre.len;have hk:(tr.map (·.1))[i]? = QQ ((tr.map (·.1))[i]'omT):=AP omT;have h1:=E.pre.of i o _ ho hk e he hb;have h2:=E.pre.back i _ hk _ h1;grind
   grind
theorem aK8(E:Env P ab ops call c tr ρ0 H0 ba){Q:QX->Act->BL->Prop}{r:Option Nat} (hQ:∀g a w L,Inv P ab c tr ρ0 H0 ba g0 w0 d L g a w->(∀i,i<ops.size->L i=QS)->Q .normal a w):∀(fuel:Nat) (listed:Array Bool) (g:G) (a:Act) (w:BL),listed.size=ops.size->cnt ops.size (aAd listed)<=fuel->Inv P ab c tr ρ0 H0 ba g0 w0 d (aAd listed) g a w ->wpAnyIn (fr r) 0 P .any ops Q fuel listed a w
 |0,listed,g,a,w,hs,hc,I=>by
  have da:=aMI ops.size (Nat.le_zero.1 hc);refine⟨?_,hQ g a w _ I da⟩;cases hr:HO .any ops listed with
  |nil=>rfl
  |cons i l=>
   have:i∈HO .any ops listed:=by rw[hr];simp
   grind [aG2]
 |fuel+1,listed,g,a,w,hs,hc,I=>by
  refine⟨fun h=>hQ g a w _ I (aP0 E hs h),fun i hi=>?_⟩;rw[aG2 hs]at hi;obtain⟨hlt,hL,O8⟩:=hi;have ax:tr.length=ops.size:=by have:=E.pre.len;grind
  have ho:ops[i]? = QQ ops[i]:=CM hlt;have hi:tr[i]? = QQ (tr[i].1,tr[i].2):=AP omT;have hp:∀x∈tr[i].1.pre,aAd listed x=true:=fun x hx=>by
   obtain⟨e,he,hb,h⟩:=E.pre.to i _ _ ho (zD hi) x hx;have h1:=O8 _ ho e he hb;rcases h with rfl | ⟨ao',h2,h3⟩
   ·exact h1
   have rn:e.on<tr.length:=by grind
   have h4:tr[e.on]? = QQ (tr[e.on].1,tr[e.on].2):=AP rn;have h5:=zD h4;rw[h2]at h5;injection h5 with h5;exact I.closed e.on _ _ h4 h1 x (h5 ▸ h3)
  have nx:=E.comp i _ _ _ ho hi;have xp:=E.ok i _ _ hi;have xq:=I.names E hi hL hp;have next:∀g' a' w',Inv P ab c tr ρ0 H0 ba g0 w0 d (fun j=>aAd listed j || j==i) g' a' w'->wpAnyIn (fr r) 0 P .any ops Q fuel (listed.setIfInBounds i QS) a' w':=fun g' a' w' I'=>by
   rw[aG1 omT]at I';refine aK8 E hQ fuel _ g' a' w' (by simpa using hs) ?_ I';have:=aOY (p:=aAd listed) (q:=aAd (listed.setIfInBounds i QS)) ops.size hlt hL (by rw[<- aG1 omT];simp) fun k hk=>by rw[<- aG1 omT];simp[hk]
   omega
  have F3:OJ ops[i] (yielded ops a.tmps)=tr[i].2.want:=by have Hv:=aK3 (o:=tr[i].1) (ρ:=uZ (aAd listed) 0 tr ρ0) (ρ':=uZ (fun j=>decide (j<i)) 0 tr ρ0) fun t ht=>xq t ht;rw[xp.want,<- Hv.1];exact aK1 nx.guard I.bm (by rw[Hv.2];exact xp.guard)
  unfold wpOpIn;rw[ho];simp only;rw[F3];cases hw:tr[i].2.want with
  |false=>simp only[BX,Zu];exact⟨fun _ _=>trivial,next g _ w (I.no E hi hL hp nx.dst hw)⟩
  |true=>simp only[Zv];refine (I.yes E hi hL hp ho hw).wp fun v w' hR=>?_;grind
end
theorem aNM{id:Nat}{ops:Array HP}(hm:P.follows .mixedOrders=QS){call:Nat->LA->LO->Out}(az:oT P ab call)(Pw:sQ call){c:Ctx}{s s':gp} (h:iO call c QS (aDQ P ab ops.toList ops.toList []) s=QQ s') {Q:QX->Act->BL->Prop} (hw:WF g s.H w) (hg:bM P ab g) (hs:aX g s.ρ a.tmps) (hQ:∀a' w',aA9 P ab c.base g s.H w a.defers s' a' w'->Q .normal a' w') {r:Option Nat}:(PJ id ops QS).wpIn (fr r) 0 P Q a w:=by
 unfold iO at h;split at h
 ·rename_i hd;simp only[BR]at hd;split at h
  ·rename_i H0 sd;split at h
   ·rename_i s1 log je;split at h
    ·rename_i zg;simp only[AG]at h;subst h;have PO:=aR7 (P:=P) (ab:=ab) hd;obtain⟨tr,h1,h2,h3,h4,h5,h6⟩:=aEK _ _ _ _ _ je;have qh:∀(i j:Nat) o p zs zs' id,i<j->(aDQ P ab ops.toList ops.toList [])[i]? = QQ o->(aDQ P ab ops.toList ops.toList [])[j]? = QQ p->o.op=.alloc zs->p.op=.alloc zs'->c.site o.dst=QQ id->c.site p.dst≠QQ id:=by
      intro i j o p zs zs' id Y4 hi hj ho hp Ki l9;obtain⟨e1,t,e2⟩:=aMJ Ki l9;have:=PO.ord i j o p omT hi hj t (e1 ▸ e2) (by simp[ae.names,e2]);rw[Zy Y4,aAc _ _ _ sd j p zs' id hj hp l9]at this;simp at this
     obtain⟨W,bn,hW⟩:=wY _ _ _ hw sd;have K6:=wZ _ _ _ hw sd qh;have E:Env P ab ops call c tr s.ρ H0 s1.wr:=by
      refine⟨az,Pw,h1 ▸ PO,fun i o ao r ho hi=>?_,fun k o r hk=>(h5 k o r hk).1,fun k o r hk=>(h5 k o r hk).2.1,fun k o r hk=>(h5 k o r hk).2.2,fun i j o r o' r' Y4 hi hj V1 Kj=>?_,fun k o r zs id hk ho hs=>?_⟩
      ·exact (aCU ops ops.toList []).2 i o ao (by simpa using ho) (by grind)
      ·rw[h2]at zg;have:=aI6 _ tr 0 zg i j o r o' r' Y4 hi hj V1 Kj;grind
      obtain⟨a1,a2,a3,v,a4,a5⟩:=K6 k o zs id (by grind) ho hs;grind
     have V2:aAd (NW ops.size QT)=fun _=>false:=by funext i;simp[aAd,CR,Array.getElem?_replicate];split<;>rfl
     have sc:∀(l:List (ae×Rec)) (n:Nat) (ρ:LA),uZ (fun _=>QT) n l ρ=ρ:=by
      intro l
      induction l with
      |nil=>intro n ρ;rfl
      |cons x l ih=>simp_all [uZ,BX,Zu]
     have Kk:cW H0 tr 0=H0:=by cases tr<;>rfl
     have ax:tr.length=ops.size:=by have:=E.pre.len;grind
     refine wpIn_region_any hm (aK8 (g0:=g) (w0:=w) (d:=a.defers) E (fun g' a' w' L I da=>hQ a' w' ?_) ops.size _ g a _ siT (aSM _) ?_)
     ·obtain⟨m,oq,kj,W',bd,hb⟩:=I.pos;have e1:cW H0 tr m=s1.H:=by
       rw[h4];refine aK6 tr H0 m _ oq (AQ _) (fun k o r hk hn=>E.quiet hk hn) fun k o r hk hn=>?_;grind
      have e2:uZ L 0 tr s.ρ=s1.ρ:=by rw[h3];exact aMG _ _ _ _ _ fun k _ hk=>da k omT
      rw[e1]at bd;refine⟨g',W++W',bn.trans bd,fun o ho du=>?_,e2 ▸ I.bm,I.defers,I.ab⟩;grind
     rw[V2];refine⟨fun k o r _ h=>(by cases h),⟨0,FF _,fun k o r _ _=>siT,[],by rw[Kk];exact Step.of_heap bn.wf rfl,fun o ho=>by simp at ho⟩,by grind,rfl,hg,fun k o r zs id hk ho ml _ l hl=>?_⟩;obtain⟨a1,a2,a3,v,a4,a5⟩:=K6 k o zs id (by grind) ho ml;rw[a4];exact a5 l hl
    cases h
   cases h
  cases h
 simp at h
end
theorem dS(n:Nat):∀(l:LA),dJ n l=QS↔∀a∈l,a.under n=QS
 | []=>by simp[dJ]
 |v::r=>by simp[dJ,dS n r]
theorem kK(n:Nat):∀(l:List LA),eR n l=QS↔∀row∈l,∀a∈row,a.under n=QS
 | []=>by simp[eR]
 |v::r=>by simp[eR,kK n r,dS]
def G.cut(g:G)(n:Nat):G:={ g with obj:=fun o=>if o<n then g.obj o else N2 }
theorem kL{α:Type}{l:List α}{a:α}(h:a∈l):∃i,i<l.length/\l[i]? = QQ a:=by obtain⟨i,hi,he⟩:=MQ h;exact⟨i,hi,by grind⟩
theorem ai.under{g:G}{n:Nat}(hg:∀o l,g.obj o=QQ l->o<n){a:AV}{x:BE}(h:ai g a x):a.under n=true:=by
 induction h with
 |undef x=>rfl
 |bool b=>rfl
 |int k n=>rfl
 |str s=>rfl
 |fn f first ay vf vc hf hc h1 h2 ih1 ih2=>
  simp only[AV.under,AI,dS];refine⟨fun a ha=>?_,fun a ha=>?_⟩
  ·obtain⟨i,hi,he⟩:=kL ha;exact ih1 i a _ he (CM omT)
  obtain⟨i,hi,he⟩:=kL ha;exact ih2 i a _ he (CM omT)
 |bx=>rfl
 |ptr o v off l a hl hv h=>simp[AV.under,hg o l hl]
 |vp o v n k i off l a hl hv hn h=>simp[AV.under,hg o l hl]
 |nilPtr=>rfl
 |bj=>rfl
 |ifc t v x hv h ih=>simpa [AV.under]using ih
 |ep row off b base bd hp h ih=>
  simp only[AV.under,dS];intro a ha;obtain⟨j,hj,he⟩:=kL ha;have:=hp j hj;cases hq:g.perm b (base+j)with
  |none=>grind
  |some y=>grind
 |kn full=>rfl
 |sl full rows b off cap k cm jo hk bd hp h ih=>
  simp only[AV.under,kK];intro row hr a ha;obtain⟨i,hi,he⟩:=kL hr;obtain⟨j,hj,K7⟩:=kL ha;have:=hp i j hi (by grind);cases hq:g.perm b (off+i*k+j)with
  |none=>grind
  |some y=>grind
 |sr o v n l a cap hl hv hn jg h=>simp[AV.under,hg o l hl]
 |srv o v n k lo l a cap hl hv hn gr h=>simp[AV.under,hg o l hl]
 |srw o v n hi l a cap hl hv hn tf h=>simp[AV.under,hg o l hl]
 |ar=>rfl
 |mp o v l r hl hv h=>simp[AV.under,hg o l hl]
 |yld o v l r hl hv h=>simp[AV.under,hg o l hl]
 |fmp ks vs r entries clock xs hw hp hk hv h1 h2 ih1 ih2=>
  simp only[AV.under,AI,dS];refine⟨fun a ha=>?_,fun a ha=>?_⟩
  ·obtain⟨i,hi,he⟩:=kL ha;exact ih1 i a _ he (AP omT)
  obtain⟨i,hi,he⟩:=kL ha;exact ih2 i a _ he (AP omT)
 |agg cs vs hs h ih=>simp only[AV.under,dS];intro a ha;obtain⟨i,hi,he⟩:=kL ha;exact ih i a _ he (CM omT)
 |tup cs vs hs h ih=>simp only[AV.under,dS];intro a ha;obtain⟨i,hi,he⟩:=kL ha;exact ih i a _ he (CM omT)
theorem ai.cut{g:G}{n:Nat}{a:AV}{x:BE}(h:ai g a x):a.under n=QS->ai (g.cut n) a x:=by
 have la:∀o l,g.obj o=QQ l->o<n->(g.cut n).obj o=QQ l:=fun o l h1 h2=>by simp[G.cut,h1,h2]
 induction h with
 |undef x=>exact fun _=>.undef x
 |bool b=>exact fun _=>.bool b
 |int k n=>exact fun _=>.int k n
 |str s=>exact fun _=>.str s
 |fn f first ay vf vc hf hc h1 h2 ih1 ih2=>intro hu;simp only[AV.under,AI,dS]at hu;exact .fn f first ay vf vc hf hc (fun i a x e1 e2=>ih1 i a x e1 e2 (hu.1 a (AN e1))) (fun i a x e1 e2=>ih2 i a x e1 e2 (hu.2 a (AN e1)))
 |bx=>exact fun _=>.bx
 |ptr o v off l a hl hv h=>intro hu;exact .ptr o v off l a (la o l hl (by simpa [AV.under]using hu)) hv h
 |vp o v n k i off l a hl hv hn h=>intro hu;exact .vp o v n k i off l a (la o l hl (by simpa [AV.under]using hu)) hv hn h
 |nilPtr=>exact fun _=>.nilPtr
 |bj=>exact fun _=>.bj
 |ifc t v x hv h ih=>exact fun hu=>.ifc t v x hv (ih (by simpa [AV.under]using hu))
 |ep row off b base bd hp h ih=>intro hu;simp only[AV.under,dS]at hu;exact .ep row off b base bd hp fun j a x e1 e2=>ih j a x e1 e2 (hu a (AN e1))
 |kn full=>exact fun _=>.kn full
 |sl full rows b off cap k cm jo hk bd hp h ih=>intro hu;simp only[AV.under,kK]at hu;exact .sl full rows b off cap k cm jo hk bd hp fun i j row a x e1 e2 e3=>ih i j row a x e1 e2 e3 (hu row (AN e1) a (AN e2))
 |sr o v n l a cap hl hv hn jg h=>intro hu;exact .sr o v n l a cap (la o l hl (by simpa [AV.under]using hu)) hv hn jg h
 |srv o v n k lo l a cap hl hv hn gr h=>intro hu;exact .srv o v n k lo l a cap (la o l hl (by simpa [AV.under]using hu)) hv hn gr h
 |srw o v n hi l a cap hl hv hn tf h=>intro hu;exact .srw o v n hi l a cap (la o l hl (by simpa [AV.under]using hu)) hv hn tf h
 |ar=>exact fun _=>.ar
 |mp o v l r hl hv h=>intro hu;exact .mp o v l r (la o l hl (by simpa [AV.under]using hu)) hv h
 |yld o v l r hl hv h=>intro hu;exact .yld o v l r (la o l hl (by simpa [AV.under]using hu)) hv h
 |fmp ks vs r entries clock xs hw hp hk hv h1 h2 ih1 ih2=>intro hu;simp only[AV.under,AI,dS]at hu;exact .fmp ks vs r entries clock xs hw hp hk hv (fun i a e e1 e2=>ih1 i a e e1 e2 (hu.1 a (AN e1))) fun i a e e1 e2=>ih2 i a e e1 e2 (hu.2 a (AN e1))
 |agg cs vs hs h ih=>intro hu;simp only[AV.under,dS]at hu;exact .agg cs vs hs fun i a x e1 e2=>ih i a x e1 e2 (hu a (AN e1))
 |tup cs vs hs h ih=>intro hu;simp only[AV.under,dS]at hu;exact .tup cs vs hs fun i a x e1 e2=>ih i a x e1 e2 (hu a (AN e1))
theorem aBw.under{g:G}{n:Nat}(hg:∀o l,g.obj o=QQ l->o<n){w:BL}{l:Loc}{x:ah}(h:aBw g w l x):x.under n=true:=by
 cases x with
 |gone v=>rfl
 |box v cells=>obtain⟨h1,h2,h3⟩:=h;simp only[ah.under,dS];intro a ha;obtain⟨j,hj,he⟩:=kL ha;obtain⟨y,hy,hr⟩:=h3 j a he;exact hr.under hg
 |cw v ty cells=>obtain⟨h1,h2,h3⟩:=h;simp only[ah.under,dS];intro a ha;obtain⟨j,hj,he⟩:=kL ha;obtain⟨y,hy,hr⟩:=h3 j a he;exact hr.under hg
 |vec v k rows=>obtain⟨h1,h2,h3,h4,h5,h6,h7⟩:=h;simp only[ah.under,kK];intro row hr a ha;obtain⟨i,hi,he⟩:=kL hr;obtain⟨j,hj,K7⟩:=kL ha;obtain⟨_,y,hy,hv⟩:=h7 i j row a he K7;exact hv.under hg
 |gl v ty k rows=>obtain⟨⟨h1,h2,h3,h4,h5,h6,h7⟩,h8⟩:=h;simp only[ah.under,kK];intro row hr a ha;obtain⟨i,hi,he⟩:=kL hr;obtain⟨j,hj,K7⟩:=kL ha;obtain⟨_,y,hy,hv⟩:=h7 i j row a he K7;exact hv.under hg
 |map v es=>obtain⟨h1,entries,clock,h2,h3,h4⟩:=h;simp only[ah.under,AO];rintro⟨k,v⟩ hm;obtain⟨i,hi,he⟩:=kL hm;have:=h4 i k v _ he (CM omT);simp[this.1.under hg,this.2.under hg]
 |rnd v base sites ps body ρ busy pend=>obtain⟨h1,r,h2,h3,h4,h5,h6,h7,h8,h9⟩:=h;simp only[ah.under,dS];intro a ha;obtain⟨j,hj,he⟩:=kL ha;have:=h9 j;rw[he]at this;exact this.under hg
theorem aBw.cut{g:G}{n:Nat}{w:BL}{l:Loc}{x:ah}(h:aBw g w l x)(hu:x.under n=QS):aBw (g.cut n) w l x:=by
 cases x with
 |gone v=>trivial
 |box v cells=>obtain⟨h1,h2,h3⟩:=h;simp only[ah.under,dS]at hu;refine⟨h1,h2,fun j a ha=>?_⟩;obtain⟨y,hy,hr⟩:=h3 j a ha;exact⟨y,hy,hr.cut (hu a (AN ha))⟩
 |cw v ty cells=>obtain⟨h1,h2,h3⟩:=h;simp only[ah.under,dS]at hu;refine⟨h1,h2,fun j a ha=>?_⟩;obtain⟨y,hy,hr⟩:=h3 j a ha;exact⟨y,hy,hr.cut (hu a (AN ha))⟩
 |vec v k rows=>obtain⟨h1,h2,h3,h4,h5,h6,h7⟩:=h;simp only[ah.under,kK]at hu;refine⟨h1,h2,h3,h4,h5,h6,fun i j row a hr ha=>?_⟩;obtain⟨hs,y,hy,hv⟩:=h7 i j row a hr ha;exact⟨hs,y,hy,hv.cut (hu row (AN hr) a (AN ha))⟩
 |gl v ty k rows=>obtain⟨⟨h1,h2,h3,h4,h5,h6,h7⟩,h8⟩:=h;simp only[ah.under,kK]at hu;refine⟨?_,h8⟩;refine⟨h1,h2,h3,h4,h5,h6,fun i j row a hr ha=>?_⟩;obtain⟨hs,y,hy,hv⟩:=h7 i j row a hr ha;exact⟨hs,y,hy,hv.cut (hu row (AN hr) a (AN ha))⟩
 |map v es=>obtain⟨h1,entries,clock,h2,h3,h4⟩:=h;simp only[ah.under,AO]at hu;refine⟨h1,entries,clock,h2,h3,fun i k v e hk he=>?_⟩;have:=hu (k,v) (AN hk);simp only[AI]at this;exact⟨(h4 i k v e hk he).1.cut this.1,(h4 i k v e hk he).2.cut this.2⟩
 |rnd v base sites ps body ρ busy pend=>
  obtain⟨h1,r,h2,h3,h4,h5,h6,h7,h8,h9⟩:=h;simp only[ah.under,dS]at hu;refine⟨h1,r,h2,h3,h4,h5,h6,h7,h8,fun t=>(h9 t).cut ?_⟩;cases he:ρ[t]? with
  |none=>rfl
  |some a=>grind
section
variable {g g':G}{H H':LO}{w w':BL}{wr W:LN}
theorem Step.narrow(hlt:∀o l,g.obj o=QQ l->o<H.length)(h:Step g H w g' H' w' W)(hs:∀o∈W,o<H.length->o∈wr):Step g H w g' H' w' wr:=⟨h.le,h.wf,⟨h.frame.1,fun b hb ho=>h.frame.2 b hb fun o hm l hl=>ho o (hs o hm (hlt o l hl)) l hl⟩,fun o hl ho=>h.same o hl fun hm=>ho (hs o hm hl),h.len,h.mc,fun o hl ho=>h.aq o hl fun hm=>ho (hs o hm hl)⟩
theorem Step.cut(hw:WF g H w)(h:Step g H w g' H' w' wr)(hu:∀o∈wr,∀x,H'[o]? = QQ x->x.under H.length=QS):Step g H w (g'.cut H.length) (H'.take H.length) w' wr:=by
 have gm:∀o,o<H.length->(H'.take H.length)[o]? = H'[o]? := fun o ho=>by simp[ho]
 have dx:∀o l x,au (g'.cut H.length) (H'.take H.length) o l x->o<H.length/\au g' H' o l x:=fun o l x hb=>by
  have hlt:o<H.length:=by have:=(AH.1 hb.Pr).1;grind
  refine⟨hlt,⟨by rw[<- gm o hlt];exact hb.Pr,hb.alive, ?_,hb.st⟩⟩;have:=hb.loc;simpa [G.cut,hlt]using this
 have la:∀o l,(g'.cut H.length).obj o=QQ l->o<H.length/\g'.obj o=QQ l:=fun o l hl=>by
  grind [G.cut]
 have ax:=h.len;refine⟨⟨fun b i x hx=>h.le.perm b i x hx,fun o l hl=>?_,h.le.whole,h.le.io,h.le.code⟩,⟨h.wf.perm,fun o l hl=>?_,fun o l hl=>h.wf.blk o l (la o l hl).2,fun o x l hx hl=>?_,fun o l x hb=>?_,fun o l x hb=>h.wf.jh o l x (dx o l x hb).2,
  fun o o' l l' x x' h1 h2=>h.wf.inj o o' l l' x x' (dx _ _ _ h1).2 (dx _ _ _ h2).2,h.wf.whole.aq rfl rfl ⟨rfl,rfl⟩ (fun _ _ _=>rfl) fun o l y hl=>.inr ⟨o,l,y,(dx _ _ _ hl).2,rfl⟩⟩,h.frame,fun o ho hn=>?_,soT,fun o l hl=>h.mc o l (la o l hl).2,fun o ho hn=>?_⟩
 ·obtain⟨l',h1,h2⟩:=h.le.obj o l hl;exact⟨l',by simp[G.cut,hw.lt o l hl,h1],h2⟩
 ·grind
 ·obtain⟨h1,h2⟩:=la o l hl;rw[gm o h1]at hx;exact h.wf.st o x l hx h2
 ·obtain⟨h1,h2⟩:=dx o l x hb;refine (h.wf.obj o l x h2).cut ?_;by_cases hm:o∈wr
  ·exact hu o hm x h2.Pr
  have qw:au g H o l x:=⟨by rw[<- h.same o h1 hm];exact h2.Pr,h2.alive,by rw[<- h.aq o h1 hm];exact h2.loc,h2.st⟩;exact (hw.obj o l x qw).under hw.lt
 ·rw[gm o ho];exact h.same o ho hn
 simp only[G.cut,ho,Zv];exact h.aq o ho hn
theorem pN.cut{n n0:Nat}{av:AV}{v:BE}(h:pN g' H' n0 w' av v)(hu:av.under n=QS):pN (g'.cut n) (H'.take n) n0 w' av v:=by
 cases av with
 |own k rows=>
  obtain⟨b,cap,e,ho⟩:=h;simp only[AV.under,kK]at hu;refine⟨b,cap,e,⟨ho.ki,ho.hlt,ho.cm,ho.dr,ho.cn,ho.dq,ho.eh,fun i j row c hr hc=>?_,ho.Qm,fun o l x hb=>?_,ho.u7⟩⟩
  ·obtain⟨y,hy,hv⟩:=ho.dj i j row c hr hc;exact⟨y,hy,hv.cut (hu row (AN hr) c (AN hc))⟩
  have hlt:o<n:=by have:=(AH.1 hb.Pr).1;grind
  refine ho.pd o l x ⟨?_,hb.alive, ?_,hb.st⟩
  ·have:=hb.Pr;grind
  have:=hb.loc;simpa [G.cut,hlt]using this
 |_=>exact ai.cut h hu
end
section
variable {P:CU}{ab:cu}{g:G}{H:LO}{w w':BL}{ρ:LA}
theorem Step.drop(h:WF g H w){o:Nat}{l:Loc}{x:ah}(hb:au g H o l x):Step g H w g (H.set o (.gone x.ver)) w [o]/\∀o' l' x',au g (H.set o (.gone x.ver)) o' l' x'->l'.b≠l.b:=by
 have ho:o<H.length:=h.lt o l hb.loc;have dx:∀o' l' x',au g (H.set o (.gone x.ver)) o' l' x'->o'≠o/\au g H o' l' x':=fun o' l' x' du=>by
  have bl:o'≠o:=fun e=>by
   subst e;have h1:=du.Pr;simp[ho]at h1;have h2:=du.alive;subst h1;simp[ah.alive]at h2
  exact⟨bl,⟨by rw[<- getElem?_set_ne' H (.gone x.ver) (Ne.symm bl)];exact du.Pr,du.alive,du.loc,du.st⟩⟩
 refine⟨⟨G.le.refl g,⟨h.perm,fun o' l' hl=>by simpa using h.lt o' l' hl,h.blk,fun o' x' l' hx hl=>?_,fun o' l' x' du=>h.obj o' l' x' (dx _ _ _ du).2,fun o' l' x' du=>h.jh o' l' x' (dx _ _ _ du).2,
  fun o1 o2 l1 l2 x1 x2 fo dp e=>h.inj o1 o2 l1 l2 x1 x2 (dx _ _ _ fo).2 (dx _ _ _ dp).2 e,h.whole.aq rfl rfl ⟨rfl,rfl⟩ (fun _ _ _=>rfl) fun o l y hl=>.inr ⟨o,l,y,(dx _ _ _ hl).2,rfl⟩⟩,
  aDS.refl _ _ _,fun o' hl hm=>?_,siT,fun o' l' hl=>.inr ⟨l',hl,rfl⟩,fun _ _ _=>rfl⟩,fun o' l' x' du e=>?_⟩
 ·by_cases e:o'=o
  ·subst e;simp[ho]at hx;subst hx;exact h.st o' x l' hb.Pr hl
  rw[getElem?_set_ne' H (.gone x.ver) (Ne.symm e)]at hx;exact h.st o' x' l' hx hl
 ·grind
 obtain⟨bl,qw⟩:=dx _ _ _ du;exact bl (h.inj o' o l' l x' x qw hb e)
theorem aP1(hw:WF g H w){o v n v' k:Nat}{rows:List LA}(ho:H[o]? = QQ (.vec v' k rows))(hv:v'=v)(hn:rows.length=n){x:BE}(hx:ai g (.sr o v n) x):∃l,au g H o l (.vec v k rows)/\x=.slice (QQ ⟨l.b,0,N2⟩) n l.cap:=by
 subst hv;cases hx with
 |sr _ _ _ l a cap hl hv ze jg h=>
  have bd:l.st=v':=by have:=hw.st o _ l ho hl;simp only[ah.ver]at this;omega
  have hb:au g H o l (.vec v' k rows):=⟨ho,rfl,hl,bd⟩;obtain⟨h0,_⟩:=hw.obj o l _ hb;grind
theorem aI7{base n0:Nat}(ki:∀o l,base<=o->g.obj o=QQ l->n0<=l.b)(hw:WF g H w){v v':AV}{H':LO}{l:LN}(h:aDR base H v=QQ (v',H',l)){x:BE}(hx:ai g v x):∃g',Step g H w g' H' w l/\pN g' H' n0 w v' x:=by
 unfold aDR at h;split at h
 ·rename_i o v n;split at h
  ·cases h;exact⟨g,.refl hw,hx⟩
  split at h
  ·rename_i v1 k rows ho;split at h
   ·rename_i hc;obtain⟨mj,nc,Z4,Cj⟩:=hc;simp only[AG,BK]at h;obtain⟨rfl,rfl,rfl⟩:=h;obtain⟨lc,hb,rfl⟩:=aP1 hw ho mj nc hx;obtain⟨h0,ow,cm,dr,hk,eh,bc⟩:=hw.obj o lc _ hb;obtain⟨h1,h2⟩:=Step.drop hw hb;have he:dL H [o]=H.set o (.gone (ah.vec v k rows).ver):=by simp only[dL,hb.Pr];rfl
    rw[he];refine⟨g,h1,lc.b,lc.cap,by rw[nc],⟨ki o lc Z4 hb.loc,hw.blk o lc hb.loc,cm,dr,hk, ?_,eh,fun i j row c hr hj=>?_,hw.jh o lc _ hb,h2, ?_⟩⟩
    ·exact Cj
    ·grind
    cases Dn:g.whole lc.b with
    |none=>rfl
    |some z=>exact Zw rfl ((hw.whole.blocks lc.b z Dn).2 o lc _ hb)
   cases h
  cases h
 ·rename_i o v;split at h
  ·rename_i v1 es ho;split at h
   ·rename_i hc;simp only[AG,BK]at h;obtain⟨rfl,rfl,rfl⟩:=h;obtain⟨lc,entries,clock,hb,rfl,bb,dj,_⟩:=aFT hw ho hc.1 hx;obtain⟨h1,h2⟩:=Step.drop hw hb;have hle:g.le { g with whole:=fun b=>if b=lc.b then QQ (.map entries clock)else g.whole b }:=by
     refine⟨fun _ _ _ hx=>hx,fun o l hl=>⟨l,hl,AQ _,fun _=>⟨AQ _,fun _=>rfl⟩⟩,fun b x hx=>?_,rfl,rfl⟩;by_cases e:b=lc.b
     ·subst e;exact Zw rfl ((hw.whole.blocks lc.b x hx).2 o lc _ hb)
     grind
    have dx:∀o' l' x',au { g with whole:=fun b=>if b=lc.b then QQ (.map entries clock)else g.whole b } (H.set o (.gone v)) o' l' x'->au g (H.set o (.gone v)) o' l' x':=fun o' l' x' du=>⟨du.Pr,du.alive,du.loc,du.st⟩;have pj:=h1.wf;refine⟨{ g with whole:=fun b=>if b=lc.b then QQ (.map entries clock)else g.whole b },⟨hle,⟨pj.perm,pj.lt,pj.blk,pj.st,fun o' l' x' du=>(pj.obj o' l' x' (dx _ _ _ du)).aq hle rfl,fun o' l' x' du=>pj.jh o' l' x' (dx _ _ _ du),fun o1 o2 l1 l2 x1 x2 fo dp=>pj.inj o1 o2 l1 l2 x1 x2 (dx _ _ _ fo) (dx _ _ _ dp),⟨fun b x hx=>?_,hw.whole.io⟩⟩,h1.frame,h1.same,h1.len,fun o' l' hl=>.inr ⟨l',hl,rfl⟩,fun _ _ _=>rfl⟩, ?_⟩
    ·by_cases e:b=lc.b
     ·subst e;simp only[Zv,AG]at hx;subst hx;exact⟨bb,fun o' l' y du=>h2 o' l' y (dx _ _ _ du)⟩
     simp only[e,Zu]at hx;exact⟨(pj.whole.blocks b x hx).1,fun o' l' y du=>(pj.whole.blocks b x hx).2 o' l' y (dx _ _ _ du)⟩
    refine ai.fmp _ _ lc.b entries clock entries.toList siT (.inl rfl) (by simpa using dj.1) (by simpa using dj.1) (fun i a e h5 h6=>?_) fun i a e h5 h6=>?_
    ·rw[BN]at h5;cases hq:es[i]? with
     |none=>grind
     |some kv=>simp[hq]at h5;subst h5;exact (dj.2 i kv.1 kv.2 e hq (by simpa using h6)).1.mono hle
    rw[BN]at h5;cases hq:es[i]? with
    |none=>grind
    |some kv=>simp[hq]at h5;subst h5;exact (dj.2 i kv.1 kv.2 e hq (by simpa using h6)).2.mono hle
   cases h;exact⟨g,.refl hw,hx⟩
  cases h;exact⟨g,.refl hw,hx⟩
 obtain⟨g',h1,h2⟩:=qO hw h hx;refine⟨g',h1, ?_⟩;cases v' with
 |own k rows=>cases h2
 |_=>exact h2
theorem aG3:∀{vs vs':LA} {g:G} {H H':LO} {l:LN},WF g H w->aBv H vs=QQ (vs',H',l)->∀{xs:List BE},fU g vs xs->∃g',Step g H w g' H' w l/\fU g' vs' xs
 | [],vs',g,H,H',l,hw,h,xs,hx=>by
  simp only[aBv,AG,BK]at h;obtain⟨rfl,rfl,rfl⟩:=h;exact⟨g,.refl hw,hx⟩
 |v::vs,vs',g,H,H',l,hw,h,xs,hx=>by
  unfold aBv at h;split at h
  ·cases h
  rename_i v1 H1 l1 hf;split at h
  ·cases h
  rename_i r1 H2 l2 hr;simp only[AG,BK]at h;obtain⟨rfl,rfl,rfl⟩:=h;cases xs with
  |nil=>have:=hx.1;simp at this
  |cons x xs=>
   obtain⟨g1,h1,h2⟩:=qO hw hf (hx.2 0 v x rfl rfl);have re:fU g1 vs xs:=⟨by simpa using hx.1,fun i a y ha hy=>(hx.2 (i+1) a y (by simpa using ha) (by simpa using hy)).mono h1.le⟩;obtain⟨g2,h3,h4⟩:=aG3 h1.wf hr re;refine⟨g2,h1.trans h3,by simp[h4.1],fun i a y ha hy=>?_⟩;cases i with
   |zero=>simp at ha hy;subst ha;subst hy;exact h2.mono h3.le
   |succ i=>exact h4.2 i a y (by simpa using ha) (by simpa using hy)
def xA(tmps:Array BE)(rs:List ResultVar):Sem (List BE):=
 rs.mapM fun
  |.tmp t=>pure (tmps.getD t EE)
  |.cell a t=>do loadVar t (<- asAddr (tmps.getD a EE))
theorem vH(hw:WF g H w){tmps:Array BE}(hs:aX g ρ tmps):∀(rs:List ResultVar) (Pq:List ou) (vs:LA),aNz P rs=QQ Pq->aIS H ρ Pq=QQ vs ->∃xs,(xA tmps rs).run P w=.ok xs w/\fU g vs xs
 | [],Pq,vs,h,hv=>by
  simp only[aNz,AG]at h;subst h;simp only[aIS,AG]at hv;subst hv;exact⟨[],by simp[xA],rfl,fun i a x h=>by simp at h⟩
 |r::rs,Pq,vs,h,hv=>by
  unfold aNz at h;split at h
  ·rename_i a as' ha has;simp only[AG]at h;subst h;unfold aIS at hv;split at hv
   ·cases hv
   rename_i v qy;split at hv
   ·cases hv
   rename_i vs' C8;simp only[AG]at hv;subst hv;obtain⟨xs,h1,h2⟩:=vH hw hs rs as' vs' has C8;have key:∃x,(match r with | .tmp t=>pure (tmps.getD t EE) | .cell a t=>do loadVar t (<- asAddr (tmps.getD a EE)):Sem BE).run P w=.ok x w/\ai g v x:=by
    cases r with
    |tmp t=>simp only[aZL,AG]at ha;subst ha;simp only[aYq,AG]at qy;subst qy;exact⟨_,siT,hs.2 t⟩
    |cell t ty=>
     simp only[aZL]at ha;obtain⟨⟨n,agg⟩,vg,rfl⟩:=map_some ha;simp only[aYq]at qy;split at qy
     ·rename_i cs hr;obtain⟨b,off,ys,e,ax,hl,hc⟩:=eI hw hr (hs.2 t);have cl:=aEF (P:=P) vg w b off ys (by rw[<- hl.1];exact ax) hc;exact⟨_,by
       show (do loadVar ty (<- asAddr (tmps.getD t EE)):Sem BE).run P w=_;rw[e,BS,show (asAddr (Value.pointer (QQ ⟨b,off,N2⟩))).run P w=.ok ⟨b,off,N2⟩ w from rfl];exact cl,wQ qy hl⟩
     cases qy
   obtain⟨x,lz,C9⟩:=key;refine⟨x::xs, ?_,by simp[h2.1],fun i a' y Y3 hy=>?_⟩
   ·simp_all [xA,List.mapM_cons,BS,BJ]
   cases i with
   |zero=>grind
   |succ i=>exact h2.2 i a' y (by grind) (by simpa using hy)
  cases h
def aR8:List BE->BE
 | [x]=>x
 |xs=>.tuple xs.toArray
theorem aLD{fn:Func}{tmps:Array BE}{xs:List BE}(h:(xA tmps fn.results.toList).run P w=.ok xs w):(results fn tmps).run P w=.ok (aR8 xs) w:=by
 unfold results;rw[Array.mapM_eq_mapM_toList];have h':((fn.results.toList.mapM fun | .tmp t=>pure (tmps.getD t EE) | .cell a t=>do loadVar t (<- asAddr (tmps.getD a EE)):Sem (List BE))).run P w=.ok xs w:=h;rw[map_eq_pure_bind];simp only[bind_assoc,pure_bind];rw[BS];refine (congrArg (fun r=>DL r _) h').trans ?_;simp only[BJ,List.size_toArray];clear h h';cases xs with
 |nil=>rfl
 |cons x r=>cases r with
  |nil=>rfl
  |cons y r=>rfl
end
section
variable {A:af}{n:Nat}{c:Ctx}{s:gp}
theorem gT{x:ag}:cY A 0 c x s=none:=rfl
theorem xB:cY A (n+1) c .skip s=QQ (.normal,s):=rfl
theorem qG:cY A (n+1) c .bad s=none:=rfl
theorem iS{d:Bool}{ops:List ae}:cY A (n+1) c (.region d ops) s=match iO (dD A n) c d ops s with | some s'=>QQ (.normal,s') | none=>none:=rfl
theorem iD{x y:ag}:cY A (n+1) c (.seq x y) s=match cY A n c x s with | some (.normal,s')=>cY A n c y s' | r=>r:=rfl
theorem iT{t:aa}{x y:ag}:cY A (n+1) c (.cond t x y) s=match t.ev s.ρ with | .bool QS=>cY A n c x s | .bool QT=>cY A n c y s | _=>none:=rfl
theorem eP{id:Nat}{x:ag}:cY A (n+1) c (.block id x) s=match cY A n c x s with
  |some (.exit id',s')=>if id'=id then QQ (.normal,s')else QQ (.exit id',s')
  |r=>r:=rfl
theorem gU{x:ag}:cY A (n+1) c (.loop x) s=match cY A n c x s with | some (.normal,s')=>cY A n c (.loop x) s' | r=>r:=rfl
theorem aCb{id:Nat}:cY A (n+1) c (.exit id) s=QQ (.exit id,s):=rfl
theorem aDZ:cY A (n+1) c .ret s=QQ (.ret,s):=rfl
theorem vI{ts:List (Nat×Nat)}:cY A (n+1) c (.frz ts) s=match nX c s ts with | some s'=>QQ (.normal,s') | none=>none:=rfl
theorem iU{x:aa}{ps:LN}{body:ag}:cY A (n+1) c (.dz x ps body) s=match x.ev s.ρ,c.site ps.head? with
   |.fn f first ay,QQ id=>
    if id<s.H.length/\eZ c s.H=QS then
     match dD A n f (first++.yld id (bH s.H id)::ay) (make s.H id fun v=>.rnd v c.base c.sites ps body s.ρ QT N2)with
     |some (_,H2,wr)=>match H2[id]? with
      |some (.rnd v _ _ _ _ _ QT pend)=>if v=bH s.H id/\eZ c H2=QS then QQ (pend.getD .normal,⟨s.ρ,H2.set id (.gone v),bE c.base s.wr (id::wr)⟩)else N2
      |_=>N2
     |none=>N2
    else N2
   |_,_=>none:=rfl
theorem oK{ev:Ctx->ag->gp->Option (bf×gp)}{H:LO}{args:LA}{r:AV×LO×LN}(h:sO ev H args=QQ r):∃o v xs base sites ps asg body ρ s0 b1 t1 p1 c1 r1 e s,args=.own 0 []::.yld o v::xs/\H[o]? = QQ (.rnd v base sites ps (.seq asg body) ρ QT N2)/\xs.length=ps.length /\ ev ⟨base,sites++[YF+o,YF+v]⟩ asg ⟨dH ρ ps xs,H,[]⟩=QQ (.normal,s0)/\s0.H[o]? = QQ (.rnd v b1 t1 p1 c1 r1 QT N2) /\ ev ⟨base,sites++[YF+o,YF+v]⟩ body ⟨s0.ρ,s0.H.set o (.rnd v b1 t1 p1 c1 r1 QS N2),s0.wr⟩=QQ (e,s) /\ ∃b' s' p' c' r',s.H[o]? = QQ (.rnd v b' s' p' c' r' QS N2) /\ r=(.bool (decide (e=.normal)),s.H.set o (.rnd v b' s' p' c' r' QT (if e=.normal then N2 else QQ e)),FM base (H.length - base)++(o::s.wr)):=by
 unfold sO at h;split at h
 ·rename_i o v xs;split at h
  ·rename_i v' base sites ps asg body ρ hH;split at h
   ·rename_i hc;obtain⟨rfl,ax⟩:=hc;split at h
    ·rename_i s0 xt;split at h
     ·rename_i v1 b1 t1 p1 c1 r1 xu;split at h
      ·rename_i qy;subst qy;split at h
       ·rename_i e s je;split at h
        ·rename_i v2 b' s' p' c' r' hs;split at h
         ·rename_i hv;subst hv;cases h;exact⟨o,_,xs,base,sites,ps,asg,body,ρ,s0,b1,t1,p1,c1,r1,e,s,rfl,hH,ax,xt,xu,je,_,_,_,_,_,hs,rfl⟩
         cases h
        cases h
       cases h
      cases h
     cases h
    cases h
   cases h
  cases h
 cases h
theorem sS{f:Nat}{args:LA}{H:LO}{r:AV×LO×LN}(h:dD A n f args H=QQ r):(∃p v,A.bq f=QQ p/\p args H=QQ v/\r=cT H v) ∨ (∃fn s' e r',A.fn f=QQ fn/\cY A n ⟨H.length,fn.sites⟩ fn.body (nF fn args H)=QQ (e,s')/\(e=.normal∨e=.ret)/\aA4 H.length fn s'=QQ r'/\r=cJ H.length r'/\args.length<=fn.ntmps) ∨ (A.fn f=N2/\sO (cY A n) H args=QQ r):=by
 unfold dD qL at h;split at h
 ·rename_i v hv;cases h;cases hp:A.bq f with
  |none=>grind
  |some p=>grind
 grind
theorem aTA{base:Nat}{H H':LO}{v v':AV}{l:LN}(h:aDR base H v=QQ (v',H',l)):Fr H H' l:=by
 unfold aDR at h;split at h
 ·split at h
  ·cases h;exact .refl _ _
  grind [aDX]
 ·split at h
  ·split at h
   ·cases h;exact Fr.set _ _ _
   cases h;exact .refl _ _
  cases h;exact .refl _ _
 exact aFX h
theorem aMK:∀{vs vs':LA} {H H':LO} {l:LN},aBv H vs=QQ (vs',H',l)->Fr H H' l
 | [],vs',H,H',l,h=>by simp only[aBv,AG,BK]at h;obtain⟨_,rfl,rfl⟩:=h;exact .refl _ _
 |v::vs,vs',H,H',l,h=>by
  unfold aBv at h;split at h
  ·cases h
  rename_i hf;split at h
  ·cases h
  rename_i hr;cases h;exact (aFX hf).trans (aMK hr)
theorem aEL{base:Nat}{fn:bw}{s:gp}{r:AV×LO×LN}(h:aA4 base fn s=QQ r):∃vs,aIS s.H s.ρ fn.results=QQ vs /\ ((∃v v' H' l,vs=[v]/\aDR base s.H v=QQ (v',H',l)/\r=(v',H',bE base s.wr l)) ∨ (∃vs' H' l,vs.length≠1/\aBv s.H vs=QQ (vs',H',l)/\r=(.tup vs',H',bE base s.wr l))):=by
 unfold aA4 at h;split at h
 ·cases h
 ·grind
 rename_i vs bl hv;split at h
 ·rename_i vs' H' l hf;cases h;refine⟨vs,hv,.inr ⟨vs',H',l,fun e=>?_,hf,rfl⟩⟩;obtain⟨x,rfl⟩:=FQ.1 e;grind
 cases h
theorem aP2{base:Nat}{fn:bw}{s:gp}{r:AV×LO×LN}(h:aA4 base fn s=QQ r):FrB base s ⟨s.ρ,r.2.1,r.2.2⟩:=by
 obtain⟨vs,_,⟨v,v',H',l,rfl,hf,rfl⟩ | ⟨vs',H',l,_,hf,rfl⟩⟩:=aEL h
 ·exact FrB.of (aTA hf)
 exact FrB.of (aMK hf)
theorem aK9:∀(l:List (Nat×ah)) (H:LO),Fr H (eU H l) (l.map EM)
 | [],H=>.refl _ _
 | (o,x)::r,H=>(Fr.set H o x).trans (aK9 r (H.set o x))
theorem Fr.more{H H':LO}{wr:LN}(h:Fr H H' wr)(l:LO):Fr H (H'++l) wr:=⟨by have:=h.1;simp;omega,fun o ho hn=>by rw[BM (by have:=h.1;omega)];exact h.2 o ho hn⟩
theorem aEM(jz:∀(c:Ctx) (x:ag) (s:gp) e s',cY A n c x s=QQ (e,s')->FrB c.base s s'):sQ (dD A n):=by
 intro f args H v H' wr h;rcases sS h with⟨p,v1,_,_,hr⟩ | ⟨fn,s',e,r',_,he,_,hf,hr,_⟩ | ⟨_,hr⟩
 ·cases hr;exact (aK9 _ _).more _
 ·have h1:=jz _ _ _ _ _ he;have h2:=h1.trans (aP2 hf);obtain⟨v1,H1,dc⟩:=r';have h3:Fr H H1 dc:=by
   refine⟨?_,fun o ho hn=>?_⟩
   ·have:=h2.1;simp only[nF,BA]at this;omega
   have:=h2.2.2 o (by simp only[nF,BA];omega) ho hn;grind [nF,BM]
  simp only[cJ]at hr;split at hr
  ·cases hr;refine⟨by have:=h3.1;simp;omega,fun o ho hn=>?_⟩;rw[<- h3.2 o ho hn];simp[ho]
  grind
 obtain⟨o,ve,xs,base,sites,ps,asg,body,ρ,s0,b1,t1,p1,c1,r1,e,s1,rfl,hH,ax,xt,xu,je,b',s',p',c',r',hs,pw⟩:=oK hr;simp only[BK]at pw;obtain⟨_,rfl,rfl⟩:=pw;have h0:=jz _ _ _ _ _ xt;have h1:=jz _ _ _ _ _ je;refine⟨by have a0:=h0.1;have a1:=h1.1;grind,fun q hq hn=>?_⟩;simp only[AY,BD,not_or,FC]at hn;obtain⟨lx,xh,Ck⟩:=hn;rw[getElem?_set_ne' _ _ (Ne.symm xh)];have h2:=h1.2.2 q (by have a0:=h0.1;grind) (by grind) Ck;rw[h2];have h3:=h0.2.2 q hq (by grind) fun hm=>Ck (h1.2.1 q hm);grind
theorem fJ:∀(n:Nat) (c:Ctx) (x:ag) (s:gp) e s',cY A n c x s=QQ (e,s')->FrB c.base s s'
 |0,c,x,s,e,s',h=>by rw[gT]at h;cases h
 |n+1,c,x,s,e,s',h=>by
  have az:sQ (dD A n):=aEM (fJ n);cases x with
  |skip=>rw[xB]at h;cases h;exact .refl _ _
  |bad=>rw[qG]at h;cases h
  |region d ops=>
   rw[iS]at h;split at h
   ·rename_i s1 hr;cases h;exact aLC az hr
   cases h
  |seq a b=>
   rw[iD]at h;split at h
   ·rename_i s1 hr;exact (fJ n _ _ _ _ _ hr).trans (fJ n _ _ _ _ _ h)
   exact fJ n _ _ _ _ _ h
  |cond t a b=>
   rw[iT]at h;split at h
   ·exact fJ n _ _ _ _ _ h
   ·exact fJ n _ _ _ _ _ h
   cases h
  |block id b=>
   rw[eP]at h;split at h
   ·rename_i hr;split at h<;>(cases h;exact fJ n _ _ _ _ _ hr)
   exact fJ n _ _ _ _ _ h
  |loop b=>
   rw[gU]at h;split at h
   ·rename_i s1 hr;exact (fJ n _ _ _ _ _ hr).trans (fJ n _ _ _ _ _ h)
   exact fJ n _ _ _ _ _ h
  |exit id=>rw[aCb]at h;cases h;exact .refl _ _
  |ret=>rw[aDZ]at h;cases h;exact .refl _ _
  |frz ts=>
   rw[vI]at h;split at h
   ·rename_i s1 hr;cases h;exact sR _ _ _ hr
   cases h
  |dz x ps body=>
   rw[iU]at h;split at h
   ·rename_i f first ay id hx hid
    split at h
    ·rename_i hc;split at h
     ·rename_i v2 H2 wr kq;split at h
      ·rename_i v b' s' p' c' r' pend hH2;split at h
       ·cases h;have h1:=az _ _ _ _ _ _ kq;have h2:Fr s.H (H2.set id (.gone v)) (id::wr):=by
         refine⟨by have:=h1.1;simp only[make,List.length_set]at this ⊢;exact this,fun q hq hn=>?_⟩;simp only[BD,not_or]at hn;rw[getElem?_set_ne' _ _ (Ne.symm hn.1),h1.2 q (by simpa [make]using hq) hn.2,make,getElem?_set_ne' _ _ (Ne.symm hn.1)]
        exact FrB.of h2
       cases h
      cases h
     cases h
    cases h
   cases h
theorem aKa(n:Nat):sQ (dD A n):=aEM (fJ n)
end
abbrev bN:=Nat->AV
def upd(ρ:bN)(d:Nat)(v:AV):bN:=fun t=>if t=d then v else ρ t
def zX(ρ:bN):Option Nat->AV->bN
 |some d,v=>upd ρ d v
 |none,_=>ρ
def ck(l:LA):bN:=fun t=>(l[t]?).getD .undef
def aa.at(ρ:bN):aa->AV
 |.tmp t=>ρ t
 |.const v=>v
theorem aa.ka(l:LA)(x:aa):x.ev l=x.at (ck l):=by cases x<;>rfl
theorem aa.A4(l:LA):aa.ev l=aa.at (ck l):=funext fun x=>x.ka l
def mK(ρ:bN)(cells:LA):List (Nat×Nat×aa)->Option LA
 | []=>QQ cells
 | (off,size,x)::r=>
  let vs:=(x.at ρ).cells
  if vs.length=size/\off+size<=cells.length/\vs.all AV.ak then mK ρ (nV cells off vs) r else N2
def nZ(ρ:bN)(k:Nat)(rows:List LA):List (Nat×aa)->Option (List LA)
 | []=>QQ rows
 | (i,x)::r=>
  let vs:=(x.at ρ).strip.cells
  if vs.length=k/\i<rows.length/\vs.all AV.still then nZ ρ k (rows.set i vs) r else N2
def mM(ρ:bN)(k:Nat)(rows:List LA):List (Nat×aa)->Option (List LA)
 | []=>QQ rows
 | (i,x)::r=>
  let vs:=(x.at ρ).strip.cells
  if vs.length=k/\i<rows.length/\vs.all AV.ak then mM ρ k (rows.set i vs) r else N2
def vA(H:LO)(ρ:bN):df->Option AV
 |.mov x=>QQ (x.at ρ)
 |.pick c a b=>match c.at ρ with
  |.bool t=>QQ (if t then a.at ρ else b.at ρ)
  |_=>N2
 |.alloc zs=>if zs.all AV.still then QQ (.ep (zs.map AV.aj) 0)else N2
 |.box k x=>
  let vs:=(x.at ρ).strip.cells
  if vs.length=k/\vs.all AV.still then QQ (.ep vs 0)else N2
 |.build zs parts=>(mK ρ zs parts).map .agg
 |.bsl k zs n parts=>(nZ ρ k (AX n zs) parts).map (.sl QS)
 |.mks _ bytes zs len cap=>match len.at ρ,cap.at ρ with
  |.int _ n,.int _ c=>if 0<=n/\n=c/\bP n.toNat bytes then QQ (.sl QS (AX n.toNat (zs.map AV.aj)))else N2
  |_,_=>N2
 |.load k agg x=>match bC H k (x.at ρ)with
  |some cs=>eD agg cs
  |none=>N2
 |.cz x=>match x.at ρ with
  |.ptr o v off=>QQ (.ptr o v off)
  |.vp o v n k i off=>QQ (.vp o v n k i off)
  |.ep row off=>QQ (.ep row off)
  |.fn f a b=>QQ (.fn f a b)
  |_=>N2
 |.ky neg x=>match x.at ρ with
  |.sl _ (_::_) | .sr ..=>QQ (.bool neg)
  |.ar=>QQ (.bool !neg)
  |_=>N2
 |.bin op ek x y=>kJ op ek (x.at ρ) (y.at ρ)
 |.un op x=>unV op (x.at ρ)
 |.conv c x=>pT H c (x.at ρ)
 |.mkf f first ay=>if (first.map (aa.at ρ)).all AV.still&&(ay.map (aa.at ρ)).all AV.still then QQ (.fn f (first.map fun x=>(x.at ρ).aj) (ay.map fun x=>(x.at ρ).aj))else N2
 |.fm x lo hi=>match x.at ρ with
  |.str s=>match dU s.length (lo.map (aa.at ρ)) (hi.map (aa.at ρ)) N2 with
   |some (l,h,_)=>QQ (.str ((s.take h).drop l))
   |none=>N2
  |_=>N2
 |.gw k x lo hi mx=>match x.at ρ with
  |.sl full rows=>match dU rows.length (lo.map (aa.at ρ)) (hi.map (aa.at ρ)) (mx.map (aa.at ρ))with
   |some (l,h,m)=>if dF k rows&&(!mx.isSome || hi.isSome)then QQ (.sl (decide (m=h)&&(mx.isSome || full)) ((rows.take h).drop l))else N2
   |none=>N2
  |.sr o v n=>if mx.isSome then N2 else match dU n (lo.map (aa.at ρ)) (hi.map (aa.at ρ)) N2 with
   |some (l,h,_)=>if hi.isSome&&decide (l=0)then QQ (.srw o v n h)else if h=n then QQ (.srv o v n k l)else N2
   |none=>N2
  |_=>N2
 |.view k x lo=>match x.at ρ with
  |.sl full rows=>match dU rows.length (lo.map (aa.at ρ)) N2 N2 with
   |some (l,h,m)=>if dF k rows then QQ (.sl (decide (m=h)&&full) ((rows.take h).drop l))else N2
   |none=>N2
  |.sr o v n=>match H[o]? with
   |some (.vec v' _ rows)=>if v'=v/\rows.length=n then match iL 0 n (lo.map (aa.at ρ))with
     |some l=>QQ (.srv o v n k l)
     |none=>N2
    else N2
   |_=>N2
  |_=>N2
 |.na n k x lo hi mx=>match x.at ρ with
  |.ep row off=>if off+n*k<=row.length then
    let rows:=aFH k n (row.drop off)
    match dU n (lo.map (aa.at ρ)) (hi.map (aa.at ρ)) (mx.map (aa.at ρ))with
    |some (l,h,m)=>if !mx.isSome || hi.isSome then QQ (.sl (decide (m=h)) ((rows.take h).drop l))else N2
    |none=>N2
   else N2
  |_=>N2
 |.fa off x=>match x.at ρ with
  |.ptr o v off0=>QQ (.ptr o v (off0+off))
  |.vp o v n k i off0=>QQ (.vp o v n k i (off0+off))
  |.ep row off0=>QQ (.ep row (off0+off))
  |_=>N2
 |.fld off k agg x=>match x.at ρ with
  |.agg cs=>if off+k<=cs.length then eD agg ((cs.drop off).take k)else N2
  |_=>N2
 |.iaV x i k=>match x.at ρ,i.at ρ with
  |.sl _ rows,.int _ n=>if 0<=n then match rows[n.toNat]? with
    |some row=>if row.length=k then QQ (.ep row 0)else N2
    |none=>N2
   else N2
  |.sr o v len,.int _ n=>if 0<=n/\n<len then QQ (.vp o v len k n.toNat 0)else N2
  |_,_=>N2
 |.iaA len k x i=>match x.at ρ,i.at ρ with
  |.ptr o v off,.int _ n=>if 0<=n/\n<len then QQ (.ptr o v (off+n.toNat*k))else N2
  |.ep row off,.int _ n=>if 0<=n/\n<len then QQ (.ep row (off+n.toNat*k))else N2
  |_,_=>N2
 |.ixS x i=>match x.at ρ,i.at ρ with
  |.str s,.int _ n=>if 0<=n then match s[n.toNat]? with
    |some b=>QQ (.int .u8 b.toNat)
    |none=>N2
   else N2
  |_,_=>N2
 |.ixA len k agg x i=>match x.at ρ,i.at ρ with
  |.agg cs,.int _ n=>if 0<=n/\n<len/\n.toNat*k+k<=cs.length then eD agg ((cs.drop (n.toNat*k)).take k)else N2
  |_,_=>N2
 |.fg x=>match x.at ρ with
  |.str s=>QQ (.int .i64 s.length)
  |_=>N2
 |.qk x=>match x.at ρ with
  |.sl _ rows=>QQ (.int .i64 rows.length)
  |.sr _ _ n=>QQ (.int .i64 n)
  |.ar=>QQ (.int .i64 0)
  |_=>N2
 |.zb n=>QQ (.int .i64 n)
 |.mm mx xs=>mmV mx (xs.map (aa.at ρ))
 |.ext i x=>match x.at ρ with
  |.tup vs=>vs[i]?
  |_=>N2
 |.km t x=>if (x.at ρ).tn then QQ (.ifc t (x.at ρ))else N2
 |.look zero m k ok=>match m.at ρ with
  |.mp o v=>match H[o]? with
   |some (.map v' es)=>if v'=v then
     match iB (k.at ρ) es 0 with
     |some (QQ (_,x))=>if ok then QQ (.tup [x,.bool QS])else QQ x
     |some N2=>if ok then QQ (.tup [zero,.bool QT])else QQ zero
     |none=>N2
    else N2
   |_=>N2
  |.fmp ks vs=>match iB (k.at ρ) (ks.zip vs) 0 with
   |some (QQ (_,x))=>if ok then QQ (.tup [x,.bool QS])else QQ x
   |some N2=>if ok then QQ (.tup [zero,.bool QT])else QQ zero
   |none=>N2
  |_=>N2
 |_=>N2
def aCc(ρ:bN):df->LN
 |.load _ _ x=>match x.at ρ with
  |.ptr o _ _=>[o]
  |.vp o _ _ _ _ _=>[o]
  |_=>[]
 |.conv .b2s x=>match x.at ρ with
  |.sr o _ _=>[o]
  |.srv o _ _ _ _=>[o]
  |.srw o _ _ _=>[o]
  |_=>[]
 |.look _ m _ _=>match m.at ρ with
  |.mp o _=>[o]
  |_=>[]
 |.view _ x _=>match x.at ρ with
  |.sr o _ _=>[o]
  |_=>[]
 |_=>[]
def xC(ρ:bN)(k:Nat)(H:LO)(rows:List LA):List (Nat×aa)->Option (List LA×LO×LN)
 | []=>QQ (rows,H,[])
 | (i,x)::r=>
  match fix H (x.at ρ)with
  |some (v,H',l)=>
   if v.cells.length=k/\i<rows.length/\v.cells.all AV.still then
    match xC ρ k H' (rows.set i v.cells) r with
    |some (bt,H'',l')=>QQ (bt,H'',l++l')
    |none=>N2
   else N2
  |none=>N2
def aD0(call:Nat->LA->LO->Out)(H:LO)(ρ:bN)(site:Option Nat):df->Out
 |.alloc zs=>match site with
  |some id=>if id<H.length then QQ (.ptr id (bH H id) 0,make H id (.box · zs),[id])else N2
  |none=>N2
 |.gv ty zs=>match site with
  |some id=>if id<H.length then QQ (.ptr id (bH H id) 0,make H id (.cw · ty zs),[id])else N2
  |none=>N2
 |.box k x=>match site with
  |some id=>if id<H.length/\(x.at ρ).cells.length=k/\(x.at ρ).cells.all AV.ak then QQ (.ptr id (bH H id) 0,make H id (.box · (x.at ρ).cells),[id])else N2
  |none=>N2
 |.tbx ty k x=>match site with
  |some id=>if id<H.length/\(x.at ρ).cells.length=k/\(x.at ρ).cells.all AV.ak then QQ (.ptr id (bH H id) 0,make H id (.cw · ty (x.at ρ).cells),[id])else N2
  |none=>N2
 |.store k x v=>if (v.at ρ).cells.length=k/\(v.at ρ).cells.all AV.ak then
   match storeCells H (v.at ρ).cells (x.at ρ)with
   |some (H',wr)=>QQ (.undef,H',wr)
   |none=>N2
  else N2
 |.bsl k zs n parts=>match site with
  |some id=>match mM ρ k (AX n zs) parts with
   |some rows=>if id<H.length then QQ (.sr id (bH H id) n,make H id (.vec · k rows),[id])else N2
   |none=>N2
  |none=>match xC ρ k H (AX n zs) parts with
   |some (rows,H',wr)=>QQ (.sl QS rows,H',wr)
   |none=>N2
 |.mks k bytes zs len cap=>match len.at ρ,cap.at ρ with
  |.int _ n,.int _ c=>
   if 0<=n/\n=c/\bP n.toNat bytes then
    match site with
    |some id=>if id<H.length then QQ (.sr id (bH H id) n.toNat,make H id (.vec · k (AX n.toNat (zs.map AV.aj))),[id])else N2
    |none=>QQ (.sl QS (AX n.toNat (zs.map AV.aj)),H,[])
   else match site with
    |some id=>if n=0/\0<c/\bP c.toNat bytes/\id<H.length then QQ (.sr id (bH H id) 0,make H id (.vec · k []),[id])else N2
    |none=>N2
  |_,_=>N2
 |.app k bytes s x=>eX H site k bytes (s.at ρ) (x.at ρ)
 |.ni ty k bytes s x=>vB H site ty k bytes (s.at ρ) (x.at ρ)
 |.dm f args=>cX call H site (f.at ρ) (args.map (aa.at ρ))
 |.ee f args=>iN call H site (f.at ρ) (args.map (aa.at ρ))
 |.nb tab x args=>match x.at ρ with
  |.ifc t v=>match tab.lookup t with
   |some f=>cX call H site (.fn f [v] []) (args.map (aa.at ρ))
   |none=>N2
  |_=>N2
 |.cpy k x y=>match x.at ρ with
  |.srv o v n k' lo=>match H[o]? with
   |some (.vec v' k2 rows)=>match cG H (y.at ρ)with
    |some new=>if new.isEmpty then QQ (.int .i64 0,H,[])else if v'=v/\rows.length=n/\k2=k/\k'=k/\dF k new/\lo+new.length<=n then
      QQ (.int .i64 (new.length:Nat),H.set o (.vec v k (rows.take lo++new++rows.drop (lo+new.length))),[o])
     else N2
    |none=>N2
   |_=>N2
  |_=>N2
 |.jn=>match site with
  |some id=>if id<H.length then QQ (.mp id (bH H id),make H id (.map · []),[id])else N2
  |none=>N2
 |.ins m k v=>match m.at ρ,k.at ρ with
  |.mp o ver,key=>match H[o]? with
   |some (.map v' es)=>
    if v'=ver/\(aJK key key).isSome/\(v.at ρ).strip.cells.all AV.still then
     match iB key es 0 with
     |some (QQ (i,_))=>QQ (.undef,H.set o (.map ver (es.set i (key,(v.at ρ).strip))),[o])
     |some N2=>QQ (.undef,H.set o (.map ver (es++[(key,(v.at ρ).strip)])),[o])
     |none=>N2
    else N2
   |_=>N2
  |_,_=>N2
 |_=>N2
theorem aD1(l:LA):∀(ps:List (Nat×Nat×aa)) (cells:LA),iA l cells ps=mK (ck l) cells ps
 | [],_=>rfl
 | (off,size,x)::r,cells=>by
  unfold iA mK;simp only[aa.ka,aD1 l r]
theorem aEN(l:LA)(k:Nat):∀(ps:List (Nat×aa)) (rows:List LA),lW l k rows ps=nZ (ck l) k rows ps
 | [],_=>rfl
 | (i,x)::r,rows=>by
  unfold lW nZ;simp only[aa.ka,aEN l k r]
theorem aD2(l:LA)(k:Nat):∀(ps:List (Nat×aa)) (rows:List LA),jW l k rows ps=mM (ck l) k rows ps
 | [],_=>rfl
 | (i,x)::r,rows=>by
  unfold jW mM;simp only[aa.ka,aD2 l k r]
theorem aI8(l:LA)(k:Nat):∀(ps:List (Nat×aa)) (H:LO) (rows:List LA),nW l k H rows ps=xC (ck l) k H rows ps
 | [],_,_=>rfl
 | (i,x)::r,H,rows=>by
  unfold nW xC;simp only[aa.ka,aI8 l k r];rfl
theorem aSN(H:LO)(l:LA)(o:df):evR H l o=vA H (ck l) o:=by cases o<;>simp only[evR,vA,aa.ka,aa.A4,aD1,aEN]<;>rfl
theorem aTB(l:LA)(o:df):aIR l o=aCc (ck l) o:=by
 cases o with
 |conv c x=>cases c<;>simp only[aIR,aCc,aa.ka]<;>rfl
 |_=>first | rfl | (simp only[aIR,aCc,aa.ka];done)|(simp only[aIR,aCc,aa.ka];rfl)
theorem aSO(call:Nat->LA->LO->Out)(H:LO)(l:LA)(site:Option Nat)(o:df):evW call H l site o=aD0 call H (ck l) site o:=by cases o<;>simp only[evW,aD0,aa.ka,aa.A4,aD2,aI8]<;>rfl
def aP3(c1 c2:Nat->LA->LO->Out):Prop:=∀f args H r,c1 f args H=QQ r->c2 f args H=QQ r
section
variable {c1 c2:Nat->LA->LO->Out}(hle:aP3 c1 c2)
include hle
theorem aEO{H:LO}{site:Option Nat}{f:AV}{args:LA}{r}(h:cX c1 H site f args=QQ r):cX c2 H site f args=QQ r:=by
 unfold cX at h ⊢;split at h
 ·split at h
  ·cases h
  split at h
  ·cases h
  rename_i hc;rw[hle _ _ _ _ hc];exact h
 ·split at h
  ·cases h
  split at h
  ·cases h
  rename_i hc;rw[hle _ _ _ _ hc];exact h
 cases h
theorem aKb{H:LO}{site:Option Nat}{f:AV}{args:LA}{r}(h:iN c1 H site f args=QQ r):iN c2 H site f args=QQ r:=by
 unfold iN at h ⊢;split at h
 ·split at h
  ·cases h
  rename_i hc;rw[hle _ _ _ _ hc];exact h
 cases h
theorem aML{H:LO}{ρ:LA}{site:Option Nat}{o:df}{r}(h:evW c1 H ρ site o=QQ r):evW c2 H ρ site o=QQ r:=by
 cases o<;>first | exact h | skip
 ·exact aEO hle h
 ·exact aKb hle h
 rename_i tab x args;simp only[evW]at h ⊢;generalize aa.ev ρ x=y at h ⊢;cases y with
 |ifc t v=>
  dsimp only at h ⊢;generalize tab.lookup t=z at h ⊢;cases z with
  |none=>cases h
  |some f=>exact aEO hle h
 |_=>cases h
theorem aKc{c:Ctx}{d:Bool}{H:LO}{ρ:LA}{o:ae}{r}(h:aOI c1 c d H ρ o=QQ r):aOI c2 c d H ρ o=QQ r:=by
 unfold aOI at h ⊢;split at h
 ·rename_i hw;rw[Zy hw];exact aML hle h
 rename_i hw;rw[Zx hw];exact h
theorem aBa{c:Ctx}:∀{ops:List ae} {s s':gp},jL c1 c ops s=QQ s'->jL c2 c ops s=QQ s'
 | [],_,_,h=>h
 |o::r,s,s',h=>by
  unfold jL at h ⊢;split at h
  ·rename_i hg;rw[Zy hg];split at h
   ·rename_i hw;rw[Zy hw];split at h
    ·rename_i he;rw[aKc hle he];exact aBa h
    cases h
   rename_i hw;rw[Zx hw];exact aBa h
  cases h
theorem aI9{c:Ctx}{H:LO}{ρ:LA}{o:ae}{r}(h:aFJ c1 c H ρ o=QQ r):aFJ c2 c H ρ o=QQ r:=by
 unfold aFJ at h ⊢;split at h
 ·exact h
 split at h
 ·rename_i hw;rw[Zy hw];split at h
  ·rename_i he;rw[aML hle he];exact h
  cases h
 rename_i hw;rw[Zx hw];exact h
theorem xD{c:Ctx}:∀{i:Nat} {ops:List ae} {s:gp} {r},nT c1 c i ops s=QQ r->nT c2 c i ops s=QQ r
 |_,[],_,_,h=>h
 |i,o::r,s,s',h=>by
  unfold nT at h ⊢;split at h
  ·rename_i hg;rw[Zy hg];split at h
   ·rename_i hw;rw[Zy hw];split at h
    ·rename_i he;rw[aI9 hle he];dsimp only;split at h
     ·rename_i hr;rw[xD hr];exact h
     cases h
    cases h
   rename_i hw;rw[Zx hw];exact xD h
  cases h
theorem aJ4{c:Ctx}{d:Bool}{ops:List ae}{s s':gp}(h:iO c1 c d ops s=QQ s'):iO c2 c d ops s=QQ s':=by
 unfold iO at h ⊢;split at h
 ·rename_i hd;rw[Zy hd];split at h
  ·rename_i hp;split at h
   ·rename_i hr;rw[xD hle hr];exact h
   cases h
  cases h
 rename_i hd;rw[Zx hd];split at h
 ·cases h
 rename_i O9;rw[Zx O9];exact aBa hle h
end
section
variable {A:af}
theorem oU{n f:Nat}{args:LA}{H:LO}{fn:bw}{s':gp}{e:bf}{r}(hp:(A.bq f).bind (· args H)=N2)(hf:A.fn f=QQ fn) (hc:cY A n ⟨H.length,fn.sites⟩ fn.body (nF fn args H)=QQ (e,s')) (he:e=.normal∨e=.ret) (hr:aA4 H.length fn s'=QQ r) (hN:args.length<=fn.ntmps):dD A n f args H=QQ (cJ H.length r):=by unfold dD qL;rw[hp,hf];dsimp only;rw[Zy hN,hc];rcases he with rfl | rfl<;>(dsimp only;rw[hr])
theorem aAe{ev:Ctx->ag->gp->Option (bf×gp)}{H:LO}{o v:Nat}{xs:LA}:sO ev H (.own 0 []::.yld o v::xs)=match H[o]? with
  |some (.rnd v' base sites ps (.seq asg body) ρ QT N2)=>
   if v'=v/\xs.length=ps.length then
    match ev ⟨base,sites++[YF+o,YF+v]⟩ asg ⟨dH ρ ps xs,H,[]⟩ with
    |some (.normal,s0)=>match s0.H[o]? with
     |some (.rnd v1 b1 t1 p1 c1 r1 QT N2)=>
      if v1=v then
       match ev ⟨base,sites++[YF+o,YF+v]⟩ body ⟨s0.ρ,s0.H.set o (.rnd v b1 t1 p1 c1 r1 QS N2),s0.wr⟩ with
       |some (e,s)=>match s.H[o]? with
        |some (.rnd v2 b2 s2 p2 c2 r2 QS N2)=>if v2=v then QQ (.bool (decide (e=.normal)),s.H.set o (.rnd v b2 s2 p2 c2 r2 QT (if e=.normal then N2 else QQ e)),FM base (H.length - base)++(o::s.wr))else N2
        |_=>N2
       |none=>N2
      else N2
     |_=>N2
    |_=>N2
   else N2
  |_=>none:=rfl
theorem aJ5{e1 e2:Ctx->ag->gp->Option (bf×gp)}(he:∀c x s r,e1 c x s=QQ r->e2 c x s=QQ r){H:LO}{args:LA}{r}(h:sO e1 H args=QQ r):sO e2 H args=QQ r:=by obtain⟨o,v,xs,base,sites,ps,asg,body,ρ,s0,b1,t1,p1,c1,r1,e,s,rfl,hH,hl,xt,xu,je,b',s',p',c',r',hs,rfl⟩:=oK h;rw[aAe,hH];dsimp only;rw[Zy ⟨rfl,hl⟩,he _ _ _ _ xt];dsimp only;rw[xu];dsimp only;rw[Zy rfl,he _ _ _ _ je];dsimp only;rw[hs];dsimp only;rw[Zy rfl]
theorem tQ{n m:Nat}(jz:∀c x s r,cY A n c x s=QQ r->cY A m c x s=QQ r):aP3 (dD A n) (dD A m):=by
 intro f args H r h;unfold dD qL at h;split at h
 ·rename_i v hv;cases h;unfold dD qL;rw[hv]
 rename_i hv;split at h
 ·rename_i hf;unfold dD qL;rw[hv,hf];exact aJ5 jz h
 rename_i fn hf;split at h;rotate_left
 ·cases h
 rename_i hN;split at h
 ·rename_i s' he;split at h
  ·rename_i r' hr;cases h;exact oU hv hf (jz _ _ _ _ he) (.inl rfl) hr hN
  cases h
 ·rename_i s' he;split at h
  ·rename_i r' hr;cases h;exact oU hv hf (jz _ _ _ _ he) (.inr rfl) hr hN
  cases h
 cases h
theorem eJ:∀{n m:Nat},n<=m->∀(c:Ctx) (x:ag) (s:gp) r,cY A n c x s=QQ r->cY A m c x s=QQ r
 |0,_,_,c,x,s,r,h=>by rw[gT]at h;cases h
 |n+1,0,hn,_,_,_,_,_=>by omega
 |n+1,m+1,hn,c,x,s,r,h=>by
  have ih:=eJ (n:=n) (m:=m) omT;cases x with
  |skip=>exact h
  |bad=>exact h
  |region d ops=>
   rw[iS]at h ⊢;split at h
   ·rename_i hr;rw[aJ4 (tQ ih) hr];exact h
   cases h
  |seq a b=>
   rw[iD]at h ⊢;split at h
   ·rename_i hr;rw[ih _ _ _ _ hr];exact ih _ _ _ _ h
   rename_i bl;rw[ih _ _ _ _ h];split
   ·rename_i D0;exact (bl _ (h.trans D0)).elim
   rfl
  |cond t a b=>
   rw[iT]at h ⊢;split at h
   ·exact ih _ _ _ _ h
   ·exact ih _ _ _ _ h
   cases h
  |block id b=>
   rw[eP]at h ⊢;split at h
   ·rename_i hr;rw[ih _ _ _ _ hr];exact h
   rename_i bl;rw[ih _ _ _ _ h];split
   ·rename_i D0;exact (bl _ _ (h.trans D0)).elim
   rfl
  |loop b=>
   rw[gU]at h ⊢;split at h
   ·rename_i hr;rw[ih _ _ _ _ hr];exact ih _ _ _ _ h
   rename_i bl;rw[ih _ _ _ _ h];split
   ·rename_i D0;exact (bl _ (h.trans D0)).elim
   rfl
  |exit id=>exact h
  |ret=>exact h
  |frz ts=>exact h
  |dz x ps body=>
   rw[iU]at h ⊢;split at h
   ·split at h
    ·rename_i hc;rw[Zy hc];split at h
     ·rename_i kq;rw[tQ ih _ _ _ _ kq];exact h
     cases h
    cases h
   cases h
theorem oA{n m:Nat}(h:n<=m):aP3 (dD A n) (dD A m):=tQ (eJ h)
noncomputable def aG(A:af)(f:Nat)(args:LA)(H:LO):Out:=
 open Classical in if h:∃n r,dD A n f args H=QQ r then QQ h.choose_spec.choose else N2
theorem oL{n f:Nat}{args:LA}{H:LO}{r}(h:dD A n f args H=QQ r):aG A f args H=QQ r:=by
 have mn:∃n r,dD A n f args H=QQ r:=⟨n,r,h⟩;unfold aG;rw[dif_pos mn];have h2:=mn.choose_spec.choose_spec;rcases PI n mn.choose with hn | hn
 ·exact h2.symm.trans (oA hn _ _ _ _ h)
 have h3:=oA hn _ _ _ _ h2;exact h3.symm.trans h
theorem oM{f:Nat}{args:LA}{H:LO}{r}(h:aG A f args H=QQ r):∃n,dD A n f args H=QQ r:=by
 unfold aG at h;split at h
 ·rename_i mn;cases h;exact⟨_,mn.choose_spec.choose_spec⟩
 cases h
end
theorem nG{l:LA}{d:Nat}{v:AV}(h:d<l.length):ck (l.set d v)=upd (ck l) d v:=by
 funext t;unfold ck upd;by_cases e:t=d
 ·subst e;simp[h]
 rw[Zx e,List.getElem?_set_ne (Ne.symm e)]
def zE(ρ:bN):Option (Option Nat×Bool)->Option Bool
 |none=>QQ QS
 |some (N2,_)=>N2
 |some (QQ t,want)=>match ρ t with
  |.bool b=>QQ (b==want)
  |.tup []=>QQ QT
  |_=>N2
theorem aKd(l:LA)(o:ae):zE (ck l) o.guard=if pF l o then QQ (wanted l o)else none:=by
 unfold zE pF wanted ck;cases hg:o.guard with
 |none=>simp
 |some p=>
  obtain⟨t,want⟩:=p;cases t with
  |none=>simp
  |some t=>
   simp only;cases ht:l[t]? with
   |none=>simp
   |some v=>cases v with
    |tup vs=>cases vs<;>simp
    |_=>simp
def nB(call:Nat->LA->LO->Out)(site:Option Nat)(inDraw:Bool)(ρ:bN)(H:LO)(op:df):Out:=
 if isW site inDraw op then aD0 call H ρ site op
 else match vA H ρ op with
  |some v=>QQ (v,H,[])
  |none=>N2
theorem aR9(call:Nat->LA->LO->Out)(c:Ctx)(d:Bool)(H:LO)(l:LA)(o:ae):aOI call c d H l o=nB call (c.site o.dst) d (ck l) H o.op:=by unfold aOI nB;rw[aSO,aSN];rfl
def aP4(N:Nat)(o:ae):Bool:=match o.dst with
 |some d=>decide (d<N)
 |none=>QS
theorem sT{l:LA}{o:ae}{v:AV}(h:aP4 l.length o=QS):ck (bg l o.dst v)=zX (ck l) o.dst v:=by
 unfold aP4 at h;unfold bg zX;cases hd:o.dst with
 |none=>rfl
 |some d=>rw[hd]at h;simp only[decide_eq_true_eq]at h;exact nG h
section
variable (call:Nat->LA->LO->Out)(c:Ctx)
def aD3:List ae->bN->LO->LN->(bN->LO->LN->Prop)->Prop | [],ρ,H,wr,K=>K ρ H wr | o::r,ρ,H,wr,K=>match zE ρ o.guard with | none=>False | some QT=>aD3 r (zX ρ o.dst (.tup [])) H wr K | some QS=>match nB call (c.site o.dst) QT ρ H o.op with | none=>False | some (v,H',w)=>aD3 r (zX ρ o.dst v) H' (bE c.base wr w) K
def oB(site:Option Nat)(ρ:bN)(H:LO)(op:df):Option (AV×LO×LN×Option LN):=
 match op,site with
 |.alloc _,QQ id=>QQ (.ptr id ((H[id]?).elim 0 ah.ver) 0,H,[id],N2)
 |op,site=>
  if isW site QS op then
   match aD0 call H ρ site op with
   |some (v,H',wr)=>if H'.length=H.length then QQ (v,H',[],QQ wr)else N2
   |none=>N2
  else match vA H ρ op with
   |some v=>QQ (v,H,aCc ρ op,N2)
   |none=>N2
theorem aRa(H:LO)(l:LA)(o:ae):aFJ call c H l o=oB call (c.site o.dst) (ck l) H o.op:=by unfold aFJ oB;simp only[aTB,aSN,aSO];rfl
def wpD(aq:LN):Nat->List ae->bN->LO->LN->(bN->LO->LN->Log->Prop)->Prop
 |_,[],ρ,H,wr,K=>K ρ H wr []
 |i,o::r,ρ,H,wr,K=>match zE ρ o.guard with
  |none=>False
  |some QT=>wpD aq (i+1) r (zX ρ o.dst (.tup [])) H wr K
  |some QS=>match oB call (c.site o.dst) ρ H o.op with
   |none=>False
   |some (v,H',rd,w)=>wpD aq (i+1) r (zX ρ o.dst v) H' (bE c.base wr (w.getD []))
    (if aq.contains i then fun ρ H wr log=>K ρ H wr ((i,rd,w)::log)else K)
end
def looks(site:Option Nat):df->Bool
 |.load .. | .look .. | .conv .. | .view ..=>QS
 |.alloc _=>site.isSome
 |_=>QT
def aBG(c:Ctx)(o:ae):Bool:=match o.op,c.site o.dst with
 |.alloc _,QQ _=>QS
 |_,site => !isW site QS o.op
def aG4(c:Ctx)(aq:LN)(o:ae)(i:Nat)(p:ae)(j:Nat):Bool:=
 p.pre.contains i || (aq.contains i&&aq.contains j) ||
 (aBG c o&&aBG c p) ||
 (aBG c o && !looks (c.site o.dst) o.op) || (aBG c p && !looks (c.site p.dst) p.op)
def aCd(c:Ctx)(aq:LN):Nat->List ae->Bool
 |_,[]=>QS
 |i,o::r=>((r.zipIdx (i+1)).all fun(p,j)=>aG4 c aq o i p j)&&aCd c aq (i+1) r
theorem aLE{ρ:bN}{op:df}{site:Option Nat}(h:looks site op=QT):aCc ρ op=[]:=by cases op<;>first | rfl | (simp[looks]at h)
def Ent(c:Ctx)(e:Nat×LN×Option LN)(o:ae):Prop:=
 (aBG c o=QS->e.2.2=N2)/\(aBG c o=QS->looks (c.site o.dst) o.op=QT->e.2.1=[])
theorem aP5{call:Nat->LA->LO->Out}{c:Ctx}{ρ:bN}{H:LO}{o:ae}{v H' rd w}(i:Nat)(h:oB call (c.site o.dst) ρ H o.op=QQ (v,H',rd,w)):Ent c (i,rd,w) o:=by
 unfold oB at h;unfold Ent aBG;split at h
 ·rename_i h1 h2;cases h;refine⟨fun _=>rfl,fun _ hl=>?_⟩;rw[h2]at hl;simp[h1,looks]at hl
 split at h
 ·rename_i hw;constructor
  ·intro hh;simp[hw]at hh
  intro hh;simp[hw]at hh
 split at h
 ·cases h;refine⟨fun _=>rfl,fun _ hl=>aLE hl⟩
 cases h
def tR(c:Ctx):Nat->List ae->Log->Prop
 |_,[],log=>log=[]
 |i,o::r,log=>tR c (i+1) r log∨∃rd w log',log=(i,rd,w)::log'/\Ent c (i,rd,w) o/\tR c (i+1) r log'
theorem tR.mem{c:Ctx}:∀{i:Nat} {ops:List ae} {log:Log},tR c i ops log->∀e∈log,∃o,(o,e.1)∈ops.zipIdx i/\Ent c e o
 |_,[],_,h,e,he=>by rw[tR]at h;subst h;cases he
 |i,o::r,log,h,e,he=>by
  unfold tR at h;rw[NX];rcases h with h | ⟨rd,w,log',rfl,h1,h2⟩
  ·obtain⟨p,hp,hq⟩:=h.mem e he;exact⟨p,BZ _ hp,hq⟩
  rcases BD.1 he with rfl | he
  ·exact⟨o,List.mem_cons_self,h1⟩
  obtain⟨p,hp,hq⟩:=h2.mem e he;exact⟨p,BZ _ hp,hq⟩
theorem aNN{ops:List ae}{p:ae}{j:Nat}(h:(p,j)∈ops.zipIdx):((ops[j]?).map ae.pre).getD []=p.pre:=by have:=List.mem_zipIdx h;simp only[FF,Nat.sub_zero,BC,true_and]at this;obtain⟨h1,h2⟩:=this;rw[AP h1,<- h2];rfl
theorem xE{c:Ctx}{aq:LN}{all:List ae}:∀{i:Nat} {ops:List ae} {log:Log},tR c i ops log->aCd c aq i ops=QS ->(∀p∈ops.zipIdx i,p∈all.zipIdx) ->eH (fun j=>((all[j]?).map ae.pre).getD []) (log.filter fun e=>aq.contains e.1)=QS ->eH (fun j=>((all[j]?).map ae.pre).getD []) log=QS
 |_,[],log,h,_,_,_=>by rw[tR]at h;subst h;rfl
 |i,o::r,log,h,hp,iv,hk=>by
  unfold aCd at hp;rw[AI]at hp;unfold tR at h;rw[NX]at iv;rcases h with h | ⟨rd,w,log',rfl,h1,h2⟩
  ·exact xE h hp.2 (fun p hp=>iv p (BZ _ hp)) hk
  unfold eH;rw[AI];constructor
  ·rw[AO];rintro⟨j,rd',w'⟩ he;obtain⟨p,Hw,Cl⟩:=h2.mem _ he;have Eg:=aNN (iv _ (BZ _ Hw));have V3:=(AO.1 hp.1) _ Hw;dsimp only at Eg V3 ⊢;rw[Eg];unfold aG4 at V3;simp only[EA,AI,KB]at V3;rcases V3 with (((h | ⟨hi,hj⟩) | ⟨ho,hq⟩) | ⟨ho,hl⟩) | ⟨hq,hl⟩
   ·simp only[h,Bool.true_or]
   ·have z8:eH (fun j=>((all[j]?).map ae.pre).getD []) ((i,rd,w)::log'.filter fun e=>aq.contains e.1)=true:=by
     rw[JV]at hk;simp only[hi,Zv]at hk;exact hk
    unfold eH at z8;rw[AI]at z8;have:=(AO.1 z8.1) (j,rd',w') (by rw[OK];exact⟨he,hj⟩);dsimp only at this;rw[Eg]at this;exact this
   ·have e1:w=none:=h1.1 ho;have e2:w'=none:=Cl.1 hq;subst e1;subst e2;simp
   ·have e1:w=none:=h1.1 ho;have e2:rd=[]:=h1.2 ho hl;subst e1;subst e2;cases w'<;>simp[dG]
   have e1:w'=none:=Cl.1 hq;have e2:rd'=[]:=Cl.2 hq hl;subst e1;subst e2;cases w<;>simp[dG]
  refine xE h2 hp.2 (fun p hp=>iv p (BZ _ hp)) ?_;rw[JV]at hk;split at hk
  ·unfold eH at hk;rw[AI]at hk;exact hk.2
  exact hk
section
variable {A:af}
theorem aIa{H:LO}{site:Option Nat}{f:AV}{args:LA}{r}(h:cX (aG A) H site f args=QQ r):∃n,cX (dD A n) H site f args=QQ r:=by
 unfold cX at h;split at h
 all_goals grind [oM,cX]
theorem aNO{H:LO}{site:Option Nat}{f:AV}{args:LA}{r}(h:iN (aG A) H site f args=QQ r):∃n,iN (dD A n) H site f args=QQ r:=by unfold iN at h;grind [oM,iN]
theorem aP6{H:LO}{ρ:bN}{site:Option Nat}{o:df}{r}(h:aD0 (aG A) H ρ site o=QQ r):∃n,aD0 (dD A n) H ρ site o=QQ r:=by
 cases o<;>first | exact⟨0,h⟩ | skip
 ·exact aIa h
 ·exact aNO h
 rename_i tab x args;simp only[aD0]at h ⊢;generalize aa.at ρ x=y at h ⊢;cases y with
 |ifc t v=>
  dsimp only at h ⊢;generalize tab.lookup t=z at h ⊢;cases z with
  |none=>cases h
  |some f=>exact aIa h
 |_=>cases h
theorem aRb{site:Option Nat}{d:Bool}{H:LO}{ρ:bN}{o:df}{r}(h:nB (aG A) site d ρ H o=QQ r):∃n,nB (dD A n) site d ρ H o=QQ r:=by
 unfold nB at h;split at h
 all_goals simp_all [aP6,nB,Zy,Zx]
theorem aRc{site:Option Nat}{H:LO}{ρ:bN}{o:df}{r}(h:oB (aG A) site ρ H o=QQ r):∃n,oB (dD A n) site ρ H o=QQ r:=by
 unfold oB at h;split at h
 ·exact⟨0,h⟩
 rename_i bl;split at h
 ·rename_i hw;split at h
  ·rename_i he;obtain⟨n,hn⟩:=aP6 he;refine⟨n, ?_⟩;unfold oB;grind
  cases h
 rename_i hw;refine⟨0, ?_⟩;unfold oB;grind
theorem aCe{c:Ctx}:∀{ops:List ae} {l:LA} {H:LO} {wr:LN} {K},aD3 (aG A) c ops (ck l) H wr K->(ops.all (aP4 l.length))=QS ->∃n s',jL (dD A n) c ops ⟨l,H,wr⟩=QQ s'/\s'.ρ.length=l.length/\K (ck s'.ρ) s'.H s'.wr
 | [],l,H,wr,K,h,_=>⟨0,⟨l,H,wr⟩,rfl,rfl,h⟩
 |o::r,l,H,wr,K,h,hd=>by
  rw[ES,AI]at hd;unfold aD3 at h;rw[aKd]at h;split at h
  ·cases h
  ·rename_i hg;split at hg
   ·rename_i hok;rw[AG]at hg;rw[<- sT hd.1]at h;obtain⟨n,s',h1,h2,h3⟩:=aCe h (by rw[fH];exact hd.2);refine⟨n,s', ?_,by rw[h2,fH],h3⟩;unfold jL;grind
   cases hg
  rename_i hg;split at hg
  ·rename_i hok;rw[AG]at hg;split at h
   ·cases h
   rename_i v H' w hs;obtain⟨n1,lx⟩:=aRb hs;rw[<- sT hd.1]at h;obtain⟨n2,s',h1,h2,h3⟩:=aCe h (by rw[fH];exact hd.2);refine⟨max n1 n2,s', ?_,by rw[h2,fH],h3⟩;unfold jL;rw[Zy hok,Zy hg];have e1:=aKc (oA (GJ n1 n2)) ((aR9 (dD A n1) c QT H l o).trans lx);dsimp only;rw[e1];exact aBa (oA (GC n1 n2)) h1
  cases hg
theorem aG5{c:Ctx}{aq:LN}:∀{ops:List ae} {i:Nat} {l:LA} {H:LO} {wr:LN} {K},wpD (aG A) c aq i ops (ck l) H wr K->(ops.all (aP4 l.length))=QS ->∃n s' log,nT (dD A n) c i ops ⟨l,H,wr⟩=QQ (s',log)/\s'.ρ.length=l.length/\tR c i ops log/\K (ck s'.ρ) s'.H s'.wr (log.filter fun e=>aq.contains e.1)
 | [],i,l,H,wr,K,h,_=>⟨0,⟨l,H,wr⟩,[],rfl,rfl,rfl,h⟩
 |o::r,i,l,H,wr,K,h,hd=>by
  rw[ES,AI]at hd;unfold wpD at h;rw[aKd]at h;split at h
  ·cases h
  ·rename_i hg;split at hg
   ·rename_i hok;rw[AG]at hg;rw[<- sT hd.1]at h;obtain⟨n,s',log,h1,h2,h3,h4⟩:=aG5 h (by rw[fH];exact hd.2);refine⟨n,s',log, ?_,by rw[h2,fH],.inl h3,h4⟩;unfold nT;grind
   cases hg
  rename_i hg;split at hg
  ·rename_i hok;rw[AG]at hg;split at h
   ·cases h
   rename_i v H' rd w hs;obtain⟨n1,lx⟩:=aRc hs;rw[<- sT hd.1]at h;obtain⟨n2,s',log,h1,h2,h3,h4⟩:=aG5 h (by rw[fH];exact hd.2);refine⟨max n1 n2,s',(i,rd,w)::log, ?_,by rw[h2,fH],.inr ⟨rd,w,log,rfl,aP5 i hs,h3⟩, ?_⟩
   ·unfold nT;rw[Zy hok,Zy hg];have e1:=aI9 (oA (GJ n1 n2)) ((aRa (dD A n1) c H l o).trans lx);dsimp only;rw[e1];dsimp only;rw[xD (oA (GC n1 n2)) h1]
   grind
  cases hg
def Wp(A:af)(N:Nat)(c:Ctx)(x:ag)(ρ:bN)(H:LO)(wr:LN)(Q:bf->bN->LO->LN->Prop):Prop:=
 ∀l:LA,l.length=N->ck l=ρ->∃n e s',cY A n c x ⟨l,H,wr⟩=QQ (e,s')/\s'.ρ.length=N/\Q e (ck s'.ρ) s'.H s'.wr
def aVH(H:LO)(v:AV):Option (AV×LO×LN):=match fix H v with
 |some r=>QQ r
 |none=>aA3 H v
def aD4(H:LO)(k:Nat)(v:AV):Option (LO×LN):=match pE H v with
 |some r=>QQ r
 |none=>match bC H k v with
  |some cs=>match fix H (.agg cs)with
   |some (.agg cs',H',l)=>match storeCells H' cs' v with
    |some (H'',l')=>QQ (H'',l++l')
    |none=>N2
   |_=>N2
  |none=>N2
def aD5(c:Ctx):List (Nat×Nat)->bN->LO->LN->(bN->LO->LN->Prop)->Prop
 | [],ρ,H,wr,K=>K ρ H wr
 | (k+1,t)::r,ρ,H,wr,K=>
  if (ρ t).iy then aD5 c r ρ H wr K else
  match aD4 H (k+1) (ρ t)with
  |some (H',l)=>aD5 c r ρ H' (bE c.base wr l) K
  |none=>False
 | (0,t)::r,ρ,H,wr,K=>
  match aVH H (ρ t)with
  |some (v,H',l)=>aD5 c r (upd ρ t v) H' (bE c.base wr l) K
  |none=>False
theorem aTC{H:LO}{v:AV}{r}(h:fix H v=QQ r):aMD H v=QQ r:=by unfold aMD;rw[h]
theorem aTD{H:LO}{v:AV}{r}(h:aVH H v=QQ r):aMD H v=QQ r:=by unfold aVH at h;unfold aMD;grind [fix,aA3]
theorem qP{c:Ctx}:∀{ts:List (Nat×Nat)} {l:LA} {H:LO} {wr:LN} {K},aD5 c ts (ck l) H wr K->(ts.all fun p=>decide (p.2<l.length))=QS ->∃s',nX c ⟨l,H,wr⟩ ts=QQ s'/\s'.ρ.length=l.length/\K (ck s'.ρ) s'.H s'.wr
 | [],l,H,wr,K,h,_=>⟨⟨l,H,wr⟩,rfl,rfl,h⟩
 | (k+1,t)::r,l,H,wr,K,h,hd=>by
  rw[ES,AI]at hd;unfold aD5 at h;have e:ck l t=(l[t]?).getD .undef:=rfl;rw[e]at h;split at h
  ·rename_i hc;obtain⟨s',h1,h2,h3⟩:=qP h hd.2;refine⟨s', ?_,h2,h3⟩;unfold nX;grind
  rename_i hc;unfold aD4 at h;cases hk:pE H ((l[t]?).getD .undef)with
  |some x=>rw[hk]at h;obtain⟨s',h1,h2,h3⟩:=qP h hd.2;refine⟨s', ?_,h2,h3⟩;unfold nX;grind
  |none=>
   rw[hk]at h;dsimp only at h;cases hr:bC H (k+1) ((l[t]?).getD .undef)with
   |none=>rw[hr]at h;exact h.elim
   |some cs=>
    rw[hr]at h;dsimp only at h;cases hf:fix H (.agg cs)with
    |none=>rw[hf]at h;exact h.elim
    |some x=>
     obtain⟨v,H',l1⟩:=x;rw[hf]at h;cases v<;>try exact h.elim
     rename_i cs';dsimp only at h;cases hs:storeCells H' cs' ((l[t]?).getD .undef)with
     |none=>rw[hs]at h;exact h.elim
     |some y=>rw[hs]at h;obtain⟨s',h1,h2,h3⟩:=qP h hd.2;refine⟨s', ?_,h2,h3⟩;simp_all [nX,Zx,aTC]
 | (0,t)::r,l,H,wr,K,h,hd=>by
  rw[ES,AI]at hd;unfold aD5 at h;have e:ck l t=(l[t]?).getD .undef:=rfl;rw[e]at h;split at h
  ·rename_i v H' l1 hf;have ht:t<l.length:=by simpa using hd.1
   rw[<- nG ht]at h;obtain⟨s',h1,h2,h3⟩:=qP h (by grind);grind [nX,aTD]
  exact h.elim
def aBH(c:Ctx)(ops:List ae):LN:=
 let z:=ops.zipIdx
 z.filterMap fun(o,i)=>if z.all fun(p,j)=>if i<j then aG4 c [] o i p j else if j<i then aG4 c [] p j o i else QS then N2 else QQ i
def wpc(A:af)(N:Nat)(c:Ctx):ag->bN->LO->LN->(bf->bN->LO->LN->Prop)->Prop
 |.skip,ρ,H,wr,Q=>Q .normal ρ H wr
 |.bad,_,_,_,_=>False
 |.region QT ops,ρ,H,wr,Q=>aD3 (aG A) c ops ρ H wr (Q .normal)
 |.region QS ops,ρ,H,wr,Q=>match cS c H ops with
  |some H0=>wpD (aG A) c (aBH c ops) 0 ops ρ H0 wr fun ρ H wr log=>eH (fun j=>((ops[j]?).map ae.pre).getD []) log=QS/\Q .normal ρ H wr
  |none=>False
 |.seq a b,ρ,H,wr,Q=>wpc A N c a ρ H wr fun e ρ H wr=>match e with
  |.normal=>wpc A N c b ρ H wr Q
  |e=>Q e ρ H wr
 |.cond t a b,ρ,H,wr,Q=>match t.at ρ with
  |.bool QS=>wpc A N c a ρ H wr Q
  |.bool QT=>wpc A N c b ρ H wr Q
  |_=>False
 |.block id b,ρ,H,wr,Q=>wpc A N c b ρ H wr fun e ρ H wr=>match e with
  |.exit id'=>if id'=id then Q .normal ρ H wr else Q (.exit id') ρ H wr
  |e=>Q e ρ H wr
 |.loop b,ρ,H,wr,Q=>Wp A N c (.loop b) ρ H wr Q
 |.exit id,ρ,H,wr,Q=>Q (.exit id) ρ H wr
 |.ret,ρ,H,wr,Q=>Q .ret ρ H wr
 |.frz ts,ρ,H,wr,Q=>aD5 c ts ρ H wr (Q .normal)
 |.dz x ps b,ρ,H,wr,Q=>Wp A N c (.dz x ps b) ρ H wr Q
def dK(N:Nat)(c:Ctx):ag->Bool
 |.region d ops=>ops.all (aP4 N)&&(!d || (aOK ops&&aCd c (aBH c ops) 0 ops))
 |.seq a b=>dK N c a&&dK N c b
 |.cond _ a b=>dK N c a&&dK N c b
 |.block _ b=>dK N c b
 |.loop b=>dK N c b
 |.frz ts=>ts.all fun p=>decide (p.2<N)
 |_=>QS
theorem kM{N:Nat}{c:Ctx}:∀{x:ag} {ρ:bN} {H:LO} {wr:LN} {Q},wpc A N c x ρ H wr Q->dK N c x=QS->Wp A N c x ρ H wr Q
 |.skip,ρ,H,wr,Q,h,_=>fun l hl he=>⟨1,.normal,⟨l,H,wr⟩,rfl,hl,by rw[wpc]at h;grind⟩
 |.bad,_,_,_,_,h,_=>by rw[wpc]at h;exact h.elim
 |.region QT ops,ρ,H,wr,Q,h,hok=>fun l hl he=>by
  subst he;rw[wpc]at h;simp only[dK,AI]at hok;obtain⟨n,s',h1,h2,h3⟩:=aCe h (by grind);refine⟨n+1,.normal,s', ?_,by rw[h2,hl],h3⟩;grind [iS,iO,dD]
 |.region QS ops,ρ,H,wr,Q,h,hok=>fun l hl he=>by
  subst he;rw[wpc]at h;simp only[dK,AI,BT,Bool.false_or]at hok;split at h
  ·rename_i H0 hp;obtain⟨n,s',log,h1,h2,h3,h4,h5⟩:=aG5 h (by grind);refine⟨n+1,.normal,s', ?_,by rw[h2,hl],h5⟩;rw[iS];have zg:=xE h3 hok.2.2 (fun p hp=>hp) h4;simp_all [iO,dD,BR,Zv,Zy]
  grind
 |.seq a b,ρ,H,wr,Q,h,hok=>fun l hl he=>by
  rw[wpc]at h;simp only[dK,AI]at hok;obtain⟨n,e,s',h1,h2,h3⟩:=kM h hok.1 l hl he;by_cases hn:e=.normal
  ·subst hn;obtain⟨m,e',s'',g1,g2,g3⟩:=kM h3 hok.2 s'.ρ h2 rfl;refine⟨max n m+1,e',s'', ?_,g2,g3⟩;rw[iD,eJ (GJ n m) _ _ _ _ h1];exact eJ (GC n m) _ _ _ _ g1
  refine⟨n+1,e,s', ?_,h2, ?_⟩
  ·rw[iD,h1];grind
  grind
 |.cond t a b,ρ,H,wr,Q,h,hok=>fun l hl he=>by
  rw[wpc]at h;simp only[dK,AI]at hok;have ht:t.ev l=t.at ρ:=by rw[<- he];exact t.ka l
  split at h
  ·rename_i hb;obtain⟨n,e,s',h1,h2⟩:=kM h hok.1 l hl he;exact⟨n+1,e,s',by rw[iT];grind,h2⟩
  ·rename_i hb;obtain⟨n,e,s',h1,h2⟩:=kM h hok.2 l hl he;exact⟨n+1,e,s',by rw[iT];grind,h2⟩
  grind
 |.block id b,ρ,H,wr,Q,h,hok=>fun l hl he=>by
  rw[wpc]at h;simp only[dK]at hok;obtain⟨n,e,s',h1,h2,h3⟩:=kM h hok l hl he;cases e with
  |normal=>exact⟨n+1,.normal,s',by rw[eP,h1],h2,h3⟩
  |ret=>exact⟨n+1,.ret,s',by rw[eP,h1],h2,h3⟩
  |exit id'=>
   dsimp only at h3;split at h3
   ·rename_i hid;exact⟨n+1,.normal,s',by rw[eP,h1];grind,h2,h3⟩
   rename_i hid;exact⟨n+1,.exit id',s',by rw[eP,h1];grind,h2,h3⟩
 |.loop b,ρ,H,wr,Q,h,_=>by rw[wpc]at h;exact h
 |.dz x ps b,ρ,H,wr,Q,h,_=>by rw[wpc]at h;exact h
 |.exit id,ρ,H,wr,Q,h,_=>fun l hl he=>⟨1,.exit id,⟨l,H,wr⟩,rfl,hl,by rw[wpc]at h;grind⟩
 |.ret,ρ,H,wr,Q,h,_=>fun l hl he=>⟨1,.ret,⟨l,H,wr⟩,rfl,hl,by rw[wpc]at h;grind⟩
 |.frz ts,ρ,H,wr,Q,h,hok=>fun l hl he=>by
  rw[wpc]at h;subst he;obtain⟨s',h1,h2,h3⟩:=qP h (by rw[hl];exact hok);exact⟨1,.normal,s',by rw[vI,h1],by rw[h2,hl],h3⟩
theorem Wp.loop{N:Nat}{c:Ctx}{b:ag}{ρ:bN}{H:LO}{wr:LN}{Q}(hok:dK N c b=QS) (h:wpc A N c b ρ H wr fun e ρ H wr=>match e with
   |.normal=>Wp A N c (.loop b) ρ H wr Q
   |e=>Q e ρ H wr):Wp A N c (.loop b) ρ H wr Q:=fun l hl he=>by
 obtain⟨n,e,s',h1,h2,h3⟩:=kM h hok l hl he;by_cases hn:e=.normal
 ·subst hn;obtain⟨m,e',s'',g1,g2,g3⟩:=h3 s'.ρ h2 rfl;refine⟨max n m+1,e',s'', ?_,g2,g3⟩;rw[gU,eJ (GJ n m) _ _ _ _ h1];exact eJ (GC n m) _ _ _ _ g1
 refine⟨n+1,e,s', ?_,h2, ?_⟩
 ·rw[gU,h1];grind
 grind
theorem Wp.mono{N:Nat}{c:Ctx}{x:ag}{ρ:bN}{H:LO}{wr:LN}{Q Q'}(hk:∀e ρ H wr,Q e ρ H wr->Q' e ρ H wr)(h:Wp A N c x ρ H wr Q):Wp A N c x ρ H wr Q':=fun l hl he=>by
 obtain⟨n,e,s',h1,h2,h3⟩:=h l hl he;grind
def aNP(H:LO)(ρ:bN):ou->Option AV
 |.tmp t=>QQ (ρ t)
 |.cell t k agg=>match bC H k (ρ t)with
  |some cs=>eD agg cs
  |none=>N2
def aEP(H:LO)(ρ:bN):List ou->Option LA
 | []=>QQ []
 |r::rs=>match aNP H ρ r with
  |none=>N2
  |some v=>match aEP H ρ rs with
   |none=>N2
   |some vs=>QQ (v::vs)
theorem aJ6(H:LO)(l:LA):∀rs,aIS H l rs=aEP H (ck l) rs
 | []=>rfl
 |r::rs=>by
  unfold aIS aEP;have:aYq H l r=aNP H (ck l) r:=by cases r<;>rfl
  rw[this,aJ6 H l rs];rfl
def iE(base:Nat)(rs:List ou)(ρ:bN)(H:LO)(wr:LN):Out:=
 match aEP H ρ rs with
 |none=>N2
 |some [v]=>match aDR base H v with
  |some (v',H',l)=>QQ (v',H',bE base wr l)
  |none=>N2
 |some vs=>match aBv H vs with
  |some (vs',H',l)=>QQ (.tup vs',H',bE base wr l)
  |none=>N2
def aVI(base:Nat)(rs:List ou)(K:AV->LO->LN->Prop):bf->bN->LO->LN->Prop
 |.exit _,_,_,_=>False
 |_,ρ,H,wr=>match iE base rs ρ H wr with
  |some r=>K (cJ base r).1 (cJ base r).2.1 (cJ base r).2.2
  |none=>False
def pO(args:LA):bN:=fun t=>(args[t]?).getD .undef
theorem aE0(args:LA)(k:Nat):ck (args++AX k .undef)=pO args:=by funext t;unfold ck pO;grind
theorem aE1{f:Nat}{args:LA}{H:LO}{fn:bw}{K:AV->LO->LN->Prop}(hf:A.fn f=QQ fn)(hp:(A.bq f).bind (· args H)=N2) (hN:args.length<=fn.ntmps) (hok:dK fn.ntmps ⟨H.length,fn.sites⟩ fn.body=QS) (h:wpc A fn.ntmps ⟨H.length,fn.sites⟩ fn.body (pO args) (H++AX fn.sites.length (.gone 0)) [] (aVI H.length fn.results K)):∃v H' wr,aG A f args H=QQ (v,H',wr)/\K v H' wr:=by
 obtain⟨n,e,s',h1,h2,h3⟩:=kM h hok (args++AX (fn.ntmps - args.length) .undef) soT (aE0 _ _);have key:∀r,iE H.length fn.results (ck s'.ρ) s'.H s'.wr=QQ r->aA4 H.length fn s'=QQ r:=by grind [iE,aA4,aJ6]
 cases e with
 |exit id=>exact h3.elim
 |normal=>
  unfold aVI at h3;dsimp only at h3;split at h3
  ·rename_i r hr;exact⟨_,_,_,oL (oU hp hf h1 (.inl rfl) (key _ hr) hN),h3⟩
  grind
 |ret=>
  unfold aVI at h3;dsimp only at h3;split at h3
  ·rename_i r hr;exact⟨_,_,_,oL (oU hp hf h1 (.inr rfl) (key _ hr) hN),h3⟩
  grind
end
def aWE(x:aa)(H:LO)(ρ:bN):Option AV:=QQ (x.at ρ)
def aTE(c:aa)(a:aa)(b:aa)(H:LO)(ρ:bN):Option AV:=match c.at ρ with
  |.bool t=>QQ (if t then a.at ρ else b.at ρ)
  |_=>N2
def aRd(zs:LA)(H:LO)(ρ:bN):Option AV:=if zs.all AV.still then QQ (.ep (zs.map AV.aj) 0)else N2
def aWF(k:Nat)(x:aa)(H:LO)(ρ:bN):Option AV:=
  let vs:=(x.at ρ).strip.cells
  if vs.length=k/\vs.all AV.still then QQ (.ep vs 0)else N2
def aRe(zs:LA)(parts:List (Nat×Nat×aa))(H:LO)(ρ:bN):Option AV:=(mK ρ zs parts).map .agg
def aWG(k:Nat)(zs:LA)(n:Nat)(parts:List (Nat×aa))(H:LO)(ρ:bN):Option AV:=(nZ ρ k (AX n zs) parts).map (.sl QS)
def aWH(u0:Nat)(bytes:Nat)(zs:LA)(len:aa)(cap:aa)(H:LO)(ρ:bN):Option AV:=match len.at ρ,cap.at ρ with
  |.int _ n,.int _ c=>if 0<=n/\n=c/\bP n.toNat bytes then QQ (.sl QS (AX n.toNat (zs.map AV.aj)))else N2
  |_,_=>N2
def aTF(k:Nat)(agg:Bool)(x:aa)(H:LO)(ρ:bN):Option AV:=match bC H k (x.at ρ)with
  |some cs=>eD agg cs
  |none=>N2
def aRf(x:aa)(H:LO)(ρ:bN):Option AV:=match x.at ρ with
  |.ptr o v off=>QQ (.ptr o v off)
  |.vp o v n k i off=>QQ (.vp o v n k i off)
  |.ep row off=>QQ (.ep row off)
  |.fn f a b=>QQ (.fn f a b)
  |_=>N2
def aRg(neg:Bool)(x:aa)(H:LO)(ρ:bN):Option AV:=match x.at ρ with
  |.sl _ (_::_) | .sr ..=>QQ (.bool neg)
  |.ar=>QQ (.bool !neg)
  |_=>N2
def aWI(op:BinOp)(ek:vd)(x:aa)(y:aa)(H:LO)(ρ:bN):Option AV:=kJ op ek (x.at ρ) (y.at ρ)
def bA3(op:UnOp)(x:aa)(H:LO)(ρ:bN):Option AV:=unV op (x.at ρ)
def aTG(c:tm)(x:aa)(H:LO)(ρ:bN):Option AV:=pT H c (x.at ρ)
def aWJ(f:Nat)(first:List aa)(ay:List aa)(H:LO)(ρ:bN):Option AV:=if (first.map (aa.at ρ)).all AV.still&&(ay.map (aa.at ρ)).all AV.still then QQ (.fn f (first.map fun x=>(x.at ρ).aj) (ay.map fun x=>(x.at ρ).aj))else N2
def aP7(x:aa)(lo:Option aa)(hi:Option aa)(H:LO)(ρ:bN):Option AV:=match x.at ρ with
  |.str s=>match dU s.length (lo.map (aa.at ρ)) (hi.map (aa.at ρ)) N2 with
   |some (l,h,_)=>QQ (.str ((s.take h).drop l))
   |none=>N2
  |_=>N2
def aP8(k:Nat)(x:aa)(lo:Option aa)(hi:Option aa)(mx:Option aa)(H:LO)(ρ:bN):Option AV:=match x.at ρ with
  |.sl full rows=>match dU rows.length (lo.map (aa.at ρ)) (hi.map (aa.at ρ)) (mx.map (aa.at ρ))with
   |some (l,h,m)=>if dF k rows&&(!mx.isSome || hi.isSome)then QQ (.sl (decide (m=h)&&(mx.isSome || full)) ((rows.take h).drop l))else N2
   |none=>N2
  |.sr o v n=>if mx.isSome then N2 else match dU n (lo.map (aa.at ρ)) (hi.map (aa.at ρ)) N2 with
   |some (l,h,_)=>if hi.isSome&&decide (l=0)then QQ (.srw o v n h)else if h=n then QQ (.srv o v n k l)else N2
   |none=>N2
  |_=>N2
def aTH(k:Nat)(x:aa)(lo:Option aa)(H:LO)(ρ:bN):Option AV:=match x.at ρ with
  |.sl full rows=>match dU rows.length (lo.map (aa.at ρ)) N2 N2 with
   |some (l,h,m)=>if dF k rows then QQ (.sl (decide (m=h)&&full) ((rows.take h).drop l))else N2
   |none=>N2
  |.sr o v n=>match H[o]? with
   |some (.vec v' _ rows)=>if v'=v/\rows.length=n then match iL 0 n (lo.map (aa.at ρ))with
     |some l=>QQ (.srv o v n k l)
     |none=>N2
    else N2
   |_=>N2
  |_=>N2
def aP9(n:Nat)(k:Nat)(x:aa)(lo:Option aa)(hi:Option aa)(mx:Option aa)(H:LO)(ρ:bN):Option AV:=match x.at ρ with
  |.ep row off=>if off+n*k<=row.length then
    let rows:=aFH k n (row.drop off)
    match dU n (lo.map (aa.at ρ)) (hi.map (aa.at ρ)) (mx.map (aa.at ρ))with
    |some (l,h,m)=>if !mx.isSome || hi.isSome then QQ (.sl (decide (m=h)) ((rows.take h).drop l))else N2
    |none=>N2
   else N2
  |_=>N2
def bA4(off:Nat)(x:aa)(H:LO)(ρ:bN):Option AV:=match x.at ρ with
  |.ptr o v off0=>QQ (.ptr o v (off0+off))
  |.vp o v n k i off0=>QQ (.vp o v n k i (off0+off))
  |.ep row off0=>QQ (.ep row (off0+off))
  |_=>N2
def aWK(off:Nat)(k:Nat)(agg:Bool)(x:aa)(H:LO)(ρ:bN):Option AV:=match x.at ρ with
  |.agg cs=>if off+k<=cs.length then eD agg ((cs.drop off).take k)else N2
  |_=>N2
def aWL(x:aa)(i:aa)(k:Nat)(H:LO)(ρ:bN):Option AV:=match x.at ρ,i.at ρ with
  |.sl _ rows,.int _ n=>if 0<=n then match rows[n.toNat]? with
    |some row=>if row.length=k then QQ (.ep row 0)else N2
    |none=>N2
   else N2
  |.sr o v len,.int _ n=>if 0<=n/\n<len then QQ (.vp o v len k n.toNat 0)else N2
  |_,_=>N2
def aWM(len:Nat)(k:Nat)(x:aa)(i:aa)(H:LO)(ρ:bN):Option AV:=match x.at ρ,i.at ρ with
  |.ptr o v off,.int _ n=>if 0<=n/\n<len then QQ (.ptr o v (off+n.toNat*k))else N2
  |.ep row off,.int _ n=>if 0<=n/\n<len then QQ (.ep row (off+n.toNat*k))else N2
  |_,_=>N2
def aWN(x:aa)(i:aa)(H:LO)(ρ:bN):Option AV:=match x.at ρ,i.at ρ with
  |.str s,.int _ n=>if 0<=n then match s[n.toNat]? with
    |some b=>QQ (.int .u8 b.toNat)
    |none=>N2
   else N2
  |_,_=>N2
def aWO(len:Nat)(k:Nat)(agg:Bool)(x:aa)(i:aa)(H:LO)(ρ:bN):Option AV:=match x.at ρ,i.at ρ with
  |.agg cs,.int _ n=>if 0<=n/\n<len/\n.toNat*k+k<=cs.length then eD agg ((cs.drop (n.toNat*k)).take k)else N2
  |_,_=>N2
def aTI(x:aa)(H:LO)(ρ:bN):Option AV:=match x.at ρ with
  |.str s=>QQ (.int .i64 s.length)
  |_=>N2
def aTJ(x:aa)(H:LO)(ρ:bN):Option AV:=match x.at ρ with
  |.sl _ rows=>QQ (.int .i64 rows.length)
  |.sr _ _ n=>QQ (.int .i64 n)
  |.ar=>QQ (.int .i64 0)
  |_=>N2
def aTK(n:Nat)(H:LO)(ρ:bN):Option AV:=QQ (.int .i64 n)
def bA5(mx:Bool)(xs:List aa)(H:LO)(ρ:bN):Option AV:=mmV mx (xs.map (aa.at ρ))
def aWP(i:Nat)(x:aa)(H:LO)(ρ:bN):Option AV:=match x.at ρ with
  |.tup vs=>vs[i]?
  |_=>N2
def aRh(t:Nat)(x:aa)(H:LO)(ρ:bN):Option AV:=if (x.at ρ).tn then QQ (.ifc t (x.at ρ))else N2
def aTL(zero:AV)(m:aa)(k:aa)(ok:Bool)(H:LO)(ρ:bN):Option AV:=match m.at ρ with
  |.mp o v=>match H[o]? with
   |some (.map v' es)=>if v'=v then
     match iB (k.at ρ) es 0 with
     |some (QQ (_,x))=>if ok then QQ (.tup [x,.bool QS])else QQ x
     |some N2=>if ok then QQ (.tup [zero,.bool QT])else QQ zero
     |none=>N2
    else N2
   |_=>N2
  |.fmp ks vs=>match iB (k.at ρ) (ks.zip vs) 0 with
   |some (QQ (_,x))=>if ok then QQ (.tup [x,.bool QS])else QQ x
   |some N2=>if ok then QQ (.tup [zero,.bool QT])else QQ zero
   |none=>N2
  |_=>N2
def rOp:df->LO->bN->Option AV:=fun op=>match op with
 |.mov a0=>aWE a0
 |.pick a0 a1 a2=>aTE a0 a1 a2
 |.alloc a0=>aRd a0
 |.box a0 a1=>aWF a0 a1
 |.build a0 a1=>aRe a0 a1
 |.bsl a0 a1 a2 a3=>aWG a0 a1 a2 a3
 |.mks a0 a1 a2 a3 a4=>aWH a0 a1 a2 a3 a4
 |.load a0 a1 a2=>aTF a0 a1 a2
 |.cz a0=>aRf a0
 |.ky a0 a1=>aRg a0 a1
 |.bin a0 a1 a2 a3=>aWI a0 a1 a2 a3
 |.un a0 a1=>bA3 a0 a1
 |.conv a0 a1=>aTG a0 a1
 |.mkf a0 a1 a2=>aWJ a0 a1 a2
 |.fm a0 a1 a2=>aP7 a0 a1 a2
 |.gw a0 a1 a2 a3 a4=>aP8 a0 a1 a2 a3 a4
 |.view a0 a1 a2=>aTH a0 a1 a2
 |.na a0 a1 a2 a3 a4 a5=>aP9 a0 a1 a2 a3 a4 a5
 |.fa a0 a1=>bA4 a0 a1
 |.fld a0 a1 a2 a3=>aWK a0 a1 a2 a3
 |.iaV a0 a1 a2=>aWL a0 a1 a2
 |.iaA a0 a1 a2 a3=>aWM a0 a1 a2 a3
 |.ixS a0 a1=>aWN a0 a1
 |.ixA a0 a1 a2 a3 a4=>aWO a0 a1 a2 a3 a4
 |.fg a0=>aTI a0
 |.qk a0=>aTJ a0
 |.zb a0=>aTK a0
 |.mm a0 a1=>bA5 a0 a1
 |.ext a0 a1=>aWP a0 a1
 |.km a0 a1=>aRh a0 a1
 |.look a0 a1 a2 a3=>aTL a0 a1 a2 a3
 |_=>fun _ _=>N2
theorem aSP(op:df)(H:LO)(ρ:bN):rOp op H ρ=vA H ρ op:=by cases op<;>rfl
def aRi(zs:LA)(H:LO)(ρ:bN)(site:Option Nat):Out:=match site with
  |some id=>if id<H.length then QQ (.ptr id (bH H id) 0,make H id (.box · zs),[id])else N2
  |none=>N2
def aPa(ty:Nat)(zs:LA)(H:LO)(ρ:bN)(site:Option Nat):Out:=match site with
  |some id=>if id<H.length then QQ (.ptr id (bH H id) 0,make H id (.cw · ty zs),[id])else N2
  |none=>N2
def aWQ(k:Nat)(x:aa)(H:LO)(ρ:bN)(site:Option Nat):Out:=match site with
  |some id=>if id<H.length/\(x.at ρ).cells.length=k/\(x.at ρ).cells.all AV.ak then QQ (.ptr id (bH H id) 0,make H id (.box · (x.at ρ).cells),[id])else N2
  |none=>N2
def aWR(ty:Nat)(k:Nat)(x:aa)(H:LO)(ρ:bN)(site:Option Nat):Out:=match site with
  |some id=>if id<H.length/\(x.at ρ).cells.length=k/\(x.at ρ).cells.all AV.ak then QQ (.ptr id (bH H id) 0,make H id (.cw · ty (x.at ρ).cells),[id])else N2
  |none=>N2
def aRj(k:Nat)(x:aa)(v:aa)(H:LO)(ρ:bN)(site:Option Nat):Out:=if (v.at ρ).cells.length=k/\(v.at ρ).cells.all AV.ak then
   match storeCells H (v.at ρ).cells (x.at ρ)with
   |some (H',wr)=>QQ (.undef,H',wr)
   |none=>N2
  else N2
def aWS(k:Nat)(zs:LA)(n:Nat)(parts:List (Nat×aa))(H:LO)(ρ:bN)(site:Option Nat):Out:=match site with
  |some id=>match mM ρ k (AX n zs) parts with
   |some rows=>if id<H.length then QQ (.sr id (bH H id) n,make H id (.vec · k rows),[id])else N2
   |none=>N2
  |none=>match xC ρ k H (AX n zs) parts with
   |some (rows,H',wr)=>QQ (.sl QS rows,H',wr)
   |none=>N2
def aWT(k:Nat)(bytes:Nat)(zs:LA)(len:aa)(cap:aa)(H:LO)(ρ:bN)(site:Option Nat):Out:=match len.at ρ,cap.at ρ with
  |.int _ n,.int _ c=>
   if 0<=n/\n=c/\bP n.toNat bytes then
    match site with
    |some id=>if id<H.length then QQ (.sr id (bH H id) n.toNat,make H id (.vec · k (AX n.toNat (zs.map AV.aj))),[id])else N2
    |none=>QQ (.sl QS (AX n.toNat (zs.map AV.aj)),H,[])
   else match site with
    |some id=>if n=0/\0<c/\bP c.toNat bytes/\id<H.length then QQ (.sr id (bH H id) 0,make H id (.vec · k []),[id])else N2
    |none=>N2
  |_,_=>N2
def aWU(k:Nat)(bytes:Nat)(s:aa)(x:aa)(H:LO)(ρ:bN)(site:Option Nat):Out:=eX H site k bytes (s.at ρ) (x.at ρ)
def aTM(ty:Nat)(k:Nat)(bytes:Nat)(s:aa)(x:aa)(H:LO)(ρ:bN)(site:Option Nat):Out:=vB H site ty k bytes (s.at ρ) (x.at ρ)
def aWV(k:Nat)(x:aa)(y:aa)(H:LO)(ρ:bN)(site:Option Nat):Out:=match x.at ρ with
  |.srv o v n k' lo=>match H[o]? with
   |some (.vec v' k2 rows)=>match cG H (y.at ρ)with
    |some new=>if new.isEmpty then QQ (.int .i64 0,H,[])else if v'=v/\rows.length=n/\k2=k/\k'=k/\dF k new/\lo+new.length<=n then
      QQ (.int .i64 (new.length:Nat),H.set o (.vec v k (rows.take lo++new++rows.drop (lo+new.length))),[o])
     else N2
    |none=>N2
   |_=>N2
  |_=>N2
def aRk (H:LO)(ρ:bN)(site:Option Nat):Out:=match site with
  |some id=>if id<H.length then QQ (.mp id (bH H id),make H id (.map · []),[id])else N2
  |none=>N2
def aWW(m:aa)(k:aa)(v:aa)(H:LO)(ρ:bN)(site:Option Nat):Out:=match m.at ρ,k.at ρ with
  |.mp o ver,key=>match H[o]? with
   |some (.map v' es)=>
    if v'=ver/\(aJK key key).isSome/\(v.at ρ).strip.cells.all AV.still then
     match iB key es 0 with
     |some (QQ (i,_))=>QQ (.undef,H.set o (.map ver (es.set i (key,(v.at ρ).strip))),[o])
     |some N2=>QQ (.undef,H.set o (.map ver (es++[(key,(v.at ρ).strip)])),[o])
     |none=>N2
    else N2
   |_=>N2
  |_,_=>N2
def wOp:df->LO->bN->Option Nat->Out:=fun op=>match op with
 |.alloc a0=>aRi a0
 |.gv a0 a1=>aPa a0 a1
 |.box a0 a1=>aWQ a0 a1
 |.tbx a0 a1 a2=>aWR a0 a1 a2
 |.store a0 a1 a2=>aRj a0 a1 a2
 |.bsl a0 a1 a2 a3=>aWS a0 a1 a2 a3
 |.mks a0 a1 a2 a3 a4=>aWT a0 a1 a2 a3 a4
 |.app a0 a1 a2 a3=>aWU a0 a1 a2 a3
 |.ni a0 a1 a2 a3 a4=>aTM a0 a1 a2 a3 a4
 |.cpy a0 a1 a2=>aWV a0 a1 a2
 |.jn=>aRk
 |.ins a0 a1 a2=>aWW a0 a1 a2
 |_=>fun _ _ _=>N2
theorem aRl{call:Nat->LA->LO->Out}{op:df}{H:LO}{ρ:bN}{site:Option Nat}{r}(h:wOp op H ρ site=QQ r):aD0 call H ρ site op=QQ r:=by cases op<;>first | exact h | (simp[wOp]at h;done)
inductive KT where
 |e
 |n (v:AV) (l r:KT)
def aIb:Nat->Nat->List Bool
 |0,_=>[]
 |k+1,t=>if t=0 then [] else EY (t % 2) 1::aIb k ((t - 1) / 2)
def aG6(t:Nat):List Bool:=aIb t t
noncomputable def aIc(p:List Bool):KT->AV:=
 IU (motive:=fun _=>KT->AV) (fun t=>KT.casesOn t .undef fun v _ _=>v) (fun b _ ih t=>KT.casesOn t .undef fun _ l r=>ih (MM r l b)) p
noncomputable def aTN(p:List Bool)(v:AV):KT->KT:=
 IU (motive:=fun _=>KT->KT) (fun t=>KT.casesOn t (.n v .e .e) fun _ l r=>.n v l r)
  (fun b _ ih t=>KT.casesOn t (MM (.n .undef .e (ih .e)) (.n .undef (ih .e) .e) b) fun x l r=>MM (.n x l (ih r)) (.n x (ih l) r) b) p
noncomputable def toF(t:KT):bN:=fun i=>aIc (aG6 i) t
noncomputable def aLF(d:Option Nat)(v:AV)(t:KT):KT:=match d with
 |none=>t
 |some d=>aTN (aG6 d) v t
theorem aMM:∀p,aIc p .e=.undef
 | []=>rfl
 |_::_=>rfl
theorem aKe(v:AV):∀(p q:List Bool) (t:KT),aIc p (aTN q v t)=if p=q then v else aIc p t
 | [],[],t=>by cases t<;>rfl
 |b::p,[],t=>by
  cases t with
  |e=>show aIc p (MM KT.e KT.e b)=_;cases b<;>simp[aMM]
  |n x l r=>simp;rfl
 | [],c::q,t=>by cases t<;>cases c<;>(simp;rfl)
 |b::p,c::q,t=>by
  have ih:=aKe v p q;cases t with
  |e=>cases b<;>cases c<;>first | (show aIc p (aTN q v .e)=_;rw[ih];by_cases h:p=q<;>simp[h,aMM]) | (show aIc p .e=_;simp[aMM])
  |n x l r=>cases b<;>cases c<;>first
   |simp_all [aIc,aTN]
   |simp_all [aIc,aTN]
   | (simp;rfl)
theorem xF:∀(k t:Nat),t<=k->aIb k t=aG6 t
 |0,t,h=>by
  have:t=0:=omT;subst this;rfl
 |k+1,t,h=>by
  cases t with
  |zero=>rfl
  |succ t=>show (if t+1=0 then [] else EY ((t+1) % 2) 1::aIb k (t / 2))=(if t+1=0 then [] else EY ((t+1) % 2) 1::aIb t (t / 2));rw[xF k (t / 2) omT,xF t (t / 2) omT]
theorem vJ(t:Nat):aG6 (t+1)=EY ((t+1) % 2) 1::aG6 (t / 2):=by show (if t+1=0 then [] else EY ((t+1) % 2) 1::aIb t (t / 2))=_;rw[Zx omT,xF t (t / 2) omT]
theorem aKf:∀(n s t:Nat),s<=n->aG6 s=aG6 t->s=t
 |0,s,t,hs,h=>by
  have:s=0:=omT;subst this;cases t with
  |zero=>rfl
  |succ t=>rw[vJ]at h;cases h
 |n+1,s,t,hs,h=>by
  cases s with
  |zero=>
   cases t with
   |zero=>rfl
   |succ t=>rw[vJ]at h;cases h
  |succ s=>
   cases t with
   |zero=>rw[vJ]at h;cases h
   |succ t=>rw[vJ,vJ]at h;injection h with h1 h2;have h3:=aKf n (s / 2) (t / 2) omT h2;grind [Nat.beq_eq]
theorem aBb(d:Option Nat)(v:AV)(t:KT):toF (aLF d v t)=zX (toF t) d v:=by
 cases d with
 |none=>rfl
 |some d=>
  funext i;show aIc (aG6 i) (aTN (aG6 d) v t)=if i=d then v else aIc (aG6 i) t
  rw[aKe];by_cases h:i=d
  ·grind
  rw[Zx h,Zx fun hp=>h (aKf i i d (AQ _) hp)]
abbrev pV:=Nat->LA->LO->(AV->LO->LN->Bool)->Bool
def KOk(A:af)(K:pV):Prop:=∀f args H k,K f args H k=QS->∃v H' wr,aG A f args H=QQ (v,H',wr)/\k v H' wr=QS
def aSQ(H:LO)(site:Option Nat)(quiet:Bool)(v:AV)(H':LO)(wr:LN):Out:=
 if quiet then
  match v with
  |.own k rows=>
   match site with
   |some id=>if id<H'.length then QQ (.sr id (bH H' id) rows.length,make H' id (.vec · k rows),if wr.contains id then wr else id::wr)else N2
   |none=>QQ (.sl QT rows,H',wr)
  |v=>QQ (v,H',wr)
 else if wr.isEmpty&&decide (H'.length=H.length)&&v.atomic then QQ (v,H,[])else N2
noncomputable def aFz{α:Type}(o:Option α)(k:α->Bool):Bool:=JA QT k o
theorem fX{α:Type}{o:Option α}{k:α->Bool}(h:aFz o k=QS):∃a,o=QQ a/\k a=true:=by
 cases o with
 |none=>cases h
 |some a=>exact⟨a,rfl,h⟩
noncomputable def aMN(K:pV)(H:LO)(site:Option Nat)(f:AV)(args:LA)(k:AV->LO->LN->Bool):Bool:=
 match f with
 |.fn f first ay=>aFz (kA H (first++args++ay)) fun p=>K f (p.1.map AV.strip) (dL H p.2) fun v H' wr=>aFz (aSQ H site p.2.isEmpty v H' wr) fun r=>k r.1 r.2.1 r.2.2
 |.yld o v=>aFz (kA H args) fun p=>K YF (.own 0 []::.yld o v::p.1.map AV.strip) (dL H p.2) fun b H' wr=>bif p.2.isEmpty&&b.atomic then k b H' wr else QT
 |_=>QT
theorem aEQ{A:af}{K:pV}(hK:KOk A K){H:LO}{site:Option Nat}{f:AV}{args:LA}{k}(h:aMN K H site f args k=QS):∃r,cX (aG A) H site f args=QQ r/\k r.1 r.2.1 r.2.2=true:=by
 unfold aMN at h;split at h
 ·rename_i f first ay
  obtain⟨p,h1,h2⟩:=fX h;obtain⟨v,H',wr,h3,h4⟩:=hK _ _ _ _ h2;obtain⟨r,h5,h6⟩:=fX h4;refine⟨r, ?_,h6⟩;obtain⟨args',lent⟩:=p;simp only[cX,h1];simp only at h3;rw[h3];exact h5
 ·rename_i o v;obtain⟨p,h1,h2⟩:=fX h;obtain⟨b,H',wr,h3,h4⟩:=hK _ _ _ _ h2;obtain⟨args',lent⟩:=p;cases hc:lent.isEmpty&&b.atomic with
  |false=>grind
  |true=>simp only[hc,cond_true]at h4;refine⟨(b,H',wr), ?_,h4⟩;simp_all [cX,Zy]
 cases h
noncomputable def aPb(K:pV)(H:LO)(site:Option Nat)(f:AV)(args:LA)(k:AV->LO->LN->Bool):Bool:=
 match f with
 |.fn f first ay=>K f (first++args++ay) H fun v H' wr=>aFz (aSQ H site QS v H' wr) fun r=>k r.1 r.2.1 r.2.2
 |_=>QT
theorem aKg{A:af}{K:pV}(hK:KOk A K){H:LO}{site:Option Nat}{f:AV}{args:LA}{k}(h:aPb K H site f args k=QS):∃r,iN (aG A) H site f args=QQ r/\k r.1 r.2.1 r.2.2=true:=by
 unfold aPb at h;split at h
 ·rename_i f first ay
  obtain⟨v,H',wr,h3,h4⟩:=hK _ _ _ _ h;obtain⟨r,h5,h6⟩:=fX h4;refine⟨r, ?_,h6⟩;simp only[iN];rw[h3];exact h5
 cases h
def aTO:df->Bool
 |.alloc _ | .gv .. | .box .. | .tbx .. | .bsl .. | .mks .. | .store .. | .app .. | .ni .. | .dm .. | .ee .. | .nb .. | .cpy .. | .jn | .ins ..=>QS
 |_=>QT
noncomputable def aMO(K:pV)(site:Option Nat)(inDraw:Bool)(op:df)(H:LO)(ρ:bN)(k:AV->LO->LN->Bool):Bool:=
 match op with
 |.dm f xs=>aMN K H site (f.at ρ) (xs.map (aa.at ρ)) k
 |.ee f xs=>aPb K H site (f.at ρ) (xs.map (aa.at ρ)) k
 |.nb tab x xs=>match x.at ρ with
  |.ifc t v=>aFz (tab.lookup t) fun f=>aMN K H site (.fn f [v] []) (xs.map (aa.at ρ)) k
  |_=>QT
 |op=>if isW site inDraw op then aFz (wOp op H ρ site) fun r=>k r.1 r.2.1 r.2.2 else QT
noncomputable def aRm(K:pV)(c:Ctx)(o:ae)(tr:KT)(H:LO)(k:AV->LO->LN->Bool):Bool:=
 bif aTO o.op then
  (bif isW (c.site o.dst) QT o.op then aMO K (c.site o.dst) QT o.op H (toF tr) k else aFz (rOp o.op H (toF tr)) fun v=>k v H [])
 else aFz (rOp o.op H (toF tr)) fun v=>k v H []
theorem aMP{site:Option Nat}{d:Bool}{op:df}(h:aTO op=QT):isW site d op=false:=by cases op<;>first | rfl | (cases h)
theorem aER{A:af}{K:pV}(hK:KOk A K){site:Option Nat}{d:Bool}{op:df}{H:LO}{ρ:bN}{k}(h:aMO K site d op H ρ k=QS):isW site d op=QS/\∃r,aD0 (aG A) H ρ site op=QQ r/\k r.1 r.2.1 r.2.2=true:=by
 unfold aMO at h;split at h
 ·obtain⟨r,h1,h2⟩:=aEQ hK h;exact⟨rfl,r,h1,h2⟩
 ·obtain⟨r,h1,h2⟩:=aKg hK h;exact⟨rfl,r,h1,h2⟩
 ·rename_i tab x xs;split at h
  ·rename_i t v hx;obtain⟨f,h0,h⟩:=fX h;obtain⟨r,h1,h2⟩:=aEQ hK h;refine⟨rfl,r, ?_,h2⟩;simp only[aD0,hx,h0];exact h1
  cases h
 split at h
 ·rename_i hw;obtain⟨r,h1,h2⟩:=fX h;exact⟨hw,r,aRl h1,h2⟩
 cases h
theorem aLG{A:af}{K:pV}(hK:KOk A K){c:Ctx}{o:ae}{tr:KT}{H:LO}{k}(h:aRm K c o tr H k=QS):∃r,nB (aG A) (c.site o.dst) QT (toF tr) H o.op=QQ r/\k r.1 r.2.1 r.2.2=true:=by
 have viaR:isW (c.site o.dst) QT o.op=QT->aFz (rOp o.op H (toF tr)) (fun v=>k v H [])=QS->∃r,nB (aG A) (c.site o.dst) QT (toF tr) H o.op=QQ r/\k r.1 r.2.1 r.2.2=true:=by intro hw h;obtain⟨v,h1,h2⟩:=fX h;simp_all [aSP,nB,Zx]
 unfold aRm at h;cases hm:aTO o.op with
 |false=>rw[hm]at h;exact viaR (aMP hm) h
 |true=>
  rw[hm]at h;simp only[cond_true]at h;cases hw:isW (c.site o.dst) QT o.op with
  |false=>grind
  |true=>rw[hw]at h;simp only[cond_true]at h;obtain⟨_,r,h1,h2⟩:=aER hK h;simp_all [nB,Zy]
abbrev KQ:=KT->LO->LN->Bool
noncomputable def aId(g:Option (Option Nat×Bool))(ρ:bN)(a b:Bool):Bool:=match g with
 |none=>a
 |some (QQ t,want)=>match ρ t with
  |.bool x=>bif x==want then a else b
  |.tup []=>b
  |_=>QT
 |some (N2,_)=>QT
theorem aG7{g:Option (Option Nat×Bool)}{ρ:bN}{a b:Bool}(h:aId g ρ a b=QS):(zE ρ g=QQ QS/\a=QS)∨(zE ρ g=QQ QT/\b=QS):=by unfold aId at h;unfold zE;grind
noncomputable def aYt(K:pV)(c:Ctx)(ops:List ae):KT->LO->LN->KQ->Bool:=
 IU (motive:=fun _=>KT->LO->LN->KQ->Bool) (fun tr H wr k=>k tr H wr)
  (fun o _ ih tr H wr k=>aId o.guard (toF tr) (aRm K c o tr H fun v H' w=>ih (aLF o.dst v tr) H' (bE c.base wr w) k) (ih (aLF o.dst (.tup []) tr) H wr k)) ops
theorem aE2{A:af}{K:pV}(hK:KOk A K){c:Ctx}:∀(ops:List ae) {tr:KT} {H:LO} {wr:LN} {k:KQ},aYt K c ops tr H wr k=QS ->aD3 (aG A) c ops (toF tr) H wr fun ρ H wr=>∃tr,ρ=toF tr/\k tr H wr=QS
 | [],tr,H,wr,k,h=>⟨tr,rfl,h⟩
 |o::ops,tr,H,wr,k,h=>by
  have h':aId o.guard (toF tr) (aRm K c o tr H fun v H' w=>aYt K c ops (aLF o.dst v tr) H' (bE c.base wr w) k) (aYt K c ops (aLF o.dst (.tup []) tr) H wr k)=true:=h;unfold aD3;rcases aG7 h' with⟨h1,h2⟩ | ⟨h1,h2⟩
  ·rw[h1];obtain⟨r,h3,h4⟩:=aLG hK h2;dsimp only;rw[h3];dsimp only;rw[<- aBb];exact aE2 hK ops h4
  rw[h1];dsimp only;rw[<- aBb];exact aE2 hK ops h2
abbrev KL:=KT->LO->LN->Log->Bool
noncomputable def aMQ(K:pV)(c:Ctx)(o:ae)(tr:KT)(H:LO)(k:AV->LO->LN->Option LN->Bool):Bool:=
 match o.op,c.site o.dst with
 |.alloc _,QQ id=>k (.ptr id ((H[id]?).elim 0 ah.ver) 0) H [id] N2
 |op,site=>bif aTO op&&isW site QS op then aMO K site QS op H (toF tr) fun v H' w=>EY H'.length H.length&&k v H' [] (QQ w)
  else aFz (rOp op H (toF tr)) fun v=>k v H (aCc (toF tr) op) N2
theorem aKh{A:af}{K:pV}(hK:KOk A K){c:Ctx}{o:ae}{tr:KT}{H:LO}{k}(h:aMQ K c o tr H k=QS):∃r,oB (aG A) (c.site o.dst) (toF tr) H o.op=QQ r/\k r.1 r.2.1 r.2.2.1 r.2.2.2=true:=by
 unfold aMQ at h;unfold oB;generalize o.op=op at h ⊢;generalize c.site o.dst=site at h ⊢;split at h
 ·grind
 rename_i bl;have key:∃r,(if isW site QS op then
   match aD0 (aG A) H (toF tr) site op with
   |some (v,H',wr)=>if H'.length=H.length then QQ (v,H',[],QQ wr)else N2
   |none=>N2
  else match vA H (toF tr) op with
   |some v=>QQ (v,H,aCc (toF tr) op,N2)
   |none=>N2)=QQ r/\k r.1 r.2.1 r.2.2.1 r.2.2.2=true:=by
  by_cases hm:(aTO op&&isW site QS op)=QS
  ·rw[hm]at h;simp only[cond_true]at h;obtain⟨hw,r,h3,h4⟩:=aER hK h;simp_all
  have oq:(aTO op&&isW site QS op)=false:=by simpa using hm
  rw[oq]at h;simp only[cond_false]at h;have hw:isW site QS op=false:=by grind [aTO,aMP]
  obtain⟨v,h3,h4⟩:=fX h;rw[aSP]at h3;simp_all
 grind
noncomputable def aRn(K:pV)(c:Ctx)(aq:LN)(ops:List ae):Nat->KT->LO->LN->KL->Bool:=
 IU (motive:=fun _=>Nat->KT->LO->LN->KL->Bool) (fun _ tr H wr k=>k tr H wr [])
  (fun o _ ih i tr H wr k=>aId o.guard (toF tr) (aMQ K c o tr H fun v H' rd w=>ih (i+1) (aLF o.dst v tr) H' (bE c.base wr (w.getD [])) (bif aq.contains i then fun tr H wr log=>k tr H wr ((i,rd,w)::log)else k))
   (ih (i+1) (aLF o.dst (.tup []) tr) H wr k)) ops
theorem aCf{A:af}{K:pV}(hK:KOk A K){c:Ctx}{aq:LN}:∀(ops:List ae) {i:Nat} {tr:KT} {H:LO} {wr:LN} {k:KL} {k':bN->LO->LN->Log->Prop},(∀tr H wr log,k tr H wr log=QS->k' (toF tr) H wr log)->aRn K c aq ops i tr H wr k=QS->wpD (aG A) c aq i ops (toF tr) H wr k'
 | [],i,tr,H,wr,k,k',hk,h=>hk _ _ _ _ h
 |o::ops,i,tr,H,wr,k,k',hk,h=>by
  have h':aId o.guard (toF tr) (aMQ K c o tr H fun v H' rd w=>aRn K c aq ops (i+1) (aLF o.dst v tr) H' (bE c.base wr (w.getD [])) (bif aq.contains i then fun tr H wr log=>k tr H wr ((i,rd,w)::log)else k))
   (aRn K c aq ops (i+1) (aLF o.dst (.tup []) tr) H wr k)=true:=h
  unfold wpD;rcases aG7 h' with⟨h1,h2⟩ | ⟨h1,h2⟩
  ·rw[h1];obtain⟨r,h3,h4⟩:=aKh hK h2;dsimp only;rw[h3];obtain⟨v,H',rd,w⟩:=r;dsimp only at h4 ⊢;rw[<- aBb];refine aCf hK ops (fun tr H wr log hh=>?_) h4;cases hc:aq.contains i with
   |true=>rw[hc]at hh;rw[Zy rfl];grind
   |false=>rw[hc]at hh;rw[Zx siT];grind
  rw[h1];dsimp only;rw[<- aBb];exact aCf hK ops hk h2
noncomputable def aTP(c:Ctx)(ts:List (Nat×Nat)):KT->LO->LN->KQ->Bool:=
 IU (motive:=fun _=>KT->LO->LN->KQ->Bool) (fun tr H wr k=>k tr H wr)
  (fun p _ ih tr H wr k=>match p with
   | (0,t)=>aFz (aMD H (toF tr t)) fun r=>ih (aLF (QQ t) r.1 tr) r.2.1 (bE c.base wr r.2.2) k
   | (n+1,t)=>bif (toF tr t).iy then ih tr H wr k else match pE H (toF tr t)with
    |some r=>ih tr r.1 (bE c.base wr r.2) k
    |none=>aFz (bC H (n+1) (toF tr t)) fun cs=>aFz (aMD H (.agg cs)) fun r=>match r with
     | (.agg cs',H',l)=>aFz (storeCells H' cs' (toF tr t)) fun q=>ih tr q.1 (bE c.base wr (l++q.2)) k
     |_=>QT) ts
theorem vK{c:Ctx}:∀(ts:List (Nat×Nat)) {tr:KT} {l:LA} {H:LO} {wr:LN} {k:KQ},ck l=toF tr->aTP c ts tr H wr k=QS->(ts.all fun p=>decide (p.2<l.length))=QS ->∃s' tr',nX c ⟨l,H,wr⟩ ts=QQ s'/\s'.ρ.length=l.length/\ck s'.ρ=toF tr'/\k tr' s'.H s'.wr=QS
 | [],tr,l,H,wr,k,he,h,_=>⟨⟨l,H,wr⟩,tr,rfl,rfl,he,h⟩
 | (0,t)::ts,tr,l,H,wr,k,he,h,hd=>by
  rw[ES,AI]at hd;have h':aFz (aMD H (toF tr t)) (fun r=>aTP c ts (aLF (QQ t) r.1 tr) r.2.1 (bE c.base wr r.2.2) k)=true:=h;obtain⟨⟨v,H',l1⟩,h1,h2⟩:=fX h';have ht:t<l.length:=by simpa using hd.1
  have hf:ck (l.set t v)=toF (aLF (QQ t) v tr):=by rw[nG ht,he,aBb];rfl
  obtain⟨s',tr',g1,g2,g3,g4⟩:=vK ts hf h2 (by grind);refine⟨s',tr', ?_,by rw[g2];simp,g3,g4⟩;unfold nX;dsimp only;rw[show (l[t]?).getD .undef=toF tr t by rw[<- he];rfl,h1];exact g1
 | (n+1,t)::ts,tr,l,H,wr,k,he,h,hd=>by
  rw[ES,AI]at hd;have e1:(l[t]?).getD .undef=toF tr t:=by rw[<- he];rfl
  have h':(bif (toF tr t).iy then aTP c ts tr H wr k else match pE H (toF tr t)with
    |some r=>aTP c ts tr r.1 (bE c.base wr r.2) k
    |none=>aFz (bC H (n+1) (toF tr t)) fun cs=>aFz (aMD H (.agg cs)) fun r=>match r with
     | (.agg cs',H',l)=>aFz (storeCells H' cs' (toF tr t)) fun q=>aTP c ts tr q.1 (bE c.base wr (l++q.2)) k
     |_=>QT)=true:=h
  cases hu:(toF tr t).iy with
  |true=>rw[hu]at h';obtain⟨s',tr',g1,g2,g3,g4⟩:=vK ts he h' hd.2;refine⟨s',tr', ?_,g2,g3,g4⟩;unfold nX;rw[Zy (by grind)];exact g1
  |false=>
   rw[hu]at h';simp only[cond_false]at h';cases hk:pE H (toF tr t)with
   |some r=>rw[hk]at h';obtain⟨s',tr',g1,g2,g3,g4⟩:=vK ts he h' hd.2;refine⟨s',tr', ?_,g2,g3,g4⟩;simp_all [nX,Zx]
   |none=>
   rw[hk]at h';dsimp only at h';obtain⟨cs,h1,h2⟩:=fX h';obtain⟨r,h3,h4⟩:=fX h2;split at h4
   ·rename_i cs' H' l1;obtain⟨⟨H2,l2⟩,h5,h6⟩:=fX h4;obtain⟨s',tr',g1,g2,g3,g4⟩:=vK ts he h6 hd.2;refine⟨s',tr', ?_,g2,g3,g4⟩;simp_all [nX,Zx]
   cases h4
theorem aG8(b:Nat)(s:LN)(d:Option Nat):((Ctx.mk b s).site d).isSome=((Ctx.mk 0 s).site d).isSome:=by unfold Ctx.site;grind
theorem aES{s s':Option Nat}(h:s.isSome=s'.isSome)(op:df):looks s op=looks s' op:=by cases op<;>first | rfl | (simp only[looks,h])
theorem aG9(b:Nat)(s:LN)(o:ae):aBG ⟨b,s⟩ o=aBG ⟨0,s⟩ o:=by
 have h:=aG8 b s o.dst;unfold aBG;generalize (Ctx.mk b s).site o.dst=x at h ⊢;generalize (Ctx.mk 0 s).site o.dst=y at h ⊢;cases x<;>cases y<;>simp at h
 ·rfl
 cases o.op<;>rfl
theorem aGa(b:Nat)(s:LN)(aq:LN)(o:ae)(i:Nat)(p:ae)(j:Nat):aG4 ⟨b,s⟩ aq o i p j=aG4 ⟨0,s⟩ aq o i p j:=by grind [aG4,aG9,aES,aG8]
theorem aGb(b:Nat)(s:LN)(ops:List ae):aBH ⟨b,s⟩ ops=aBH ⟨0,s⟩ ops:=by unfold aBH;simp only[aGa b]
theorem aET(b:Nat)(s:LN)(aq:LN):∀(ops:List ae) (i:Nat),aCd ⟨b,s⟩ aq i ops=aCd ⟨0,s⟩ aq i ops
 | [],_=>rfl
 |o::r,i=>by
  unfold aCd;simp only[aGa b];rw[aET b s aq r]
theorem iV(N b:Nat)(s:LN):∀x:ag,dK N ⟨b,s⟩ x=dK N ⟨0,s⟩ x
 |.region d ops=>by simp only[dK,aGb b,aET b]
 |.seq x y=>by simp only[dK,iV N b s x,iV N b s y]
 |.cond _ x y=>by simp only[dK,iV N b s x,iV N b s y]
 |.block _ x=>by simp only[dK,iV N b s x]
 |.loop x=>by simp only[dK,iV N b s x]
 |.frz _ | .skip | .bad | .exit _ | .ret | .dz _ _ _=>rfl
abbrev KE:=bf->KT->LO->LN->Bool
noncomputable def aRo(ih:KT->LO->LN->KE->Bool)(m:Nat):KT->LO->LN->KE->Bool:=
 Nat.rec (motive:=fun _=>KT->LO->LN->KE->Bool) (fun _ _ _ _=>QT)
  (fun _ again tr H wr Q=>ih tr H wr fun e tr H wr=>bf.casesOn (motive:=fun _=>Bool) e (again tr H wr Q) (fun id=>Q (.exit id) tr H wr) (Q .ret tr H wr)) m
noncomputable def aTQ(x:aa)(ρ:bN)(a b:Bool):Bool:=match x.at ρ with
 |.bool t=>bif t then a else b
 |_=>QT
noncomputable def aLH(K:pV)(c:Ctx)(d:Bool)(ops:List ae)(tr:KT)(H:LO)(wr:LN)(Q:KE):Bool:=
 bif d then aFz (cS c H ops) fun H0=>aRn K c (aBH ⟨0,c.sites⟩ ops) ops 0 tr H0 wr fun tr H wr log=>eH (fun j=>((ops[j]?).map ae.pre).getD []) log&&Q .normal tr H wr
 else aYt K c ops tr H wr (Q .normal)
def aPc(N:Nat)(ρ:bN):LA:=(GZ N).map ρ
theorem aPd{N:Nat}{l:LA}(hl:l.length=N):aPc N (ck l)=l:=by
 subst hl;apply HN;intro i;unfold aPc;rw[BN];by_cases h:i<l.length
 ·rw[List.getElem?_range h];simp[ck,h]
 grind
noncomputable def aPe(K:pV)(N:Nat)(c:Ctx)(x:aa)(ps:LN)(body:ag)(tr:KT)(H:LO)(wr:LN)(Q:KE):Bool:=
 match x.at (toF tr)with
 |.fn f first ay=>aFz (c.site ps.head?) fun id=>bif decide (id<H.length)&&eZ c H then
   K f (first++.yld id (bH H id)::ay) (make H id fun v=>.rnd v c.base c.sites ps body (aPc N (toF tr)) QT N2) fun _ H2 ba=>
    match H2[id]? with
    |some (.rnd v _ _ _ _ _ QT pend)=>bif EY v (bH H id)&&eZ c H2 then Q (pend.getD .normal) tr (H2.set id (.gone v)) (bE c.base wr (id::ba))else QT
    |_=>QT
  else QT
 |_=>QT
noncomputable def aHv(K:pV)(m N:Nat)(c:Ctx)(x:ag):KT->LO->LN->KE->Bool:=
 ag.rec (motive:=fun _=>KT->LO->LN->KE->Bool)
  (fun tr H wr Q=>Q .normal tr H wr)
  (fun _ _ _ _=>QT)
  (fun d ops tr H wr Q=>aLH K c d ops tr H wr Q)
  (fun _ _ iha ihb tr H wr Q=>iha tr H wr fun e tr H wr=>bf.casesOn (motive:=fun _=>Bool) e (ihb tr H wr Q) (fun id=>Q (.exit id) tr H wr) (Q .ret tr H wr))
  (fun x _ _ iha ihb tr H wr Q=>aTQ x (toF tr) (iha tr H wr Q) (ihb tr H wr Q))
  (fun id _ ih tr H wr Q=>ih tr H wr fun e tr H wr=>bf.casesOn (motive:=fun _=>Bool) e (Q .normal tr H wr) (fun id'=>bif EY id' id then Q .normal tr H wr else Q (.exit id') tr H wr) (Q .ret tr H wr))
  (fun _ ih tr H wr Q=>aRo ih m tr H wr Q)
  (fun id tr H wr Q=>Q (.exit id) tr H wr)
  (fun tr H wr Q=>Q .ret tr H wr)
  (fun ts tr H wr Q=>aTP c ts tr H wr (Q .normal))
  (fun x ps body _ tr H wr Q=>aPe K N c x ps body tr H wr Q) x
section
variable {A:af}{K:pV}{m:Nat}{c:Ctx}{N:Nat}
def toQ(Q:KE):bf->bN->LO->LN->Prop:=fun e ρ H wr=>∃tr,ρ=toF tr/\Q e tr H wr=QS
theorem aGc{b:ag}{ih:KT->LO->LN->KE->Bool}(hok:dK N c b=QS) (hb:∀{tr:KT} {H:LO} {wr:LN} {Q:KE},ih tr H wr Q=QS->Wp A N c b (toF tr) H wr (toQ Q)):∀(m:Nat) {tr:KT} {H:LO} {wr:LN} {Q:KE},aRo ih m tr H wr Q=QS->Wp A N c (.loop b) (toF tr) H wr (toQ Q)
 |0,tr,H,wr,Q,h=>by cases h
 |m+1,tr,H,wr,Q,h=>by
  have h1:=hb (show ih tr H wr (fun e tr H wr=>bf.casesOn (motive:=fun _=>Bool) e (aRo ih m tr H wr Q) (fun id=>Q (.exit id) tr H wr) (Q .ret tr H wr))=QS from h);intro l hl he;obtain⟨n,e,s',g1,g2,tr1,g3,g4⟩:=h1 l hl he;cases e with
  |normal=>obtain⟨n2,e',s'',k1,k2,k3⟩:=aGc hok hb m g4 s'.ρ g2 g3;refine⟨max n n2+1,e',s'', ?_,k2,k3⟩;rw[gU,eJ (GJ n n2) _ _ _ _ g1];exact eJ (GC n n2) _ _ _ _ k1
  |exit id=>exact⟨n+1,.exit id,s',by rw[gU,g1],g2,tr1,g3,g4⟩
  |ret=>exact⟨n+1,.ret,s',by rw[gU,g1],g2,tr1,g3,g4⟩
theorem iW(hK:KOk A K):∀(x:ag) {tr:KT} {H:LO} {wr:LN} {Q:KE},dK N c x=QS->aHv K m N c x tr H wr Q=QS->Wp A N c x (toF tr) H wr (toQ Q)
 |.skip,tr,H,wr,Q,hok,h=>fun l hl he=>⟨1,.normal,⟨l,H,wr⟩,rfl,hl,tr,he,h⟩
 |.bad,tr,H,wr,Q,hok,h=>by cases h
 |.region d ops,tr,H,wr,Q,hok,h=>by
  have h':aLH K c d ops tr H wr Q=true:=h;refine kM ?_ hok;unfold aLH at h';cases d with
  |false=>simp only[cond_false]at h';rw[wpc];exact aE2 hK ops h'
  |true=>simp only[cond_true]at h';obtain⟨H0,h1,h2⟩:=fX h';rw[wpc,h1];dsimp only;have e:c=⟨c.base,c.sites⟩:=rfl;rw[show aBH c ops=aBH ⟨0,c.sites⟩ ops from aGb c.base c.sites ops];refine aCf hK ops (fun tr H wr log hh=>?_) h2;rw[AI]at hh;exact⟨hh.1,tr,rfl,hh.2⟩
 |.seq a b,tr,H,wr,Q,hok,h=>by
  simp only[dK,AI]at hok;have h':aHv K m N c a tr H wr (fun e tr H wr=>bf.casesOn (motive:=fun _=>Bool) e (aHv K m N c b tr H wr Q) (fun id=>Q (.exit id) tr H wr) (Q .ret tr H wr))=true:=h;intro l hl he;obtain⟨n,e,s',g1,g2,tr1,g3,g4⟩:=iW hK a hok.1 h' l hl he;cases e with
  |normal=>obtain⟨n2,e',s'',k1,k2,k3⟩:=iW hK b hok.2 g4 s'.ρ g2 g3;refine⟨max n n2+1,e',s'', ?_,k2,k3⟩;rw[iD,eJ (GJ n n2) _ _ _ _ g1];exact eJ (GC n n2) _ _ _ _ k1
  |exit id=>exact⟨n+1,.exit id,s',by rw[iD,g1],g2,tr1,g3,g4⟩
  |ret=>exact⟨n+1,.ret,s',by rw[iD,g1],g2,tr1,g3,g4⟩
 |.cond x a b,tr,H,wr,Q,hok,h=>by
  simp only[dK,AI]at hok;have h':aTQ x (toF tr) (aHv K m N c a tr H wr Q) (aHv K m N c b tr H wr Q)=true:=h;unfold aTQ at h';split at h'
  ·rename_i t hx;intro l hl he;have ht:x.ev l=x.at (toF tr):=by rw[<- he];exact x.ka l
   cases t with
   |true=>obtain⟨n,e,s',g1,g2⟩:=iW hK a hok.1 h' l hl he;exact⟨n+1,e,s',by rw[iT];grind,g2⟩
   |false=>obtain⟨n,e,s',g1,g2⟩:=iW hK b hok.2 h' l hl he;exact⟨n+1,e,s',by rw[iT];grind,g2⟩
  cases h'
 |.block id b,tr,H,wr,Q,hok,h=>by
  simp only[dK]at hok;have h':aHv K m N c b tr H wr (fun e tr H wr=>bf.casesOn (motive:=fun _=>Bool) e (Q .normal tr H wr) (fun id'=>bif EY id' id then Q .normal tr H wr else Q (.exit id') tr H wr) (Q .ret tr H wr))=true:=h;intro l hl he;obtain⟨n,e,s',g1,g2,tr1,g3,g4⟩:=iW hK b hok h' l hl he;cases e with
  |normal=>exact⟨n+1,.normal,s',by rw[eP,g1],g2,tr1,g3,g4⟩
  |ret=>exact⟨n+1,.ret,s',by rw[eP,g1],g2,tr1,g3,g4⟩
  |exit id'=>
   dsimp only at g4;cases hb:EY id' id with
   |true=>rw[hb]at g4;exact⟨n+1,.normal,s',by simp_all [eP,Zy,ET],g2,tr1,g3,g4⟩
   |false=>rw[hb]at g4;exact⟨n+1,.exit id',s',by rw[eP,g1];dsimp only;rw[Zx (Nat.ne_of_beq_eq_false hb)],g2,tr1,g3,g4⟩
 |.loop b,tr,H,wr,Q,hok,h=>by
  simp only[dK]at hok;exact aGc hok (fun h=>iW hK b hok h) m (show aRo (aHv K m N c b) m tr H wr Q=QS from h)
 |.exit id,tr,H,wr,Q,hok,h=>fun l hl he=>⟨1,.exit id,⟨l,H,wr⟩,rfl,hl,tr,he,h⟩
 |.ret,tr,H,wr,Q,hok,h=>fun l hl he=>⟨1,.ret,⟨l,H,wr⟩,rfl,hl,tr,he,h⟩
 |.frz ts,tr,H,wr,Q,hok,h=>fun l hl he=>by
  have h':aTP c ts tr H wr (Q .normal)=true:=h;obtain⟨s',tr',h1,h2,h3,h4⟩:=vK ts he h' (by rw[hl];exact hok);exact⟨1,.normal,s',by rw[vI,h1],by rw[h2,hl],tr',h3,h4⟩
 |.dz x ps body,tr,H,wr,Q,hok,h=>fun l hl he=>by
  have h':aPe K N c x ps body tr H wr Q=true:=h;unfold aPe at h';have hx:x.ev l=x.at (toF tr):=by rw[<- he];exact x.ka l
  split at h'
  ·rename_i f first ay Qd
   obtain⟨id,hid,h1⟩:=fX h';cases hc:decide (id<H.length)&&eZ c H with
   |false=>simp only[hc,cond_false]at h1;cases h1
   |true=>
    simp only[hc,cond_true]at h1;rw[AI,decide_eq_true_eq]at hc;obtain⟨v,H2,ba,h2,h3⟩:=hK _ _ _ _ h1;obtain⟨n,hn⟩:=oM h2;rw[<- he,aPd hl]at hn;split at h3
    ·rename_i v2 b' s' p' c' r' pend hH2;cases hv:EY v2 (bH H id)&&eZ c H2 with
     |false=>simp only[hv,cond_false]at h3;cases h3
     |true=>simp only[hv,cond_true]at h3;rw[AI]at hv;have qy:=ET hv.1;refine⟨n+1,pend.getD .normal,⟨l,H2.set id (.gone v2),bE c.base wr (id::ba)⟩, ?_,hl,tr,he,h3⟩;simp_all [iU,Zy]
    cases h3
  cases h'
end
noncomputable def aIe(args:LA):Nat->KT->KT:=
 IU (motive:=fun _=>Nat->KT->KT) (fun _ t=>t) (fun a _ ih i t=>ih (i+1) (aTN (aG6 i) a t)) args
theorem aIf:∀(args:LA) (i:Nat) (t:KT),toF (aIe args i t)=fun j=>if i<=j/\j<i+args.length then (args[j - i]?).getD .undef else toF t j
 | [],i,t=>by
  funext j;show toF t j=_;grind
 |a::r,i,t=>by
  have h:toF (aIe r (i+1) (aLF (QQ i) a t))=_:=aIf r (i+1) (aLF (QQ i) a t);show toF (aIe r (i+1) (aLF (QQ i) a t))=_;rw[h,aBb];funext j;simp only[zX,upd,AW];grind
theorem aKi(args:LA):toF (aIe args 0 .e)=pO args:=by
 rw[aIf];funext j;unfold pO;by_cases h:j<args.length
 ·grind
 rw[Zx omT,CY omT];exact aMM _
noncomputable def aMR{α:Type}(l:List α)(k:List α->Bool):Bool:=
 IU (motive:=fun _=>(List α->Bool)->Bool) (fun k=>k []) (fun a _ ih k=>ih fun r=>k (a::r)) l k
theorem aKj{α:Type}:∀(l:List α) (k:List α->Bool),aMR l k=k l
 | [],_=>rfl
 |a::r,k=>aKj r fun r=>k (a::r)
noncomputable def bA6(base:Nat)(rs:List ou)(k:AV->LO->LN->Bool):KE:=fun e tr H wr=>
 bf.casesOn (motive:=fun _=>Bool) e (aFz (iE base rs (toF tr) H wr) fun r=>aMR (cJ base r).2.1 fun H'=>k (cJ base r).1 H' (cJ base r).2.2) (fun _=>QT)
  (aFz (iE base rs (toF tr) H wr) fun r=>aMR (cJ base r).2.1 fun H'=>k (cJ base r).1 H' (cJ base r).2.2)
noncomputable def kFn(K:pV)(m:Nat)(fn:bw)(args:LA)(H:LO)(k:AV->LO->LN->Bool):Bool:=
 dK fn.ntmps ⟨0,fn.sites⟩ fn.body&&Nat.ble args.length fn.ntmps &&
  aHv K m fn.ntmps ⟨H.length,fn.sites⟩ fn.body (aIe args 0 .e) (H++AX fn.sites.length (.gone 0)) [] (bA6 H.length fn.results k)
def aPf:bf->Bool
 |.normal=>QS
 |_=>QT
def aWX:bf->Option bf
 |.normal=>N2
 |e=>QQ e
noncomputable def aMS(K:pV)(m:Nat)(args:LA)(H:LO)(k:AV->LO->LN->Bool):Bool:=match args with
 |.own 0 []::.yld o v::xs=>match H[o]? with
  |some (.rnd v' base sites ps (.seq asg body) ρ QT N2)=>
   bif EY v' v&&EY xs.length ps.length&&(dK ρ.length ⟨0,sites++[YF+o,YF+v]⟩ asg&&dK ρ.length ⟨0,sites++[YF+o,YF+v]⟩ body)then
    aHv K m ρ.length ⟨base,sites++[YF+o,YF+v]⟩ asg (aIe (dH ρ ps xs) 0 .e) H [] fun e0 tr0 H0 wr0=>bif aPf e0 then match H0[o]? with
     |some (.rnd v1 b1 t1 p1 c1 r1 QT N2)=>bif EY v1 v then
      aHv K m ρ.length ⟨base,sites++[YF+o,YF+v]⟩ body tr0 (H0.set o (.rnd v b1 t1 p1 c1 r1 QS N2)) wr0 fun e tr H' wr=>match H'[o]? with
       |some (.rnd v2 b2 s2 p2 c2 r2 QS N2)=>bif EY v2 v then k (.bool (aPf e)) (H'.set o (.rnd v b2 s2 p2 c2 r2 QT (aWX e))) (FM base (H.length - base)++(o::wr))else QT
       |_=>QT
      else QT
     |_=>QT
     else QT
   else QT
  |_=>QT
 |_=>QT
theorem aAf:∀(ps:LN) (xs ρ:LA),(dH ρ ps xs).length=ρ.length
 | [],_,_=>by simp[dH]
 |_::_,[],_=>by simp[dH]
 |t::ps,x::xs,ρ=>by rw[dH,aAf ps xs];simp
theorem aKk{A:af}{K:pV}(hK:KOk A K){m:Nat}{f:Nat}{args:LA}{H:LO}{k}(hp:(A.bq f).bind (· args H)=N2)(hf:A.fn f=N2)(h:aMS K m args H k=QS):∃v H' wr,aG A f args H=QQ (v,H',wr)/\k v H' wr=true:=by
 unfold aMS at h;split at h
 ·rename_i o v xs;split at h
  ·rename_i v' base sites ps asg body ρ hH;cases hc:EY v' v&&EY xs.length ps.length&&(dK ρ.length ⟨0,sites++[YF+o,YF+v]⟩ asg&&dK ρ.length ⟨0,sites++[YF+o,YF+v]⟩ body)with
   |false=>grind
   |true=>
    rw[hc,cond_true]at h;simp only[AI]at hc;obtain⟨⟨c1,c2⟩,c0,c3⟩:=hc;have e1:=ET c1;have e2:=ET c2;subst e1;have hok:dK ρ.length ⟨base,sites++[YF+o,YF+v']⟩ body=true:=by rw[iV];exact c3
    have Eh:dK ρ.length ⟨base,sites++[YF+o,YF+v']⟩ asg=true:=by rw[iV];exact c0
    have hw:=iW (N:=ρ.length) hK asg Eh h;rw[aKi]at hw;have Ei:ck (dH ρ ps xs)=pO (dH ρ ps xs):=by have:=aE0 (dH ρ ps xs) 0;grind
    obtain⟨n0,e0,s0,a1,a2,tr0,a3,a4⟩:=hw (dH ρ ps xs) (aAf _ _ _) Ei;cases e0 with
    |exit id=>cases a4
    |ret=>cases a4
    |normal=>
    dsimp only[aPf,cond_true]at a4;split at a4;rotate_left
    ·cases a4
    rename_i v1 b1 t1 p1 c1' r1 xu;cases qy:EY v1 v' with
    |false=>grind
    |true=>
    rw[qy,cond_true]at a4;have:=ET qy;subst this;obtain⟨n1,e,s',h1,h2,tr,h3,h4⟩:=iW (N:=ρ.length) hK body hok a4 s0.ρ a2 a3;dsimp only at h4;split at h4
    ·rename_i v2 b2 s2 p2 c2' r2 hs;cases hv:EY v2 v1 with
     |false=>grind
     |true=>rw[hv,cond_true]at h4;have:=ET hv;subst this;refine⟨_,_,_,oL (n:=max n0 n1) ?_,h4⟩;unfold dD qL;rw[hp,hf];dsimp only;rw[aAe,hH];dsimp only;rw[Zy ⟨rfl,e2⟩,eJ (GJ n0 n1) _ _ _ _ a1];dsimp only;rw[xu];dsimp only;rw[Zy rfl,eJ (GC n0 n1) _ _ _ _ h1];dsimp only;rw[hs];dsimp only;rw[Zy rfl];cases e<;>rfl
    cases h4
  cases h
 cases h
noncomputable def aE3(A:af)(m n:Nat):pV:=
 Nat.rec (motive:=fun _=>pV) (fun _ _ _ _=>QT)
  (fun _ K f args H k=>JA (JA (aMS K m args H k) (fun fn=>kFn K m fn args H k) (A.fn f)) (fun r=>k (cT H r).1 (cT H r).2.1 (cT H r).2.2) ((A.bq f).bind (· args H))) n
theorem xG(A:af)(m:Nat):∀n,KOk A (aE3 A m n)
 |0,f,args,H,k,h=>by cases h
 |n+1,f,args,H,k,h=>by
  have h':(JA (JA (aMS (aE3 A m n) m args H k) (fun fn=>kFn (aE3 A m n) m fn args H k) (A.fn f)) (fun r=>k (cT H r).1 (cT H r).2.1 (cT H r).2.2) ((A.bq f).bind (· args H)):Bool)=true:=h;cases hp:(A.bq f).bind (· args H)with
  |some r=>rw[hp]at h';refine⟨_,_,_,oL (n:=0) ?_,h'⟩;unfold dD qL;rw[hp]
  |none=>
   rw[hp]at h';cases hf:A.fn f with
   |none=>rw[hf]at h';exact aKk (xG A m n) hp hf h'
   |some fn=>
    rw[hf]at h';have h2:kFn (aE3 A m n) m fn args H k=true:=h';unfold kFn at h2;simp only[AI]at h2;obtain⟨⟨hok,hN⟩,hc⟩:=h2;have Ej:dK fn.ntmps ⟨H.length,fn.sites⟩ fn.body=true:=by rw[iV];exact hok
    have Dv:args.length<=fn.ntmps:=Nat.le_of_ble_eq_true hN;have hw:=iW (N:=fn.ntmps) (xG A m n) fn.body Ej hc;rw[aKi]at hw;obtain⟨n1,e,s',h1,h2,tr,h3,h4⟩:=hw (args++AX (fn.ntmps - args.length) .undef) soT (aE0 _ _);have key:∀r,iE H.length fn.results (toF tr) s'.H s'.wr=QQ r->aA4 H.length fn s'=QQ r:=by grind [iE,aA4,aJ6]
    have fin:(e=.normal∨e=.ret)->aFz (iE H.length fn.results (toF tr) s'.H s'.wr) (fun r=>aMR (cJ H.length r).2.1 fun H'=>k (cJ H.length r).1 H' (cJ H.length r).2.2)=QS ->
      ∃v H' wr,aG A f args H=QQ (v,H',wr)/\k v H' wr=true:=by
     intro he hk;obtain⟨r,hr,hk⟩:=fX hk;rw[aKj]at hk;exact⟨_,_,_,oL (oU hp hf h1 he (key _ hr) Dv),hk⟩
    cases e with
    |normal=>exact fin (.inl rfl) h4
    |ret=>exact fin (.inr rfl) h4
    |exit id=>cases h4
section
variable {P:CU}{ab:cu}{g g':G}{H H':LO}{w w':BL}{W:LN}
theorem aCg{l0:Nat}{r0:Loop}(h:w.heap[l0]? = QQ (.loop r0))(fn:FuncId)(tmps:Array BE)(ps:Array Tmp)(assign body:Code):(JZ fn tmps ps assign body (QQ l0)).run P w = .ok (w.heap.size,[]) (w.alloc (.loop { state:=.ready,pending:=N2,fn,tmps,params:=ps,assign,body,defers:=r0.defers })):=by unfold JZ;simp only[BS,run_newObj_alloc,DL,CB,run_getLoop h]
theorem Step.xw(h:WF g H w)(x:Obj):Step g H w { g with whole:=fun b=>if b=w.heap.size then QQ x else g.whole b } H (w.alloc x) []:=by
 have e:(w.alloc x).heap=w.heap.push x:=rfl;have hle:g.le { g with whole:=fun b=>if b=w.heap.size then QQ x else g.whole b }:=by refine⟨fun _ _ _ hx=>hx,fun o l hl=>⟨l,hl,AQ _,fun _=>⟨AQ _,fun _=>rfl⟩⟩,fun b y hy=>?_,rfl,rfl⟩;have:=h.whole.lt hy;grind
 have dx:∀o l y,au { g with whole:=fun b=>if b=w.heap.size then QQ x else g.whole b } H o l y->au g H o l y:=fun o l y hb=>⟨hb.Pr,hb.alive,hb.loc,hb.st⟩;refine⟨hle,⟨fun b i y hy=>?_,h.lt,fun o l hl=>?_,h.st,fun o l y hb=>?_,fun o l y hb=>h.jh o l y (dx o l y hb),fun o o' l l' y y' hb du=>h.inj o o' l l' y y' (dx _ _ _ hb) (dx _ _ _ du),⟨fun b y hy=>?_,h.whole.io⟩⟩,⟨by rw[e];simp,fun b hb _=>cK e hb⟩,fun _ _ _=>rfl,AQ _,fun _ l' hl=>.inr ⟨l',hl,rfl⟩,fun _ _ _=>rfl⟩
 ·rw[cell_of_heap (cK e (h.ko hy))];exact h.perm b i y hy
 ·have:=h.blk o l hl;grind
 ·exact (h.obj o l y (dx o l y hb)).aq hle (cK e (h.blk o l hb.loc))
 by_cases hb:b=w.heap.size
 ·subst hb;simp only[Zv,AG]at hy;subst hy;refine⟨by rw[e];simp,fun o l z hz hE=>?_⟩;have:=h.blk o l hz.loc;omega
 simp only[hb,Zu]at hy;obtain⟨h1,h2⟩:=h.whole.blocks b y hy;grind
theorem Step.put(h:WF g H w){o:Nat}{l:Loc}{x x':ah}(hb:au g H o l x)(hv:x'.ver=x.ver)(j8:x'.alive=QS)(ob:Obj) (la:g.le (g.setObj o l)->aBw (g.setObj o l) (w.putObj l.b ob) l x'):Step g H w (g.setObj o l) (H.set o x') (w.putObj l.b ob) [o]:=by refine Step.update h o x' l (h.lt o l hb.loc) siT (fun b _ bl=>GK (Ne.symm (bl l x hb))) (by simpa using h.blk o l hb.loc) (.inr ⟨l,x,hb,rfl⟩) (by rw[hv];exact hb.st) j8 (fun l0 sz=>?_) la;rw[hb.loc]at sz;grind
theorem Step.F8(h:WF g H w){o:Nat}{l:Loc}{x:ah}(hb:au g H o l x)(ob:Obj):Step g H w g (H.set o (.gone x.ver)) (w.putObj l.b ob) [o]:=by
 obtain⟨h1,h2⟩:=Step.drop h hb;have hh:∀b,b≠l.b->(w.putObj l.b ob).heap[b]? = w.heap[b]? := fun b bl=>GK bl;have pj:=h1.wf;refine⟨G.le.refl g,⟨fun b i y hy=>?_,pj.lt,fun o' l' hl=>by simpa using pj.blk o' l' hl,pj.st,fun o' l' y du=>(pj.obj o' l' y du).aq (G.le.refl g) (hh _ (h2 o' l' y du)),pj.jh,pj.inj,⟨fun b y hy=>?_,pj.whole.io⟩⟩,⟨siT,fun b du hw=>hh b fun e=>hw o siT l hb.loc e.symm⟩,h1.same,h1.len,fun o' l' hl=>.inr ⟨l',hl,rfl⟩,fun _ _ _=>rfl⟩
 ·have bl:b≠l.b:=fun e=>by
   have:=h.jh o l x hb i;grind
  rw[cell_of_heap (hh b bl)];exact pj.perm b i y hy
 have bl:b≠l.b:=fun e=>(h.whole.blocks b y hy).2 o l x hb e.symm;obtain⟨a1,a2⟩:=pj.whole.blocks b y hy;grind
def oV(w:BL):LN->BL
 | []=>w
 |b::bs=>oV (w.putObj b (.deferred N2)) bs
theorem oW:∀(bs:LN) (w:BL) {b:Nat},b∉bs->(oV w bs).heap[b]? = w.heap[b]?
 | [],_,_,_=>rfl
 |c::bs,w,b,h=>by
  simp only[BD,not_or]at h;rw[oV,oW bs _ h.2,GK h.1]
theorem aCh:∀(bs:LN) (w:BL),(oV w bs).heap.size=w.heap.size
 | [],_=>rfl
 |c::bs,w=>by rw[oV,aCh bs];simp
theorem aGd:∀(bs:LN) (w:BL),(oV w bs).os=w.os/\(oV w bs).output=w.output
 | [],_=>⟨rfl,rfl⟩
 |c::bs,w=>by rw[oV];exact aGd bs _
def G.jb(g:G)(bs:LN):G:={ g with whole:=fun b=>if b∈bs then N2 else g.whole b }
theorem ai.jb{bs:LN}(ss:∀b∈bs,g.whole b=QQ (.deferred (QQ []))){a:AV}{x:BE}(h:ai g a x):ai (g.jb bs) a x:=by
 induction h with
 |undef x=>exact .undef x
 |bool b=>exact .bool b
 |int k n=>exact .int k n
 |str s=>exact .str s
 |fn f first ay vf vc hf hc h1 h2 ih1 ih2=>exact .fn f first ay vf vc hf hc ih1 ih2
 |bx=>exact .bx
 |ptr o v off l a hl hv h=>exact .ptr o v off l a hl hv h
 |vp o v n k i off l a hl hv hn h=>exact .vp o v n k i off l a hl hv hn h
 |nilPtr=>exact .nilPtr
 |bj=>exact .bj
 |ifc t v x hv h ih=>exact .ifc t v x hv ih
 |ep row off b base bd hp h ih=>exact .ep row off b base bd hp ih
 |kn full=>exact .kn full
 |sl full rows b off cap k cm jo hk bd hp h ih=>exact .sl full rows b off cap k cm jo hk bd hp ih
 |sr o v n l a cap hl hv hn jg h=>exact .sr o v n l a cap hl hv hn jg h
 |srv o v n k lo l a cap hl hv hn gr h=>exact .srv o v n k lo l a cap hl hv hn gr h
 |srw o v n hi l a cap hl hv hn tf h=>exact .srw o v n hi l a cap hl hv hn tf h
 |ar=>exact .ar
 |mp o v l r hl hv h=>exact .mp o v l r hl hv h
 |fmp ks vs r entries clock xs hw hp hk hv h1 h2 ih1 ih2=>refine .fmp ks vs r entries clock xs ?_ hp hk hv ih1 ih2;show (if r∈bs then N2 else g.whole r)=_;grind
 |yld o v l r hl hv h=>exact .yld o v l r hl hv h
 |agg cs vs hs h ih=>exact .agg cs vs hs ih
 |tup cs vs hs h ih=>exact .tup cs vs hs ih
theorem aBw.jb{bs:LN}(ss:∀b∈bs,g.whole b=QQ (.deferred (QQ []))){l:Loc}{x:ah}(hb:w'.heap[l.b]? = w.heap[l.b]?)(h:aBw g w l x):aBw (g.jb bs) w' l x:=by
 cases x with
 |gone v=>trivial
 |box v cells=>obtain⟨h1,h2,h3⟩:=h;refine⟨h1,h2.of_heap hb,fun j a ha=>?_⟩;obtain⟨y,hy,hr⟩:=h3 j a ha;exact⟨y,by rw[cell_of_heap hb];exact hy,hr.jb ss⟩
 |cw v ty cells=>obtain⟨h1,⟨cs,h2,zc⟩,h3⟩:=h;refine⟨h1,⟨cs,by grind,zc⟩,fun j a ha=>?_⟩;obtain⟨y,hy,hr⟩:=h3 j a ha;exact⟨y,by rw[cell_of_heap hb];exact hy,hr.jb ss⟩
 |vec v k rows=>obtain⟨h1,h2,h3,h4,h5,h6,h7⟩:=h;refine⟨h1,h2,h3,h4.of_heap hb,h5,fun j hj=>by rw[cell_of_heap hb];exact h6 j hj,fun i j row a hr ha=>?_⟩;obtain⟨hs,y,hy,hv⟩:=h7 i j row a hr ha;exact⟨hs,y,by rw[cell_of_heap hb];exact hy,hv.jb ss⟩
 |gl v ty k rows=>obtain⟨⟨h1,h2,h3,h4,h5,h6,h7⟩,cs,h8⟩:=h;refine⟨?_,cs,by grind⟩;refine⟨h1,h2,h3,h4.of_heap hb,h5,fun j hj=>by rw[cell_of_heap hb];exact h6 j hj,fun i j row a hr ha=>?_⟩;obtain⟨hs,y,hy,hv⟩:=h7 i j row a hr ha;exact⟨hs,y,by rw[cell_of_heap hb];exact hy,hv.jb ss⟩
 |map v es=>obtain⟨h1,entries,clock,h2,h3,h4⟩:=h;exact⟨h1,entries,clock,by grind,h3,fun i k v e hk he=>⟨(h4 i k v e hk he).1.jb ss,(h4 i k v e hk he).2.jb ss⟩⟩
 |rnd v base sites ps body ρ busy pend=>obtain⟨h1,r,h2,h3,h4,h5,h6,h7,h8,h9⟩:=h;exact⟨h1,r,by grind,h3,h4,h5,h6,h7,h8,fun t=>(h9 t).jb ss⟩
theorem Step.marks{g0:G}{H0:LO}{w0:BL}(h0:WF g0 H0 w0)(h:Step g0 H0 w0 g H w W){bs:LN}(ss:∀b∈bs,w0.heap.size<=b/\g.whole b=QQ (.deferred (QQ []))):Step g0 H0 w0 (g.jb bs) H (oV w bs) W:=by
 have dp:∀b∈bs,g.whole b=QQ (.deferred (QQ [])):=fun b hb=>(ss b hb).2;have dx:∀o l y,au (g.jb bs) H o l y->au g H o l y:=fun o l y hb=>⟨hb.Pr,hb.alive,hb.loc,hb.st⟩;have yh:∀o l y,au g H o l y->l.b∉bs:=fun o l y hb hm=>(h.wf.whole.blocks l.b _ (dp _ hm)).2 o l y hb rfl;refine⟨⟨fun b i x hx=>h.le.perm b i x hx,fun o l hl=>h.le.obj o l hl,fun b x hx=>?_,h.le.io,h.le.code⟩,⟨fun b i y hy=>?_,h.wf.lt,fun o l hl=>by rw[aCh];exact h.wf.blk o l hl,h.wf.st,fun o l y hb=>?_,fun o l y hb=>h.wf.jh o l y (dx _ _ _ hb),fun o o' l l' y y' hb du=>h.wf.inj o o' l l' y y' (dx _ _ _ hb) (dx _ _ _ du),⟨fun b y hy=>?_, ?_⟩⟩,⟨by rw[aCh];exact h.frame.1,fun b hb hw=>?_⟩,h.same,h.len,h.mc,h.aq⟩
 ·have:=h0.whole.lt hx;show (if b∈bs then N2 else g.whole b)=_;rw[Zx fun hm=>by grind];exact h.le.whole b x hx
 ·have hp:=h.wf.perm b i y hy;have bl:b∉bs:=fun hm=>by
   have:=(h.wf.whole.blocks b _ (dp b hm)).1;simp[EF,this]at hp
  rw[cell_of_heap (oW bs w bl)];exact hp
 ·exact (h.wf.obj o l y (dx _ _ _ hb)).jb dp (oW bs w (yh o l y (dx _ _ _ hb)))
 ·have Ek:(if b∈bs then N2 else g.whole b)=QQ y:=hy;split at Ek
  ·cases Ek
  rename_i bl;obtain⟨a1,a2⟩:=h.wf.whole.blocks b y Ek;grind [oW]
 ·have:=h.wf.whole.io;rw[(aGd bs w).1,(aGd bs w).2];exact this
 rw[oW bs w fun hm=>by grind];exact h.frame.2 b hb hw
theorem aEU{fn:Func}{tmps:Array BE}{R:Ending->BL->Prop}:∀(bs:LN) (w:BL),bs.Nodup->(∀b∈bs,w.heap[b]? = QQ (.deferred (QQ []))) ->(∃v,(results fn tmps).run P (oV w bs)=.ok v (oV w bs)/\R (.returned v) (oV w bs)) ->LeavesInM FJ 0 P fn tmps R (bs.map fun b=>⟨.collected b,#[]⟩) .returning w
 | [],w,_,_,h=>h
 |b::bs,w,hn,hb,h=>by
  refine⟨siT,.inl ⟨b,_,rfl,run_takeDeferred (hb b siT), ?_⟩⟩;rw[List.nodup_cons]at hn;exact aEU bs _ hn.2 (fun c hc=>by
   grind [GK]) h
theorem aEV:∀(ps:LN) (xs:LA) (vs:List BE) {ρ:LA} {tmps:Array BE},aX g ρ tmps->fU g xs vs->xs.length=ps.length ->aX g (dH ρ ps xs) ((ps.zip vs).foldl (fun t (p:Nat×BE)=>t.setIfInBounds p.1 p.2) tmps)
 | [],[],vs,ρ,tmps,hs,hx,_=>by simpa [dH]using hs
 |t::ps,x::xs,[],ρ,tmps,hs,hx,_=>by have:=hx.1;simp at this
 |t::ps,x::xs,v::vs,ρ,tmps,hs,hx,hl=>by
  simp only[dH,List.zip_cons_cons,List.foldl_cons];refine aEV ps xs vs ⟨by simpa using hs.1,fun t'=>?_⟩ ⟨by have:=hx.1;grind,fun i a y e1 e2=>hx.2 (i+1) a y (by simpa using e1) (by simpa using e2)⟩ (by simpa using hl);have h1:=hs.1;by_cases e:t=t'
  ·subst e;by_cases hlt:t<ρ.length
   ·have:=hx.2 0 x v rfl rfl;simp_all
   have:(ρ.set t x)[t]? = none:=CY soT;rw[this];exact .undef _
  rw[getElem?_set_ne' _ _ e];have:=hs.2 t';simp_all
 | [],x::xs,vs,_,_,_,_,hl=>by simp at hl
 |t::ps,[],vs,_,_,_,_,hl=>by simp at hl
end
section
variable {P:CU}{ab:cu}{A:af}
def aMT(P:CU)(ab:cu)(f:Nat)(fn:bw):Prop:=
 ∃F body frz nl ty rs,P.funcs[f]? = QQ F/\(F.name == "runtime.NumGoroutine")=QT/\F.body=QQ body /\
  fn.body=nR P { ab with nl:=nl,typed:=ty,refs:=rs } frz body/\fn.ntmps=F.ntmps/\aNz P F.results.toList=QQ fn.results
def aWY(P:CU)(ab:cu)(A:af)(f:Nat):Prop:=
 ∀n,(∀m,m<n->oT P ab (dD A m))->gS P ab fun f' args H=>if f'=f then dD A n f args H else N2
structure Good(P:CU)(ab:cu)(A:af):Prop where
 mixed:P.follows .mixedOrders=QS
 A5:A.fn YF=N2/\A.bq YF=N2
 fn:∀f fn,A.fn f=QQ fn->aMT P ab f fn∨aWY P ab A f
 bq:∀f p,A.bq f=QQ p->gS P ab fun f' args H=>if f'=f then (p args H).map (cT H)else N2
def bf.real:bf->QX
 |.normal=>.normal
 |.exit id=>.exit id
 |.ret=>.ret
def aHw(g:G)(n0:Nat)(ds d:List HU):Prop:=
 ∃bs:LN,ds=bs.map (fun b=>⟨.collected b,#[]⟩)++d/\(∀b∈bs,n0<=b/\g.whole b=QQ (.deferred (QQ [])))/\bs.Nodup
theorem aHw.refl{g:G}{n0:Nat}{d:List HU}:aHw g n0 d d:=⟨[],rfl,fun b h=>by simp at h,List.nodup_nil⟩
theorem aHw.trans{g1 g2:G}{n0 n1:Nat}{d1 d2 d:List HU}(h1:aHw g1 n0 d1 d)(hle:g1.le g2)(hn:n0<=n1)(hlt:∀b x,g1.whole b=QQ x->b<n1)(h2:aHw g2 n1 d2 d1):aHw g2 n0 d2 d:=by
 obtain⟨b1,e1,f1,u1⟩:=h1;obtain⟨b2,e2,f2,u2⟩:=h2;refine⟨b2++b1,by grind,fun b hb=>?_,List.nodup_append.2 ⟨u2,u1,fun x hx y hy e=>?_⟩⟩
 ·rcases AY.1 hb with hb | hb
  ·grind
  exact⟨(f1 b hb).1,hle.whole _ _ (f1 b hb).2⟩
 grind
def aGe(P:CU)(ab:cu)(base:Nat)(g:G)(H:LO)(w:BL)(d:List HU)(s':gp)(a':Act)(w':BL):Prop:=
 ∃g' W,Step g H w g' s'.H w' W/\(∀o∈W,o<base->o∈s'.wr)/\aX g' s'.ρ a'.tmps/\aHw g' w.heap.size a'.defers d/\bM P ab g'
theorem aA9.to{base:Nat}{g:G}{H:LO}{w:BL}{d:List HU}{s':gp}{a':Act}{w':BL}(h:aA9 P ab base g H w d s' a' w'):aGe P ab base g H w d s' a' w':=by obtain⟨g',W,h1,h2,h3,h4,h5⟩:=h;exact⟨g',W,h1,h2,h3,h4 ▸ aHw.refl,h5⟩
theorem aGe.refl{base:Nat}{g:G}{w:BL}{a:Act}{s:gp}(hw:WF g s.H w)(hs:aX g s.ρ a.tmps)(hg:bM P ab g):aGe P ab base g s.H w a.defers s a w:=(aA9.refl hw hs hg).to
theorem aGe.join{base:Nat}{g g1:G}{H:LO}{w:BL}{d:List HU}{s1 s2:gp}{a1 a2:Act}{w1 w2:BL}{W:LN} (h1:Step g H w g1 s1.H w1 W) (h2:∀o∈W,o<base->o∈s1.wr) (h4:aHw g1 w.heap.size a1.defers d) (ma:∀o∈s1.wr,o∈s2.wr) (h:aGe P ab base g1 s1.H w1 a1.defers s2 a2 w2):aGe P ab base g H w d s2 a2 w2:=by obtain⟨g2,W',i1,i2,i3,i4,i5⟩:=h;refine⟨g2,W++W',h1.trans i1,fun o ho hb=>?_,i3,h4.trans i1.le h1.frame.1 (fun b x hx=>h1.wf.whole.lt hx) i4,i5⟩;grind
theorem aKl{w:BL}{b off:Nat}{x:BE}(h:w.cell? ⟨b,off,N2⟩=QQ x):w.setCell ⟨b,off,N2⟩ x=w:=by
 have key:(w.heap.modify b fun
   |.cells c elem frozen=>.cells (c.setIfInBounds off x) elem frozen
   |o=>o)=w.heap:=by
  apply Array.ext_getElem?;intro i;rw[DJ];by_cases e:b=i
  ·subst e;rw[Zy rfl];simp only[EF]at h;cases hb:w.heap[b]? with
   |none=>rfl
   |some o=>
    rw[hb]at h;cases o with
    |cells c elem fz=>simp at h;have hlt:=(KM.1 h).1;have hx:=(KM.1 h).2;simp only[DE,AG,QH,and_self,and_true];grind
    |_=>rfl
  grind
 simp only[World.setCell,Option.isSome_none,BX,Zu];exact congrArg (fun h=>{ w with heap:=h }) key
theorem aD6{w:BL}{b:Nat}:∀(vs:List BE) (off:Nat),(∀(j:Nat) v,vs[j]? = QQ v->w.cell? ⟨b,off+j,N2⟩=QQ v)->w.setCells b off vs=w
 | [],_,_=>rfl
 |v::vs,off,h=>by
  have h0:=h 0 v rfl;simp only[DU]at h0;simp only[World.setCells];rw[aKl h0];exact aD6 vs (off+1) fun j x hx=>by
   have:=h (j+1) x (by simpa using hx);grind
theorem aAg{c:Ctx}{w:BL}{a:Act}:∀(ts:List (Nat×Nat)) (s s':gp),nX c s ts=QQ s'->∀(g:G),WF g s.H w->bM P ab g->aX g s.ρ a.tmps->aA9 P ab c.base g s.H w a.defers s' a w
 | [],s,s',h,g,hw,hg,hs=>by simp only[nX,AG]at h;subst h;exact .refl hw hs hg
 | (0,t)::ts,s,s',h,g,hw,hg,hs=>by
  unfold nX at h;split at h
  ·rename_i v H' l hf;obtain⟨g1,h1,h2⟩:=aI1 hw hf (hs.2 t);have lq:aX g1 (s.ρ.set t v) a.tmps:=by
    refine⟨by simpa using hs.1,fun t'=>?_⟩;by_cases e:t=t'
    ·subst e;by_cases hlt:t<s.ρ.length
     ·grind
     have:(s.ρ.set t v)[t]? = none:=CY soT;rw[this];exact .undef _
    rw[getElem?_set_ne' _ _ e];exact (hs.2 t').mono h1.le
   have h3:=aAg ts _ s' h g1 h1.wf (hg.mono h1.le) lq;obtain⟨g2,W,i1,i2,i3,i4,i5⟩:=h3;refine⟨g2,l++W,h1.trans i1,fun o ho hb=>?_,i3,i4,i5⟩;rcases AY.1 ho with ho | ho
   ·exact (sR ts _ s' h).2.1 o ((cE _ _ _).2 o ho hb)
   grind
  cases h
 | (k+1,t)::ts,s,s',h,g,hw,hg,hs=>by
  unfold nX at h;split at h
  ·exact aAg ts _ s' h g hw hg hs
  split at h
  ·rename_i H' l hk;obtain⟨g1,h1⟩:=aIY hw hk (hs.2 t);have h3:=aAg ts _ s' h g1 h1.wf (hg.mono h1.le) (hs.mono h1.le);obtain⟨g2,W,i1,i2,i3,i4,i5⟩:=h3;refine⟨g2,l++W,h1.trans i1,fun o ho hb=>?_,i3,i4,i5⟩;rcases AY.1 ho with ho | ho
   ·exact (sR ts _ s' h).2.1 o ((cE _ _ _).2 o ho hb)
   grind
  split at h
  ·rename_i cs hr;split at h
   ·rename_i cs' H' l hf;split at h
    ·rename_i H2 l2 bd;obtain⟨b,off,vs,e,ax,hl,hc⟩:=eI hw hr (hs.2 t);obtain⟨g1,h1,h2⟩:=aI1 hw hf (fU.agg (vs:=vs.toArray) (by simpa using hl));obtain⟨ys,e1,qe⟩:=h2.fu;cases e1;have O6:fU g1 cs' vs:=by grind
     obtain⟨b',off',e',_,_,h3⟩:=fF h1.wf bd ((hs.2 t).mono h1.le) O6;rw[e]at e';cases e';have Z5:w.setCells b off vs=w:=aD6 vs off fun j v hv=>hc j v hv;rw[Z5]at h3;have h4:=aAg ts _ s' h g1 h3.wf (hg.mono h1.le) (hs.mono h1.le);obtain⟨g2,W,i1,i2,i3,i4,i5⟩:=h4;refine⟨g2,(l++l2)++W,(h1.trans h3).trans i1,fun o ho hb=>?_,i3,i4,i5⟩;rcases AY.1 ho with ho | ho
     ·exact (sR ts _ s' h).2.1 o ((cE _ _ _).2 o ho hb)
     grind
    cases h
   cases h
  cases h
theorem WF.more{g:G}{H:LO}{w:BL}(h:WF g H w)(k:Nat):Step g H w g (H++AX k (.gone 0)) w []:=by
 have jk:∀o l x,au g (H++AX k (.gone 0)) o l x->au g H o l x:=fun o l x hb=>⟨by rw[<- BM (h.lt o l hb.loc)];exact hb.Pr,hb.alive,hb.loc,hb.st⟩;refine⟨G.le.refl g,⟨h.perm,fun o l hl=>by have:=h.lt o l hl;simp;omega,h.blk,fun o x l hx hl=>?_,fun o l x hb=>h.obj o l x (jk o l x hb),fun o l x hb=>h.jh o l x (jk o l x hb),
  fun o o' l l' x x' h1 h2=>h.inj o o' l l' x x' (jk _ _ _ h1) (jk _ _ _ h2),h.whole.aq rfl rfl ⟨rfl,rfl⟩ (fun _ _ _=>rfl) fun o l y hl=>.inr ⟨o,l,y,jk _ _ _ hl,rfl⟩⟩,aDS.refl _ _ _,fun o ho _=>BM ho,siT,fun _ l' hl=>.inr ⟨l',hl,rfl⟩,fun _ _ _=>rfl⟩
 rw[BM (h.lt o l hl)]at hx;exact h.st o x l hx hl
def aE4(r:Option Nat)(c:Ctx)(g:G):Prop:=∀l,r=QQ l->∃o v,c.rd=QQ (o,v)/\ai g (.yld o v) (.func (.yield l) #[] #[])
theorem aE4.mono{r:Option Nat}{c:Ctx}{g g':G}(h:aE4 r c g)(hg:g.le g'):aE4 r c g':=fun l e=>let ⟨o,v,h1,h2⟩:=h l e;⟨o,v,h1,h2.mono hg⟩
theorem vL{g:G}{H:LO}{w:BL}(hw:WF g H w){o v:Nat}{l:Nat}(hx:ai g (.yld o v) (.func (.yield l) #[] #[])){base:Nat}{sites ps:LN}{body:ag}{ρ:LA}{busy:Bool}{pend:Option bf} (ho:H[o]? = QQ (.rnd v base sites ps body ρ busy pend)):∃lc,au g H o lc (.rnd v base sites ps body ρ busy pend)/\lc.b=l:=by
 cases hx with
 |yld _ _ lc r hl hv h=>
  have bd:lc.st=v:=by have:=hw.st o _ lc ho hl;simp only[ah.ver]at this;omega
  have hb:au g H o lc (.rnd v base sites ps body ρ busy pend):=⟨ho,rfl,hl,bd⟩;obtain⟨h0,_⟩:=hw.obj o lc _ hb;grind
def aPg(P:CU)(ab:cu)(A:af)(n:Nat):Prop:=
 ∀(nl:Bool) (ty rs:LN) (c:Ctx) (frz:Nat->List (Nat×Nat)) (x:Code) (s:gp) e s',cY A n c (nR P { ab with nl:=nl,typed:=ty,refs:=rs } frz x) s=QQ (e,s')->∀(g:G) (a:Act) (w:BL),WF g s.H w->bM P ab g->aX g s.ρ a.tmps ->
  ∀Q:QX->Act->BL->Prop,(∀a' w',aGe P ab c.base g s.H w a.defers s' a' w'->Q e.real a' w')->∀r:Option Nat,aE4 r c g->x.wpIn (fr r) 0 P Q a w/\∀b,x=.loop b->LL (fr r) 0 P b Q n a w
theorem aLI(A0:Good P ab A){n:Nat}(jz:aPg P ab A n):aOS P ab (dD A n):=by
 intro o v Pq H av H' wr h g w l xs hw hg hy hx;rcases sS h with⟨p,v1,hp,hv,hr⟩ | ⟨fn,s',e,r',hf,_⟩ | ⟨_,hr⟩
 ·rw[A0.A5.2]at hp;cases hp
 ·rw[A0.A5.1]at hf;cases hf
 obtain⟨o',v',as',base,sites,ps,asg,body,ρ,s0,b1,t1,p1,c1,r1,e,s,e1,hH,ax,xt,xu,je,b2,s2,p2,c2,r2,nu,pw⟩:=oK hr;simp only[JG,AV.yld.injEq,true_and]at e1;obtain⟨⟨rfl,rfl⟩,rfl⟩:=e1;simp only[BK]at pw;obtain⟨rfl,rfl,rfl⟩:=pw;obtain⟨lc,hb,rfl⟩:=vL hw hy hH;obtain⟨h0,rec,bb,bd,Cl,Hx,⟨ca,cb,Z6,Kl,ig⟩,_,gd,qt⟩:=hw.obj o lc _ hb;simp only[ag.seq.injEq]at Z6;obtain⟨rfl,rfl⟩:=Z6;have n9:=hx.1;have El:rec.params.size=xs.length:=by grind
 refine⟨rec,bb,El, ?_⟩;obtain⟨nlA,tyA,rsA,frzA,rfl⟩:=(hg.code asg rec.assign).1 Kl;obtain⟨nlB,tyB,rsB,frzB,rfl⟩:=(hg.code body rec.body).1 ig;have zj:(Ctx.mk base (sites++[YF+o,YF+v])).rd=QQ (o,v):=by simp[Ctx.rd]
 have F9:aE4 (QQ lc.b) ⟨base,sites++[YF+o,YF+v]⟩ g:=fun l' e=>by
  grind
 have se:aX g (dH ρ ps Pq) ((rec.params.zip xs.toArray).foldl (fun tmps (t,a)=>tmps.setIfInBounds t a) rec.tmps):=by have h1:=aEV (g:=g) ps Pq xs (tmps:=rec.tmps) ⟨gd,qt⟩ hx ax;rw[<- Array.foldl_toList,Array.toList_zip,Hx];exact h1
 refine roundIn_of_wpIn (F:=FJ) trivial ?_;refine (jz nlA tyA rsA _ frzA rec.assign _ .normal s0 xt g { tmps:=_,defers:=[] } w hw hg se _ (fun a1 w1 G1=>?_) (QQ lc.b) F9).1;obtain⟨g1,W1,j1,j2,j3,j4,j5⟩:=G1;obtain⟨lc1,fo,Em⟩:=vL j1.wf (hy.mono j1.le) xu;obtain⟨z0,rec1,zheap,zst,zpe,zps,zas,_,zsz,ztm⟩:=j1.wf.obj o lc1 _ fo;have s1:=Step.put (x':=.rnd v b1 t1 p1 c1 r1 QS N2) j1.wf fo rfl rfl (.loop { rec1 with state:=.busy }) fun hle=>⟨z0,{ rec1 with state:=.busy },LR (j1.wf.blk o lc1 fo.loc),siT,zpe,zps,zas,trivial,zsz,fun t=>(ztm t).mono hle⟩;rw[Em]at zheap s1;refine⟨_,run_beginRound zheap (by grind), ?_⟩;have xm:aE4 (QQ lc.b) ⟨base,sites++[YF+o,YF+v]⟩ (g1.setObj o lc1):=fun l' e=>by
  cases e;exact⟨o,v,zj,(hy.mono j1.le).mono s1.le⟩
 refine (jz nlB tyB rsB _ frzB rec.body _ e s je _ a1 _ s1.wf (j5.mono s1.le) (j3.mono s1.le) (roundPost P lc.b _) (fun a' w' ku=>?_) (QQ lc.b) xm).1;obtain⟨g2,W,i1,i2,i3,i4,i5⟩:=ku;obtain⟨lc2,dp,P0⟩:=vL i1.wf (((hy.mono j1.le).mono s1.le).mono i1.le) nu;obtain⟨q0,rec2,qheap,qst,qpe,qps,qas,qcd,qsz,qtm⟩:=i1.wf.obj o lc2 _ dp;rw[P0]at qheap;have fin:∀(jump:Option Code) (pend:Option bf),jump=pend.map aIT->(decide (e=.normal))=jump.isNone->pend=(if e=.normal then N2 else QQ e) ->
   ∃v' w'',(Instr.endRound lc.b jump).run P w'=.ok v' w''/\∃g',Step g H w g' (s.H.set o (.rnd v b2 s2 p2 c2 r2 QT (if e=.normal then N2 else QQ e))) w'' (FM base (H.length - base)++(o::s.wr))/\ai g' (.bool (decide (e=.normal))) v':=by
  intro jump pend hj hd hp;refine⟨_,_,run_endRound jump qheap, ?_⟩;have s3:=Step.put (x':=.rnd v b2 s2 p2 c2 r2 QT pend) i1.wf dp rfl rfl (.loop { rec2 with state:=if jump.isNone then .ready else .done,pending:=jump }) fun hle=>⟨q0,{ rec2 with state:=if jump.isNone then .ready else .done,pending:=jump },LR (i1.wf.blk o lc2 dp.loc),by grind,hj,qps,qas,qcd,qsz,fun t=>(qtm t).mono hle⟩;rw[P0]at s3;rw[<- hp];refine⟨_,(((j1.trans s1).trans i1).trans s3).narrow hw.lt fun q hq hlt=>?_,by rw[hd];exact .bool _⟩;simp only[AY,BD,List.not_mem_nil,or_false]at hq;simp only[AY,BD,FC];rcases hq with ((hq | rfl) | hq) | rfl
  ·by_cases P1:q<base
   ·exact .inr (.inr ((fJ _ _ _ _ _ _ je).2.1 q (j2 q hq P1)))
   grind
  all_goals grind
 cases e with
 |normal=>exact fin N2 N2 rfl rfl rfl
 |ret=>exact fin (QQ .ret) (QQ .ret) rfl rfl rfl
 |exit id=>exact fin (QQ (.exit id)) (QQ (.exit id)) rfl rfl rfl
theorem aE5(A0:Good P ab A):∀(n:Nat),(∀m,m<=n->aPg P ab A m)->oT P ab (dD A n):=by
 intro n
 induction n using KK with
 |_ n ihc=>
 intro da;have jz:=da n (AQ _);refine⟨?_,aLI A0 jz⟩;intro f args H av H' wr h g w xs hw hg hx;rcases sS h with⟨p,v1,hp,hv,hr⟩ | ⟨fn,s',e,r',hf,he,Ra,zk,hr,_⟩ | ⟨_,hrr⟩
 rotate_left 2
 ·obtain⟨o,v,Pq,_,_,_,_,_,_,_,_,_,_,_,_,_,_,rfl,_⟩:=oK hrr;obtain⟨y,hy⟩:∃y,xs[0]? = QQ y:=⟨xs[0]'(by have:=hx.1;grind),AP _⟩;have:=hx.2 0 _ y rfl hy;cases this
 ·cases hr;exact A0.bq f p hp f args H _ _ _ (by simp[hv];rfl) g w xs hw hg hx
 rcases A0.fn f fn hf with nx | halt;rotate_left
 ·exact halt n (fun m hm=>ihc m hm fun k hk=>da k omT) f args H av H' wr (by simpa using h) g w xs hw hg hx
 obtain⟨F,body,frz,nl,ty,rs,e1,e2,e3,e4,e5,e6⟩:=nx;refine⟨⟨F,e1,e2,by simp[e3]⟩,callsIn_wide.1 (callsIn_of_wp_marks (F:=FJ) (n:=0) e1 e3 trivial ?_)⟩;rw[e4]at he;have bd:=hw.more fn.sites.length;refine (jz nl ty rs _ frz body _ e s' he g _ w bd.wf hg ?_ _ (fun a' w' ku=>?_) N2 (fun l e=>by cases e)).1
 ·
  have ax:=hx.1;refine⟨by simp[nF,ax,e5],fun t=>?_⟩;simp only[nF];by_cases ht:t<args.length
  ·rw[BM ht,AP ht];have h1:(xs.toArray++NW (F.ntmps - xs.toArray.size) EE).getD t EE=xs[t]'omT:=by
    simp[CR,Array.getElem?_append,show t<xs.length by omega]
   rw[h1];exact hx.2 t _ _ (AP ht) (AP omT)
  rw[BU omT,List.getElem?_replicate];split<;>exact .undef _
 obtain⟨g0,W,j1,i2,j3,⟨bs,En,Z7,Eo⟩,j5⟩:=ku;have xu:Step g H w g0 s'.H w' W:=by simpa using bd.trans j1
 have Z8:∀b∈bs,g0.whole b=QQ (.deferred (QQ [])):=fun b hb=>(Z7 b hb).2;have lq:=Step.marks hw xu Z7;have i1:=lq;have i3:aX (g0.jb bs) s'.ρ a'.tmps:=⟨j3.1,fun t=>(j3.2 t).jb Z8⟩;generalize V4:g0.jb bs=g1 at lq i1 i3;have A6:(∃v,(results F a'.tmps).run P (oV w' bs)=.ok v (oV w' bs)/\(match Ending.returned v with | .returned v=>∃g',Step g H w g' H' (oV w' bs) wr/\pN g' H' w.heap.size (oV w' bs) av v | _=>False)) ->
   LeavesInM FJ 0 P F a'.tmps (fun e w'=>match e with | .returned v=>∃g',Step g H w g' H' w' wr/\pN g' H' w.heap.size w' av v | _=>False) a'.defers .returning w':=fun hh=>by
  rw[En,List.append_nil];exact aEU bs w' Eo (fun b hb=>(xu.wf.whole.blocks b _ (Z8 b hb)).1) hh
 generalize gn:oV w' bs=w2 at lq i1 A6;obtain⟨vs,C8,r9⟩:=aEL zk;obtain⟨ys,tc,Cm⟩:=vH (P:=P) i1.wf i3 F.results.toList fn.results vs e6 C8;have cl:=aLD tc;have vu:∃g2,Step g H w g2 r'.2.1 w2 r'.2.2/\pN g2 r'.2.1 w.heap.size w2 r'.1 (aR8 ys):=by
  rcases r9 with⟨v,v',H2,l,rfl,yp,rfl⟩ | ⟨vs',H2,l,bl,yp,rfl⟩
  ·have hl:ys.length=1:=by have:=Cm.1;grind
   obtain⟨y,rfl⟩:=FQ.1 hl;have ki:∀o l,H.length<=o->g1.obj o=QQ l->w.heap.size<=l.b:=fun o l ho hl=>by
    rcases lq.mc o l hl with h1 | ⟨l0,h0,_⟩
    ·exact h1
    have:=hw.lt o l0 h0;omega
   obtain⟨g2,j1,j2⟩:=aI7 ki i1.wf yp (Cm.2 0 v y rfl rfl);refine⟨g2,(lq.trans j1).narrow hw.lt fun o ho hb=>?_,j2⟩;rcases AY.1 ho with ho | ho
   all_goals simp_all [cE]
  obtain⟨g2,j1,j2⟩:=aG3 i1.wf yp Cm;have ht:aR8 ys=.tuple ys.toArray:=by
   have:=Cm.1;cases ys with
   |nil=>rfl
   |cons y r=>cases r with
    |nil=>grind
    |cons z r=>rfl
  rw[ht];refine⟨g2,(lq.trans j1).narrow hw.lt fun o ho hb=>?_, ?_⟩
  ·rcases AY.1 ho with ho | ho
   all_goals simp_all [cE]
  exact ai.tup vs' ys.toArray (by simpa using j2.1) fun i a x ha hx=>j2.2 i a x ha (by simpa using hx)
 have P3:∃g2,Step g H w g2 H' w2 wr/\pN g2 H' w.heap.size w2 av (aR8 ys):=by
  obtain⟨g2,k1,k2⟩:=vu;obtain⟨v3,H3,wr3⟩:=r';simp only[cJ]at hr;split at hr
  ·rename_i zl;simp only[AI]at zl;cases hr;refine⟨g2.cut H.length,Step.cut hw k1 fun o ho x hx=>?_,pN.cut k2 zl.1⟩;grind
  grind
 have hb:=A6 ⟨_,cl,P3⟩;rcases Ra with rfl | rfl
 ·exact hb
 exact hb
theorem aNQ(A0:Good P ab A)(n:Nat):aPg P ab A n:=by
 induction n using KK with
 |_ n ihs=>
 cases n with
 |zero=>exact fun nl ty rs c frz x s e s' h=>by rw[gT]at h;cases h
 |succ n=>
  have ih:=ihs n (Nat.lt_succ_self n);have az:=aE5 A0 n fun k hk=>ihs k omT;have Pw:sQ (dD A n):=aKa n;intro nl ty rs c frz x s e s' h g a w hw hg hs Q hQ r hR;have region:∀(m:Nat) (id:Nat) (ops:Array HP) (d:Bool) (s s':gp) (g:G) (e:bf),oT P ab (dD A m)->WF g s.H w->aX g s.ρ a.tmps->bM P ab g->cY A (m+1) c (.region d (aTn d (aDQ P { ab with nl:=nl,typed:=ty,refs:=rs } ops.toList ops.toList []))) s=QQ (e,s') ->
    ∀Q:QX->Act->BL->Prop,(∀a' w',aGe P ab c.base g s.H w a.defers s' a' w'->Q e.real a' w')->(PJ id ops d).wpIn (fr r) 0 P Q a w:=by
   intro m id ops d s s' g e hc hw hs hg h Q hQ;rw[iS]at h;split at h
   ·rename_i s1 hr;cases h;cases d with
    |true=>exact aNM (ab:={ ab with nl:=nl,typed:=ty,refs:=rs }) A0.mixed hc (aKa m) hr hw hg hs fun a' w' h0=>hQ a' w' (aA9.to h0)
    |false=>simp only[iO,Bool.false_and,BX,Zu,aFW]at hr;exact aK2 (ab:={ ab with nl:=nl,typed:=ty,refs:=rs }) hc hr hw hg hs fun a' w' h0=>hQ a' w' (aA9.to h0)
   cases h
  have noloop:∀{y:Code},(∀b,y≠.loop b)->y.wpIn (fr r) 0 P Q a w->y.wpIn (fr r) 0 P Q a w/\∀b,y=.loop b->LL (fr r) 0 P b Q (n+1) a w:=fun bl Km=>⟨Km,fun b hb=>Zw hb (bl b)⟩;cases x with
  |skip=>refine noloop (fun b=>siT) (wpIn_skip ?_);simp only[nR,xB,AG,BK]at h;obtain⟨rfl,rfl⟩:=h;exact hQ a w (.refl hw hs hg)
  |region id ops d=>
   refine noloop (fun b=>siT) ?_;simp only[nR]at h;split at h
   ·grind
   rename_i ts _;rw[iD]at h;cases n with
   |zero=>rw[gT]at h;cases h
   |succ m=>
    rw[vI]at h;split at h
    ·rename_i s1 hz;split at hz
     ·rename_i s2 hf;cases hz;have ku:=aAg _ s s1 hf g (w:=w) (a:=a) hw hg hs;obtain⟨g1,W,i1,i2,i3,i4,i5⟩:=ku;have Kn:oT P ab (dD A m):=aE5 A0 m fun k hk=>ihs k omT;refine region m id ops d s1 s' g1 e Kn i1.wf i3 i5 h Q fun a' w' hr=>hQ a' w' ?_;obtain⟨g2,W',j1,j2,j3,j4,j5⟩:=hr;refine⟨g2,W++W',i1.trans j1,fun o ho hb=>?_,j3,j4,j5⟩;rcases AY.1 ho with ho | ho
      ·exact (fJ _ _ _ _ _ _ h).2.1 o (i2 o ho hb)
      grind
     cases hz
    grind
  |seq x y=>
   refine noloop (fun b=>siT) (wpIn_seq ?_);simp only[nR,iD]at h;split at h
   ·rename_i s1 h1;refine (ih nl ty rs c frz x s _ s1 h1 g a w hw hg hs _ (fun a1 w1 hr=>?_) r hR).1;obtain⟨g1,W,i1,i2,i3,i4,i5⟩:=hr;refine (ih nl ty rs c frz y s1 e s' h g1 a1 w1 i1.wf i5 i3 Q (fun a' w' pw=>hQ a' w' ?_) r (hR.mono i1.le)).1;exact aGe.join i1 i2 i4 (fJ _ _ _ _ _ _ h).2.1 pw
   rename_i bl;refine (ih nl ty rs c frz x s e s' h g a w hw hg hs _ (fun a1 w1 hr=>?_) r hR).1;cases e with
   |normal=>grind
   |exit id=>exact hQ a1 w1 hr
   |ret=>exact hQ a1 w1 hr
  |cond t x y=>
   refine noloop (fun b=>siT) ?_;cases t with
   |tmp t=>
    simp only[nR,iT]at h;have hv:=hs.2 t;split at h
    ·rename_i hb;simp only[aa.ev]at hb;rw[hb]at hv;have he:a.eval (.tmp t)=.bool true:=by cases P5  : a.tmps.getD t EE<;>rw[P5]at hv<;>cases hv;exact P5
     exact wpIn_cond_true he (ih nl ty rs c frz x s e s' h g a w hw hg hs Q hQ r hR).1
    ·rename_i hb;simp only[aa.ev]at hb;rw[hb]at hv;have he:a.eval (.tmp t)=.bool false:=by cases P5  : a.tmps.getD t EE<;>rw[P5]at hv<;>cases hv;exact P5
     exact wpIn_cond_false he (ih nl ty rs c frz y s e s' h g a w hw hg hs Q hQ r hR).1
    cases h
   |_=>simp only[nR,qG]at h;cases h
  |block id b=>
   refine noloop (fun b=>siT) (wpIn_block ?_);simp only[nR,eP]at h;split at h
   ·rename_i id' s1 h1;refine (ih nl ty rs c frz b s _ s1 h1 g a w hw hg hs _ (fun a1 w1 hr=>?_) r hR).1;split at h
    ·rename_i hid;cases h;simp_all [bf.real,Px,Zv]
    rename_i hid;cases h;simp_all [bf.real,Px,Zu]
   rename_i bl;refine (ih nl ty rs c frz b s e s' h g a w hw hg hs _ (fun a1 w1 hr=>?_) r hR).1;cases e with
   |normal=>exact hQ a1 w1 hr
   |exit id'=>grind
   |ret=>exact hQ a1 w1 hr
  |loop b=>
   have key:LL (fr r) 0 P b Q (n+1) a w:=by
    simp only[nR,gU]at h;rw[roundsIn_succ];split at h
    ·rename_i s1 h1;refine (ih nl ty rs c frz b s _ s1 h1 g a w hw hg hs _ (fun a1 w1 hr=>?_) r hR).1;obtain⟨g1,W,i1,i2,i3,i4,i5⟩:=hr;refine (ih nl ty rs c frz (.loop b) s1 e s' h g1 a1 w1 i1.wf i5 i3 Q (fun a' w' pw=>hQ a' w' ?_) r (hR.mono i1.le)).2 b rfl;exact aGe.join i1 i2 i4 (fJ _ _ _ _ _ _ h).2.1 pw
    rename_i bl;refine (ih nl ty rs c frz b s e s' h g a w hw hg hs _ (fun a1 w1 hr=>?_) r hR).1;cases e with
    |normal=>grind
    |exit id=>exact hQ a1 w1 hr
    |ret=>exact hQ a1 w1 hr
   grind [wpIn_loop_rounds]
  |exit id=>refine noloop (fun b=>siT) (wpIn_exit ?_);simp only[nR,aCb,AG,BK]at h;obtain⟨rfl,rfl⟩:=h;exact hQ a w (.refl hw hs hg)
  |ret=>refine noloop (fun b=>siT) (wpIn_ret ?_);simp only[nR,aDZ,AG,BK]at h;obtain⟨rfl,rfl⟩:=h;exact hQ a w (.refl hw hs hg)
  |rangeFunc gx ps assign body=>
   refine noloop (fun b=>siT) ?_;simp only[nR]at h;split at h;rotate_left
   ·rw[qG]at h;cases h
   rename_i xo xa;rw[iU]at h;split at h;rotate_left
   ·cases h
   rename_i f first ay id O5 qh
   split at h;rotate_left
   ·cases h
   rename_i hc;obtain⟨hid,uo⟩:=hc;split at h;rotate_left
   ·cases h
   rename_i rv H2 wr kq;split at h;rotate_left
   ·cases h
   rename_i v b2 s2 p2 c2 r2 pend hH2;split at h;rotate_left
   ·cases h
   rename_i hv;obtain⟨rfl,Cn⟩:=hv;cases h;have D1:=aQ (P:=P) (ab:={ ab with nl:=nl,typed:=ty,refs:=rs }) xa hg hs;rw[O5]at D1;obtain⟨vf,vc,je,yo,hlc⟩:=D1.rm;have ti:s.H[id]? = QQ s.H[id]:=by simp[hid]
   have nn:bH s.H id=s.H[id].ver+1:=by simp[bH,hid]
   obtain⟨l,mark,D,g0,w0,he,s0,Z9⟩:∃(l:Nat) (mark:List HU) (D:Nat) (g0:G) (w0:BL),
     (∀fn,(JZ fn a.tmps ps assign body (fr r).round).run P w=.ok (l,mark) (w0.alloc (.loop { state:=.ready,pending:=N2,fn,tmps:=a.tmps,params:=ps,assign,body,defers:=D }))) /\
     (Step g s.H w g0 s.H w0 []/\l=w0.heap.size)/\(mark=[]∨(mark=[⟨.collected w.heap.size,#[]⟩]/\g0.whole w.heap.size=QQ (.deferred (QQ [])))):=by
    cases r with
    |none=>have h1:=Step.xw hw (.deferred (QQ []));exact⟨_,_,w.heap.size,_,_,fun fn=>run_enterLoop_outer fn a.tmps ps assign body,⟨h1,by simp[World.size_alloc]⟩,.inr ⟨rfl,siT⟩⟩
    |some l0=>
     obtain⟨o,v,zj,hy⟩:=hR l0 rfl;simp only[eZ,zj]at uo;split at uo
     ·rename_i v' b3 s3 p3 c3 r3 Ko;have Kp:v'=v:=by grind
      subst Kp;obtain⟨lc,hb,rfl⟩:=vL hw hy Ko;obtain⟨_,rec,bb,_⟩:=hw.obj o lc _ hb;exact⟨_,_,rec.defers,g,w,fun fn=>aCg bb fn a.tmps ps assign body,⟨.refl hw,rfl⟩,.inl rfl⟩
     grind
   obtain⟨s0,rfl⟩:=s0;refine wpIn_rangeFunc fun fn _=>?_;generalize xp:(Obj.loop { state:=.ready,pending:=N2,fn,tmps:=a.tmps,params:=ps,assign,body,defers:=D })=ob;have K7:=he fn;rw[xp]at K7;have e1:(w0.alloc ob).heap=w0.heap.push ob:=rfl;have jz:∃ca cb,ag.seq (nR P ⟨ab.row,nl,ty,rs⟩ frz assign) (nR P ⟨ab.row,nl,ty,rs⟩ frz body)=.seq ca cb/\g0.code ca assign/\g0.code cb body:=⟨_,_,rfl,((hg.mono s0.le).code _ _).2 ⟨nl,ty,rs,frz,rfl⟩,((hg.mono s0.le).code _ _).2 ⟨nl,ty,rs,frz,rfl⟩⟩;have s1:=Step.update (w':=w0.alloc ob) s0.wf id (.rnd (bH s.H id) c.base c.sites ps.toList (.seq (nR P ⟨ab.row,nl,ty,rs⟩ frz assign) (nR P ⟨ab.row,nl,ty,rs⟩ frz body)) s.ρ QT N2) ⟨w0.heap.size,bH s.H id,0,0,0⟩ hid (by rw[e1];simp) (fun b hb _=>cK e1 hb) (by rw[e1];simp) (.inl (AQ _)) rfl rfl (fun l hl=>by
     have:=s0.wf.st id _ l ti hl;grind)
    fun hle=>⟨rfl,{ state:=.ready,pending:=N2,fn,tmps:=a.tmps,params:=ps,assign,body,defers:=D },by grind,rfl,rfl,rfl,jz,trivial,hs.1,fun t=>((hs.2 t).mono s0.le).mono hle⟩
   have Hy:ai (g0.setObj id ⟨w0.heap.size,bH s.H id,0,0,0⟩) (.yld id (bH s.H id)) (.func (.yield w0.heap.size) #[] #[]):=.yld id _ _ _ (by simp[G.setObj];rfl) (AQ _) fun _ _=>rfl;have A7:g.le (g0.setObj id ⟨w0.heap.size,bH s.H id,0,0,0⟩):=s0.le.trans s1.le;have hargs:fU (g0.setObj id ⟨w0.heap.size,bH s.H id,0,0,0⟩) (first++.yld id (bH s.H id)::ay) (vf.toList++.func (.yield w0.heap.size) #[] #[]::vc.toList):=by refine (yo.mono A7).append (fU.append (Pq:=[.yld id (bH s.H id)]) (xs:=[.func (.yield w0.heap.size) #[] #[]]) ⟨rfl,fun i c x h1 h2=>?_⟩ (hlc.mono A7));grind
   obtain⟨⟨Fn,Qd,jq,gh⟩,kr⟩:=az.1 f _ _ rv H2 wr kq _ (w0.alloc ob) _ s1.wf (hg.mono A7) hargs;have Hz:¬(Fn.name = "runtime.NumGoroutine"):=by grind
   have V5:¬(Fn.body=N2):=fun e=>by grind
   have rq:(vf ++ #[Value.func (.yield w0.heap.size) #[] #[]]++vc)=(vf.toList++.func (.yield w0.heap.size) #[] #[]::vc.toList).toArray:=by grind
   refine⟨w0.heap.size,mark,w0.alloc ob,⟨.fn (.func f) vc,vf ++ #[.func (.yield w0.heap.size) #[] #[]]⟩,w0.alloc ob,f,(vf.toList++.func (.yield w0.heap.size) #[] #[]::vc.toList).toArray,w0.alloc ob,K7, ?_,fun _ _=>trivial, ?_,fun h=>(by simp[fr,FJ]at h), ?_⟩
   ·have hy:a.eval (.const (.func (.yield w0.heap.size) #[] #[]))=.func (.yield w0.heap.size) #[] #[]:=rfl;simp[resolve,je,hy,JF]
   ·simp_all [invoke,callFunc]
   have hC:CallsIn FJ (0 - 1) P f _ (w0.alloc ob) _:=callsIn_wide.2 kr;refine CallsIn.mono (F:=fr r) hC fun e w3 vu=>?_;cases e with
   |panicked ch=>grind
   |outgrown=>grind
   |returned rvv=>
    obtain⟨g2,s3,_⟩:=vu;obtain⟨lc2,dp,P0⟩:=vL s3.wf (Hy.mono s3.le) hH2;obtain⟨q0,rec2,qheap,qst,qpe,_⟩:=s3.wf.obj id lc2 _ dp;rw[P0]at qheap;have s4:=Step.F8 s3.wf dp (.loop { rec2 with state:=.exhausted });rw[P0]at s4;have yh:rec2.state≠.busy:=by grind
    have ku:aGe P ab c.base g s.H w a.defers ⟨s.ρ,H2.set id (.gone (bH s.H id)),bE c.base s.wr (id::wr)⟩ { a with defers:=mark++a.defers } (w3.putObj w0.heap.size (.loop { rec2 with state:=.exhausted })):=by
     refine⟨g2,_,((s0.trans s1).trans s3).trans s4,fun o ho hb=>(cE _ _ _).2 o ?_ hb,hs.mono (A7.trans s3.le), ?_,hg.mono (A7.trans s3.le)⟩
     ·grind
     rcases Z9 with rfl | ⟨rfl,Ep⟩
     ·exact aHw.refl
     exact⟨[w.heap.size],rfl,fun b hb=>by rw[CG]at hb;subst hb;exact⟨AQ _,(s1.le.trans s3.le).whole _ _ Ep⟩,siT⟩
    refine⟨pend.map aIT,w3.putObj w0.heap.size (.loop { rec2 with state:=.exhausted }),by rw[run_endLoop qheap yh,<- qpe], ?_⟩;cases pend with
    |none=>exact hQ _ _ ku
    |some e=>
     cases e with
     |normal=>exact wpIn_skip (hQ _ _ ku)
     |ret=>exact wpIn_ret (hQ _ _ ku)
     |exit id'=>exact wpIn_exit (hQ _ _ ku)
  |_=>simp only[nR,qG]at h;cases h
theorem sU(A0:Good P ab A)(n:Nat):oT P ab (dD A n):=aE5 A0 n fun m _=>aNQ A0 m
end
def fB(tB tP:Nat):aIP:=fun args H=>match args with
 | [.ptr o v 0]=>match H[o]? with
  |some (.cw v' ty [.nilPtr,c])=>if v'=v/\(ty=tB∨ty=tP)then QQ (.tup [],[(o,.cw v ty [.ptr o v 0,c])],[])else N2
  |some (.cw v' _ [.ptr o' v2 0,_])=>if v'=v/\o'=o/\v2=v then QQ (.tup [],[],[])else N2
  |_=>N2
 |_=>N2
def aE6:List LA->Bool
 | []=>QS
 | [.int .u8 n]::r=>decide (0<=n)&&decide (n<256)&&aE6 r
 |_=>QT
def aAh(tb:Nat):aIP:=fun args H=>match args with
 | [.ptr o v 0]=>match H[o]? with
  |some (.cw v' _ [_,.ar])=>if v'=v then QQ (.str [],[],[])else N2
  |some (.cw v' _ [_,.sr o2 v2 n])=>if v'=v then match H[o2]? with
    |some (.gl v3 t3 1 rows)=>if v3=v2/\t3=tb/\rows.length=n/\n≠0/\o2≠o/\n<=1000000000/\aE6 rows then match cM rows with
      |some l=>QQ (.str l,[(o2,.gone v2)],[])
      |none=>N2
     else N2
    |_=>N2
   else N2
  |_=>N2
 |_=>N2
def aNR(tB tb:Nat):aIP:=fun args H=>match args with
 | [.ptr o v 0,.int .i64 n]=>match H[o]? with
  |some (.cw v' ty [.nilPtr,.ar])=>if v'=v/\ty=tB/\0<n/\n<=1000000 then QQ (.tup [],[(o,.cw v tB [.ptr o v 0,.sr H.length 1 0])],[.gl 1 tb 1 []])else N2
  |_=>N2
 |_=>N2
def aJ7(sep:List UInt8):List LA->Option (List UInt8)
 | []=>QQ []
 | [[.str s]]=>QQ s
 | [.str s]::r=>match aJ7 sep r with
  |some t=>QQ (s++sep++t)
  |none=>N2
 |_=>N2
def aKm:aIP:=fun args _=>match args with
 | [.sl _ rows,.str sep]=>match aJ7 sep rows with
  |some s=>if s.length<=140737488355328/\rows.length<=140737488355328 then QQ (.str s,[],[])else N2
  |none=>N2
 |_=>N2
def aYu:aIP:=fun args _=>match args with
 | [.str s,.int .u8 c]=>QQ (.int .i64 (Lib.indexByte s c.toNat.toUInt8),[],[])
 |_=>N2
def aE7:aIP:=fun args _=>match args with
 | [.str s,.str [c]]=>QQ (.int .i64 (Lib.countByte s c),[],[])
 |_=>N2
def aAi:aIP:=fun args H=>match args with
 | [p]=>match bC H 1 p with
  |some [.int .u32 n]=>QQ (.bool (n != 0),[],[])
  |_=>N2
 |_=>N2
def nC:Nat->Nat->List UInt8
 |0,_=>[]
 |k+1,n=>if n<10 then [CN (48+n)] else nC k (n / 10)++[CN (48+n % 10)]
def sC:aIP:=fun args _=>match args with
 | [.int .i64 n]=>if 0<=n/\n<1000000 then QQ (.str (nC 7 n.toNat),[],[])else if n<0 /\ -1000000<n then QQ (.str (45::nC 7 (-n).toNat),[],[])else N2
 |_=>N2
section
variable {P:CU}{ab:cu}
theorem oC{f:Nat}{p:aIP}(hf:∃F,P.funcs[f]? = QQ F/\(F.name == "runtime.NumGoroutine")=QT/\F.body.isNone=QT) (h:∀args H v ws ns,p args H=QQ (v,ws,ns)->∀g w xs,WF g H w->bM P ab g->fU g args xs->Calls P f xs.toArray w fun e w'=>match e with
   |.returned x=>∃g',Step g H w g' (eU H ws++ns) w' (ws.map EM)/\pN g' (eU H ws++ns) w.heap.size w' v x
   |_=>False):gS P ab fun f' args H=>if f'=f then (p args H).map (cT H)else none:=by
 intro f' args H av H' wr hh g w xs hw hg hx;dsimp only at hh;split at hh
 ·rename_i e;subst e;cases hp:p args H with
  |none=>rw[hp]at hh;cases hh
  |some r=>obtain⟨v,ws,ns⟩:=r;rw[hp]at hh;simp only[DE,cT,AG,BK]at hh;obtain⟨rfl,rfl,rfl⟩:=hh;exact⟨hf,h args H v ws ns hp g w xs hw hg hx⟩
 cases hh
theorem Step.nf{g:G}{H:LO}{w w':BL}(hw:WF g H w)(gd:w.heap.size<=w'.heap.size)(da:∀b,b<w.heap.size->w'.heap[b]? = w.heap[b]?)(io:w'.os=w.os/\w'.output=w.output):Step g H w g H w' []:=by
 refine⟨G.le.refl g,⟨fun b i x hx=>?_,hw.lt,fun o l hl=>FU (hw.blk o l hl) gd,hw.st,fun o l x hb=>?_,hw.jh,hw.inj,hw.whole.aq rfl rfl io (fun b hb _=>da b hb) fun o l y hl=>.inr ⟨o,l,y,hl,rfl⟩⟩,⟨gd,fun b hb _=>da b hb⟩,fun _ _ _=>rfl,AQ _,fun _ l' hl=>.inr ⟨l',hl,rfl⟩,fun _ _ _=>rfl⟩
 ·rw[cell_of_heap (da b (hw.ko hx))];exact hw.perm b i x hx
 exact (hw.obj o l x hb).aq (G.le.refl g) (da l.b (hw.blk o l hb.loc))
theorem aBc{g:G}{a:AV}{xs:List BE}(h:fU g [a] xs):∃x,xs=[x]/\ai g a x:=by
 obtain⟨h1,h2⟩:=h
 match xs,h1 with
 | [x],_=>exact⟨x,rfl,h2 0 a x rfl rfl⟩
theorem nH{g:G}{a b:AV}{xs:List BE}(h:fU g [a,b] xs):∃x y,xs=[x,y]/\ai g a x/\ai g b y:=by
 obtain⟨h1,h2⟩:=h
 match xs,h1 with
 | [x,y],_=>exact⟨x,y,rfl,h2 0 a x rfl rfl,h2 1 b y rfl rfl⟩
theorem aGf{g:G}{H:LO}{w:BL}(hw:WF g H w){o v v' ty:Nat}{cells:LA}(ho:H[o]? = QQ (.cw v' ty cells))(hv:v'=v){x:BE}(hx:ai g (.ptr o v 0) x):∃l cs,au g H o l (.cw v ty cells)/\x=.pointer (QQ ⟨l.b,0,N2⟩)/\w.heap[l.b]? = QQ (.cells cs ty (0,0))/\fU g cells cs.toList:=by
 subst hv;cases hx with
 |ptr _ _ _ l a hl hv h=>
  have bd:l.st=v':=by have:=hw.st o _ l ho hl;simp only[ah.ver]at this;omega
  have hb:au g H o l (.cw v' ty cells):=⟨ho,rfl,hl,bd⟩;obtain⟨h0,⟨cs,h1,h2⟩,h3⟩:=hw.obj o l _ hb;refine⟨l,cs,hb,by rw[h bd h0],h1,by simpa using h2.symm,fun i a x e1 e2=>?_⟩;obtain⟨y,hy,hr⟩:=h3 i a e1;simp only[EF,h1]at hy;have e2':cs[i]? = QQ x:=by simpa using e2
  rw[e2']at hy;simp at hy;subst hy;exact hr
theorem Step.K8{g:G}{H:LO}{w w':BL}(hw:WF g H w){o:Nat}{l:Loc}{x:ah}(hb:au g H o l x)(gd:w'.heap.size=w.heap.size)(ju:∀b,b≠l.b->w'.heap[b]? = w.heap[b]?)(io:w'.os=w.os/\w'.output=w.output):Step g H w g (H.set o (.gone x.ver)) w' [o]:=by
 obtain⟨h1,h2⟩:=Step.drop hw hb;have pj:=h1.wf;refine⟨h1.le,⟨fun b i y hy=>?_,pj.lt,fun o' l' hl=>by rw[gd];exact pj.blk o' l' hl,pj.st,fun o' l' x' du=>(pj.obj o' l' x' du).aq (G.le.refl g) (ju l'.b (h2 o' l' x' du)),pj.jh,pj.inj,⟨fun b y hy=>⟨?_,(pj.whole.blocks b y hy).2⟩,by rw[io.1,io.2];exact hw.whole.io⟩⟩,⟨omT,fun b _ bl=>ju b (Ne.symm (bl o siT l hb.loc))⟩,h1.same,h1.len,fun o' l' hl=>.inr ⟨l',hl,rfl⟩,fun _ _ _=>rfl⟩
 ·have bl:b≠l.b:=fun e=>by subst e;have:=hw.jh o l x hb i;rw[hy]at this;cases this
  rw[cell_of_heap (ju b bl)];exact hw.perm b i y hy
 rw[ju b (Ne.symm ((hw.whole.blocks b y hy).2 o l x hb))];exact (hw.whole.blocks b y hy).1
theorem Step.Aa{g:G}{H:LO}{w w':BL}(hw:WF g H w){o v ty:Nat}{l:Loc}{cells dh:LA}{cs':Array BE}(hb:au g H o l (.cw v ty cells))(gd:w'.heap.size=w.heap.size) (ju:∀b,b≠l.b->w'.heap[b]? = w.heap[b]?) (ld:w'.heap[l.b]? = QQ (.cells cs' ty (0,0))) (hl:fU g dh cs'.toList) (io:w'.os=w.os/\w'.output=w.output):Step g H w g (H.set o (.cw v ty dh)) w' [o]:=by
 have hg:g.setObj o l=g:=by
  cases g with
  |mk p ob wh io=>
   have:=hb.loc;simp only[G.setObj,G.mk.injEq,true_and,and_true];funext o';by_cases e:o'=o
   ·subst e;simpa using this.symm
   simp[e]
 have h0:=(hw.obj o l _ hb).1;have:=Step.update (w':=w') hw o (.cw v ty dh) l (hw.lt o l hb.loc) omT
  (fun b _ bl=>ju b (Ne.symm (bl l _ hb))) (by rw[gd];exact hw.blk o l hb.loc) (.inr ⟨l,_,hb,rfl⟩) hb.st rfl
  (fun l0 h0=>by rw[hb.loc]at h0;cases h0;exact⟨AQ _,fun _=>⟨AQ _,fun _=>rfl⟩⟩)
  (fun _=>by
   rw[hg];refine⟨h0,⟨cs',ld,by simpa using hl.1.symm⟩,fun j a ha=>?_⟩;have hj:j<dh.length:=(AH.1 ha).1;have ax:=hl.1;simp at ax;exact⟨cs'[j]'omT,by simp[EF,ld],hl.2 j a _ ha siT⟩) io
 rwa [hg]at this
end
end Go.AM
end
