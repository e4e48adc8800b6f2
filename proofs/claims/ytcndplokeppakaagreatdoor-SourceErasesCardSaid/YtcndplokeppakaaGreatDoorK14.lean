/- Part 14: lemmas for the last text. -/
import Derived.Test.YtcndplokeppakaaGreatDoorK02
import Derived.Test.YtcndplokeppakaaGreatDoorK08
import Derived.Test.YtcndplokeppakaaGreatDoorK10
import Derived.Test.YtcndplokeppakaaGreatDoorK11
import Derived.Test.YtcndplokeppakaaGreatDoorK12
import Derived.Test.YtcndplokeppakaaGreatDoorK13
import Derived.DeepKeys2
import Derived.Handed
import Derived.ChangeSlices
import Derived.ProofKit
import Derived.OpenShut
import Derived.Lib.LaidTab
import Derived.Lib.ItoaNum
import Derived.Test.YtcndplokeppakaaGreatDoorRows
import Derived.Test.YtcndplokeppakaaGreatDoorTie
import Derived.Test.YtcndplokeppakaaGreatDoorCards
import Derived.LaidMore
import Derived.Stop.Joined
import Derived.SevenTiedAt
import Derived.Lay
import Derived.WideKeyElems2
set_option linter.unusedVariables false
set_option linter.unusedSimpArgs false
set_option maxRecDepth 100000
open Bool renaming and_eq_true -> AI, true -> QS, false -> QT
open Go renaming Code -> Np, World -> BL, MemPlace -> JI, TypeId -> BP, Value -> BE, Program -> CU, DataW -> IK, MapEntry -> FO, bounds_i64 -> MF
open Go.ChangeSpec renaming witness_shaped -> QG
open Go.DataW renaming Trod -> IE, trod -> EZ, TrodAll -> Qi
open Go.DataW.agg renaming injEq -> QL
open Go.DataW.iface renaming injEq -> PZ
open Go.DataW.map renaming injEq -> QN
open Go.Lit renaming toCell -> NP
open Go.Program renaming tiled -> OD
open Go.Value renaming okWide -> LW, cells -> JY
open Go.WideElems renaming rd -> KP, rg -> NQ, open_map -> QM
open Go.World renaming var? -> QA, cell? -> EF, holding -> LI
open List renaming mem_map -> DB, getElem?_eq_some_iff -> AH, mem_of_getElem? -> AN, getElem?_map -> BN, getElem?_cons_zero -> BG, mapM_cons -> KX, map_cons -> BI, contains_iff_mem -> EH
open List.cons renaming injEq -> JG
open Nat renaming mul_one -> FK, add_zero -> DU, zero_add -> BC
open Option renaming map_some -> DE, bind_eq_some_iff -> LH, map_eq_some_iff -> EL, bind_some -> FG, some -> QQ, none -> N2
open Option.some renaming injEq -> AG, inj -> DZ
open Prod.mk renaming injEq -> BK
section
namespace Go.AM
open Go
theorem bFP{m n f:Nat}{a:Shape}(h:aE3 AK m n f [.agg (aH a)] [] aJi=QS):shV AK f a=true:=by unfold shV;rw[qH h]
theorem bEk{k:Nat}(h1:bEg k=QS)(h2:∀a∈bE7.drop (k+7),aE3 AK 10000 100 131 [.agg (aH a)] [] aJi=QS/\aE3 AK 10000 100 135 [.agg (aH a)] [] aJi=QS):∀a∈bE7.drop k,aE3 AK 10000 100 131 [.agg (aH a)] [] aJi=QS/\aE3 AK 10000 100 135 [.agg (aH a)] [] aJi=true:=by
 intro a ha;rw[<- List.take_append_drop 7 (bE7.drop k),List.drop_drop]at ha;rcases List.mem_append.1 ha with ha | ha
 ·exact Bool.and_eq_true_iff.1 (List.all_eq_true.1 h1 a ha)
 exact h2 a ha
theorem bHO{a:Shape}(ha:a∈bE7):shV AK (gZ "m") a=QS/\shV AK (gZ "l") a=true:=by
 have e:bE7.drop 168=[]:=bIv;have h:=bEk bI3<|bEk bI4<|bEk bHB<|bEk bHC<|bEk bHD<|bEk bHE<|bEk bHF<|bEk bHG<|bEk bHH<|bEk bHI<|bEk bHJ<|bEk bHK<|bEk bHL<|bEk bHM<|bEk bHN<|bEk bGY<|bEk bGZ<|bEk bH0<|bEk bH1<|bEk bH2<|bEk bH3<|bEk bH4<|bEk bH5<|bEk bH6<|fun a ha=>by
  rw[e]at ha;cases ha
 have e4:gZ "m" = 131:=bIv;have e6:gZ "l" = 135:=bIv;have:=h a ha;rw[e4,e6];exact⟨bFP this.1,bFP this.2⟩
theorem bJa{l:List Int}(hl:jP l){at' how by':Int}(jk:eA at')(rh:eA by')(H:LO):aG AM0 3 [.sl QT (l.map bF),vi at',vi how,vi by'] H=QQ (.bool QS,H,[]):=by
 have:=bJy (how:=how) bJz bGt (bIf bDB fun a ha=>bHO ha) hl jk rh H;have e:gZ "bp" = 3:=bIv
 rwa [e]at this
#print axioms bJa
end Go.AM
end
section
namespace Go.AM
open Go Go.ChangeShapes Go.WideShapes Go.ChangeAt Go.RowKit
def G0(C:ag->Np->Prop)(W:BL):G:={ perm:=fun b i=>W.cell? ⟨b,i,N2⟩,obj:=fun _=>N2,whole:=fun b=>W.heap[b]?,io:=(W.os,W.output),code:=C }
theorem wf0(C:ag->Np->Prop)(W:BL):WF (G0 C W) [] W where
 perm:=fun _ _ _ h=>h
 lt:=fun _ _ h=>by cases h
 blk:=fun _ _ h=>by cases h
 st:=fun _ _ _ _ h=>by cases h
 obj:=fun _ _ _ hb=>by have:=hb.loc;cases this
 jh:=fun _ _ _ hb=>by have:=hb.loc;cases this
 inj:=fun _ _ _ _ _ _ hb=>by have:=hb.loc;cases this
 whole:=⟨fun _ _ h=>⟨h,fun _ _ _ hb=>by have:=hb.loc;cases this⟩,rfl⟩
theorem aLr{C:ag->Np->Prop}{W W':BL}{g':G}{H':LO}(h:Step (G0 C W) [] W g' H' W' []){b:Nat}(hb:b<W.heap.size):W'.heap[b]? = W.heap[b]? := h.frame.2 b hb fun o ho=>by cases ho
theorem aQR{C:ag->Np->Prop}{W W':BL}{g':G}{H':LO}(h:Step (G0 C W) [] W g' H' W' [])(may:JI->Prop):W.keptBut W' may:=by have e:=h.wf.whole.io;rw[h.le.io]at e;have e':(W.os,W.output)=(W'.os,W'.output):=e;refine⟨(congrArg Prod.fst e').symm,(congrArg Prod.snd e').symm,fun i hi=>?_⟩;rw[aLr h hi];split<;>simp_all
section
variable {H:Type}{enc:BP×BE->H}{P:CU}{W:BL}{C:ag->Np->Prop}
theorem aSF{t e:BP}{base:Nat}{v:BE}{d:IK H}{p:List JI}(ht:P.underlying t=QQ (.slice e))(he:P.underlying e=QQ (.int .i64))(hc:P.cellsOf e=1) (kp:LW P W .any base t v) (hd:IE enc P W 0 (fun _=>QS) QS t v d p):∃l:List Int,jP l/\ai (G0 C W) (.sl QT (l.map bF)) v /\ ∀(W':BL) (sp:Nat->Bool),(∀b,b<W.heap.size->W'.heap[b]? = W.heap[b]?)->(∀q∈p,sp q.block=QS)->IE enc P W' 0 sp QS t v d p:=by
 simp only[LW,ht,Cell.okWide]at kp;obtain⟨fuel,hd⟩:=hd;have qj:v=.slice N2 0 0∨∃a len cap,v=.slice (QQ a) len cap/\a.spot=none:=by
  unfold Cell.ok at kp;rw[ht]at kp;split at kp<;>first | exact kp.elim | skip
  all_goals first | (rename_i h;cases h;done) | skip
  ·exact .inl rfl
  exact .inr ⟨_,_,_,rfl,kp.2.2.2.1⟩
 rcases open_ints ht he hc hd with⟨e1,e2⟩ | ⟨a,len,cap,zs,e1,_,hl,hm,hz,e2,bc,U9⟩
 ·have hv:v=.slice N2 0 0:=by
   rcases qj with rfl | ⟨a,len,cap,rfl,_⟩
   ·rfl
   simp[JY]at e1
  subst hv;cases e2;exact⟨[],(fun a ha=>by cases ha),.kn _,fun W' sp _ _=>shut_slice_nil ht⟩
 have hv:v=.slice (QQ a) len cap/\a.spot=none:=by
  rcases qj with rfl | ⟨a',len',cap',rfl,hs⟩
  ·simp[JY]at e1
  simp[JY]at e1;obtain⟨rfl,rfl,rfl⟩:=e1;exact⟨rfl,hs⟩
 obtain⟨rfl,hs⟩:=hv;simp only[BK]at e2;obtain⟨rfl,rfl⟩:=e2;simp only[Zv]at hz;have ji:∀i,a.add i=⟨a.block,a.off+i,N2⟩:=fun i=>by
  have ea:a=⟨a.block,a.off,N2⟩:=by cases a;simp at hs;subst hs;rfl
  rw[ea];exact Addr.add_lit _ _ _
 have hlt:0<zs.length->a.block<W.heap.size:=fun h0=>by
  have:=bc 0 h0;rw[ji]at this;exact World.block_lt_of_cell? (a:=⟨a.block,a.off+0,N2⟩) W this
 refine⟨zs.take len,fun n hn=>?_, ?_,fun W' sp Df l9=>?_⟩
 ·have:=MF (U9 n (List.mem_of_mem_take hn));exact⟨this.1,this.2⟩
 ·have ea:a=⟨a.block,a.off,N2⟩:=by cases a;simp at hs;subst hs;rfl
  have ax:((zs.take len).map bF).length=len:=soT;have key:ai (G0 C W) (.sl QT ((zs.take len).map bF)) (.slice (QQ ⟨a.block,a.off,N2⟩) ((zs.take len).map bF).length cap):=by
   refine .sl QT _ a.block a.off cap 1 omT (fun h=>by cases h) (fun row hr=>?_) (fun row hr=>?_) (fun i j hi hj=>?_) fun i j row c x hr sx hx=>?_
   ·obtain⟨n,_,rfl⟩:=DB.1 hr;rfl
   ·obtain⟨n,_,rfl⟩:=DB.1 hr;rfl
   ·have:j=0:=omT;subst this;show (W.cell? ⟨a.block,a.off+i*1+0,N2⟩).isSome;have:=bc i omT;rw[ji]at this;simp only[FK,DU,this];rfl
   have hi:i<len:=by rw[<- ax];exact (AH.1 hr).1
   have hj:j=0:=by obtain⟨n,_,rfl⟩:=DB.1 (AN hr);have:=(AH.1 sx).1;simp[bF]at this;exact this
   subst hj;have Qy:W.cell? ⟨a.block,a.off+i*1+0,N2⟩=QQ x:=hx;have nc:=bc i omT;rw[ji]at nc;simp only[FK,DU]at Qy;rw[nc]at Qy;cases Qy;rw[BN]at hr;have l7:(zs.take len)[i]? = QQ (zs.getD i 0):=by rw[List.getElem?_take,Zy hi,List.getElem?_eq_getElem omT];simp[List.getD,show i<zs.length by omega]
   rw[l7]at hr;simp only[DE,AG]at hr;subst hr;simp only[bF,BG,AG]at sx;subst sx;exact .int _ _
  rw[ax,<- ea]at key;exact key
 refine⟨2,shut_ints 0 ht he hc (Nat.zero_le _) hl hm ?_ (fun i hi=>?_) U9⟩
 ·by_cases h0:0<zs.length
  ·have:sp a.block=true:=l9 (.cell a.block (a.off+0)) (MemPlace.mem_row.2 ⟨0,h0,rfl⟩);rw[this,Zy rfl,hz]
  split<;>omega
 have h1:=bc i hi;rw[ji]at h1 ⊢;exact (World.cell?_of_block (a:=⟨a.block,a.off+i,N2⟩) (Df a.block (hlt omT))).trans h1
mutual
def aHr{H:Type}:IK H->List BE
 |.lit l=>[l.toCell]
 |.agg ds=>aLs ds
 |_=>[]
def aLs{H:Type}:List (IK H)->List BE
 | []=>[]
 |d::r=>aHr d++aLs r
end
theorem aHs{α:Type}{f:α->Option (IK H×List JI)}{ch:α->List BE}:∀{L:List α} {xs:List (IK H×List JI)},L.mapM f=QQ xs->(∀x∈L,∀a,f x=QQ a->ch x=aHr a.1)->(L.map ch).flatten=aLs (xs.map (·.1))
 | [],xs,h,_=>by
  simp at h;subst h;simp[aLs]
 |x::L,xs,h,da=>by
  rw[KX]at h;simp only[bind,LH,pure,AG]at h;obtain⟨a,ha,asx',has,rfl⟩:=h;rw[BI,List.flatten_cons,BI,aLs,aHs has (fun y hy=>da y (by simp[hy])),da x siT a ha]
theorem aDP{base:Nat}{sp:Nat->Bool}{held:Bool}:∀(m:Nat) (t:BP),P.tiled m t=QS->∀(n:Nat) (cs:List BE) (x:IK H×List JI),EZ enc P W base sp held n t cs=QQ x->cs=aHr x.1
 |0,_,h=>by simp[OD]at h
 |m+1,t,ht=>by
  intro n cs x h;unfold OD at ht;cases n with
  |zero=>simp[EZ]at h
  |succ n=>
   cases hu:P.underlying t with
   |none=>simp[hu]at ht
   |some kd=>
    cases kd
    case bool=>simp only[EZ,hu]at h;split at h<;>simp_all<;>(subst h;simp[aHr,NP])
    case int q=>simp only[EZ,hu]at h;split at h<;>simp_all<;>(obtain⟨⟨rfl,_⟩,rfl⟩:=h;simp[aHr,NP])
    case string=>simp only[EZ,hu]at h;split at h<;>simp_all<;>(obtain⟨_,rfl⟩:=h;simp[aHr,NP])
    case array k e=>
     simp only[hu,AI,beq_iff_eq]at ht;simp only[EZ,hu]at h;split at h
     ·rename_i hl;obtain⟨asx,ha,rfl⟩:=EL.1 h;show cs=aHr (.agg (asx.map (·.1)));rw[aHr,<- aHs (ch:=fun i=>(cs.drop (i*P.cellsOf e)).take (P.cellsOf e)) ha (fun i _ a Nv=>aDP m e ht.2 n _ a Nv),chunks_flatten _ k cs (by rw[hl,ht.1])]
     cases h
    case struct fs=>
     simp only[hu,AI,beq_iff_eq]at ht;simp only[EZ,hu]at h;split at h
     ·rename_i hl;obtain⟨asx,ha,rfl⟩:=EL.1 h;show cs=aHr (.agg (asx.map (·.1)));rw[aHr,<- aHs (ch:=fun f:Field=>(cs.drop f.offset).take (P.cellsOf f.type)) ha (fun f hf a Br=>aDP m f.type (Array.all_eq_true_iff_forall_mem.1 ht.2 f (Array.mem_toList_iff.1 hf)) n _ a Br),fields_flatten cs _ 0 _ ht.1 hl];rfl
     cases h
    all_goals (simp[hu]at ht;done)
theorem aVD{nm:String}{n:Nat}{row:LA}{vs:List BE}{cs:Array BE}(hn:P.globalNamed nm=QQ n)(hv:W.var? P nm=QQ cs)(ru:cs.toList=vs)(hr:aQZ QT vs=QQ row)(bd:row.all AV.still=QS):ai (G0 C W) (.ep row 0) (.pointer (QQ ⟨n,0,N2⟩))/\∃cs t fz,(G0 C W).whole n=QQ (.cells cs t fz)/\cs.size=row.length:=by
 unfold QA at hv;rw[hn]at hv;simp only[FG]at hv;split at hv
 ·rename_i cs' t fz bb;simp only[AG]at hv;subst hv;have hl:=aB8 hr (G0 C W);have gd:cs'.size=row.length:=by rw[hl.1,<- ru];simp
  have bc:∀j,W.cell? ⟨n,j,N2⟩=cs'[j]? := fun j=>by simp[EF,bb]
  refine⟨?_,cs',t,fz,bb,gd⟩;refine .ep row 0 n 0 bd (fun j hj=>?_) fun j a x ha hx=>?_
  ·show (W.cell? ⟨n,0+j,N2⟩).isSome;rw[BC,bc,Array.getElem?_eq_getElem omT];rfl
  have Qy:W.cell? ⟨n,0+j,N2⟩=QQ x:=hx;rw[BC,bc]at Qy;refine hl.2 j a x ha ?_;rw[<- ru];simpa using Qy
 cases hv
end
end Go.AM
end
section
namespace Go.Proofs.YtcndplokeppakaaGreatDoor
open Go Go.ChangeShapes Go.WideShapes Go.ChangeAt Go.WideMaps Go.WideElems Go.RowKit Go.AM
theorem own:ownKnob Tryz.prog.godebug=none:=bIv
abbrev aHt:List (String×IK Unit):=Rows.sourceErasesRow.laid
abbrev zW:List (String×IK Unit):=aHt.filter fun x=>x.2.handleName?.isNone
abbrev bC7:IK Unit:=match (Rows.laid_dactyl_typing_families:IK Unit)with | .iface _ d=>d | d=>d
def yZ(k b:Int)(f:Nat):FO:=⟨.int .i64 k,.agg #[.int .i64 b,.func (.func f) #[] #[]],k.toNat⟩
def aOG:Array FO := #[yZ 0 (-1) 406,yZ 1 3 408,yZ 2 4 410,yZ 3 4 412,yZ 4 4 413,yZ 5 5 414,yZ 6 6 416]
noncomputable def aNv(os:Os):BL:={ LI Tryz.prog os ⟨#[],#[],[]⟩ with
 heap:=((LI Tryz.prog os ⟨#[],#[],[]⟩).heap.setIfInBounds 0 (.cells #[.map (QQ (LI Tryz.prog os ⟨#[],#[],[]⟩).heap.size)] 152)).push (.map aOG 7) }
noncomputable def aB7(os:Os):BL:=(aNv os).layVars Tryz.prog zW
theorem aLt(os:Os):(aB7 os).os=os:=World.layVars_os _ _ _
theorem aOH(os:Os)(args:Array BE):laidMet Tryz.prog zW ((aB7 os).forCall (fun _ _=>0) ⟨#[],args,[]⟩).memory:=by
 have e1:(zW.filter fun x=>(zW.map (·.1)).contains x.1)=zW:=List.filter_eq_self.2 fun x hx=>EH.2 (DB.2 ⟨x,hx,rfl⟩);have e2:(zW.filter fun x => !(zW.map (·.1)).contains x.1)=[]:=List.filter_eq_nil_iff.2 fun x hx=>by rw[EH.2 (DB.2 ⟨x,hx,rfl⟩)];simp
 have h:laidMet Tryz.prog zW (aB7 os):=laidMet_layVars (w0:=aNv os) (zW.map (·.1)) [] (by rw[e1];rfl) (by rw[e1];kernel_rfl) (by rw[e1];kernel_rfl) (by rw[e2];exact LaidIn.none);exact h.of_heap (by simp[World.memory,World.forCall,Input.heap])
theorem aSG(os:Os)(args:Array BE):laidMetH Tryz.prog aHt ((aB7 os).forCall (fun _ _=>0) ⟨#[],args,[]⟩).memory:=
 laidMetH_of_parts3 (fuel:=8) (aOH os args) bIv bIv
end Go.Proofs.YtcndplokeppakaaGreatDoor
end
section
namespace Go.Proofs.YtcndplokeppakaaGreatDoor
open Go Go.ChangeShapes Go.WideShapes Go.ChangeAt Go.WideMaps Go.WideElems Go.RowKit Go.AM
theorem aQS:(aHt.filter fun x=>x.2.handleName?.isSome)=[("dactyl/typing.families",Rows.laid_dactyl_typing_families)]:=bIv
theorem aNw{W:BL}(h:laidMetH Tryz.prog aHt W):laidMet Tryz.prog zW W:=by unfold laidMetH at h;rw[aQS]at h;exact h.1
theorem aMA{P:CU}{w:BL}{nm:String}{d:IK Unit}:∀{laid:List (String×IK Unit)} {ps:List JI} (i:Nat),DataW.LaidVars P w laid ps->laid[i]? = QQ (nm,d) ->∃g t cs fuel p,P.globalNamed nm=QQ g/\(P.globals[g]?).map (·.type)=QQ t/\w.var? P nm=QQ cs/\EZ (fun _=>()) P w 0 (fun _=>QS) QT fuel t cs.toList=QQ (d,p)
 | [],_,i,_,h=>by simp at h
 | (n,d')::r,ps,0,hl,h=>by
  obtain⟨g,t,cs,fuel,p,q,h1,h2,h3,h4,_,_⟩:=hl;simp only[BG,AG,BK]at h;obtain⟨rfl,rfl⟩:=h;exact⟨g,t,cs,fuel,p,h1,h2,h3,h4⟩
 | (n,d')::r,ps,i+1,hl,h=>by
  obtain⟨g,t,cs,fuel,p,q,_,_,_,_,h5,_⟩:=hl;exact aMA i h5 (by simpa using h)
abbrev CK:ag->Np->Prop:=fun a c=>∃nl ty rs frz,a=nR Tryz.prog ⟨aBx.row,nl,ty,rs⟩ frz c
theorem aIO{W:BL}(h:laidMetH Tryz.prog aHt W){nm:String}{d:IK Unit}(i n t:Nat){row:LA}(hi:zW[i]? = QQ (nm,d))(hn:Tryz.prog.globalNamed nm=QQ n)(ht:(Tryz.prog.globals[n]?).map (·.type)=QQ t) (tl:Tryz.prog.tiled 9 t=QS) (hr:aQZ QT (aHr d)=QQ row) (bd:row.all AV.still=QS):ai (G0 CK W) (.ep row 0) (.pointer (QQ ⟨n,0,N2⟩))/\∃cs t fz,(G0 CK W).whole n=QQ (.cells cs t fz)/\cs.size=row.length:=by obtain⟨ps,hl,_⟩:=aNw h;obtain⟨g,t',cs,fuel,p,h1,h2,h3,h4⟩:=aMA i hl hi;obtain rfl:=DZ (hn.symm.trans h1);obtain rfl:=DZ (ht.symm.trans h2);exact aVD hn h3 (aDP 9 _ tl fuel _ _ h4) hr bd
theorem aQT{W:BL}{nm:String}{n:Nat}{a:AV}{x:BE}{cs:Array BE}(hn:Tryz.prog.globalNamed nm=QQ n)(hv:W.var? Tryz.prog nm=QQ cs)(ru:cs.toList=[x])(hr:ai (G0 CK W) a x)(bd:a.still=QS):ai (G0 CK W) (.ep [a] 0) (.pointer (QQ ⟨n,0,N2⟩))/\∃cs t fz,(G0 CK W).whole n=QQ (.cells cs t fz)/\cs.size=[a].length:=by
 unfold QA at hv;rw[hn]at hv;simp only[FG]at hv;split at hv
 ·rename_i cs' t fz bb;simp only[AG]at hv;subst hv;have e:cs' = #[x]:=Array.eq_one_of_toList ru;subst e;refine⟨?_,_,t,fz,bb,rfl⟩;refine .ep [a] 0 n 0 (by simp[bd]) (fun j hj=>?_) fun j b y ha hx=>?_
  ·have:j=0:=by simpa using hj
   subst this;show (W.cell? ⟨n,0+0,N2⟩).isSome;simp[EF,bb]
  have hj:j<1:=(AH.1 ha).1;have:j=0:=omT;subst this;have Qy:W.cell? ⟨n,0+0,N2⟩=QQ y:=hx;simp[EF,bb]at Qy;subst Qy;simp at ha;subst ha;exact hr
 cases hv
theorem aNx: "*" ++ "errors.errorString" = "*errors.errorString" := deT
theorem aSH(u:BP)(h:Tryz.prog.typeName? 3 u=QQ "*errors.errorString"):u=400:=
 typeName_ptr_named (nm:= "errors.errorString") (by rw[aNx];kernel_rfl) bIv deT u (by rw[aNx];exact h)
theorem aTl{W:BL}(h:laidMetH Tryz.prog aHt W){nm:String}{d:IK Unit}(i n:Nat)(hi:zW[i]? = QQ (nm,.iface "*errors.errorString" d))(hn:Tryz.prog.globalNamed nm=QQ n)(ht:(Tryz.prog.globals[n]?).map (·.type)=QQ 196):ai (G0 CK W) (.ep [.ifc 400 .undef] 0) (.pointer (QQ ⟨n,0,N2⟩))/\∃cs t fz,(G0 CK W).whole n=QQ (.cells cs t fz)/\cs.size=[AV.ifc 400 .undef].length:=by
 obtain⟨ps,hl,_⟩:=aNw h;obtain⟨g,t',cs,fuel,p,h1,h2,h3,h4⟩:=aMA i hl hi;obtain rfl:=DZ (hn.symm.trans h1);obtain rfl:=DZ (ht.symm.trans h2);have key:∃u v,cs.toList=[.iface u v]/\Tryz.prog.typeName? 3 u=QQ "*errors.errorString" := by
  cases fuel with
  |zero=>simp[EZ]at h4
  |succ m=>
   unfold EZ at h4;simp only[Tryz.underlying196]at h4;split at h4<;>first | (simp at h4;done) | skip
   all_goals first | (exfalso;rename_i hA hB;cases hA;done) | skip
   rename_i u v _ ru;refine⟨u,v,ru, ?_⟩;cases jq:Tryz.prog.typeName? 3 u with
   |none=>rw[jq]at h4;cases h4
   |some name=>rw[jq]at h4;obtain⟨x,_,hx⟩:=EL.1 h4;simp only[BK,PZ]at hx;rw[hx.1.1]
 obtain⟨u,v,ru,hu⟩:=key;obtain rfl:=aSH u hu;exact aQT hn h3 ru (.ifc _ _ _ rfl (.undef _)) rfl
theorem aSI{α β:Type}{f:α->β}:∀{m D:List β},m.Perm D->∀{l:List α},l.map f=m->∃xs,l.Perm xs/\xs.map f=D:=by
 intro m D h
 induction h with
 |nil=>intro l e;exact⟨l,.refl _,e⟩
 |cons x _ ih=>
  intro l e;cases l with
  |nil=>simp at e
  |cons a l=>simp only[BI,JG]at e;obtain⟨xs,h1,h2⟩:=ih e.2;exact⟨a::xs,h1.cons a,by simp[e.1,h2]⟩
 |swap x y r=>
  intro l e
  match l,e with
  |a::b::l,e=>simp only[BI,JG]at e;exact⟨b::a::l,.swap _ _ _,by simp[e.1,e.2.1,e.2.2]⟩
 |trans _ _ ih1 ih2=>intro l e;obtain⟨xs,h1,h2⟩:=ih1 e;obtain⟨ys,h3,h4⟩:=ih2 h2;exact⟨ys,h1.trans h3,h4⟩
theorem sA{W:BL}{n:Nat}{x:FO}{k b:Int}{f:Nat}{c:UInt8}{r:List UInt8}(ud:((List.range Tryz.prog.funcs.size).filter fun f=>(Tryz.prog.funcs[f]?).any (·.name.toUTF8.data.toList==c::r))=[f]) (h:KP Tryz.prog 3 (elemAt (funcToken Tryz.prog) Tryz.prog W 0 (fun _=>QS) QS n 151) x=QQ (.int .i64 k,.agg [.lit (.int .i64 b),.held (c::r)])):x.key=.int .i64 k/\x.val=.agg #[.int .i64 b,.func (.func f) #[] #[]]:=by
 obtain⟨key,val,born⟩:=x;have hk:=rd_key h;obtain⟨z,hz,he⟩:=rd_val h;constructor
 ·have hu:Tryz.prog.underlying 3=QQ (.int .i64):=Tryz.underlying3;unfold keyOf mapKey at hk;rw[hu]at hk;dsimp only at hk;split at hk<;>first | (cases hk;done) | skip
  ·split at hk
   ·rename_i hc;obtain⟨rfl,_⟩:=hc;cases hk;rfl
   cases hk
  rename_i hA;cases hA
 unfold elemAt at hz;split at hz
 ·rename_i qj;have hu:Tryz.prog.underlying 151=_:=Tryz.underlying151;unfold Value.formed at qj;rw[hu]at qj;cases val<;>simp at qj
  rename_i cs;have Z4:Tryz.prog.cellsOf 3=1:=bIv;have We:Tryz.prog.cellsOf 149=1:=bIv;have X7:Tryz.prog.cellsOf 151=2:=bIv;rw[X7]at qj;obtain⟨v0,v1,rfl⟩:∃v0 v1,cs = #[v0,v1]:=by
   match cs,qj with
   |⟨[v0,v1]⟩,_=>exact⟨v0,v1,rfl⟩
  cases n with
  |zero=>simp[EZ]at hz
  |succ m=>
   unfold EZ at hz;rw[hu]at hz;dsimp only[JY]at hz;rw[Zy (by rw[X7];rfl)]at hz;obtain⟨xs,re,rfl⟩:=EL.1 hz;rw[KX,KX,List.mapM_nil]at re;simp only[bind,LH,pure,AG]at re;obtain⟨a,ha,_,⟨c',P8,_,rfl,rfl⟩,rfl⟩:=re;rw[Z4]at ha;rw[We]at P8;simp only[BI,List.map_nil,QL,JG,and_true]at he;have e0:=aDP 1 3 bIv _ _ _ ha;rw[<- he.1]at e0;have e0:[v0]=[Value.int .i64 b]:=e0;have ec:c'=(.held (c::r),c'.2):=by rw[he.2]
   rw[ec]at P8;have e1:v1=.func (.func f) #[] #[]:=func_of_trod Tryz.underlying149 ud P8;cases e0;rw[e1]
 cases hz
theorem aVE{W:BL}{n:Nat}{es:Array FO}{xs:List FO}{D:List (Lit×IK (List UInt8))}(hp:es.toList.Perm xs)(hr:∀x∈es.toList,∃y,KP Tryz.prog 3 (elemAt (funcToken Tryz.prog) Tryz.prog W 0 (fun _=>QS) QS n 151) x=QQ y) (hx:xs.map (NQ Tryz.prog 3 (elemAt (funcToken Tryz.prog) Tryz.prog W 0 (fun _=>QS) QS n 151))=D):∀i:Nat,∀x,xs[i]? = QQ x->∀d,D[i]? = QQ d->KP Tryz.prog 3 (elemAt (funcToken Tryz.prog) Tryz.prog W 0 (fun _=>QS) QS n 151) x=QQ d:=by intro i x hi d hd;rw[<- hx,BN,hi]at hd;simp only[DE,AG]at hd;obtain⟨y,hy⟩:=hr x (hp.mem_iff.2 (AN hi));rw[rg_of hy]at hd;rw[hy,hd]
theorem aCN{g:G}(b:Int)(f:Nat):ai g (aT4 b f) (.agg #[.int .i64 b,.func (.func f) #[] #[]]):=.agg _ _ rfl fun i a x ha hx=>by
 match i,ha,hx with
 |0,ha,hx=>simp at ha hx;subst ha;subst hx;exact .int _ _
 |1,ha,hx=>simp at ha hx;subst ha;subst hx;exact .fn f [] [] #[] #[] rfl rfl (fun _ _ _ h=>by simp at h) (fun _ _ _ h=>by simp at h)
 |i+2,ha,hx=>simp at ha
theorem aSJ:bC7.funcsOut=.map [(.int .i64 0,.agg [.lit (.int .i64 (-1)),.held [100,97,99,116,121,108,47,116,121,112,105,110,103,46,102,97,109,105,108,105,101,115,36,49]]),(.int .i64 1,.agg [.lit (.int .i64 3),.held [100,97,99,116,121,108,47,116,121,112,105,110,103,46,102,97,109,105,108,105,101,115,36,50]]),(.int .i64 2,.agg [.lit (.int .i64 4),.held [100,97,99,116,121,108,47,116,121,112,105,110,103,46,102,97,109,105,108,105,101,115,36,51]]),(.int .i64 3,.agg [.lit (.int .i64 4),.held [100,97,99,116,121,108,47,116,121,112,105,110,103,46,102,97,109,105,108,105,101,115,36,52]]),(.int .i64 4,.agg [.lit (.int .i64 4),.held [100,97,99,116,121,108,47,116,121,112,105,110,103,46,102,97,109,105,108,105,101,115,36,53]]),(.int .i64 5,.agg [.lit (.int .i64 5),.held [100,97,99,116,121,108,47,116,121,112,105,110,103,46,102,97,109,105,108,105,101,115,36,54]]),(.int .i64 6,.agg [.lit (.int .i64 6),.held [100,97,99,116,121,108,47,116,121,112,105,110,103,46,102,97,109,105,108,105,101,115,36,55]])]:=bIv
theorem aVF{W:BL}(h:laidMetH Tryz.prog aHt W):ai (G0 CK W) (.ep aUy 0) (.pointer (QQ ⟨0,0,N2⟩))/\∃cs t fz,(G0 CK W).whole 0=QQ (.cells cs t fz)/\cs.size=aUy.length:=by
 obtain⟨g,t,cs,fuel,p,hg,ht,hv,hd⟩:=h.funcs (n:= "dactyl/typing.families") (d:=bC7) (AN (i:=11) rfl);have h0:Tryz.prog.globalNamed "dactyl/typing.families" = QQ 0:=bIv;have h1:(Tryz.prog.globals[0]?).map (·.type)=QQ 152:=bIv;obtain rfl:=DZ (h0.symm.trans hg);obtain rfl:=DZ (h1.symm.trans ht);rw[aSJ]at hd;rcases QM Tryz.underlying152 hd with⟨_,hx⟩ | ⟨b,es,clock,n,_,ru,bb,_,F,hx⟩
 ·cases hx
 simp only[BK,QN]at hx;have Pv:=(sorted_perm (es.toList.map (NQ Tryz.prog 3 (elemAt (funcToken Tryz.prog) Tryz.prog W 0 (fun _=>QS) QS n 151)))).symm;rw[<- hx.1]at Pv;obtain⟨xs,hp,re⟩:=aSI Pv rfl;have ax:xs.length=7:=by have:=congrArg List.length re;simpa using this
 have cn:=aVE hp F.reads re;obtain⟨x0,x1,x2,x3,x4,x5,x6,rfl⟩:∃x0 x1 x2 x3 x4 x5 x6,xs=[x0,x1,x2,x3,x4,x5,x6]:=by
  match xs,ax with
  | [x0,x1,x2,x3,x4,x5,x6],_=>exact⟨_,_,_,_,_,_,_,rfl⟩
 obtain⟨k0,v0⟩:=sA (f:=406) bIv (cn 0 x0 rfl _ rfl);obtain⟨k1,v1⟩:=sA (f:=408) bIv (cn 1 x1 rfl _ rfl);obtain⟨k2,v2⟩:=sA (f:=410) bIv (cn 2 x2 rfl _ rfl);obtain⟨k3,v3⟩:=sA (f:=412) bIv (cn 3 x3 rfl _ rfl);obtain⟨k4,v4⟩:=sA (f:=413) bIv (cn 4 x4 rfl _ rfl);obtain⟨k5,v5⟩:=sA (f:=414) bIv (cn 5 x5 rfl _ rfl);obtain⟨k6,v6⟩:=sA (f:=416) bIv (cn 6 x6 rfl _ rfl);refine aQT h0 hv ru (.fmp _ _ b es clock _ bb (.inr ⟨hp,.i64,[0,1,2,3,4,5,6], ?_,deT⟩) rfl rfl (fun i a x ha hx=>?_) fun i a x ha hx=>?_) rfl
 ·simp[k0,k1,k2,k3,k4,k5,k6]
 ·match i,ha,hx with
  |0,ha,hx=>simp at ha hx;subst ha;subst hx;rw[k0];exact .int _ _
  |1,ha,hx=>simp at ha hx;subst ha;subst hx;rw[k1];exact .int _ _
  |2,ha,hx=>simp at ha hx;subst ha;subst hx;rw[k2];exact .int _ _
  |3,ha,hx=>simp at ha hx;subst ha;subst hx;rw[k3];exact .int _ _
  |4,ha,hx=>simp at ha hx;subst ha;subst hx;rw[k4];exact .int _ _
  |5,ha,hx=>simp at ha hx;subst ha;subst hx;rw[k5];exact .int _ _
  |6,ha,hx=>simp at ha hx;subst ha;subst hx;rw[k6];exact .int _ _
  |i+7,ha,hx=>simp at hx
 match i,ha,hx with
 |0,ha,hx=>simp at ha hx;subst ha;subst hx;rw[v0];exact aCN _ _
 |1,ha,hx=>simp at ha hx;subst ha;subst hx;rw[v1];exact aCN _ _
 |2,ha,hx=>simp at ha hx;subst ha;subst hx;rw[v2];exact aCN _ _
 |3,ha,hx=>simp at ha hx;subst ha;subst hx;rw[v3];exact aCN _ _
 |4,ha,hx=>simp at ha hx;subst ha;subst hx;rw[v4];exact aCN _ _
 |5,ha,hx=>simp at ha hx;subst ha;subst hx;rw[v5];exact aCN _ _
 |6,ha,hx=>simp at ha hx;subst ha;subst hx;rw[v6];exact aCN _ _
 |i+7,ha,hx=>simp at hx
theorem aSK{W:BL}(h:laidMetH Tryz.prog aHt W):bM Tryz.prog aBx (G0 CK W) where
 row:=fun n row hn=>by
  have hn:aZA n=QQ row:=hn;unfold aZA at hn;split at hn
  ·cases hn;exact aIO h 9 1 192 rfl bIv bIv bIv bIv bIv
  ·cases hn;exact aIO h 6 5 268 rfl bIv bIv bIv bIv bIv
  ·cases hn;exact aIO h 7 2 262 rfl bIv bIv bIv bIv bIv
  ·cases hn;exact aIO h 8 3 263 rfl bIv bIv bIv bIv bIv
  ·cases hn;exact aIO h 10 4 263 rfl bIv bIv bIv bIv bIv
  ·cases hn;exact aVF h
  ·cases hn;exact aTl h 5 6 rfl bIv bIv
  ·cases hn;exact aTl h 4 7 rfl bIv bIv
  ·cases hn;exact aIO h 2 8 373 rfl bIv bIv bIv bIv bIv
  cases hn
 code:=fun a c=>Iff.rfl
end Go.Proofs.YtcndplokeppakaaGreatDoor
end
section
namespace Go.Proofs.YtcndplokeppakaaGreatDoor
open Go Go.ChangeMaps Go.ChangeShapes Go.WideShapes Go.ChangeAt Go.WideMaps Go.WideElems Go.RowKit Go.AM
theorem aLu{H:Type}{enc:BP×BE->H}{P:CU}{w:BL}{base:Nat}{spare:Nat->Bool}{held:Bool}{t1 t2 t3 t4:BP}{args:Array BE}{ds:List (IK H)}{ps:List JI} (h:Qi enc P w base spare held [t1,t2,t3,t4] args.toList ds ps):∃v1 v2 v3 v4 d1 d2 d3 d4 p1 p2 p3 p4,args = #[v1,v2,v3,v4]/\ds=[d1,d2,d3,d4]/\ps=p1++(p2++(p3++p4)) /\ IE enc P w base spare held t1 v1 d1 p1/\IE enc P w base spare held t2 v2 d2 p2/\IE enc P w base spare held t3 v3 d3 p3 /\ IE enc P w base spare held t4 v4 d4 p4:=by obtain⟨v1,r1,d1,s1,p1,q1,e1,rfl,rfl,h1,h⟩:=trodAll_cons h;obtain⟨v2,r2,d2,s2,p2,q2,rfl,rfl,rfl,h2,h⟩:=trodAll_cons h;obtain⟨v3,r3,d3,s3,p3,q3,rfl,rfl,rfl,h3,h⟩:=trodAll_cons h;obtain⟨v4,r4,d4,s4,p4,q4,rfl,rfl,rfl,h4,h⟩:=trodAll_cons h;obtain⟨_,rfl,rfl⟩:=trodAll_nil h;exact⟨v1,v2,v3,v4,d1,d2,d3,d4,p1,p2,p3,p4,by cases args;simp_all,rfl,siT,h1,h2,h3,h4⟩
theorem bJp{l:List Int}(hl:jP l){a h b:Int}(ha:eA a)(hb:eA b)(g:G)(w:BL)(xs:List BE)(hw:WF g [] w)(hg:bM Tryz.prog aBx g) (hx:fU g [.sl QT (l.map bF),vi a,vi h,vi b] xs):Calls Tryz.prog 3 xs.toArray w fun e w'=>e=.returned (.bool QS)/\∃g',Step g [] w g' [] w' []:=by
 obtain⟨k,pt⟩:=oM (bJa (how:=h) hl ha hb []);obtain⟨_,hc⟩:=(sU bBh k).1 3 _ [] _ _ _ pt g w xs hw hg hx;refine hc.mono ?_;intro e w' he;cases e with
 |returned v=>obtain⟨g',h1,h2⟩:=he;cases h2;exact⟨rfl,g',h1⟩
 |_=>exact he.elim
theorem lifted(os:Os)(started:os.Started)(H:Type)(enc:BP×BE->H):ReturnsInHanded {} Tryz.checked os 3 .any (fun w args=>(Rows.sourceErasesSpec.pre enc Tryz.prog Tryz.f3 [] QT w args/\laidMetH Tryz.prog aHt w)/\sizedMet enc Tryz.prog Tryz.f3 (OpenSpec.ofChange Rows.sourceErasesSpec) QT w args) (Rows.sourceErasesSpec.post enc Tryz.prog Tryz.f3 QT QS QT QT):=by
 refine returnsInHanded_of_change_and (C:=Tryz.checked) (X:=fun w _=>laidMetH Tryz.prog aHt w) (fun _ _ _ hh h=>h.of_heap hh) own started bIv Tryz.func3
  (QG (enc:=enc) (C:=Tryz.checked) (os:=os) (X:=fun w _=>laidMetH Tryz.prog aHt w) QT (aB7 os) #[.slice N2 0 0,.int .i64 0,.int .i64 0,.int .i64 0] 8 (aLt _) (World.shaped_of_ZipB bIv bIv) bIv bIv bIv (aSG os _)) ?_
 intro W base args ds gs before N3 hW _ _ hL _;have kp:∀(j:Nat) t v,Tryz.f3.params[j]? = QQ t->args[j]? = QQ v->LW Tryz.prog W .any base t v:=N3;have Df:=hW;obtain⟨p,q,Jt,hV,rfl,Kq,Ci⟩:=hW;have hA:Qi enc Tryz.prog W 0 (fun _=>QS) QS Tryz.f3.params.toList args.toList ds p:=Jt;rw[Tryz.params3]at hA kp;obtain⟨v1,v3,v4,v5,d1,d3,d4,d5,p1,p3,p4,p5,rfl,rfl,rfl,h1,h3,h4,h5⟩:=aLu hA;obtain⟨rfl,rfl⟩:=trodVars_none hV;obtain⟨l,hl,r1,k1⟩:=aSF (C:=CK) Tryz.underlying22 Tryz.underlying3 bIv (kp 0 22 v1 rfl rfl) h1;obtain⟨n3,rfl,rfl,rfl,w3⟩:=open_int Tryz.underlying3 (kp 1 3 v3 rfl rfl) h3;obtain⟨n4,rfl,rfl,rfl,w4⟩:=open_int Tryz.underlying3 (kp 2 3 v4 rfl rfl) h4;obtain⟨n5,rfl,rfl,rfl,w5⟩:=open_int Tryz.underlying3 (kp 3 3 v5 rfl rfl) h5;clear Jt N3;have hx:fU (G0 CK W) [.sl QT (l.map bF),vi n3,vi n4,vi n5] [v1,.int .i64 n3,.int .i64 n4,.int .i64 n5]:=by
  refine⟨rfl,fun i c x hc hy=>?_⟩
  match i,hc,hy with
  |0,hc,hy=>cases hc;cases hy;exact r1
  |1,hc,hy=>cases hc;cases hy;exact .int _ _
  |2,hc,hy=>cases hc;cases hy;exact .int _ _
  |3,hc,hy=>cases hc;cases hy;exact .int _ _
 have b3:=MF w3;have b5:=MF w5;refine (bJp hl ⟨b3.1,b3.2⟩ ⟨b5.1,b5.2⟩ (G0 CK W) W _ (wf0 CK W) (aSK hL) hx).mono fun e W' ⟨he,g',bd⟩=>?_;subst he;refine⟨_,rfl,_,_,_,[],p1++([]++([]++[])),[],Df, ?_, ?_,rfl,aQR bd _,fun hh=>by cases hh⟩
 ·exact trodAll_mk1 (shut_bool Tryz.underlying4 _)
 have hold:∀b,b<W.heap.size->W'.heap[b]? = W.heap[b]? := fun b hb=>aLr bd hb;have hlt:∀q∈(p1++([]++([]++[])))++[],(fun b=>decide (b<W.heap.size)) q.block=true:=fun q hq=>by simpa using Df.lt q hq
 rw[Tryz.params3];refine⟨p1,[]++([]++([]++[])),k1 W' _ hold (fun q hq=>hlt q (by simp[hq])),⟨[],[]++([]++[]),shut_int Tryz.underlying3 w3,⟨[],[]++[],shut_int Tryz.underlying3 w4,⟨[],[],shut_int Tryz.underlying3 w5,rfl,rfl⟩,rfl⟩,rfl⟩,siT⟩
end Go.Proofs.YtcndplokeppakaaGreatDoor
end
