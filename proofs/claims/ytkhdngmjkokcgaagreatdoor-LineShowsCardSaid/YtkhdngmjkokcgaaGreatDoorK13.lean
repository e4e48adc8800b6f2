/- Part 13. -/
import Derived.Test.YtkhdngmjkokcgaaGreatDoorK02
import Derived.Test.YtkhdngmjkokcgaaGreatDoorK07
import Derived.Test.YtkhdngmjkokcgaaGreatDoorK08
import Derived.Test.YtkhdngmjkokcgaaGreatDoorK09
import Derived.Test.YtkhdngmjkokcgaaGreatDoorK10
import Derived.Test.YtkhdngmjkokcgaaGreatDoorK11
import Derived.Test.YtkhdngmjkokcgaaGreatDoorK12
import Derived.DeepKeys2
import Derived.Handed
import Derived.ChangeSlices
import Derived.ProofKit
import Derived.OpenShut
import Derived.Lib.LaidTab
import Derived.Lib.ItoaNum
import Derived.Test.YtkhdngmjkokcgaaGreatDoorRows
import Derived.Test.YtkhdngmjkokcgaaGreatDoorTie
import Derived.Test.YtkhdngmjkokcgaaGreatDoorCards
import Derived.LaidMore
import Derived.Stop.Joined
import Derived.SevenTiedAt
import Derived.Lay
import Derived.WideKeyElems2
set_option linter.all false
set_option maxRecDepth 100000
open Bool renaming and_eq_true->AI,true->Pa,false->Po
open Go renaming Code->Np,World->BL,MemPlace->JI,TypeId->BP,Value->BE,Program->CU,DataW->IK,MapEntry->FO,bounds_i64->MF
open Go.DataW renaming Trod->IE,trod->EZ,TrodAll->G9
open Go.Lit renaming toCell->NP
open Go.Value renaming okWide->LW,cells->JY
open Go.WideElems renaming rd->KP,rg->NQ,open_map->Nr
open Go.World renaming var?->Jp,cell?->EF,holding->LI
open List renaming mem_map->DB,getElem?_eq_some_iff->AH,mem_of_getElem?->AN,getElem?_map->BN,getElem?_cons_zero->BG,mapM_cons->KX,map_cons->BI,contains_iff_mem->EH
open List.cons renaming injEq->JG
open Nat renaming mul_one->FK,add_zero->DU,zero_add->BC
open Option renaming map_some->DE,bind_eq_some_iff->LH,map_eq_some_iff->EL,bind_some->FG,some->N1,none->N2
open Option.some renaming injEq->AG,inj->DZ
open Prod.mk renaming injEq->BK
section
namespace Go.AM
open Go
variable {a:Shape}
def bFP{m n f:Nat}(h:aE3 AK m n f [.agg (aH a)] [] aJi=Pa):shV AK f a=true:=by unfold shV;rw[qH h]
def bEk{k:Nat}(h1:bEg k=Pa)(h2:∀a∈bE7.drop (k+7),aE3 AK 10000 100 201 [.agg (aH a)] [] aJi=Pa/\aE3 AK 10000 100 205 [.agg (aH a)] [] aJi=Pa):∀a∈bE7.drop k,aE3 AK 10000 100 201 [.agg (aH a)] [] aJi=Pa/\aE3 AK 10000 100 205 [.agg (aH a)] [] aJi=true:=by
 intro a ha;rw[<- List.take_append_drop 7 (bE7.drop k),List.drop_drop]at ha;rcases List.mem_append.1 ha with ha|ha
 .exact Bool.and_eq_true_iff.1 (List.all_eq_true.1 h1 a ha)
 exact h2 a ha
def bHO(ha:a∈bE7):shV AK 201 a=Pa/\shV AK 205 a=true:=by
 have e:bE7.drop 168=[]:=bIv;have h:=bEk bI3<|bEk bI4<|bEk bHB<|bEk bHC<|bEk bHD<|bEk bHE<|bEk bHF<|bEk bHG<|bEk bHH<|bEk bHI<|bEk bHJ<|bEk bHK<|bEk bHL<|bEk bHM<|bEk bHN<|bEk bGY<|bEk bGZ<|bEk bH0<|bEk bH1<|bEk bH2<|bEk bH3<|bEk bH4<|bEk bH5<|bEk bH6<|λa ha=>by
  rw[e]at ha;cases ha
 have:=h a ha;exact⟨bFP this.1,bFP this.2⟩
def bO2{l ks:List Int}{n at' X9 by':Int}(hl:jP l)(hn:eA n)(h1:eA at')(h2:eA X9)(h3:eA by')(H:LO):aG AM0 3 [.sl Po (l.map bF),vi n,vi at',vi X9,vi by',.sl Po (ks.map bF)] H=N1 (.bool Pa,H,[]):=by exact bQ0 (ks:=ks) bQ5 bGt (bIf bDB λa ha=>bHO ha) hl hn h1 h2 h3 H
#print axioms bO2
end Go.AM
end
section
namespace Go.AM
open Go Go.ChangeShapes Go.WideShapes Go.ChangeAt Go.RowKit
def G0(C:ag->Np->Prop)(W:BL):G:={ perm:=λb i=>W.cell? ⟨b,i,N2⟩,obj:=λ_=>N2,whole:=λb=>W.heap[b]?,io:=(W.os,W.output),code:=C }
def wf0(C:ag->Np->Prop)(W:BL):WF (G0 C W) [] W where
 perm:=λ_ _ _ h=>h
 lt:=λ_ _ h=>by cases h
 blk:=λ_ _ h=>by cases h
 st:=λ_ _ _ _ h=>by cases h
 obj:=λ_ _ _ hb=>by have:=hb.loc;cases this
 jh:=λ_ _ _ hb=>by have:=hb.loc;cases this
 inj:=λ_ _ _ _ _ _ hb=>by have:=hb.loc;cases this
 whole:=⟨λ_ _ h=>⟨h,λ_ _ _ hb=>by have:=hb.loc;cases this⟩,rfl⟩
def aLr{C:ag->Np->Prop}{W W':BL}{g':G}{H':LO}(h:Step (G0 C W) [] W g' H' W' []){b:Nat}(hb:b<W.heap.size):W'.heap[b]? = W.heap[b]? := h.frame.2 b hb λo ho=>by cases ho
def aQR{C:ag->Np->Prop}{W W':BL}{g':G}{H':LO}(h:Step (G0 C W) [] W g' H' W' [])(may:JI->Prop):W.keptBut W' may:=by have e:=h.wf.whole.io;rw[h.le.io]at e;have e':(W.os,W.output)=(W'.os,W'.output):=e;refine⟨(congrArg Prod.fst e').symm,(congrArg Prod.snd e').symm,λi hi=>?_⟩;rw[aLr h hi];split<;>simp_all
section
variable {H:Type}{enc:BP×BE->H}{P:CU}{W:BL}{C:ag->Np->Prop}
def aSF{t e:BP}{base:Nat}{v:BE}{d:IK H}{p:List JI}(ht:P.underlying t=N1 (.slice e))(he:P.underlying e=N1 (.int .i64))(hc:P.cellsOf e=1)(kp:LW P W .any base t v)(hd:IE enc P W 0 (λ_=>Pa) Pa t v d p):∃l:List Int,jP l/\ai (G0 C W) (.sl Po (l.map bF)) v /\ ∀(W':BL)(sp:Nat->Bool),(∀b,b<W.heap.size->W'.heap[b]? = W.heap[b]?)->(∀q∈p,sp q.block=Pa)->IE enc P W' 0 sp Pa t v d p:=by
 simp only[LW,ht,Cell.okWide]at kp;obtain⟨fuel,hd⟩:=hd;have qj:v=.slice N2 0 0∨∃a len cap,v=.slice (N1 a) len cap/\a.spot=none:=by
  unfold Cell.ok at kp;rw[ht]at kp;split at kp<;>first | exact kp.elim | skip
  all_goals first | (rename_i h;cases h;done) | skip
  .exact .inl rfl
  exact .inr ⟨_,_,_,rfl,kp.2.2.2.1⟩
 rcases open_ints ht he hc hd with⟨e1,e2⟩ | ⟨a,len,cap,zs,e1,_,hl,hm,hz,e2,bc,hwf⟩
 .have hv:v=.slice N2 0 0:=by
   rcases qj with rfl | ⟨a,len,cap,rfl,_⟩
   .rfl
   simp[JY]at e1
  subst hv;cases e2;exact⟨[],(λa ha=>by cases ha),.kn _,λW' sp _ _=>shut_slice_nil ht⟩
 have hv:v=.slice (N1 a) len cap/\a.spot=none:=by
  rcases qj with rfl | ⟨a',len',cap',rfl,hs⟩
  .simp[JY]at e1
  simp[JY]at e1;obtain⟨rfl,rfl,rfl⟩:=e1;exact⟨rfl,hs⟩
 obtain⟨rfl,hs⟩:=hv;simp only[BK]at e2;obtain⟨rfl,rfl⟩:=e2;simp only[Vu]at hz;have ji:∀i,a.add i=⟨a.block,a.off+i,N2⟩:=λi=>by
  have ea:a=⟨a.block,a.off,N2⟩:=by cases a;simp at hs;subst hs;rfl
  rw[ea];exact Addr.add_lit _ _ _
 have hlt:0<zs.length->a.block<W.heap.size:=λh0=>by
  have:=bc 0 h0;rw[ji]at this;exact World.block_lt_of_cell? (a:=⟨a.block,a.off+0,N2⟩) W this
 refine⟨zs.take len,λn hn=>?_, ?_,λW' sp hW' Wo=>?_⟩
 .have:=MF (hwf n (List.mem_of_mem_take hn));exact⟨this.1,this.2⟩
 .have ea:a=⟨a.block,a.off,N2⟩:=by cases a;simp at hs;subst hs;rfl
  have ax:((zs.take len).map bF).length=len:=soT;have key:ai (G0 C W) (.sl Po ((zs.take len).map bF)) (.slice (N1 ⟨a.block,a.off,N2⟩) ((zs.take len).map bF).length cap):=by
   refine .sl Po _ a.block a.off cap 1 omT (λh=>by cases h) (λrow hr=>?_) (λrow hr=>?_) (λi j hi hj=>?_) λi j row c x hr X7 hx=>?_
   .obtain⟨n,_,rfl⟩:=DB.1 hr;rfl
   .obtain⟨n,_,rfl⟩:=DB.1 hr;rfl
   .have:j=0:=omT;subst this;show (W.cell? ⟨a.block,a.off+i*1+0,N2⟩).isSome;have:=bc i omT;rw[ji]at this;simp only[FK,DU,this];rfl
   have hi:i<len:=by rw[<- ax];exact (AH.1 hr).1
   have hj:j=0:=by obtain⟨n,_,rfl⟩:=DB.1 (AN hr);have:=(AH.1 X7).1;simp[bF]at this;exact this
   subst hj;have Qy:W.cell? ⟨a.block,a.off+i*1+0,N2⟩=N1 x:=hx;have nc:=bc i omT;rw[ji]at nc;simp only[FK,DU]at Qy;rw[nc]at Qy;cases Qy;rw[BN]at hr;have Xy:(zs.take len)[i]? = N1 (zs.getD i 0):=by rw[List.getElem?_take,Vx hi,List.getElem?_eq_getElem omT];simp[List.getD,show i<zs.length by omega]
   rw[Xy]at hr;simp only[DE,AG]at hr;subst hr;simp only[bF,BG,AG]at X7;subst X7;exact .int _ _
  rw[ax,<- ea]at key;exact key
 refine⟨2,shut_ints 0 ht he hc (Nat.zero_le _) hl hm ?_ (λi hi=>?_) hwf⟩
 .by_cases h0:0<zs.length
  .have:sp a.block=true:=Wo (.cell a.block (a.off+0)) (MemPlace.mem_row.2 ⟨0,h0,rfl⟩);rw[this,Vx rfl,hz]
  split<;>omega
 have h1:=bc i hi;rw[ji]at h1 ⊢;exact (World.cell?_of_block (a:=⟨a.block,a.off+i,N2⟩) (hW' a.block (hlt omT))).trans h1
mutual
def aHr{H:Type}:IK H->List BE
 |.lit l=>[l.toCell]
 |.agg ds=>aLs ds
 |_=>[]
def aLs{H:Type}:List (IK H)->List BE
 | []=>[]
 |d::r=>aHr d++aLs r
end
def aHs{α:Type}{f:α->Option (IK H×List JI)}{ch:α->List BE}:∀{L:List α}{xs:List (IK H×List JI)},L.mapM f=N1 xs->(∀x∈L,∀a,f x=N1 a->ch x=aHr a.1)->(L.map ch).flatten=aLs (xs.map (·.1))
 | [],xs,h,_=>by
  simp at h;subst h;simp[aLs]
 |x::L,xs,h,da=>by
  rw[KX]at h;simp only[bind,LH,pure,AG]at h;obtain⟨a,ha,asx',has,rfl⟩:=h;rw[BI,List.flatten_cons,BI,aLs,aHs has (λy hy=>da y (by simp[hy])),da x siT a ha]
def aDP{base:Nat}{sp:Nat->Bool}{held:Bool}:∀(m:Nat)(t:BP),P.tiled m t=Pa->∀(n:Nat)(cs:List BE)(x:IK H×List JI),EZ enc P W base sp held n t cs=N1 x->cs=aHr x.1
 |0,_,h=>by simp[Go.Program.tiled]at h
 |m+1,t,ht=>by
  intro n cs x h;unfold Go.Program.tiled at ht;cases n with
  |zero=>simp[EZ]at h
  |succ n=>
   cases hu:P.underlying t with
   |none=>simp[hu]at ht
   |some kd=>
    cases kd
    case bool=>simp only[EZ,hu]at h;split at h<;>simp_all<;>(subst h;simp[aHr,NP])
    case int q=>simp only[EZ,hu]at h;split at h<;>simp_all<;>(obtain⟨⟨rfl,_⟩,rfl⟩:=h;simp[aHr,NP])
    case string=>simp only[EZ,hu]at h;split at h<;>simp_all<;>(obtain⟨_,rfl⟩:=h;simp[aHr,NP])
    case array k e=>
     simp only[hu,AI,beq_iff_eq]at ht;simp only[EZ,hu]at h;split at h
     .rename_i hl;obtain⟨asx,ha,rfl⟩:=EL.1 h;show cs=aHr (.agg (asx.map (·.1)));rw[aHr,<- aHs (ch:=λi=>(cs.drop (i*P.cellsOf e)).take (P.cellsOf e)) ha (λi _ a hia=>aDP m e ht.2 n _ a hia),chunks_flatten _ k cs (by rw[hl,ht.1])]
     cases h
    case struct fs=>
     simp only[hu,AI,beq_iff_eq]at ht;simp only[EZ,hu]at h;split at h
     .rename_i hl;obtain⟨asx,ha,rfl⟩:=EL.1 h;show cs=aHr (.agg (asx.map (·.1)));rw[aHr,<- aHs (ch:=λf:Field=>(cs.drop f.offset).take (P.cellsOf f.type)) ha (λf hf a hfa=>aDP m f.type (Array.all_eq_true_iff_forall_mem.1 ht.2 f (Array.mem_toList_iff.1 hf)) n _ a hfa),fields_flatten cs _ 0 _ ht.1 hl];rfl
     cases h
    all_goals (simp[hu]at ht;done)
def aVD{nm:String}{n:Nat}{row:LA}{vs:List BE}{cs:Array BE}(hn:P.globalNamed nm=N1 n)(hv:W.var? P nm=N1 cs)(ru:cs.toList=vs)(hr:aQZ Po vs=N1 row)(bd:row.all AV.still=Pa):ai (G0 C W) (.ep row 0) (.pointer (N1 ⟨n,0,N2⟩))/\∃cs t fz,(G0 C W).whole n=N1 (.cells cs t fz)/\cs.size=row.length:=by
 unfold Jp at hv;rw[hn]at hv;simp only[FG]at hv;split at hv
 .rename_i cs' t fz pe;simp only[AG]at hv;subst hv;have hl:=aB8 hr (G0 C W);have gd:cs'.size=row.length:=by rw[hl.1,<- ru];simp
  have bc:∀j,W.cell? ⟨n,j,N2⟩=cs'[j]? := λj=>by simp[EF,pe]
  refine⟨?_,cs',t,fz,pe,gd⟩;refine .ep row 0 n 0 bd (λj hj=>?_) λj a x ha hx=>?_
  .show (W.cell? ⟨n,0+j,N2⟩).isSome;rw[BC,bc,Array.getElem?_eq_getElem omT];rfl
  have Qy:W.cell? ⟨n,0+j,N2⟩=N1 x:=hx;rw[BC,bc]at Qy;refine hl.2 j a x ha ?_;rw[<- ru];simpa using Qy
 cases hv
end
end Go.AM
end
section
namespace Go.Proofs.YtkhdngmjkokcgaaGreatDoor
open Go Go.ChangeShapes Go.WideShapes Go.ChangeAt Go.WideMaps Go.WideElems Go.RowKit Go.AM
def own:ownKnob Tryz.prog.godebug=none:=bIv
abbrev aHt:List (String×IK Unit):=Rows.lineShowsRow.laid
abbrev zW:List (String×IK Unit):=aHt.filter λx=>x.2.handleName?.isNone
abbrev bC7:IK Unit:=match (Rows.laid_dactyl_typing_families:IK Unit)with | .iface _ d=>d | d=>d
def yZ(k b:Int)(f:Nat):FO:=⟨.int .i64 k,.agg #[.int .i64 b,.func (.func f) #[] #[]],k.toNat⟩
def aOG:Array FO := #[yZ 0 (-1) 433,yZ 1 3 435,yZ 2 4 437,yZ 3 4 439,yZ 4 4 440,yZ 5 5 441,yZ 6 6 443]
noncomputable def aNv(os:Os):BL:={ LI Tryz.prog os ⟨#[],#[],[]⟩ with
 heap:=((LI Tryz.prog os ⟨#[],#[],[]⟩).heap.setIfInBounds 5 (.cells #[.map (N1 (LI Tryz.prog os ⟨#[],#[],[]⟩).heap.size)] 381)).push (.map aOG 7) }
noncomputable def aB7(os:Os):BL:=(aNv os).layVars Tryz.prog zW
def aLt(os:Os):(aB7 os).os=os:=World.layVars_os _ _ _
def aOH(os:Os)(args:Array BE):laidMet Tryz.prog zW ((aB7 os).forCall (λ_ _=>0) ⟨#[],args,[]⟩).memory:=by
 have e1:(zW.filter λx=>(zW.map (·.1)).contains x.1)=zW:=List.filter_eq_self.2 λx hx=>EH.2 (DB.2 ⟨x,hx,rfl⟩);have e2:(zW.filter λx => !(zW.map (·.1)).contains x.1)=[]:=List.filter_eq_nil_iff.2 λx hx=>by rw[EH.2 (DB.2 ⟨x,hx,rfl⟩)];simp
 have h:laidMet Tryz.prog zW (aB7 os):=laidMet_layVars (w0:=aNv os) (zW.map (·.1)) [] (by rw[e1];rfl) (by rw[e1];kernel_rfl) (by rw[e1];kernel_rfl) (by rw[e2];exact LaidIn.none);exact h.of_heap (by simp[World.memory,World.forCall,Input.heap])
theorem aSG(os:Os)(args:Array BE):laidMetH Tryz.prog aHt ((aB7 os).forCall (λ_ _=>0) ⟨#[],args,[]⟩).memory:=
 laidMetH_of_parts3 (fuel:=8) (aOH os args) bIv bIv
end Go.Proofs.YtkhdngmjkokcgaaGreatDoor
end
section
namespace Go.Proofs.YtkhdngmjkokcgaaGreatDoor
open Go Go.ChangeShapes Go.WideShapes Go.ChangeAt Go.WideMaps Go.WideElems Go.RowKit Go.AM
def aQS:(aHt.filter λx=>x.2.handleName?.isSome)=[("dactyl/typing.families",Rows.laid_dactyl_typing_families)]:=bIv
def aNw{W:BL}(h:laidMetH Tryz.prog aHt W):laidMet Tryz.prog zW W:=by unfold laidMetH at h;rw[aQS]at h;exact h.1
def aMA{P:CU}{w:BL}{nm:String}{d:IK Unit}:∀{laid:List (String×IK Unit)}{ps:List JI}(i:Nat),DataW.LaidVars P w laid ps->laid[i]? = N1 (nm,d) ->∃g t cs fuel p,P.globalNamed nm=N1 g/\(P.globals[g]?).map (·.type)=N1 t/\w.var? P nm=N1 cs/\EZ (λ_=>()) P w 0 (λ_=>Pa) Po fuel t cs.toList=N1 (d,p)
 | [],_,i,_,h=>by simp at h
 | (n,d')::r,ps,0,hl,h=>by
  obtain⟨g,t,cs,fuel,p,q,h1,h2,h3,h4,_,_⟩:=hl;simp only[BG,AG,BK]at h;obtain⟨rfl,rfl⟩:=h;exact⟨g,t,cs,fuel,p,h1,h2,h3,h4⟩
 | (n,d')::r,ps,i+1,hl,h=>by
  obtain⟨g,t,cs,fuel,p,q,_,_,_,_,h5,_⟩:=hl;exact aMA i h5 uWg
abbrev CK:ag->Np->Prop:=λa c=>∃nl ty rs frz,a=nR Tryz.prog ⟨aBx.row,nl,ty,rs⟩ frz c
def aIO{W:BL}(h:laidMetH Tryz.prog aHt W){nm:String}{d:IK Unit}(i n t:Nat){row:LA}(hi:zW[i]? = N1 (nm,d))(hn:Tryz.prog.globalNamed nm=N1 n)(ht:(Tryz.prog.globals[n]?).map (·.type)=N1 t)(tl:Tryz.prog.tiled 9 t=Pa)(hr:aQZ Po (aHr d)=N1 row)(bd:row.all AV.still=Pa):ai (G0 CK W) (.ep row 0) (.pointer (N1 ⟨n,0,N2⟩))/\∃cs t fz,(G0 CK W).whole n=N1 (.cells cs t fz)/\cs.size=row.length:=by obtain⟨ps,hl,_⟩:=aNw h;obtain⟨g,t',cs,fuel,p,h1,h2,h3,h4⟩:=aMA i hl hi;obtain rfl:=DZ (hn.symm.trans h1);obtain rfl:=DZ (ht.symm.trans h2);exact aVD hn h3 (aDP 9 _ tl fuel _ _ h4) hr bd
def aQT{W:BL}{nm:String}{n:Nat}{a:AV}{x:BE}{cs:Array BE}(hn:Tryz.prog.globalNamed nm=N1 n)(hv:W.var? Tryz.prog nm=N1 cs)(ru:cs.toList=[x])(hr:ai (G0 CK W) a x)(bd:a.still=Pa):ai (G0 CK W) (.ep [a] 0) (.pointer (N1 ⟨n,0,N2⟩))/\∃cs t fz,(G0 CK W).whole n=N1 (.cells cs t fz)/\cs.size=[a].length:=by
 unfold Jp at hv;rw[hn]at hv;simp only[FG]at hv;split at hv
 .rename_i cs' t fz pe;simp only[AG]at hv;subst hv;have e:cs' = #[x]:=Array.eq_one_of_toList ru;subst e;refine⟨?_,_,t,fz,pe,rfl⟩;refine .ep [a] 0 n 0 (by simp[bd]) (λj hj=>?_) λj b y ha hx=>?_
  .have:j=0:=uWQ
   subst this;show (W.cell? ⟨n,0+0,N2⟩).isSome;simp[EF,pe]
  have hj:j<1:=(AH.1 ha).1;have:j=0:=omT;subst this;have Qy:W.cell? ⟨n,0+0,N2⟩=N1 y:=hx;simp[EF,pe]at Qy;subst Qy;simp at ha;subst ha;exact hr
 cases hv
def aSI{α β:Type}{f:α->β}:∀{m D:List β},m.Perm D->∀{l:List α},l.map f=m->∃xs,l.Perm xs/\xs.map f=D:=by
 intro m D h
 induction h with
 |nil=>intro l e;exact⟨l,.refl _,e⟩
 |cons x _ ih=>
  intro l e;cases l with
  |nil=>simp at e
  |cons a l=>simp only[BI,JG]at e;obtain⟨xs,h1,h2⟩:=ih e.2;exact⟨a::xs,h1.cons a,by simp[e.1,h2]⟩
 |swap x y r=>
  intro l e
  match l,e with
  |a::b::l,e=>simp only[BI,JG]at e;exact⟨b::a::l,.swap _ _ _,by simp[e.1,e.2.1,e.2.2]⟩
 |trans _ _ ih1 ih2=>intro l e;obtain⟨xs,h1,h2⟩:=ih1 e;obtain⟨ys,h3,h4⟩:=ih2 h2;exact⟨ys,h1.trans h3,h4⟩
def sA{W:BL}{n:Nat}{x:FO}{k b:Int}{f:Nat}{c:UInt8}{r:List UInt8}(ud:((List.range Tryz.prog.funcs.size).filter λf=>(Tryz.prog.funcs[f]?).any (·.name.toUTF8.data.toList==c::r))=[f])(h:KP Tryz.prog 3 (elemAt (funcToken Tryz.prog) Tryz.prog W 0 (λ_=>Pa) Pa n 380) x=N1 (.int .i64 k,.agg [.lit (.int .i64 b),.held (c::r)])):x.key=.int .i64 k/\x.val=.agg #[.int .i64 b,.func (.func f) #[] #[]]:=by
 obtain⟨key,val,born⟩:=x;have hk:=rd_key h;obtain⟨z,hz,he⟩:=rd_val h;constructor
 .have hu:Tryz.prog.underlying 3=N1 (.int .i64):=Tryz.underlying3;unfold keyOf mapKey at hk;rw[hu]at hk;dsimp only at hk;split at hk<;>first | (cases hk;done) | skip
  .split at hk
   .rename_i hc;obtain⟨rfl,_⟩:=hc;cases hk;rfl
   cases hk
  rename_i hA;cases hA
 unfold elemAt at hz;split at hz
 .rename_i qj;have hu:Tryz.prog.underlying 380=_:=Tryz.underlying380;unfold Value.formed at qj;rw[hu]at qj;cases val<;>simp at qj
  rename_i cs;have Z4:Tryz.prog.cellsOf 3=1:=bIv;have hc378:Tryz.prog.cellsOf 378=1:=bIv;have hc380:Tryz.prog.cellsOf 380=2:=bIv;rw[hc380]at qj;obtain⟨v0,v1,rfl⟩:∃v0 v1,cs = #[v0,v1]:=by
   match cs,qj with
   |⟨[v0,v1]⟩,_=>exact⟨v0,v1,rfl⟩
  cases n with
  |zero=>simp[EZ]at hz
  |succ m=>
   unfold EZ at hz;rw[hu]at hz;dsimp only[JY]at hz;rw[Vx (by rw[hc380];rfl)]at hz;obtain⟨xs,re,rfl⟩:=EL.1 hz;rw[KX,KX,List.mapM_nil]at re;simp only[bind,LH,pure,AG]at re;obtain⟨a,ha,_,⟨c',hc',_,rfl,rfl⟩,rfl⟩:=re;rw[Z4]at ha;rw[hc378]at hc';simp only[BI,List.map_nil,Go.DataW.agg.injEq,JG,and_true]at he;have e0:=aDP 1 3 bIv _ _ _ ha;rw[<- he.1]at e0;have e0:[v0]=[Value.int .i64 b]:=e0;have ec:c'=(.held (c::r),c'.2):=by rw[he.2]
   rw[ec]at hc';have e1:v1=.func (.func f) #[] #[]:=func_of_trod Tryz.underlying378 ud hc';cases e0;rw[e1]
 cases hz
def aVE{W:BL}{n:Nat}{es:Array FO}{xs:List FO}{D:List (Lit×IK (List UInt8))}(hp:es.toList.Perm xs)(hr:∀x∈es.toList,∃y,KP Tryz.prog 3 (elemAt (funcToken Tryz.prog) Tryz.prog W 0 (λ_=>Pa) Pa n 380) x=N1 y)(hx:xs.map (NQ Tryz.prog 3 (elemAt (funcToken Tryz.prog) Tryz.prog W 0 (λ_=>Pa) Pa n 380))=D):∀i:Nat,∀x,xs[i]? = N1 x->∀d,D[i]? = N1 d->KP Tryz.prog 3 (elemAt (funcToken Tryz.prog) Tryz.prog W 0 (λ_=>Pa) Pa n 380) x=N1 d:=by intro i x hi d hd;rw[<- hx,BN,hi]at hd;simp only[DE,AG]at hd;obtain⟨y,hy⟩:=hr x (hp.mem_iff.2 (AN hi));rw[rg_of hy]at hd;rw[hy,hd]
def aCN{g:G}(b:Int)(f:Nat):ai g (tH b f) (.agg #[.int .i64 b,.func (.func f) #[] #[]]):=.agg _ _ rfl λi a x ha hx=>by
 match i,ha,hx with
 |0,ha,hx=>simp[aMi]at ha hx;subst ha;subst hx;exact .int _ _
 |1,ha,hx=>simp[aMi]at ha hx;subst ha;subst hx;exact .fn f [] [] #[] #[] rfl rfl (λ_ _ _ h=>by simp at h) (λ_ _ _ h=>by simp at h)
 |i+2,ha,hx=>simp at ha
def aSJ:bC7.funcsOut=.map [(.int .i64 0,.agg [.lit (.int .i64 (-1)),.held [100,97,99,116,121,108,47,116,121,112,105,110,103,46,102,97,109,105,108,105,101,115,36,49]]),(.int .i64 1,.agg [.lit (.int .i64 3),.held [100,97,99,116,121,108,47,116,121,112,105,110,103,46,102,97,109,105,108,105,101,115,36,50]]),(.int .i64 2,.agg [.lit (.int .i64 4),.held [100,97,99,116,121,108,47,116,121,112,105,110,103,46,102,97,109,105,108,105,101,115,36,51]]),(.int .i64 3,.agg [.lit (.int .i64 4),.held [100,97,99,116,121,108,47,116,121,112,105,110,103,46,102,97,109,105,108,105,101,115,36,52]]),(.int .i64 4,.agg [.lit (.int .i64 4),.held [100,97,99,116,121,108,47,116,121,112,105,110,103,46,102,97,109,105,108,105,101,115,36,53]]),(.int .i64 5,.agg [.lit (.int .i64 5),.held [100,97,99,116,121,108,47,116,121,112,105,110,103,46,102,97,109,105,108,105,101,115,36,54]]),(.int .i64 6,.agg [.lit (.int .i64 6),.held [100,97,99,116,121,108,47,116,121,112,105,110,103,46,102,97,109,105,108,105,101,115,36,55]])]:=bIv
def aVF{W:BL}(h:laidMetH Tryz.prog aHt W):ai (G0 CK W) (.ep aSj 0) (.pointer (N1 ⟨5,0,N2⟩))/\∃cs t fz,(G0 CK W).whole 5=N1 (.cells cs t fz)/\cs.size=aSj.length:=by
 obtain⟨g,t,cs,fuel,p,hg,ht,hv,hd⟩:=h.funcs (n:= "dactyl/typing.families") (d:=bC7) (AN (i:=11) rfl);have h0:Tryz.prog.globalNamed "dactyl/typing.families" = N1 5:=bIv;have h1:(Tryz.prog.globals[5]?).map (·.type)=N1 381:=bIv;obtain rfl:=DZ (h0.symm.trans hg);obtain rfl:=DZ (h1.symm.trans ht);rw[aSJ]at hd;rcases Nr Tryz.underlying381 hd with⟨_,hx⟩ | ⟨b,es,clock,n,_,ru,pe,_,F,hx⟩
 .cases hx
 simp only[BK,Go.DataW.map.injEq]at hx;have Pv:=(sorted_perm (es.toList.map (NQ Tryz.prog 3 (elemAt (funcToken Tryz.prog) Tryz.prog W 0 (λ_=>Pa) Pa n 380)))).symm;rw[<- hx.1]at Pv;obtain⟨xs,hp,re⟩:=aSI Pv rfl;have ax:xs.length=7:=by have:=congrArg List.length re;simpa using this
 have cn:=aVE hp F.reads re;obtain⟨x0,x1,x2,x3,x4,x5,x6,rfl⟩:∃x0 x1 x2 x3 x4 x5 x6,xs=[x0,x1,x2,x3,x4,x5,x6]:=by
  match xs,ax with
  | [x0,x1,x2,x3,x4,x5,x6],_=>exact⟨_,_,_,_,_,_,_,rfl⟩
 obtain⟨k0,v0⟩:=sA (f:=433) bIv (cn 0 x0 rfl _ rfl);obtain⟨k1,v1⟩:=sA (f:=435) bIv (cn 1 x1 rfl _ rfl);obtain⟨k2,v2⟩:=sA (f:=437) bIv (cn 2 x2 rfl _ rfl);obtain⟨k3,v3⟩:=sA (f:=439) bIv (cn 3 x3 rfl _ rfl);obtain⟨k4,v4⟩:=sA (f:=440) bIv (cn 4 x4 rfl _ rfl);obtain⟨k5,v5⟩:=sA (f:=441) bIv (cn 5 x5 rfl _ rfl);obtain⟨k6,v6⟩:=sA (f:=443) bIv (cn 6 x6 rfl _ rfl);refine aQT h0 hv ru (.fmp _ _ b es clock _ pe (.inr ⟨hp,.i64,[0,1,2,3,4,5,6], ?_,deT⟩) rfl rfl (λi a x ha hx=>?_) λi a x ha hx=>?_) rfl
 .simp[k0,k1,k2,k3,k4,k5,k6]
 .match i,ha,hx with
  |0,ha,hx=>simp[aMi]at ha hx;subst ha;subst hx;rw[k0];exact .int _ _
  |1,ha,hx=>simp[aMi]at ha hx;subst ha;subst hx;rw[k1];exact .int _ _
  |2,ha,hx=>simp[aMi]at ha hx;subst ha;subst hx;rw[k2];exact .int _ _
  |3,ha,hx=>simp[aMi]at ha hx;subst ha;subst hx;rw[k3];exact .int _ _
  |4,ha,hx=>simp[aMi]at ha hx;subst ha;subst hx;rw[k4];exact .int _ _
  |5,ha,hx=>simp[aMi]at ha hx;subst ha;subst hx;rw[k5];exact .int _ _
  |6,ha,hx=>simp[aMi]at ha hx;subst ha;subst hx;rw[k6];exact .int _ _
  |i+7,ha,hx=>simp at hx
 match i,ha,hx with
 |0,ha,hx=>simp[aMi]at ha hx;subst ha;subst hx;rw[v0];exact aCN _ _
 |1,ha,hx=>simp[aMi]at ha hx;subst ha;subst hx;rw[v1];exact aCN _ _
 |2,ha,hx=>simp[aMi]at ha hx;subst ha;subst hx;rw[v2];exact aCN _ _
 |3,ha,hx=>simp[aMi]at ha hx;subst ha;subst hx;rw[v3];exact aCN _ _
 |4,ha,hx=>simp[aMi]at ha hx;subst ha;subst hx;rw[v4];exact aCN _ _
 |5,ha,hx=>simp[aMi]at ha hx;subst ha;subst hx;rw[v5];exact aCN _ _
 |6,ha,hx=>simp[aMi]at ha hx;subst ha;subst hx;rw[v6];exact aCN _ _
 |i+7,ha,hx=>simp at hx
def aSK{W:BL}(h:laidMetH Tryz.prog aHt W):bM Tryz.prog aBx (G0 CK W) where
 row:=λn row hn=>by
  have hn:aZA n=N1 row:=hn;unfold aZA at hn;split at hn
  .cases hn;exact aIO h 9 0 176 rfl bIv bIv bIv bIv bIv
  .cases hn;exact aIO h 6 4 370 rfl bIv bIv bIv bIv bIv
  .cases hn;exact aIO h 7 1 229 rfl bIv bIv bIv bIv bIv
  .cases hn;exact aIO h 8 2 230 rfl bIv bIv bIv bIv bIv
  .cases hn;exact aIO h 10 3 230 rfl bIv bIv bIv bIv bIv
  .cases hn;exact aVF h
  .cases hn;exact aIO h 2 6 451 rfl bIv bIv bIv bIv bIv
  cases hn
 code:=λa c=>Iff.rfl
end Go.Proofs.YtkhdngmjkokcgaaGreatDoor
end
section
namespace Go.Proofs.YtkhdngmjkokcgaaGreatDoor
open Go Go.ChangeMaps Go.ChangeShapes Go.WideShapes Go.ChangeAt Go.WideMaps Go.WideElems Go.RowKit Go.AM
def bPb{H:Type}{enc:BP×BE->H}{P:CU}{w:BL}{base:Nat}{spare:Nat->Bool}{held:Bool}{t1 t2 t3 t4 t5 t6:BP}{args:Array BE}{ds:List (IK H)}{ps:List JI}(h:G9 enc P w base spare held [t1,t2,t3,t4,t5,t6] args.toList ds ps):∃v1 v2 v3 v4 v5 v6 d1 d2 d3 d4 d5 d6 p1 p2 p3 p4 p5 p6,args = #[v1,v2,v3,v4,v5,v6]/\ds=[d1,d2,d3,d4,d5,d6]/\ps=p1++(p2++(p3++(p4++(p5++p6)))) /\ IE enc P w base spare held t1 v1 d1 p1/\IE enc P w base spare held t2 v2 d2 p2/\IE enc P w base spare held t3 v3 d3 p3 /\ IE enc P w base spare held t4 v4 d4 p4/\IE enc P w base spare held t5 v5 d5 p5/\IE enc P w base spare held t6 v6 d6 p6:=by obtain⟨v1,r1,d1,s1,p1,q1,e1,rfl,rfl,h1,h⟩:=trodAll_cons h;obtain⟨v2,r2,d2,s2,p2,q2,rfl,rfl,rfl,h2,h⟩:=trodAll_cons h;obtain⟨v3,r3,d3,s3,p3,q3,rfl,rfl,rfl,h3,h⟩:=trodAll_cons h;obtain⟨v4,r4,d4,s4,p4,q4,rfl,rfl,rfl,h4,h⟩:=trodAll_cons h;obtain⟨v5,r5,d5,s5,p5,q5,rfl,rfl,rfl,h5,h⟩:=trodAll_cons h;obtain⟨v6,r6,d6,s6,p6,q6,rfl,rfl,rfl,h6,h⟩:=trodAll_cons h;obtain⟨_,rfl,rfl⟩:=trodAll_nil h;exact⟨v1,v2,v3,v4,v5,v6,d1,d2,d3,d4,d5,d6,p1,p2,p3,p4,p5,p6,by cases args;simp_all,rfl,siT,h1,h2,h3,h4,h5,h6⟩
def bPc{l ks:List Int}(hl:jP l){n a h b:Int}(hn:eA n)(ha:eA a)(hh:eA h)(hb:eA b)(g:G)(w:BL)(xs:List BE)(hw:WF g [] w)(hg:bM Tryz.prog aBx g)(hx:fU g [.sl Po (l.map bF),vi n,vi a,vi h,vi b,.sl Po (ks.map bF)] xs):Calls Tryz.prog 3 xs.toArray w λe w'=>e=.returned (.bool Pa)/\∃g',Step g [] w g' [] w' []:=by
 obtain⟨k,pt⟩:=oM (bO2 (ks:=ks) hl hn ha hh hb []);obtain⟨_,hc⟩:=(sU bBh k).1 3 _ [] _ _ _ pt g w xs hw hg hx;refine hc.mono ?_;intro e w' he;cases e with
 |returned v=>obtain⟨g',h1,h2⟩:=he;cases h2;exact⟨rfl,g',h1⟩
 |_=>exact he.elim
def lifted(os:Os)(started:os.Started)(H:Type)(enc:BP×BE->H):ReturnsInHanded {} Tryz.checked os 3 .any (λw args=>(Rows.lineShowsSpec.pre enc Tryz.prog Tryz.f3 [] Po w args/\laidMetH Tryz.prog aHt w)/\sizedMet enc Tryz.prog Tryz.f3 (OpenSpec.ofChange Rows.lineShowsSpec) Po w args) (Rows.lineShowsSpec.post enc Tryz.prog Tryz.f3 Po Pa Po Po):=by
 refine returnsInHanded_of_change_and (C:=Tryz.checked) (X:=λw _=>laidMetH Tryz.prog aHt w) (λ_ _ _ hh h=>h.of_heap hh) own started bIv Tryz.func3
  (Go.ChangeSpec.witness_shaped (enc:=enc) (C:=Tryz.checked) (os:=os) (X:=λw _=>laidMetH Tryz.prog aHt w) Po (aB7 os) #[.slice N2 0 0,.int .i64 0,.int .i64 0,.int .i64 0,.int .i64 0,.slice N2 0 0] 8 (aLt _) (World.shaped_of_ZipB bIv bIv) bIv bIv bIv (aSG os _)) ?_
 intro W base args ds gs before hval0 hW _ _ hL _;have kp:∀(j:Nat) t v,Tryz.f3.params[j]? = N1 t->args[j]? = N1 v->LW Tryz.prog W .any base t v:=hval0;have hW':=hW;obtain⟨p,q,hA0,hV,rfl,hfz,hnd⟩:=hW;have hA:G9 enc Tryz.prog W 0 (λ_=>Pa) Pa Tryz.f3.params.toList args.toList ds p:=hA0;rw[Tryz.params3]at hA kp;obtain⟨v1,v2,v3,v4,v5,v6,d1,d2,d3,d4,d5,d6,p1,p2,p3,p4,p5,p6,rfl,rfl,rfl,h1,h2,h3,h4,h5,h6⟩:=bPb hA;obtain⟨rfl,rfl⟩:=trodVars_none hV;obtain⟨l,hl,r1,k1⟩:=aSF (C:=CK) Tryz.underlying22 Tryz.underlying3 bIv (kp 0 22 v1 rfl rfl) h1;obtain⟨n2,rfl,rfl,rfl,w2⟩:=open_int Tryz.underlying3 (kp 1 3 v2 rfl rfl) h2;obtain⟨n3,rfl,rfl,rfl,w3⟩:=open_int Tryz.underlying3 (kp 2 3 v3 rfl rfl) h3;obtain⟨n4,rfl,rfl,rfl,w4⟩:=open_int Tryz.underlying3 (kp 3 3 v4 rfl rfl) h4;obtain⟨n5,rfl,rfl,rfl,w5⟩:=open_int Tryz.underlying3 (kp 4 3 v5 rfl rfl) h5;obtain⟨ks,_,r6,k6⟩:=aSF (C:=CK) Tryz.underlying22 Tryz.underlying3 bIv (kp 5 22 v6 rfl rfl) h6;clear hA0 hval0;have hx:fU (G0 CK W) [.sl Po (l.map bF),vi n2,vi n3,vi n4,vi n5,.sl Po (ks.map bF)] [v1,.int .i64 n2,.int .i64 n3,.int .i64 n4,.int .i64 n5,v6]:=by
  refine⟨rfl,λi c x hc hy=>?_⟩
  match i,hc,hy with
  |0,hc,hy=>cases hc;cases hy;exact r1
  |1,hc,hy=>cases hc;cases hy;exact .int _ _
  |2,hc,hy=>cases hc;cases hy;exact .int _ _
  |3,hc,hy=>cases hc;cases hy;exact .int _ _
  |4,hc,hy=>cases hc;cases hy;exact .int _ _
  |5,hc,hy=>cases hc;cases hy;exact r6
 have b2:=MF w2;have b3:=MF w3;have b4:=MF w4;have b5:=MF w5;refine (bPc hl ⟨b2.1,b2.2⟩ ⟨b3.1,b3.2⟩ ⟨b4.1,b4.2⟩ ⟨b5.1,b5.2⟩ (G0 CK W) W _ (wf0 CK W) (aSK hL) hx).mono λe W' ⟨he,g',bd⟩=>?_;subst he;refine⟨_,rfl,_,_,_,[],p1++([]++([]++([]++([]++p6)))),[],hW', ?_, ?_,rfl,aQR bd _,λhh=>by cases hh⟩
 .exact trodAll_mk1 (shut_bool Tryz.underlying4 _)
 have hold:∀b,b<W.heap.size->W'.heap[b]? = W.heap[b]? := λb hb=>aLr bd hb;have hlt:∀q∈(p1++([]++([]++([]++([]++p6)))))++[],(λb=>decide (b<W.heap.size)) q.block=true:=λq hq=>by simpa using hW'.lt q hq
 rw[Tryz.params3];refine⟨p1,[]++([]++([]++([]++p6))),k1 W' _ hold (λq hq=>hlt q (by simp[hq])),⟨[],[]++([]++([]++p6)),shut_int Tryz.underlying3 w2,⟨[],[]++([]++p6),shut_int Tryz.underlying3 w3,⟨[],[]++p6,shut_int Tryz.underlying3 w4,⟨[],p6,shut_int Tryz.underlying3 w5,⟨p6,[],k6 W' _ hold (λq hq=>hlt q (by simp[hq])),rfl,siT⟩,rfl⟩,rfl⟩,rfl⟩,rfl⟩,siT⟩
end Go.Proofs.YtkhdngmjkokcgaaGreatDoor
end
