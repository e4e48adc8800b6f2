/- Part 2. -/
import Derived.Test.YtkhdngmjkokcgaaGreatDoorK01
import Derived.Laws.BitsLemmas
import Derived.KernelRfl
import Derived.Lib.ItoaNum
import Derived.Test.YtkhdngmjkokcgaaGreatDoorProg
import Derived.Lib.Bytealg
import Derived.Shelf.Strings.Builder1
import Derived.Shelf.Strings.Builder2
import Derived.Shelf.Strings.OnBuilder
import Derived.Shelf.Small.Strs
import Derived.Shelf.Strconv.Itoa0
import Derived.Shelf.Strconv.Itoa1
import Derived.Shelf.LaysM
import Derived.Shelf.Strconv.Itoa2
import Derived.Shelf.Strconv.Itoa3
import Derived.Shelf.Strings.Search1
import Derived.Shelf.Strings.Search2
import Derived.Shelf.Strings.Search3
import Derived.Shelf.Strings.Count
import Derived.Shelf.Strconv.AppendUint10
set_option linter.all false
set_option maxRecDepth 100000
open Array renaming getElem?_modify->DJ,map->JO,getD_eq_getD_getElem?->CR,getElem?_eq_getElem->CM,replicate->NW
open Bool renaming and_eq_true->AI,false_eq_true->BX,or_eq_true->EA,not_eq_true'->KB,true_and->BR,rec->MM,true->Pa,false->Po
open Go renaming Program->CU,World->BL,TypeId->BP,Operand->CA,run_underlying->BH,Value->BE,Oper->HP,Deferred->HU,Exit->Bp,Func->Bi,IntKind->DK,BinOp->MZ,undef->EE,Calls->FV
open Go.Code renaming region->PJ,roundsIn->LL
open Go.Deferred renaming ofValue->JF
open Go.Fence renaming wide->FJ
open Go.Instr renaming keyThatStays->MR,mapUpdate->IH,enterLoop->JZ
open Go.Lib renaming pow10Tab->EB,indexByte->EV,countByte->PC,join->OT
open Go.MapKept renaming run_getObj_map->FH,run_setObj_map->LD
open Go.Region renaming wanted->OJ,binds->LZ,ready->HO
open Go.Result renaming andThen->DL
open Go.Sem renaming run_bind->BS
open Go.Shelf renaming Ren->HK
open Go.World renaming putObj_heap_other->GK,cell?->EF,putObj_heap_same->LR
open List renaming getElem?_eq_some_iff->AH,getElem?_set->FB,getElem?_append_left->BM,getElem?_append_right->BU,all_eq_true->AO,mem_of_getElem?->AN,isEmpty_iff->NU,mem_append->AY,mem_flatMap->IM,map->DR,map_map->PA,mem_range'_1->FC,getElem?_cons_zero->BG,length_cons->AW,mem_cons_of_mem->BZ,mem_iff_getElem?->CO,getElem?_zipIdx->ML,mem_cons->BD,getElem?_map->BN,getElem?_eq_none->CY,getElem?_eq_getElem->AP,findIdx?_eq_some_iff_getElem->GW,ext_getElem?->HN,mem_singleton->CG,mem_filter->OK,range'->FM,length_eq_one_iff->FQ,length_append->BA,length_set->CP,replicate->AX,zipIdx_cons->NX,filter_cons->JV,all_cons->ES,rec->IU
open Nat renaming le_refl->AQ,zero_add->BC,lt_of_lt_of_le->FU,le_trans->HX,add_zero->DU,le_total->PI,exists_eq_add_of_le->GN,lt_trichotomy->NV,zero_le->FF,strongRecOn->Bd,le_max_left->GJ,le_max_right->GC,beq->EY,eq_of_beq_eq_true->ET
open Option renaming map_some->DE,bind_some->FG,ne_none_iff_exists'->Ca,elim_some->HC,rec->JA,some->N1,none->N2
open Option.some renaming inj->DZ,injEq->AG
open Prod.mk renaming injEq->BK
section
namespace Go.AM
open Go
variable {v av v' zero:AV}{tmps:Array BE}{ts:Array BP}{listed:Array Bool}{X:Array CA}{all:Array HP}{ty:BP}{d b agg ok:Bool}{Q:Bp->Act->BL->Prop}{F:CA}{c:Ctx}{ev:Ctx->ag->gp->Option (bf×gp)}{g' g:G}{oo:HP}{aqq args ρ' zs cs row:LA}{wr rd aq l0:LN}{H' H H0:LO}{ps parts:List (Nat×aa)}{rows:List LA}{l:List UInt8}{xs:List aa}{ops:List ae}{log:Log}{k fid f base i n t1 off bytes:Nat}{call:Nat->LA->LO->Out}{site s:Option Nat}{lo hi mx:Option aa}{y:Prop}{α β:Type}{m x:aa}{o ao:ae}{fn:bw}{s':gp}{a:α}
section
variable {P:CU}{ab:cu}{g:G}{H:LO}{w w':BL}{ρ:LA}{a:Act}
variable {dst:Option Tmp}{type:BP}{pos:String}{after:Array Edge}{guard:Option (Nat×Bool)}
def bSw{t kt et:BP}{fields:Array Field}{M X V:CA}{k v:aa}(ht:P.underlying t=N1 (.map kt et))(hk:P.underlying kt=N1 (.struct fields))(hq:eqK P kt=.cells [.str,.int])(hM:fA ab M=N1 m)(hX:fA ab X=N1 k)(hV:fA ab V=N1 v)(h:evW call H ρ site (.Fs m k v)=N1 (av,H',wr))(hw:WF g H w)(hg:bM P ab g)(hs:aX g ρ a.tmps):aA8 P ⟨dst,.mapUpdate t M X V,type,pos,after,guard⟩ a w λv w'=>∃g',Step g H w g' H' w' wr/\ai g' av v:=by
 have hm:=bIw hM hg hs;have hx:=bIw hX hg hs;have hv:=(bIw hV hg hs).strip;simp only[evW]at h;split at h
 .rename_i o ver e1;rw[e1]at hm;split at h
  .rename_i v' es ho;split at h
   .rename_i hc;obtain⟨X5,Y2,dq⟩:=hc;obtain⟨l,entries,clock,hb,J8,pe,dj,ax⟩:=aFT hw ho X5 hm;obtain⟨b0,qw⟩:=Option.isSome_iff_exists.1 Y2;obtain⟨s0,n0,E7⟩:=bNt qw;have E8:∀b,(Instr.checkKey b 10000 kt (a.eval X)).run P w=.ok () w:=λb=>bKB hk hq b 9998 (by rw[<- E7];exact hx);have step:∀(es':List (AV×AV))(xs':Array MapEntry) clock',aTs g es' xs'.toList ->
      ∃g',Step g H w g' (H.set o (.map ver es')) { w with heap:=w.heap.setIfInBounds l.b (.map xs' clock') } [o]:=λes' xs' clock' hr=>by
     have hlt:=hw.blk o l hb.loc;have uj:∀b,b≠l.b->(w.heap.setIfInBounds l.b (.map xs' clock'))[b]? = w.heap[b]? := λb bl=>by simp[Ne.symm bl]
     refine⟨_,Step.update hw o (.map ver es') l (hw.lt o l hb.loc) siT (λb _ bl=>uj b λe=>bl l _ hb e.symm) uWv (.inr ⟨l,_,hb,rfl⟩) hb.st rfl (λl2 iq=>?_)
      λhle=>⟨ax,xs',clock',uXk,by simpa using hr.1,λi k v e h1 h2=>?_⟩⟩
     .have:l2=l:=by have:=hb.loc;rw[iq]at this;exact DZ this
      subst this;exact⟨AQ _,λ_=>⟨AQ _,λ_=>rfl⟩⟩
     have:=hr.2 i k v e h1 uWj;exact⟨this.1.mono hle,this.2.mono hle⟩
    split at h
    .rename_i j x hf;obtain⟨j',e',h1,h2,h3,h5⟩:=bJv (w:=w) hq hx es entries.toList 0 _ dj hf;have hj:entries[j']? = N1 e':=uWj
     simp only[BC]at h1;subst h1;obtain⟨rfl,rfl,rfl⟩:=h;obtain⟨t0,O5,_⟩:=ai.Zc (by rw[<- E7];exact hx);have hke:=(bRX E7 rfl hx (dj.2 j _ _ e' h3 h2).1).symm.trans O5;have qo:=(bKY hk).trans h5;have bd:(MR (.agg #[.string t0,.int .i64 n0]) (.agg #[.string t0,.int .i64 n0])).run P w=.ok (.agg #[.string t0,.int .i64 n0]) w:=by simp[MR,Instr.sameBits,(MapKept.bytes_beq t0 t0).2 rfl]
     have ej:(IH t (a.eval M) (a.eval X) (a.eval V)).run P w=.ok () { w with heap:=w.heap.setIfInBounds l.b (.map (entries.modify j λe=>{ e with key:=.agg #[.string t0,.int .i64 n0],val:=a.eval V }) clock) }:=by rw[O5]at qo E8;simp[IH,BH ht,J8,O5,FH pe,E8,qo,hj,hke,bd,LD _ pe,DL]
     obtain⟨g',ml⟩:=step (es.set j (k.ev ρ,(v.ev ρ).strip)) (entries.modify j λe=>{ e with key:=.agg #[.string t0,.int .i64 n0],val:=a.eval V }) clock ⟨uWI,λi k2 v2 e2 h6 h7=>by
      have zf:(entries.modify j λe=>{ e with key:=.agg #[.string t0,.int .i64 n0],val:=a.eval V })[i]? = N1 e2:=by rw[<- Array.getElem?_toList];exact h7
      rw[DJ]at zf;by_cases e:j=i
      .subst e;have hlt:=(AH.1 h3).1;simp only[FB,Vu,hlt]at h6;rw[Vx rfl,hj]at zf;simp only[DE,AG]at zf;subst zf;obtain⟨rfl,rfl⟩:=h6;exact⟨by rw[<- O5];exact hx,hv⟩
      rw[Vw e]at zf;rw[getElem?_set_ne' _ _ e]at h6;exact dj.2 i k2 v2 e2 h6 (by simpa using zf)⟩
     exact .inr (.inl ⟨_,uWq,g',ml,.undef _⟩)
    .rename_i hf;have h5:=bJv (w:=w) hq hx es entries.toList 0 _ dj hf;obtain⟨rfl,rfl,rfl⟩:=h;have qo:=(bKY hk).trans h5;have ej:(IH t (a.eval M) (a.eval X) (a.eval V)).run P w=.ok () { w with heap:=w.heap.setIfInBounds l.b (.map (entries.push { key:=a.eval X,val:=a.eval V,born:=clock }) (clock+1)) }:=by
      simp[IH,BH ht,J8,FH pe,E8,qo,LD _ pe,DL]
     obtain⟨g',ml⟩:=step (es++[(k.ev ρ,(v.ev ρ).strip)]) (entries.push { key:=a.eval X,val:=a.eval V,born:=clock }) (clock+1) ⟨uWI,λi k2 v2 e2 h6 h7=>by
      have zf:(entries.toList++[{ key:=a.eval X,val:=a.eval V,born:=clock }])[i]? = N1 e2:=by simpa using h7
      by_cases e:i<es.length
      .rw[BM e]at h6;rw[BM (by rw[<- dj.1];exact e)]at zf;exact dj.2 i k2 v2 e2 h6 zf
      rw[BU omT]at h6;rw[BU (by rw[<- dj.1];omega),<- dj.1]at zf;cases hd:i - es.length with
      |zero=>rw[hd]at h6 zf;simp at h6 zf;obtain⟨rfl,rfl⟩:=h6;subst zf;exact⟨hx,hv⟩
      |succ d=>rw[hd]at h6;simp at h6⟩
     exact .inr (.inl ⟨_,uWq,g',ml,.undef _⟩)
    cases h
   cases h
  cases h
 cases h
end
section
variable {P:CU}{ab:cu}{g:G}{H:LO}{w w':BL}{ρ:LA}{a:Act}
variable {dst:Option Tmp}{type:BP}{pos:String}{after:Array Edge}{guard:Option (Nat×Bool)}
def ai.atom{g:G}{x:BE}(h:ai g v x)(ha:v.atom=Pa):ai g' v x:=by cases h<;>first | (simp[AV.atom]at ha;done) | exact .bool _ | exact .int _ _ | exact .str _ | exact .bx | exact .nilPtr | exact .bj | exact .ar
def ai.atomic{g:G}{x:BE}(h:ai g v x)(ha:v.atomic=Pa):ai g' v x:=by
 have lists:∀{cs:LA}{xs:List BE},fU g cs xs->cs.all AV.atom=Pa->fU g' cs xs:=λhl hc=>⟨hl.1,λi c y h1 h2=>(hl.2 i c y h1 h2).atom (AO.1 hc c (AN h1))⟩;unfold AV.atomic at ha;split at ha
 .obtain⟨vs,rfl,hl⟩:=h.fu;exact (lists hl ha).agg
 .obtain⟨vs,rfl,hl⟩:=h.np;have:=lists hl ha;exact .tup _ vs (by simpa using this.1) λi c y h1 h2=>this.2 i c y h1 uWj
 exact h.atom ha
def fU.append{bs:LA}{xs ys:List BE}(h1:fU g aqq xs)(h2:fU g bs ys):fU g (aqq++bs) (xs++ys):=by
 refine⟨by simp[h1.1,h2.1],λi c y hc hy=>?_⟩;rw[List.getElem?_append]at hc hy;have:=h1.1;split at hc
 .rename_i hi;rw[Vx omT]at hy;exact h1.2 i c y hc hy
 rename_i hi;exact h2.2 _ c y hc uWa
def fU.strip{xs:List BE}(h:fU g aqq xs):fU g (aqq.map AV.strip) xs:=by
 refine⟨uWO,λi a x ha hx=>?_⟩;cases hq:aqq[i]? with
 |none=>grind
 |some b=>simp[hq]at ha;subst ha;exact (h.2 i b x hq hx).strip
def bM2{c:Bool}{o id:Nat}{wr:LN}(h:o∈wr):o∈(if c=Pa then wr else id::wr):=uWa
def aJZ(hw:WF g H w){g1 g2:G}{H1 H2:LO}(h1:g1.io=(w.os,w.output))(h2:Step g1 H1 w g2 H2 w' []):Step g H w g H w' []:=by
 have da:∀b,b<w.heap.size->w'.heap[b]? = w.heap[b]? := λb hb=>h2.frame.2 b hb λo ho=>by simp at ho
 have kh:w'.os=w.os/\w'.output=w.output:=by have:=h2.wf.whole.io;rw[h2.le.io,h1]at this;exact⟨(congrArg Prod.fst this).symm,(congrArg Prod.snd this).symm⟩
 refine⟨G.le.refl g,⟨λb i x hx=>?_,hw.lt,λo l hl=>FU (hw.blk o l hl) h2.frame.1,hw.st,λo l x hb=>?_,hw.jh,hw.inj,hw.whole.aq rfl rfl kh (λb hb _=>da b hb) λo l y hl=>.inr ⟨o,l,y,hl,rfl⟩⟩,⟨h2.frame.1,λb hb _=>da b hb⟩,λ_ _ _=>rfl,AQ _,λ_ l' hl=>.inr ⟨l',hl,rfl⟩,λ_ _ _=>rfl⟩
 .rw[cell_of_heap (da b (hw.ko hx))];exact hw.perm b i x hx
 exact (hw.obj o l x hb).aq (G.le.refl g) (da l.b (hw.blk o l hb.loc))
def aDV{o:HP}{first ay:LA}{vf vx vc:List BE}(yo:fU g first vf)(hrx:fU g args vx)(hlc:fU g ay vc)(az:oT P ab call)(h:cX call H site (.fn fid first ay) args=N1 (av,H',wr))(hw:WF g H w)(hg:bM P ab g)(u9:∀Fn,P.funcs[fid]? = N1 Fn->(Fn.name == "runtime.NumGoroutine")=Po->Fn.body.isNone=Po->(execOp a.eval o).run P w=.ok (.enter fid (vf++vx++vc).toArray) w):aA8 P o a w λv w'=>∃g',Step g H w g' H' w' wr/\ai g' av v:=by
 simp only[cX]at h;split at h
 .cases h
 rename_i args' lent vn;split at h
 .cases h
 rename_i v H2 en hc;have hargs:=(yo.append hrx).append hlc;obtain⟨l1,l2⟩:=pU hw vn hargs;obtain⟨g1,jj,vo⟩:=iR lent g H hw λo ho=>.inl (l1 o ho);have xk:=(l2 g1 vo).strip;obtain⟨⟨Fn,Qd,jq,gh⟩,kr⟩:=az.1 fid _ _ v H2 en hc g1 w _ jj.wf (hg.mono jj.le) xk;have ej:=u9 Fn Qd jq gh;refine .inr (.inr (.inl ⟨fid,_,w,ej,kr.mono λe w' he=>?_⟩));cases e with
 |panicked c=>exact he
 |outgrown=>exact he
 |returned rv=>
  obtain⟨g2,uk,Pz⟩:=he;split at h
  .rename_i ja;have sz:lent=[]:=uWa
   subst sz;have bn:=jj.trans uk;split at h
   .rename_i k rows;obtain⟨b,cap,rfl,Xk⟩:=Pz;split at h
    .rename_i id;split at h
     .rename_i hid;cases h;obtain⟨g3,hp,hle,hwf,uj,gy,hv⟩:=aI2 bn.wf Xk hid;refine⟨g3,⟨bn.le.trans hle,hwf, ?_,λo ho hn=>?_,by simpa [make]using bn.len,λo l' kg=>?_,λo ho hn=>?_⟩,hv⟩
      .refine bn.frame.weaken λo ho=>?_
       grind
      .have bl:o≠id:=λe=>by
        grind
       have ze:o∉en:=λhm=>hn (bM2 hm);rw[make,getElem?_set_ne' _ _ (Ne.symm bl)];exact bn.same o ho ze
      .by_cases e:o=id
       .subst e;rw[gy l' kg];exact .inl Xk.wx
       rw[uj o e]at kg;exact bn.mc o l' kg
      have bl:o≠id:=λe=>by
       grind
      have ze:o∉en:=λhm=>hn (bM2 hm);rw[uj o bl];exact bn.aq o ho ze
     cases h
    cases h;obtain⟨g3,F1,hv⟩:=aJY bn.wf Xk;exact⟨g3,(bn.trans F1).weaken λo ho=>by simpa using ho,hv⟩
   cases h;have:pN g2 H' w.heap.size w' av rv=ai g2 av rv:=by cases av<;>first | rfl | grind
   grind
  split at h
  .rename_i fj;cases h;simp only[AI]at fj;obtain⟨⟨ma,_⟩,jk⟩:=fj;have hwr0:en=[]:=uWa
   subst hwr0;have:pN g2 H2 w.heap.size w' av rv=ai g2 av rv:=by cases av<;>first | rfl | (simp[AV.atomic,AV.atom]at jk)
   rw[this]at Pz;exact⟨g,aJZ hw (jj.le.io.trans hw.whole.io) uk,Pz.atomic jk⟩
  cases h
def aNG{o:HP}{first ay:LA}{vf vx vc:List BE}(yo:fU g first vf)(hrx:fU g args vx)(hlc:fU g ay vc)(az:oT P ab call)(h:iN call H site (.fn fid first ay) args=N1 (av,H',wr))(hw:WF g H w)(hg:bM P ab g)(u9:∀Fn,P.funcs[fid]? = N1 Fn->(Fn.name == "runtime.NumGoroutine")=Po->Fn.body.isNone=Po->(execOp a.eval o).run P w=.ok (.enter fid (vf++vx++vc).toArray) w):aA8 P o a w λv w'=>∃g',Step g H w g' H' w' wr/\ai g' av v:=by
 simp only[iN]at h;split at h
 .cases h
 rename_i v H2 en hc;have hargs:=(yo.append hrx).append hlc;obtain⟨⟨Fn,Qd,jq,gh⟩,kr⟩:=az.1 fid _ _ v H2 en hc g w _ hw hg hargs;have ej:=u9 Fn Qd jq gh;refine .inr (.inr (.inl ⟨fid,_,w,ej,kr.mono λe w' he=>?_⟩));cases e with
 |panicked c=>exact he
 |outgrown=>exact he
 |returned rv=>
  obtain⟨g2,bn,Pz⟩:=he;split at h
  .rename_i k rows;obtain⟨b,cap,rfl,Xk⟩:=Pz;split at h
   .rename_i id;split at h
    .rename_i hid;cases h;obtain⟨g3,hp,hle,hwf,uj,gy,hv⟩:=aI2 bn.wf Xk hid;refine⟨g3,⟨bn.le.trans hle,hwf, ?_,λo ho hn=>?_,by simpa [make]using bn.len,λo l' kg=>?_,λo ho hn=>?_⟩,hv⟩
     .refine bn.frame.weaken λo ho=>?_
      grind
     .have bl:o≠id:=λe=>by
       grind
      have ze:o∉en:=λhm=>hn (bM2 hm);rw[make,getElem?_set_ne' _ _ (Ne.symm bl)];exact bn.same o ho ze
     .by_cases e:o=id
      .subst e;rw[gy l' kg];exact .inl Xk.wx
      rw[uj o e]at kg;exact bn.mc o l' kg
     have bl:o≠id:=λe=>by
      grind
     have ze:o∉en:=λhm=>hn (bM2 hm);rw[uj o bl];exact bn.aq o ho ze
    cases h
   cases h;obtain⟨g3,F1,hv⟩:=aJY bn.wf Xk;exact⟨g3,(bn.trans F1).weaken λo ho=>by simpa using ho,hv⟩
  cases h;have:pN g2 H' w.heap.size w' av rv=ai g2 av rv:=by cases av<;>first | rfl | grind
  grind
def aTx{f:aa}(hF:fA ab F=N1 f)(hX:sB ab X.toList=N1 xs)(az:oT P ab call)(h:evW call H ρ site (.ee f xs)=N1 (av,H',wr))(hw:WF g H w)(hg:bM P ab g)(hs:aX g ρ a.tmps):aA8 P ⟨dst,.call { callee:=.value F,args:=X,argTypes:=ts },ty,pos,after,guard⟩ a w λv w'=>∃g',Step g H w g' H' w' wr/\ai g' av v:=by
 have Rm:=bIw hF hg hs;have hrx:=mJ hX hg hs;simp only[evW]at h;generalize yp:f.ev ρ=fv at h Rm;cases fv with
 |fn fid first ay=>
  obtain⟨vf,vc,ef,yo,hlc⟩:=Rm.rm;refine aNG yo hrx hlc az h hw hg λFn Qd jq gh=>?_;have hb:¬(Fn.body=N2):=λe=>by grind
  simp_all [execOp,resolve,JF,invoke,callFunc]
 |_=>simp[iN]at h
def aTy{f:aa}(hF:fA ab F=N1 f)(hX:sB ab X.toList=N1 xs)(az:oT P ab call)(h:evW call H ρ site (.dm f xs)=N1 (av,H',wr))(hw:WF g H w)(hg:bM P ab g)(hs:aX g ρ a.tmps):aA8 P ⟨dst,.call { callee:=.value F,args:=X,argTypes:=ts },ty,pos,after,guard⟩ a w λv w'=>∃g',Step g H w g' H' w' wr/\ai g' av v:=by
 have Rm:=bIw hF hg hs;have hrx:=mJ hX hg hs;simp only[evW]at h;generalize yp:f.ev ρ=fv at h Rm;cases fv with
 |fn fid first ay=>
  obtain⟨vf,vc,ef,yo,hlc⟩:=Rm.rm;refine aDV yo hrx hlc az h hw hg λFn Qd jq gh=>?_;have hb:¬(Fn.body=N2):=λe=>by grind
  simp_all [execOp,resolve,JF,invoke,callFunc]
 |yld oy vy=>
  simp only[cX]at h;split at h
  .cases h
  rename_i args' lent vn;split at h
  .cases h
  rename_i b H2 en hc;split at h;rotate_left
  .cases h
  rename_i fj;simp only[AI,NU]at fj;obtain⟨sz,jk⟩:=fj;subst sz;cases h;obtain⟨l1,l2⟩:=pU hw vn hrx;obtain⟨g1,jj,vo⟩:=iR [] g H hw λo ho=>.inl (l1 o ho);have xk:=(l2 g1 vo).strip;generalize je:a.eval F=fx at Rm;cases Rm with
  |yld _ _ ly r hl hv hh=>
   obtain⟨rec,pe,gd,xm⟩:=az.2 oy vy _ _ _ _ _ hc g1 w r _ jj.wf (hg.mono jj.le) ((ai.yld oy vy ly r hl hv hh).mono jj.le) xk;have ej:=run_yield (P:=P) (args:=X.map a.eval) pe uWa;have harr:(X.toList.map a.eval).toArray=X.map a.eval:=uWa
   refine .inr (.inr (.inr ⟨r,_,_,_,_,w, ?_,xm.mono λe w' he=>?_⟩))
   .grind [execOp,resolve,JF,invoke]
   cases e with
   |panicked c=>exact he
   |outgrown=>exact he
   |returned rv=>
    obtain⟨g2,uk,Pz⟩:=he;have bn:=jj.trans uk
    grind
 |_=>simp[cX]at h
def aNH{m:String}{t:BP}{f:FuncId}(hm:aJL P m t=N1 f)(n:Nat)(v:BE):(method (n+1) t v m).run P w=.ok (f,v) w:=by
 unfold aJL at hm;split at hm
 .rename_i i e hi hu;split at hm
  .rename_i r hr;split at hm
   .rename_i hp;split at hm
    all_goals simp_all [method,typeInfo,follow,receiverAt,BH,Place.get]
   cases hm
  cases hm
 cases hm
def aWD{m:String}{f:aa}(hF:fA ab F=N1 f)(hX:sB ab X.toList=N1 xs)(az:oT P ab call)(h:evW call H ρ site (.Rd (aIU P m) f xs)=N1 (av,H',wr))(hw:WF g H w)(hg:bM P ab g)(hs:aX g ρ a.tmps):aA8 P ⟨dst,.call { callee:=.invoke F m,args:=X,argTypes:=ts },ty,pos,after,guard⟩ a w λv w'=>∃g',Step g H w g' H' w' wr/\ai g' av v:=by
 have Rm:=bIw hF hg hs;have hrx:=mJ hX hg hs;simp only[evW]at h;generalize yp:f.ev ρ=fv at h Rm;cases fv with
 |ifc t v=>
  dsimp only at h;split at h
  .rename_i fid hl;generalize mn:a.eval F=ex at Rm;cases Rm with
   |ifc t v x hv hx=>
    refine aDV (vf:=[x]) (vc:=[]) ⟨rfl,λi c y h1 h2=>?_⟩ hrx ⟨rfl,λi c y h1 h2=>by simp at h1⟩ az h hw hg λFn Qd jq gh=>?_
    .grind
    have hn:¬(Fn.name = "runtime.NumGoroutine"):=uWa
    have hb:¬(Fn.body=N2):=λe=>by grind
    have h0:(#[Value.iface t x]++JO a.eval X)[0]? = N1 (.iface t x):=uWa
    have harr:(#[x]++(JO a.eval X).extract 0 X.size)=([x]++X.toList.map a.eval++[]).toArray:=uWa
    rw[<- harr];simp[execOp,resolve,invoke,callMethod,mn,h0,callFunc,Qd,hn,hb,Made.depth,aNH (aNy P hl) (P.types.size+99)]
  cases h
 |_=>simp at h
def aIZ{d:TypeDesc}{x:Option α}{y:α}(h:(if (d matches .int _)then N2 else x)=N1 y):(∀k,d≠.int k)/\x=N1 y:=by cases d<;>first | (simp at h;done) | exact⟨λk e=>uWZ,uWg⟩
def aK0{o:HP}{op:df}(hc:cOp P ab o=N1 op)(az:oT P ab call)(h:evW call H ρ site op=N1 (av,H',wr))(hw:WF g H w)(hg:bM P ab g)(hs:aX g ρ a.tmps):aA8 P o a w λv w'=>∃g',Step g H w g' H' w' wr/\ai g' av v:=by
 obtain⟨dst,o,type,pos,after,guard⟩:=o;unfold cOp at hc;dsimp only at hc;split at hc
 .obtain⟨x,hx,rfl⟩:=map_some hc;simp[evW]at h
 .obtain⟨x,hx,rfl⟩:=map_some hc;simp[evW]at h
 .split at hc
  .cases hc;simp[evW]at h
  cases hc
 .split at hc
  .obtain⟨zs,hz,rfl⟩:=map_some hc;exact aR3 hz h hw
  obtain⟨zs,hz,rfl⟩:=map_some hc;exact aTu hz h hw
 .split at hc
  .rename_i n x h1 h2;split at hc
   .cases hc;exact aZY h2 h hw hg hs
   cases hc;exact aZX h2 h hw hg hs
  cases hc
 .repeat' split at hc
  all_goals first | (cases hc;done)|(obtain⟨x,hx,rfl⟩:=map_some hc;simp[evW]at h)
 .split at hc
  .rename_i e ht;split at hc
   .rename_i k zs ps h1 h2 h3;split at hc
    .rename_i fj;cases hc;exact bA1 ht h1 h2 h3 fj.2.1 fj.2.2.1 fj.2.2.2 h hw hg hs
    cases hc
   cases hc
  cases hc
 .split at hc
  .cases hc;simp[evW]at h
  cases hc
 .split at hc
  .rename_i n x v h1 h2 h3;cases hc;exact aTt h1 h2 h3 h hw hg hs
  cases hc
 .obtain⟨x,hx,rfl⟩:=map_some hc;simp[evW]at h
 .split at hc
  .split at hc
   .obtain⟨x,hx,rfl⟩:=map_some hc;simp[evW]at h
   .obtain⟨x,hx,rfl⟩:=map_some hc;simp[evW]at h
   cases hc
  split at hc
  .cases hc;simp[evW]at h
  cases hc
 .obtain⟨x,hx,rfl⟩:=map_some hc;simp[evW]at h
 .split at hc
  .cases hc;simp[evW]at h
  cases hc
 .split at hc
  .cases hc;simp[evW]at h
  cases hc
 .split at hc
  .rename_i e ht;split at hc
   .rename_i i zs l c h1 h2 h3 h4;split at hc
    .rename_i fj;cases hc;exact aZZ ht h1 h2 h3 h4 fj.2.1 fj.2.2 h hw hg hs
    cases hc
   cases hc
  cases hc
 .repeat' split at hc
  all_goals first | (cases hc;done)|(cases hc;simp[evW]at h)
 .repeat' split at hc
  all_goals first | (cases hc;done)|(cases hc;simp[evW]at h)
 .repeat' split at hc
  all_goals first | (cases hc;done)|(cases hc;simp[evW]at h)
 .repeat' split at hc
  all_goals first | (cases hc;done)|(cases hc;simp[evW]at h)
 .repeat' split at hc
  all_goals first | (cases hc;done)|(cases hc;simp[evW]at h)
 .obtain⟨x,hx,rfl⟩:=map_some hc;simp[evW]at h
 .split at hc
  .cases hc
  .obtain⟨x,hx,rfl⟩:=map_some hc;simp[evW]at h
  cases hc
 .cases hc;exact aTw h hw
 .split at hc
  .rename_i kt et ht;split at hc
   .rename_i K m k v hk h1 h2 h3;cases hc;exact bA2 ht hk h1 h2 h3 h hw hg hs
   cases hc
  cases hc
 .split at hc
  .rename_i kt et ht;split at hc
   .rename_i fields m k v hk h1 h2 h3;split at hc
    .rename_i hq;cases hc;exact bSw ht hk hq h1 h2 h3 h hw hg hs
    cases hc
   cases hc
  cases hc
 .repeat' split at hc
  all_goals first | (cases hc;done)|(cases hc;simp[evW]at h)
 .split at hc
  .repeat' split at hc
   all_goals first | (cases hc;done)|(cases hc;simp[evW]at h)
  .rename_i s x t u h1 h2;obtain⟨S,X,rfl,hS,hX⟩:=aJW h1;cases mX h2;split at hc
   .rename_i e d ht hu;obtain⟨hd,hc⟩:=aIZ hc;split at hc
    .rename_i i hi;split at hc
     .rename_i z hz;split at hc
      .rename_i fj;split at hc
       .cases hc;exact aWC ht hu hd hi hz hS hX fj.2 h hw hg hs
       cases hc;exact aWB ht hu hd hi hz hS hX fj.2 h hw hg hs
      cases hc
     cases hc
    cases hc
   cases hc
  .rename_i x y t u h1 h2;obtain⟨X,Y,rfl,hX,hY⟩:=aJW h1;cases mX h2;split at hc
   .rename_i e ht;split at hc
    .rename_i k hk;split at hc
     .cases hc;exact bA0 ht hk hX hY h hw hg hs
     cases hc
    cases hc
   cases hc
  .cases hc;simp[evW]at h
  .cases hc;simp[evW]at h
  cases hc
 .split at hc
  .rename_i f xs h1 h2;cases hc;exact aWD h1 h2 az h hw hg hs
  cases hc
 .split at hc
  .rename_i f xs h1 h2;cases hc;split at h
   .exact aTx h1 h2 az h hw hg hs
   exact aTy h1 h2 az h hw hg hs
  cases hc
 cases hc
end
section
variable {P:CU}{ab:cu}{g:G}{H:LO}{w w':BL}{ρ:LA}{a:Act}
def aX.put(h:aX g ρ tmps){x:BE}(hv:ai g v x)(d:Nat):aX g (ρ.set d v) (tmps.setIfInBounds d x):=by
 refine⟨uWO,λt=>?_⟩;by_cases e:t=d
 .subst e;by_cases hlt:t<ρ.length
  .have:t<tmps.size:=by have:=h.1;omega
   simp_all
  have h1:¬(t<tmps.size):=by have:=h.1;omega
  simp only[FB,hlt,Vt];simp;exact .undef _
 have h1:=h.2 t
 simp_all [getElem?_set_ne',Ne.symm,CR,Array.getElem?_setIfInBounds_ne]
theorem aX.bg(h:aX g ρ a.tmps){x:BE}(hv:ai g v x)(d:Option Tmp):aX g (bg ρ d v) (a.put d x).tmps:=by
 cases d with
 |none=>exact h
 |some d=>exact h.put hv d
theorem aDW(a:Act)(d:Option Tmp)(v:BE):(a.put d v).defers=a.defers:=by cases d<;>rfl
def aX.bool(h:aX g ρ a.tmps){t:Nat}(hb:ρ[t]? = N1 (.bool b)):a.tmps[t]? = N1 (.bool b):=by
 have hlt:=(AH.1 hb).1;have rn:t<a.tmps.size:=by have:=h.1;omega
 have:=h.2 t;rw[hb]at this;have:=this.jx
 simp_all
def aK1{o:HP}(xg:ao.guard=aFL all.toList o.guard)(h:aX g ρ a.tmps)(hok:pF ρ ao=Pa):OJ o (yielded all a.tmps)=wanted ρ ao:=by
 unfold pF at hok;unfold Go.AM.wanted OJ;rw[xg]at hok ⊢;cases hq:o.guard with
 |none=>simp[aFL]
 |some jw=>
  obtain⟨j,want⟩:=jw;rw[hq]at hok;simp only[aFL]at hok ⊢;cases hd:(all.toList[j]?).bind (·.dst)with
  |none=>rw[hd]at hok;simp at hok
  |some t=>
   rw[hd]at hok;simp only at hok ⊢;have hd':(all[j]?).bind (·.dst)=N1 t:=by rw[<- hd];simp
   cases hb:ρ[t]? with
   |none=>rw[hb]at hok;simp at hok
   |some v=>
    rw[hb]at hok;cases v<;>try (simp at hok;done)
    .rename_i b;have:=h.bool hb;simp only[yielded,hd',FG,this];cases b<;>cases want<;>rfl
    rename_i vs;cases vs with
    |cons _ _=>simp at hok
    |nil=>
     have hr:=h.2 t;have he:(ρ[t]?).getD .undef=.tup []:=by rw[hb];rfl
     rw[he]at hr;obtain⟨xs,hx,hl⟩:=ai.np hr;have gd:xs = #[]:=by have:=hl.1;apply Array.eq_empty_of_size_eq_zero;simpa using this.symm
     subst gd;simp only[yielded,hd',FG];rw[CR]at hx;cases hq:a.tmps[t]? with
     |none=>rfl
     |some y=>rw[hq]at hx;have C9:y=.tuple #[]:=hx;subst C9;rfl
structure Xd(P:CU)(ab:cu)(all:Array HP)(o:HP)(ao:ae):Prop where
 dst:ao.dst=o.dst
 op:ao.op=(cOp P ab o).getD .bad
 guard:ao.guard=aFL all.toList o.guard
def cE base:∀(l wr:LN),(∀o∈wr,o∈bE base wr l)/\∀o∈l,o<base->o∈bE base wr l
 | [],wr=>⟨λo h=>h,λo h=>by simp at h⟩
 |x::l,wr=>by
  unfold bE;split
  .obtain⟨h1,h2⟩:=cE base l (x::wr)
   grind
  rename_i hc;obtain⟨h1,h2⟩:=cE base l wr
  grind
def aNI{o:HP}(hc:Xd P ab all o ao)(az:oT P ab call)(h:aOI call c Po H ρ ao=N1 (av,H',wr))(hw:WF g H w)(hg:bM P ab g)(hs:aX g ρ a.tmps):aA8 P o a w λv w'=>∃g',Step g H w g' H' w' wr/\ai g' av v:=by
 unfold aOI at h;have Qx:∀op,ao.op=op->op≠.bad->cOp P ab o=N1 op:=λop e hb=>by
  rw[hc.op]at e;cases hq:cOp P ab o with
  |none=>rw[hq]at e;exact Vv e.symm hb
  |some op'=>rw[hq]at e;simp at e;rw[e]
 by_cases F2:ao.op=.bad
 .rw[F2]at h;simp[isW,evR]at h
 have Ht:=Qx _ rfl F2;split at h
 .exact aK0 Ht az h hw hg hs
 split at h
 .rename_i v hv;cases h;exact (aJX Ht hv hw hg hs).does
 cases h
def aA9(P:CU)(ab:cu)(base:Nat)(g:G)(H:LO)(w:BL)(d:List HU)(s':gp)(a':Act)(w':BL):Prop:=
 ∃g' W,Step g H w g' s'.H w' W/\(∀o∈W,o<base->o∈s'.wr)/\aX g' s'.ρ a'.tmps/\a'.defers=d/\bM P ab g'
def aA9.refl{s:gp}(hw:WF g s.H w)(hs:aX g s.ρ a.tmps)(hg:bM P ab g):aA9 P ab base g s.H w a.defers s a w:=⟨g,[],.refl hw,λo h=>by simp at h,hs,rfl,hg⟩
def aJ0{call:Nat->LA->LO->Out}{c:Ctx}:∀(l:List ae)(s s':gp),jL call c l s=N1 s'->∀o∈s.wr,o∈s'.wr
 | [],s,s',h=>by grind [jL,AG]
 |o::l,s,s',h=>by
  unfold jL at h;split at h
  .split at h
   .split at h
    .exact λx hx=>aJ0 l _ s' h x ((cE _ _ _).1 x hx)
    cases h
   exact λx hx=>aJ0 l _ s' h x hx
  cases h
theorem aCa{all:Array HP}{call:Nat->LA->LO->Out}(az:oT P ab call){c:Ctx}{Q:Bp->Act->BL->Prop}{r:Option Nat}:∀(l:List HP)(al:List ae),l.length=al.length->(∀(i:Nat) o ao,l[i]? = N1 o->al[i]? = N1 ao->Xd P ab all o ao)->∀(s s':gp),jL call c al s=N1 s' ->∀(g:G)(a:Act)(w:BL),WF g s.H w->bM P ab g->aX g s.ρ a.tmps->(∀a' w',aA9 P ab c.base g s.H w a.defers s' a' w'->Q .normal a' w')->wpListIn (fr r) 0 P all Q l a w
 | [],al,hl,_,s,s',h,g,a,w,hw,hg,hs,hQ=>by
  cases al with
  |nil=>simp only[jL,AG]at h;subst h;exact hQ a w (.refl hw hs hg)
  |cons _ _=>simp at hl
 |o::l,al,hl,hc,s,s',h,g,a,w,hw,hg,hs,hQ=>by
  cases al with
  |nil=>simp at hl
  |cons ao al=>
   have jg:=hc 0 o ao rfl rfl;have mz:∀i o ao,l[i]? = N1 o->al[i]? = N1 ao->Xd P ab all o ao:=λi o ao h1 h2=>hc (i+1) o ao uWk uWj;unfold jL at h;split at h
   .rename_i hok;have F3:=aK1 jg.guard hs hok;unfold wpListIn;split at h
    .rename_i hwt;rw[F3,Vx hwt];split at h
     .rename_i v H' wr je;refine (aNI jg az je hw hg hs).wp λx w1 ⟨g1,bn,hv⟩=>?_;have lq:aX g1 (bg s.ρ ao.dst v) (a.put o.dst x).tmps:=by rw[jg.dst];exact (hs.mono bn.le).bg hv o.dst
      refine aCa az l al uWo mz _ s' h g1 _ w1 bn.wf (hg.mono bn.le) lq λa' w' hr=>hQ a' w' ?_;obtain⟨g2,W,h1,h2,h3,h4,h5⟩:=hr;refine⟨g2,wr++W,bn.trans h1,λo' ho hb=>?_,h3,by rw[h4,aDW],h5⟩;rcases AY.1 ho with ho|ho
      .exact aJ0 al _ s' h o' ((cE _ _ _).2 o' ho hb)
      grind
     cases h
    rename_i hwt;rw[F3,Vw hwt];refine⟨λ_ _=>trivial, ?_⟩;have lq:aX g (bg s.ρ ao.dst (.tup [])) (a.put o.dst EE).tmps:=by rw[jg.dst];exact hs.bg (.skip g) o.dst
    refine aCa az l al uWo mz _ s' h g _ w hw hg lq λa' w' hr=>hQ a' w' ?_
    grind [aDW]
   cases h
theorem aCU(all:Array HP):∀(l:List HP)(pres:List LN),(aDQ P ab all.toList l pres).length=l.length /\ ∀(i:Nat) o ao,l[i]? = N1 o->(aDQ P ab all.toList l pres)[i]? = N1 ao->Xd P ab all o ao
 | [],pres=>⟨rfl,λi o ao h=>by simp at h⟩
 |o::l,pres=>by
  obtain⟨h1,h2⟩:=aCU all l (pres++[aJM pres o]);refine⟨by simp[aDQ,h1],λi o' ao e1 e2=>?_⟩;cases i with
  |zero=>simp[aDQ]at e1 e2;subst e1;subst e2;exact⟨rfl,rfl,rfl⟩
  |succ i=>exact h2 i o' ao uWh (by simpa [aDQ]using e2)
def aFW{call:Nat->LA->LO->Out}{c:Ctx}:∀{l:List ae}{s:gp},jL call c (aTn Po l) s=jL call c l s
 | [],s=>rfl
 |o::r,s=>by
  have ih:∀s,jL call c (r.map λo=>⟨o.dst,o.op,o.guard,[]⟩) s=jL call c r s:=λs=>aFW;show jL call c (⟨o.dst,o.op,o.guard,[]⟩::r.map λo=>⟨o.dst,o.op,o.guard,[]⟩) s=_;unfold jL;simp only[ih];rfl
def aK2{id:Nat}{ops:Array HP}(az:oT P ab call){s:gp}(h:jL call c (aDQ P ab ops.toList ops.toList []) s=N1 s')(hw:WF g s.H w)(hg:bM P ab g)(hs:aX g s.ρ a.tmps)(hQ:∀a' w',aA9 P ab c.base g s.H w a.defers s' a' w'->Q .normal a' w'){r:Option Nat}:(PJ id ops Po).wpIn (fr r) 0 P Q a w:=by grind [aCU,wpIn_region_list,aCa]
end
def aa.te{ρ:LA}(h:∀t∈x.slot,ρ[t]? = ρ'[t]?):x.ev ρ=x.ev ρ':=by
 cases x with
 |tmp t=>simp only[aa.ev,h t (by simp[aa.slot])]
 |const v=>rfl
def aCV{ρ:LA}(h:∀t∈xs.flatMap aa.slot,ρ[t]? = ρ'[t]?):xs.map (aa.ev ρ)=xs.map (aa.ev ρ'):=
 List.map_congr_left λx hx=>aa.te λt ht=>h t (IM.2 ⟨x,hx,ht⟩)
def aEJ{ρ:LA}{x:Option aa}(h:∀t∈aFI x,ρ[t]? = ρ'[t]?):x.map (aa.ev ρ)=x.map (aa.ev ρ'):=by
 cases x with
 |none=>rfl
 |some x=>simp only[DE];rw[aa.te h]
def zB{ρ ρ':LA}:∀(ps:List (Nat×Nat×aa))(cs:LA),(∀t∈ps.flatMap (λp=>p.2.2.slot),ρ[t]? = ρ'[t]?)->iA ρ cs ps=iA ρ' cs ps
 | [],cs,_=>rfl
 | (o,s,x)::ps,cs,h=>by
  have hx:x.ev ρ=x.ev ρ':=aa.te λt ht=>h t (by simp[ht]);simp only[iA,hx];split
  .exact zB ps _ λt ht=>h t uWa
  rfl
def aAa{ρ ρ':LA}{k:Nat}:∀(ps:List (Nat×aa))(rows:List LA),(∀t∈ps.flatMap (λp=>p.2.slot),ρ[t]? = ρ'[t]?)->lW ρ k rows ps=lW ρ' k rows ps
 | [],rows,_=>rfl
 | (i,x)::ps,rows,h=>by
  have hx:x.ev ρ=x.ev ρ':=aa.te λt ht=>h t (by simp[ht]);simp only[lW,hx];split
  .exact aAa ps _ λt ht=>h t uWa
  rfl
def zC{ρ ρ':LA}{k:Nat}:∀(ps:List (Nat×aa))(rows:List LA),(∀t∈ps.flatMap (λp=>p.2.slot),ρ[t]? = ρ'[t]?)->jW ρ k rows ps=jW ρ' k rows ps
 | [],rows,_=>rfl
 | (i,x)::ps,rows,h=>by
  have hx:x.ev ρ=x.ev ρ':=aa.te λt ht=>h t (by simp[ht]);simp only[jW,hx];split
  .exact zC ps _ λt ht=>h t uWa
  rfl
def aCW{ρ ρ':LA}{k:Nat}:∀(ps:List (Nat×aa))(H:LO)(rows:List LA),(∀t∈ps.flatMap (λp=>p.2.slot),ρ[t]? = ρ'[t]?)->nW ρ k H rows ps=nW ρ' k H rows ps
 | [],H,rows,_=>rfl
 | (i,x)::ps,H,rows,h=>by
  have hx:x.ev ρ=x.ev ρ':=aa.te λt ht=>h t (by simp[ht]);simp only[nW,hx];split
  .split
   .rw[aCW ps _ _ λt ht=>h t uWa]
   rfl
  rfl
def aOT{ρ:LA}{op:df}(h:∀t∈op.bm,ρ[t]? = ρ'[t]?):evR H ρ op=evR H ρ' op:=by
 have e1:∀{x:aa},(∀t∈x.slot,t∈op.bm)->x.ev ρ=x.ev ρ':=λhx=>aa.te λt ht=>h t (hx t ht);have e2:∀{x:Option aa},(∀t∈aFI x,t∈op.bm)->x.map (aa.ev ρ)=x.map (aa.ev ρ'):=λhx=>aEJ λt ht=>h t (hx t ht);have e3:∀{xs:List aa},(∀t∈xs.flatMap aa.slot,t∈op.bm)->xs.map (aa.ev ρ)=xs.map (aa.ev ρ'):=λhx=>aCV λt ht=>h t (hx t ht);cases op with
 |bad=>rfl
 |mov x=>simp only[evR];rw[e1 λt ht=>ht]
 |pick c a b=>simp only[evR];rw[e1 λt ht=>by simp[df.bm,ht],e1 λt ht=>by simp[df.bm,ht],e1 λt ht=>by simp[df.bm,ht]]
 |alloc zs=>rfl
 |gv t zs=>rfl
 |box k x=>simp only[evR];rw[e1 λt ht=>ht]
 |build zs ps=>simp only[evR];rw[zB ps zs h]
 |bsl k zs n ps=>simp only[evR];rw[aAa ps _ h]
 |load k agg x=>simp only[evR];rw[e1 λt ht=>ht]
 |store k x v=>rfl
 |cz x=>simp only[evR];rw[e1 λt ht=>ht]
 |ky neg x=>simp only[evR];rw[e1 λt ht=>ht]
 |bin o ek x y=>simp only[evR];rw[e1 λt ht=>by simp[df.bm,ht],e1 λt ht=>by simp[df.bm,ht]]
 |un o x=>simp only[evR];rw[e1 λt ht=>ht]
 |conv c x=>simp only[evR];rw[e1 λt ht=>ht]
 |mkf f a b=>
  have ha:=e3 λt ht=>by simp only[df.bm,AY];exact .inl ht
  have hb:=e3 λt ht=>by simp only[df.bm,AY];exact .inr ht
  have ha':a.map (λx=>(x.ev ρ).aj)=a.map (λx=>(x.ev ρ').aj):=by have:=congrArg (DR AV.aj) ha;simpa [PA,Function.comp_def]using this
  have du:b.map (λx=>(x.ev ρ).aj)=b.map (λx=>(x.ev ρ').aj):=by have:=congrArg (DR AV.aj) hb;simpa [PA,Function.comp_def]using this
  simp only[evR];rw[ha,hb,ha',du]
 |mks k b zs l c=>simp only[evR];rw[e1 λt ht=>by simp[df.bm,ht],e1 λt ht=>by simp[df.bm,ht]]
 |fm x lo hi=>simp only[evR];rw[e1 λt ht=>by simp[df.bm,ht],e2 λt ht=>by simp[df.bm,ht],e2 λt ht=>by simp[df.bm,ht]]
 |gw k x lo hi mx=>simp only[evR];rw[e1 λt ht=>by simp[df.bm,ht],e2 λt ht=>by simp[df.bm,ht],e2 λt ht=>by simp[df.bm,ht],e2 λt ht=>by simp[df.bm,ht]]
 |view k x lo=>simp only[evR];rw[e1 λt ht=>by simp[df.bm,ht],aEJ λt ht=>h t uXg]
 |na n k x lo hi mx=>simp only[evR];rw[e1 λt ht=>by simp[df.bm,ht],e2 λt ht=>by simp[df.bm,ht],e2 λt ht=>by simp[df.bm,ht],e2 λt ht=>by simp[df.bm,ht]]
 |fa o x=>simp only[evR];rw[e1 λt ht=>ht]
 |fld o k agg x=>simp only[evR];rw[e1 λt ht=>ht]
 |iaV x i k=>simp only[evR];rw[e1 λt ht=>by simp[df.bm,ht],e1 λt ht=>by simp[df.bm,ht]]
 |iaA n k x i=>simp only[evR];rw[e1 λt ht=>by simp[df.bm,ht],e1 λt ht=>by simp[df.bm,ht]]
 |ixS x i=>simp only[evR];rw[e1 λt ht=>by simp[df.bm,ht],e1 λt ht=>by simp[df.bm,ht]]
 |ixA n k agg x i=>simp only[evR];rw[e1 λt ht=>by simp[df.bm,ht],e1 λt ht=>by simp[df.bm,ht]]
 |fg x=>simp only[evR];rw[e1 λt ht=>ht]
 |Wk x=>simp only[evR];rw[e1 λt ht=>ht]
 |zb n=>rfl
 |mm mx xs=>simp only[evR];rw[e3 λt ht=>ht]
 |app k b s x=>rfl
 |ext i x=>simp only[evR];rw[e1 λt ht=>ht]
 |km i x=>simp only[evR];rw[e1 λt ht=>ht]
 |dm f xs=>rfl
 |ee f xs=>rfl
 |ni t k b s x=>rfl
 |tbx t k x=>rfl
 |cpy k x y=>rfl
 |Rd t f xs=>rfl
 |jn=>rfl
 |ins m k v=>rfl
 |look z m k ok=>simp only[evR];rw[e1 λt ht=>by simp[df.bm,ht],e1 λt ht=>by simp[df.bm,ht]]
 |Fs m k v=>rfl
 |wy z m k ok=>simp only[evR];rw[e1 λt ht=>by simp[df.bm,ht],e1 λt ht=>by simp[df.bm,ht]]
def aOU{ρ:LA}{op:df}(h:∀t∈op.bm,ρ[t]? = ρ'[t]?):evW call H ρ site op=evW call H ρ' site op:=by
 have e1:∀{x:aa},(∀t∈x.slot,t∈op.bm)->x.ev ρ=x.ev ρ':=λhx=>aa.te λt ht=>h t (hx t ht);have e3:∀{xs:List aa},(∀t∈xs.flatMap aa.slot,t∈op.bm)->xs.map (aa.ev ρ)=xs.map (aa.ev ρ'):=λhx=>aCV λt ht=>h t (hx t ht);cases op with
 |box k x=>simp only[evW];rw[e1 λt ht=>ht]
 |tbx t k x=>simp only[evW];rw[e1 λt ht=>ht]
 |bsl k zs n ps=>simp only[evW];rw[aCW ps _ _ h,zC ps _ h]
 |store k x v=>simp only[evW];rw[e1 λt ht=>by simp[df.bm,ht],e1 λt ht=>by simp[df.bm,ht]]
 |mks k b zs l c=>simp only[evW];rw[e1 λt ht=>by simp[df.bm,ht],e1 λt ht=>by simp[df.bm,ht]]
 |cpy k x y=>simp only[evW];rw[e1 λt ht=>by simp[df.bm,ht],e1 λt ht=>by simp[df.bm,ht]]
 |ni t k b s x=>simp only[evW];rw[e1 λt ht=>by simp[df.bm,ht],e1 λt ht=>by simp[df.bm,ht]]
 |app k b s x=>simp only[evW];rw[e1 λt ht=>by simp[df.bm,ht],e1 λt ht=>by simp[df.bm,ht]]
 |dm f xs=>simp only[evW];rw[e1 λt ht=>by simp[df.bm,ht],e3 λt ht=>by simp only[df.bm,AY];exact .inr ht]
 |ee f xs=>simp only[evW];rw[e1 λt ht=>by simp[df.bm,ht],e3 λt ht=>by simp only[df.bm,AY];exact .inr ht]
 |Rd tb f xs=>simp only[evW];rw[e1 λt ht=>by simp[df.bm,ht],e3 λt ht=>by simp only[df.bm,AY];exact .inr ht]
 |ins m k v=>simp only[evW];rw[e1 λt ht=>by simp[df.bm,ht],e1 λt ht=>by simp[df.bm,ht],e1 λt ht=>by simp[df.bm,ht]]
 |Fs m k v=>simp only[evW];rw[e1 λt ht=>by simp[df.bm,ht],e1 λt ht=>by simp[df.bm,ht],e1 λt ht=>by simp[df.bm,ht]]
 |_=>rfl
def aNJ{ρ:LA}{op:df}(h:∀t∈op.bm,ρ[t]? = ρ'[t]?):aIR ρ op=aIR ρ' op:=by
 cases op with
 |load k agg x=>simp only[aIR];rw[aa.te h]
 |conv c x=>cases c<;>simp only[aIR];rw[aa.te h]
 |look z m k ok=>simp only[aIR];rw[aa.te λt ht=>h t uXg]
 |wy z m k ok=>simp only[aIR];rw[aa.te λt ht=>h t uXg]
 |view k x lo=>simp only[aIR];rw[aa.te λt ht=>h t uXg]
 |_=>rfl
def aK3{ρ:LA}(h:∀t∈o.names,ρ[t]? = ρ'[t]?):wanted ρ o=wanted ρ' o/\pF ρ o=pF ρ' o:=by
 unfold wanted pF;cases hg:o.guard with
 |none=>grind
 |some tw=>
  obtain⟨t,want⟩:=tw;cases t with
  |none=>grind
  |some t=>simp_all [ae.names,and_self]
def AV.F4:AV->LN
 |.ptr o _ _=>[o]
 |.vp o _ _ _ _ _=>[o]
 |_=>[]
def aOV(ρ:LA) k (agg:Bool) (x:aa):aIR ρ (.load k agg x)=(x.ev ρ).F4:=by simp only[aIR];cases x.ev ρ<;>rfl
def aHu(h:∀o∈v.F4,H[o]? = H'[o]?):bC H k v=bC H' k v:=by
 cases v<;>simp only[bC]
 .rw[h _ (by simp[AV.F4])]
 rw[h _ (by simp[AV.F4])]
def aR4{ρ:LA}{op:df}(h:∀o∈aIR ρ op,H[o]? = H'[o]?):evR H ρ op=evR H' ρ op:=by
 cases op with
 |load k agg x=>simp only[evR];rw[aHu λo ho=>h o (by rw[aOV];exact ho)]
 |conv c x=>
  simp only[evR];cases c with
  |b2s=>
   have:dO H (x.ev ρ)=dO H' (x.ev ρ):=by
    have h':∀o v n,x.ev ρ=.sr o v n->H[o]? = H'[o]? := λo v n e=>h o uWP;have zc:∀o v n k lo,x.ev ρ=.srv o v n k lo->H[o]? = H'[o]? := λo v n k lo e=>h o uWP;have D9:∀o v n k,x.ev ρ=.srw o v n k->H[o]? = H'[o]? := λo v n k e=>h o uWP;revert h' zc D9;cases x.ev ρ<;>intro h' zc D9<;>simp only[dO]
    .rw[h' _ _ _ rfl]
    .rw[zc _ _ _ _ _ rfl]
    rw[D9 _ _ _ _ rfl]
   cases hx:x.ev ρ<;>rw[hx]at this<;>simp only[pT,this]
  |_=>cases x.ev ρ<;>rfl
 |look z m k ok=>
  simp only[evR];have h':∀o v,m.ev ρ=.mp o v->H[o]? = H'[o]? := λo v e=>h o uWP;revert h';cases m.ev ρ<;>intro h'<;>simp only
  rw[h' _ _ rfl]
 |wy z m k ok=>
  simp only[evR];have h':∀o v,m.ev ρ=.mp o v->H[o]? = H'[o]? := λo v e=>h o uWP;revert h';cases m.ev ρ<;>intro h'<;>simp only
  rw[h' _ _ rfl]
 |view k x lo=>
  simp only[evR];have h':∀o v n,x.ev ρ=.sr o v n->H[o]? = H'[o]? := λo v n e=>h o uWP;revert h';cases x.ev ρ<;>intro h'<;>simp only
  rw[h' _ _ _ rfl]
 |_=>rfl
def Fr(H H':LO)(wr:LN):Prop:=H.length<=H'.length/\∀o,o<H.length->o∉wr->H'[o]? = H[o]?
def Fr.refl(H:LO)(wr:LN):Fr H H wr:=⟨AQ _,λ_ _ _=>rfl⟩
def Fr.trans{H1 H2:LO}{a b:LN}(h:Fr H H1 a)(h':Fr H1 H2 b):Fr H H2 (a++b):=⟨HX h.1 h'.1,λo ho hn=>by
  simp only[AY,not_or]at hn;rw[h'.2 o (FU ho h.1) hn.2,h.2 o ho hn.1]⟩
def Fr.weaken{a b:LN}(h:Fr H H' a)(hs:∀o∈a,o∈b):Fr H H' b:=⟨h.1,λo ho hn=>h.2 o ho λhm=>hn (hs o hm)⟩
theorem Fr.set(H:LO) o (x:ah):Fr H (H.set o x) [o]:=⟨siT,λo' _ hn=>getElem?_set_ne' _ _ (λe=>hn (by simp[e]))⟩
theorem aDX:∀(l:LN)(H:LO),Fr H (dL H l) l
 | [],H=>.refl H _
 |o::l,H=>by
  have:=(Fr.set H o (.gone ((H[o]?).elim 0 ah.ver))).trans (aDX l _);exact this
def aFX{l:LN}(h:fix H v=N1 (v',H',l)):Fr H H' l:=by grind [fix,aDX]
def aJ1:∀(rows:List LA){H H':LO}{bt:List LA}{l:LN},aLw H rows=N1 (bt,H',l)->Fr H H' l
 | [],H,H',bt,l,h=>by cases h;exact .refl _ _
 |r::rs,H,H',bt,l,h=>by
  unfold aLw at h;split at h
  .rename_i r' H1 l1 hf;split at h
   .rename_i rs' H2 l2 hr;cases h;exact (aFX hf).trans (aJ1 rs hr)
   cases h
  cases h
def aI3{l:LN}(h:aA3 H v=N1 (v',H',l)):Fr H H' l:=by
 unfold aA3 at h;split at h
 .split at h
  .split at h
   .split at h
    .rename_i hi;split at h
     .split at h
      .rename_i hf;cases h;exact (aJ1 _ hi).trans ((Fr.set _ _ _).trans (aFX hf))
      cases h
     cases h
    cases h
   cases h
  cases h
 exact aFX h
def bN6:∀(cs:LA){H H':LO}{cs':LA}{l:LN},bL5 H cs=N1 (cs',H',l)->Fr H H' l
 | [],H,H',cs',l,h=>by cases h;exact .refl _ _
 |c::r,H,H',cs',l,h=>by
  unfold bL5 at h;split at h
  .rename_i e;cases e
  .rename_i o v _ e;cases e;split at h
   .split at h
    .split at h
     .rename_i hr;cases h;exact (Fr.set H o (.gone v)).trans (bN6 r hr)
     cases h
    cases h
   cases h
  rename_i e;cases e;split at h
  .rename_i hr;cases h;exact bN6 r hr
  cases h
def aNK{l:LN}(h:bKj H v=N1 (H',l)):Fr H H' l:=by
 unfold bKj at h;split at h
 .cases h;exact .refl _ _
 .split at h
  .split at h
   .split at h
    .rename_i hi;split at h
     .cases h;exact (aJ1 _ hi).trans (Fr.set _ _ _)
     cases h
    cases h
   cases h
  cases h
 .split at h
  .split at h
   .split at h
    .rename_i hi;split at h
     .cases h;exact (bN6 _ hi).trans (Fr.set _ _ _)
     cases h
    cases h
   cases h
  cases h
 cases h
def bRZ{l:LN}(h:Fr H0 H l):Fr H0 (bPE H v l).2.1 (bPE H v l).2.2:=by
 unfold bPE;split
 .split
  .split
   .exact h.trans (Fr.set _ _ _)
   exact h
  exact h
 exact h
def aOW{l:LN}(h:aMD H v=N1 (v',H',l)):Fr H H' l:=by
 unfold aMD at h;split at h
 .rename_i v2 H2 l2 hf;simp only[AG]at h;have:=bRZ (v:=v2) (aFX hf);rw[h]at this;exact this
 split at h
 .split at h
  .rename_i hf;cases h;exact aI3 hf
  cases h
 exact aI3 h
def aI4{ρ:LA}{k:Nat}:∀(ps:List (Nat×aa))(H:LO)(rows out:List LA)(H':LO)(l:LN),nW ρ k H rows ps=N1 (out,H',l)->Fr H H' l
 | [],H,rows,out,H',l,h=>by simp only[nW,AG,BK]at h;obtain⟨_,rfl,rfl⟩:=h;exact .refl _ _
 | (i,x)::ps,H,rows,out,H',l,h=>by
  simp only[nW]at h;split at h
  .rename_i hf;split at h
   .split at h
    .rename_i hr;obtain⟨_,rfl,rfl⟩:=h;exact (aFX hf).trans (aI4 ps _ _ _ _ _ hr)
    cases h
   cases h
  cases h
def bL9(call:Nat->LA->LO->Out):Prop:=∀f args H v H' wr,call f args H=N1 (v,H',wr)->Fr H H' wr
def aCX{vs:LA}{p:AV}(h:storeCells H vs p=N1 (H',wr)):Fr H H' wr:=by
 unfold storeCells at h
 grind [Fr.set]
def aR5{b:Nat}{s x:AV}(h:eX H site k b s x=N1 (v,H',wr)):Fr H H' wr:=by
 unfold eX at h;split at h
 .cases h
 split at h
 .cases h
 split at h
 .split at h
  .cases h;exact .refl _ _
  split at h
  .split at h
   .split at h
    .cases h;exact Fr.set _ _ _
    cases h
   cases h
  cases h
 .split at h
  .cases h;exact .refl _ _
  split at h
  .split at h
   .split at h
    .cases h;exact Fr.set _ _ _
    cases h
   cases h
  cases h
 .split at h
  .split at h
   .split at h
    .cases h;exact .refl _ _
    cases h;exact Fr.set _ _ _
   cases h
  cases h
 .grind [Fr.set]
 cases h
def aOX{ty b:Nat}{s x:AV}(h:vB H site ty k b s x=N1 (v,H',wr)):Fr H H' wr:=by
 unfold vB at h;split at h
 .cases h
 split at h
 .cases h
 split at h
 .split at h
  .cases h;exact .refl _ _
  split at h
  .split at h
   .split at h
    .cases h;exact Fr.set _ _ _
    cases h
   cases h
  cases h
 .split at h
  .split at h
   .split at h
    .cases h;exact .refl _ _
    cases h;exact Fr.set _ _ _
   cases h
  cases h
 cases h
def aI5(hc:bL9 call){f:AV}(h:cX call H site f args=N1 (v,H',wr)):Fr H H' wr:=by
 unfold cX at h;split at h
 .split at h
  .cases h
  rename_i args' lent hl;split at h
  .cases h
  rename_i v1 H1 dc az;have h1:=hc _ _ _ _ _ _ az;split at h
  .rename_i he;have:lent=[]:=uXe
   subst this;have h2:Fr H H1 dc:=h1;split at h
   .split at h
    .split at h
     .cases h;refine (h2.trans (Fr.set _ _ _)).weaken λo ho=>?_
      grind
     cases h
    grind
   grind
  split at h
  .cases h;exact .refl _ _
  cases h
 .split at h
  .cases h
  rename_i args' lent hl;split at h
  .cases h
  rename_i v1 H1 dc az;have h1:=hc _ _ _ _ _ _ az;split at h
  .rename_i he;simp only[AI,NU]at he;have:lent=[]:=he.1;subst this;cases h;exact h1
  cases h
 cases h
def aNL(hc:bL9 call){f:AV}(h:iN call H site f args=N1 (v,H',wr)):Fr H H' wr:=by
 unfold iN at h;split at h
 .split at h
  .cases h
  rename_i v1 H1 dc az;have h2:=hc _ _ _ _ _ _ az;split at h
  .split at h
   .split at h
    .cases h;refine (h2.trans (Fr.set _ _ _)).weaken λo ho=>?_
     grind
    cases h
   grind
  grind
 cases h
def aSL(hc:bL9 call){ρ:LA}{op:df}(h:evW call H ρ site op=N1 (v,H',wr)):Fr H H' wr:=by
 unfold evW at h;split at h
 .split at h
  .split at h
   .cases h;exact Fr.set _ _ _
   cases h
  cases h
 .split at h
  .split at h
   .cases h;exact Fr.set _ _ _
   cases h
  cases h
 .split at h
  .split at h
   .cases h;exact Fr.set _ _ _
   cases h
  cases h
 .split at h
  .split at h
   .cases h;exact Fr.set _ _ _
   cases h
  cases h
 .split at h
  .split at h
   .rename_i hs;cases h;exact aCX hs
   cases h
  cases h
 .split at h
  .split at h
   .split at h
    .cases h;exact Fr.set _ _ _
    cases h
   cases h
  split at h
  .rename_i hf;cases h;exact aI4 _ _ _ _ _ _ hf
  cases h
 .split at h
  .split at h
   .split at h
    .split at h
     .cases h;exact Fr.set _ _ _
     cases h
    cases h;exact .refl _ _
   split at h
   .split at h
    .cases h;exact Fr.set _ _ _
    cases h
   cases h
  cases h
 .exact aR5 h
 .exact aOX h
 .exact aI5 hc h
 .exact aNL hc h
 .split at h
  .split at h
   .exact aI5 hc h
   cases h
  cases h
 .split at h
  .split at h
   .split at h
    .split at h
     .cases h;exact .refl _ _
     split at h
     .cases h;exact Fr.set _ _ _
     cases h
    cases h
   cases h
  .split at h
   .split at h
    .split at h
     .cases h;exact .refl _ _
     split at h
     .cases h;exact Fr.set _ _ _
     cases h
    cases h
   cases h
  cases h
 .split at h
  .split at h
   .cases h;exact Fr.set _ _ _
   cases h
  cases h
 .split at h
  .split at h
   .split at h
    .split at h
     .cases h;exact Fr.set _ _ _
     .cases h;exact Fr.set _ _ _
     cases h
    cases h
   cases h
  cases h
 .split at h
  .split at h
   .split at h
    .split at h
     .cases h;exact Fr.set _ _ _
     .cases h;exact Fr.set _ _ _
     cases h
    cases h
   cases h
  cases h
 cases h
def aTz(hc:bL9 call){ρ:LA}(h:aOI call c d H ρ o=N1 (v,H',wr)):Fr H H' wr:=by
 unfold aOI at h;split at h
 .exact aSL hc h
 split at h
 .cases h;exact .refl _ _
 cases h
def aJ2(hc:bL9 call){ρ:LA}{wr:Option LN}(h:aFJ call c H ρ o=N1 (v,H',rd,wr)):Fr H H' (wr.getD [])/\(wr=N2->H'=H)/\(∀x,H.length<=x->x<H'.length->x∈wr.getD []):=by
 unfold aFJ at h;split at h
 .cases h;exact⟨.refl _ _,λ_=>rfl,λx h1 h2=>omT⟩
 split at h
 .split at h
  .rename_i hw;split at h
   .rename_i ax;cases h;exact⟨aSL hc hw,λe=>uWZ,λx h1 h2=>omT⟩
   split at h
   .cases h;exact⟨(aSL hc hw).weaken λo ho=>AY.2 (.inl ho),λe=>uWZ,λx h1 h2=>AY.2 (.inr (FC.2 ⟨h1,omT⟩))⟩
   cases h
  cases h
 split at h
 .cases h;exact⟨.refl _ _,λ_=>rfl,λx h1 h2=>omT⟩
 cases h
def FrB(base:Nat)(s s':gp):Prop:=s.H.length<=s'.H.length/\(∀o∈s.wr,o∈s'.wr)/\∀o,o<s.H.length->o<base->o∉s'.wr->s'.H[o]? = s.H[o]?
def FrB.refl base(s:gp):FrB base s s:=⟨AQ _,λ_ h=>h,λ_ _ _ _=>rfl⟩
def FrB.trans{s s1 s2:gp}(h:FrB base s s1)(h':FrB base s1 s2):FrB base s s2:=⟨HX h.1 h'.1,λo ho=>h'.2.1 o (h.2.1 o ho),λo ho hb hn=>by
  rw[h'.2.2 o (FU ho h.1) hb hn,h.2.2 o ho hb λhm=>hn (h'.2.1 o hm)]⟩
def FrB.of{s:gp}{ρ:LA}(h:Fr s.H H' wr):FrB base s ⟨ρ,H',bE base s.wr wr⟩:=⟨h.1,(cE base wr s.wr).1,λo ho hb hn=>h.2 o ho λhm=>hn ((cE base wr s.wr).2 o hm hb)⟩
def aJ3{call:Nat->LA->LO->Out}(hc:bL9 call){c:Ctx}:∀(l:List ae)(s s':gp),jL call c l s=N1 s'->FrB c.base s s'
 | [],s,s',h=>by simp only[jL,AG]at h;subst h;exact .refl _ _
 |o::l,s,s',h=>by
  unfold jL at h;split at h
  .split at h
   .split at h
    .rename_i je;exact (FrB.of (aTz hc je)).trans (aJ3 hc l _ s' h)
    cases h
   have:=aJ3 hc l _ s' h;exact this
  cases h
def aFY{call:Nat->LA->LO->Out}(hc:bL9 call){c:Ctx}:∀(l:List ae)(i:Nat)(s s':gp)(log:Log),nT call c i l s=N1 (s',log)->FrB c.base s s'
 | [],i,s,s',log,h=>by simp only[nT,AG,BK]at h;obtain⟨rfl,_⟩:=h;exact .refl _ _
 |o::l,i,s,s',log,h=>by
  unfold nT at h;split at h
  .split at h
   .split at h
    .rename_i je;split at h
     .rename_i mz;cases h;exact (FrB.of (aJ2 hc je).1).trans (aFY hc l _ _ _ _ mz)
     cases h
    cases h
   have:=aFY hc l _ _ s' log h;exact this
  cases h
theorem aLB{d:Option Nat}{id:Nat}(h:c.site d=N1 id):c.base<=id:=by
 unfold Ctx.site at h;split at h
 .cases h
 obtain⟨i,_,rfl⟩:=map_some h;omega
def wW{c:Ctx}:∀(l:List ae)(H H':LO),cS c H l=N1 H'->H.length=H'.length/\∀o,o<c.base->H'[o]? = H[o]?
 | [],H,H',h=>by simp only[cS,AG]at h;subst h;grind
 |o::l,H,H',h=>by
  unfold cS at h;split at h
  .rename_i id hid;split at h
   .obtain⟨h1,h2⟩:=wW l _ H' h;refine⟨by rw[<- h1];simp[make],λo' z7=>?_⟩;rw[h2 o' z7,make,getElem?_set_ne' _ _ (by have:=aLB hid;omega)]
   cases h
  exact wW l H H' h
def aLC(hc:bL9 call){l:List ae}{s:gp}(h:iO call c d l s=N1 s'):FrB c.base s s':=by
 unfold iO at h;split at h
 .split at h
  .rename_i H0 hp;split at h
   .rename_i s1 log je;split at h
    .cases h;obtain⟨h1,h2⟩:=wW _ _ _ hp;have h3:=aFY hc _ _ _ _ _ je;refine⟨?_,h3.2.1,λo ho hb hn=>?_⟩
     .rw[h1];exact h3.1
     have:=h3.2.2 o uWa hb hn
     grind
    cases h
   cases h
  cases h
 split at h
 .cases h
 exact aJ3 hc l s s' h
def sR{c:Ctx}:∀(ts:List (Nat×Nat))(s s':gp),nX c s ts=N1 s'->FrB c.base s s'
 | [],s,s',h=>by simp only[nX,AG]at h;subst h;exact .refl _ _
 | (0,t)::ts,s,s',h=>by
  unfold nX at h;split at h
  .rename_i hf;exact (FrB.of (aOW hf)).trans (sR ts _ s' h)
  cases h
 | (k+1,t)::ts,s,s',h=>by
  unfold nX at h;split at h
  .exact sR ts _ s' h
  split at h
  .rename_i hk;exact (FrB.of (aNK hk)).trans (sR ts _ s' h)
  split at h
  .split at h
   .rename_i hf;split at h
    .rename_i bd;exact (FrB.of ((aOW hf).trans (aCX bd))).trans (sR ts _ s' h)
    cases h
   cases h
  cases h
structure Rec where
 v:AV
 want:Bool
 rd:LN
 wr:Option LN
 H2:LO
variable {r:Rec}
def uZ(p:Nat->Bool):Nat->List (ae×Rec)->LA->LA
 |_,[],ρ=>ρ
 |k,(o,r)::l,ρ=>uZ p (k+1) l (if p k then bg ρ o.dst r.v else ρ)
def cW(H:LO):List (ae×Rec)->Nat->LO
 | [],_=>H
 |_::_,0=>H
 |x::l,m+1=>cW x.2.H2 l m
structure yq(call:Nat->LA->LO->Out)(c:Ctx)(ρ:LA)(H:LO)(o:ae)(r:Rec):Prop where
 guard:pF ρ o=Pa
 want:r.want=wanted ρ o
 yes:r.want=Pa->aFJ call c H ρ o=N1 (r.v,r.H2,r.rd,r.wr)
 no:r.want=Po->r.v=.tup []/\r.H2=H/\r.rd=[]/\r.wr=N2
def aFe:Nat->List (ae×Rec)->Log
 |_,[]=>[]
 |i,(_,r)::l=>if r.want then (i,r.rd,r.wr)::aFe (i+1) l else aFe (i+1) l
def aDY(p:Nat->Bool):∀(l:List (ae×Rec)) n (ρ:LA),uZ p (n+1) l ρ=uZ (λj=>p (j+1)) n l ρ
 | [],_,_=>rfl
 | (o,r)::l,n,ρ=>by simp only[uZ];exact aDY p l (n+1) _
def aMG(p q:Nat->Bool):∀(l:List (ae×Rec)) n (ρ:LA),(∀k,n<=k->k<n+l.length->p k=q k)->uZ p n l ρ=uZ q n l ρ
 | [],_,_,_=>rfl
 | (o,r)::l,n,ρ,h=>by
  simp only[uZ];rw[h n (AQ _) siT];exact aMG p q l (n+1) _ λk h1 h2=>h k omT soT
def fH(ρ:LA)(d:Option Nat)(v:AV):(bg ρ d v).length=ρ.length:=by cases d<;>simp[bg]
def aFZ(ρ:LA)(d:Option Nat)(v:AV) t (h:d≠N1 t):(bg ρ d v)[t]? = ρ[t]? := by
 cases d with
 |none=>rfl
 |some d=>exact getElem?_set_ne' _ _ (λe=>h (by rw[e]))
def aK4(ρ ρ':LA)(d:Option Nat)(v:AV)(t:Nat)(hl:ρ.length=ρ'.length)(h:ρ[t]? = ρ'[t]?):(bg ρ d v)[t]? = (bg ρ' d v)[t]? := by
 cases d with
 |none=>exact h
 |some d=>simp only[bg,FB,hl,h]
def aFy(p:Nat->Bool):∀(l:List (ae×Rec)) n (ρ:LA),(uZ p n l ρ).length=ρ.length
 | [],_,_=>rfl
 | (o,r)::l,n,ρ=>by
  simp only[uZ];rw[aFy p l];split
  .exact fH _ _ _
  rfl
def aCY(p q:Nat->Bool)(t:Nat):∀(l:List (ae×Rec))(n:Nat)(ρ ρ':LA),ρ.length=ρ'.length->ρ[t]? = ρ'[t]? ->(∀(k:Nat) o r,l[k]? = N1 (o,r)->o.dst=N1 t->p (n+k)=q (n+k))->(uZ p n l ρ)[t]? = (uZ q n l ρ')[t]?
 | [],_,ρ,ρ',_,h,_=>h
 | (o,r)::l,n,ρ,ρ',hl,h,hk=>by
  simp only[uZ];refine aCY p q t l (n+1) _ _ ?_ ?_ λk o' r' h1 h2=>?_
  .split<;>split<;>simp[fH,hl]
  .by_cases e:o.dst=N1 t
   .have:=hk 0 o r rfl e;simp only[DU]at this;rw[this];split
    .exact aK4 _ _ _ _ _ hl h
    exact h
   have e1:∀(b:Bool)(ρ:LA),(if b=Pa then bg ρ o.dst r.v else ρ)[t]? = ρ[t]? := λb ρ=>by
    split
    .exact aFZ _ _ _ _ e
    rfl
   rw[e1,e1,h]
  have:=hk (k+1) o' r' uWk h2
  rwa [show n+(k+1)=n+1+k by omega]at this
def aR6(p:Nat->Bool)(i:Nat):∀(l:List (ae×Rec))(n:Nat)(ρ ρ':LA)(o:ae)(r:Rec),l[i]? = N1 (o,r)->ρ.length=ρ'.length->p (n+i)=Po ->(∀(k:Nat) o' r',l[k]? = N1 (o',r')->i<k->∀t,o.dst=N1 t->o'.dst=N1 t->p (n+k)=Po)->∀(t:Nat),ρ[t]? = ρ'[t]? ->(uZ (λj=>p j || j==n+i) n l ρ)[t]? = (bg (uZ p n l ρ') o.dst r.v)[t]? := by
 intro l n ρ ρ' o r hi hl hp hk t ht;by_cases e:o.dst=N1 t
 ·
  have ax:(uZ p n l ρ').length=ρ'.length:=aFy _ _ _ _;rw[e];simp only[bg,FB,Vu,ax];have sc:∀(l:List (ae×Rec))(n:Nat)(ρ:LA),uZ (λ_=>Po) n l ρ=ρ:=by
   intro l
   induction l with
   |nil=>intro n ρ;rfl
   |cons x l ih=>intro n ρ;obtain⟨a,b⟩:=x;simp only[uZ,BX,Vt];exact ih _ _
  have key:∀(q:Nat->Bool)(l:List (ae×Rec))(n:Nat)(i:Nat)(ρ:LA),l[i]? = N1 (o,r)->q (n+i)=Pa->(∀(k:Nat) o' r',l[k]? = N1 (o',r')->i<k->o'.dst=N1 t->q (n+k)=Po) ->
    (uZ q n l ρ)[t]? = if t<ρ.length then N1 r.v else none:=by
   intro q l
   induction l with
   |nil=>intro n i ρ h;simp at h
   |cons x l ih=>
    intro n i ρ h hq z8;obtain⟨o1,r1⟩:=x;cases i with
    |zero=>
     simp only[BG,AG,BK]at h;obtain⟨h1,h2⟩:=h;simp only[DU]at hq;simp only[uZ,hq,Vu];have:=aCY q (λ_=>Po) t l (n+1) (bg ρ o1.dst r1.v) (bg ρ o1.dst r1.v) rfl rfl λk o' r' h3 h4=>by
      have h5:=z8 (k+1) o' r' uWR omT h4
      rwa [show n+(k+1)=n+1+k by omega]at h5
     rw[this,sc,h1,h2,e];simp[bg,FB]
    |succ i=>
     simp only[uZ];rw[ih (n+1) i _ uWg (by rw[show n+1+i=n+(i+1)by omega];exact hq) λk o' r' h1 h2 h3=>by
      have:=z8 (k+1) o' r' uWk omT h3;rwa [show n+(k+1)=n+1+k by omega]at this]
     split<;>simp[fH]
  rw[key (λj=>p j || j==n+i) l n i ρ hi siT λk o' r' h1 h2 h3=>by
   have h4:¬(k=i):=omT;simp[hk k o' r' h1 h2 t e h3,h4],hl]
 rw[aFZ _ _ _ _ e];refine aCY _ _ t l n ρ ρ' hl ht λk o' r' h1 h2=>?_;have:k≠i:=λek=>by subst ek;rw[hi]at h1;cases h1;exact e h2
 simp[this]
def aEK{call:Nat->LA->LO->Out}{c:Ctx}:∀(al:List ae)(i:Nat)(s s':gp)(log:Log),nT call c i al s=N1 (s',log) ->∃tr:List (ae×Rec),tr.map (·.1)=al/\log=aFe i tr/\s'.ρ=uZ (λ_=>Pa) 0 tr s.ρ/\s'.H=cW s.H tr tr.length /\ (∀(k:Nat) o r,tr[k]? = N1 (o,r)->yq call c (uZ (λj=>decide (j<k)) 0 tr s.ρ) (cW s.H tr k) o r/\cW s.H tr (k+1)=r.H2/\∀x∈r.wr.getD [],x<c.base->x∈s'.wr) /\ (∀x∈s.wr,x∈s'.wr)
 | [],i,s,s',log,h=>by
  simp only[nT,AG,BK]at h;obtain⟨rfl,rfl⟩:=h;exact⟨[],rfl,rfl,rfl,rfl,λk o r h=>by simp at h,λ_ h=>h⟩
 |o::al,i,s,s',log,h=>by
  have step:∀(r:Rec)(s1:gp)(log1:Log),yq call c s.ρ s.H o r->s1.ρ=bg s.ρ o.dst r.v->s1.H=r.H2->(∀x∈s.wr,x∈s1.wr)->(∀x∈r.wr.getD [],x<c.base->x∈s1.wr) ->
    nT call c (i+1) al s1=N1 (s',log1)->log=(if r.want then (i,r.rd,r.wr)::log1 else log1) ->
    ∃tr:List (ae×Rec),tr.map (·.1)=o::al/\log=aFe i tr/\s'.ρ=uZ (λ_=>Pa) 0 tr s.ρ/\s'.H=cW s.H tr tr.length /\
     (∀(k:Nat) o r,tr[k]? = N1 (o,r)->yq call c (uZ (λj=>decide (j<k)) 0 tr s.ρ) (cW s.H tr k) o r/\cW s.H tr (k+1)=r.H2/\∀x∈r.wr.getD [],x<c.base->x∈s'.wr) /\
     (∀x∈s.wr,x∈s'.wr):=by
   intro r s1 log1 hr hρ hH hw gn mz zg;obtain⟨tr,h1,h2,h3,h4,h5,h6⟩:=aEK al (i+1) s1 s' log1 mz;refine⟨(o,r)::tr,by simp[h1],by rw[zg,h2];simp only[aFe], ?_, ?_,λk o' r' hk=>?_,λx hx=>h6 x (hw x hx)⟩
   .simp only[uZ,Vu];rw[aDY,<- hρ];exact h3
   .simp only[AW,cW];rw[<- hH];exact h4
   cases k with
   |zero=>
    simp only[BG,AG,BK]at hk;obtain⟨rfl,rfl⟩:=hk;have sc:∀(l:List (ae×Rec))(n:Nat)(ρ:LA),uZ (λj=>decide (j<0)) n l ρ=ρ:=by
     intro l
     induction l with
     |nil=>intro n ρ;rfl
     |cons x l ih=>intro n ρ;obtain⟨a,b⟩:=x;simp only[uZ,Nat.not_lt_zero,decide_false,BX,Vt];exact ih _ _
    rw[sc];refine⟨hr, ?_,λx hx hb=>h6 x (gn x hx hb)⟩;simp only[cW];cases tr<;>rfl
   |succ k=>
    have xe:tr[k]? = N1 (o',r'):=uWs
    obtain⟨a1,a2,a3⟩:=h5 k o' r' xe;refine⟨?_, ?_,a3⟩
    .have e1:uZ (λj=>decide (j<k+1)) 0 ((o,r)::tr) s.ρ=uZ (λj=>decide (j<k)) 0 tr s1.ρ:=by
      simp only[uZ];rw[aDY,hρ];simp
     have e2:cW s.H ((o,r)::tr) (k+1)=cW s1.H tr k:=by simp only[cW];rw[<- hH]
     rw[e1,e2];exact a1
    simp only[cW];rw[<- hH];exact a2
  unfold nT at h;split at h
  .rename_i hg;split at h
   .rename_i hw;split at h
    .rename_i v H' rd wr je;split at h
     .rename_i s2 log2 mz;cases h;exact step ⟨v,Pa,rd,wr,H'⟩ _ log2 ⟨hg,hw.symm,λ_=>je,λe=>uWZ⟩ rfl rfl (λx hx=>(cE _ _ _).1 x hx) (λx hx hb=>(cE _ _ _).2 x hx hb) mz rfl
     cases h
    cases h
   rename_i hw;exact step ⟨.tup [],Po,[],N2,s.H⟩ ⟨bg s.ρ o.dst (.tup []),s.H,s.wr⟩ log ⟨hg,(by simpa using hw),λe=>uWZ,λ_=>⟨rfl,rfl,rfl,rfl⟩⟩ rfl rfl (λx hx=>hx) (λx hx=>by simp at hx) h rfl
  cases h
def aK5:∀(tr:List (ae×Rec))(i k:Nat)(o:ae)(r:Rec),tr[k]? = N1 (o,r)->r.want=Pa->(i+k,r.rd,r.wr)∈aFe i tr
 | [],i,k,o,r,h,_=>by simp at h
 | (o1,r1)::tr,i,k,o,r,h,hw=>by
  cases k with
  |zero=>obtain⟨rfl,rfl⟩:=h;simp[aFe,hw]
  |succ k=>
   have:=aK5 tr (i+1) k o r uWg hw
   grind [aFe,BZ]
def bBq(pre:LN)(i:Nat)(r r':Rec):Prop:=
 i∈pre∨(match r.wr,r'.wr with
  |some _,N1 _=>False
  |some ws,N2=>∀x∈r'.rd,x∉ws
  |none,N1 ws=>∀x∈r.rd,x∉ws
  |none,N2=>True)
theorem aG0{a b:LN}(h:dG a b=Pa):∀x∈a,x∉b:=by
 intro x hx hb;have:=AO.1 h x hx
 grind
def aI6(pre:Nat->LN):∀(tr:List (ae×Rec)) n,eH pre (aFe n tr)=Pa->∀(i j:Nat) o r o' r',i<j->tr[i]? = N1 (o,r)->tr[j]? = N1 (o',r')->r.want=Pa->r'.want=Pa ->bBq (pre (n+j)) (n+i) r r'
 | [],n,h,i,j,o,r,o',r',Y4,hi,hj,hw,tv=>by simp at hi
 | (o1,r1)::tr,n,h,i,j,o,r,o',r',Y4,hi,hj,hw,tv=>by
  cases i with
  |zero=>
   obtain⟨rfl,rfl⟩:=hi;cases j with
   |zero=>omega
   |succ j=>
    have hm:=aK5 tr (n+1) j o' r' uWQ tv;simp only[aFe,hw,Vu,eH,AI]at h;have:=AO.1 h.1 _ hm;rw[show n+1+j=n+(j+1)by omega]at this;simp only[EA,List.contains_iff_mem]at this;rcases this with this|this
    .exact .inl this
    refine .inr ?_
    grind [aG0]
  |succ i=>
   cases j with
   |zero=>omega
   |succ j=>
    have h':eH pre (aFe (n+1) tr)=true:=by
     simp only[aFe]at h;split at h
     all_goals simp_all [eH,AI]
    have:=aI6 pre tr (n+1) h' i j o r o' r' omT (by simpa using hi) uWQ hw tv
    grind
def aK6:∀(tr:List (ae×Rec))(H:LO)(m m':Nat),m<=tr.length->m'<=tr.length ->(∀k o r,tr[k]? = N1 (o,r)->r.wr=N2->r.H2=cW H tr k)->(∀k o r,tr[k]? = N1 (o,r)->r.wr≠N2->(k<m↔k<m'))->cW H tr m=cW H tr m':=by
 intro tr H m m' hm oq hR hW;have next:∀(tr:List (ae×Rec))(H:LO) k o r,tr[k]? = N1 (o,r)->cW H tr (k+1)=r.H2:=by
  intro tr
  induction tr with
  |nil=>grind
  |cons x tr ih=>
   intro H k o r h;cases k with
   |zero=>simp only[BG,AG]at h;subst h;simp only[cW];cases tr<;>rfl
   |succ k=>simp only[cW];grind
 have walk:∀(d a:Nat),a+d<=tr.length->(∀k o r,tr[k]? = N1 (o,r)->r.wr≠N2->¬(a<=k/\k<a+d))->cW H tr (a+d)=cW H tr a:=by
  intro d
  induction d with
  |zero=>grind
  |succ d ih=>
   intro a hd hn;have hlt:a+d<tr.length:=omT;have hk:tr[a+d]? = N1 (tr[a+d].1,tr[a+d].2):=uXk
   grind
 rcases PI m m' with h|h
 .obtain⟨d,rfl⟩:=GN h;exact (walk d m oq λk o r h1 h2 h3=>by grind).symm
 obtain⟨d,rfl⟩:=GN h;exact walk d m' hm λk o r h1 h2 h3=>by grind
section
variable {P:CU}{ab:cu}
def aMH(all:List HP):∀(l:List HP)(pres:List LN)(i:Nat) o,l[i]? = N1 o ->∃ao,(aDQ P ab all l pres)[i]? = N1 ao/\ao.pre=aJM (pres++((aDQ P ab all l pres).take i).map ae.pre) o
 | [],pres,i,o,h=>by simp at h
 |o1::l,pres,i,o,h=>by
  cases i with
  |zero=>simp at h;subst h;exact⟨_,rfl,by simp[aDQ]⟩
  |succ i=>obtain⟨ao,h1,h2⟩:=aMH all l (pres++[aJM pres o1]) i o uWg;refine⟨ao,by simpa [aDQ]using h1, ?_⟩;rw[h2];simp[aDQ]
structure K3(ops:Array HP)(al:List ae):Prop where
 len:al.length=ops.size
 back:∀(k:Nat) ao,al[k]? = N1 ao->∀x∈ao.pre,x<k
 of:∀(k:Nat) o ao,ops[k]? = N1 o->al[k]? = N1 ao->∀e∈o.after,LZ .any e=Pa->e.on∈ao.pre
 to:∀(k:Nat) o ao,ops[k]? = N1 o->al[k]? = N1 ao->∀x∈ao.pre,∃e∈o.after,LZ .any e=Pa/\(x=e.on∨∃ao',al[e.on]? = N1 ao'/\x∈ao'.pre)
 ord:∀(i j:Nat) o p,i≠j->al[i]? = N1 o->al[j]? = N1 p->∀t,p.dst=N1 t->t∈o.names->(if i<j then i∈p.pre else j∈o.pre)
def aR7{ops:Array HP}(hd:aOK (aDQ P ab ops.toList ops.toList [])=Pa):K3 ops (aDQ P ab ops.toList ops.toList []):=by
 have ax:(aDQ P ab ops.toList ops.toList []).length=ops.size:=by rw[(aCU ops ops.toList []).1];simp
 have da:∀k ao,(aDQ P ab ops.toList ops.toList [])[k]? = N1 ao->ao.pre.all (λx=>decide (x<k))=Pa /\
   ((aDQ P ab ops.toList ops.toList []).zipIdx.all λ(p,j)=>k==j || aLx k ao j p)=true:=λk ao h=>by
  have hm:(ao,k)∈(aDQ P ab ops.toList ops.toList []).zipIdx:=by rw[CO];exact⟨k,by simp[ML,h]⟩
  have:=AO.1 hd _ hm;simpa only[AI]using this
 have sd:∀k o ao,ops[k]? = N1 o->(aDQ P ab ops.toList ops.toList [])[k]? = N1 ao->ao.pre=aJM (((aDQ P ab ops.toList ops.toList []).take k).map ae.pre) o:=λk o ao h1 h2=>by
  obtain⟨ao',h3,h4⟩:=aMH ops.toList ops.toList [] k o uWk;rw[h2]at h3;cases h3;simpa using h4
 refine⟨ax,λk ao h x hx=>?_,λk o ao h1 h2 e he hb=>?_,λk o ao h1 h2 x hx=>?_,λi j o p bl h1 h2 t ht hn=>?_⟩
 .simpa using AO.1 (da k ao h).1 x hx
 .rw[sd k o ao h1 h2];unfold aJM;rw[aIW,IM];exact⟨e,uXe,by simp[hb]⟩
 .rw[sd k o ao h1 h2]at hx;unfold aJM at hx;rw[aIW,IM]at hx;obtain⟨e,he,hx⟩:=hx;split at hx
  .rename_i hb;refine⟨e,uXe,hb, ?_⟩;rcases BD.1 hx with rfl|hx
   .exact .inl rfl
   refine .inr ?_;rw[BN,List.getElem?_take]at hx;split at hx
   .cases hq:(aDQ P ab ops.toList ops.toList [])[e.on]? with
    |none=>rw[hq]at hx;simp at hx
    |some ao'=>rw[hq]at hx;exact⟨ao',rfl,uWn⟩
   simp at hx
  simp at hx
 have hm:(p,j)∈(aDQ P ab ops.toList ops.toList []).zipIdx:=by rw[CO];exact⟨j,by simp[ML,h2]⟩
 have:=AO.1 (da i o h1).2 _ hm;simp only[aLx,ht,EA,beq_iff_eq,bl,false_or,KB]at this;rcases this with h|h
 .have:¬(t∈o.names):=uWg
  exact Vv hn this
 split
 .rename_i hlt;rw[Vx hlt]at h;simpa using h
 rename_i hlt;rw[Vw hlt]at h;simpa using h
def cnt:Nat->(Nat->Bool)->Nat
 |0,_=>0
 |k+1,p=>cnt k p+(if p k then 0 else 1)
def aK7{p q:Nat->Bool}:∀(n:Nat),(∀k,k<n->p k=q k)->cnt n p=cnt n q
 |0,_=>rfl
 |n+1,h=>by simp only[cnt];rw[aK7 n λk hk=>h k omT,h n omT]
def aOY{p q:Nat->Bool}{i:Nat}:∀(n:Nat),i<n->p i=Po->q i=Pa->(∀k,k≠i->q k=p k)->cnt n q+1=cnt n p
 |0,h,_,_,_=>by omega
 |n+1,h,hp,hq,hr=>by
  simp only[cnt];by_cases e:i=n
  .subst e;rw[aK7 i λk hk=>hr k omT];simp[hp,hq]
  have:=aOY n omT hp hq hr;rw[hr n (Ne.symm e)];omega
def aMI{p:Nat->Bool}:∀(n:Nat),cnt n p=0->∀k,k<n->p k=Pa
 |0,_,k,hk=>by omega
 |n+1,h,k,hk=>by
  simp only[cnt]at h;by_cases e:k=n
  .subst e;cases hp:p k with
   |true=>rfl
   |false=>simp[hp]at h
  exact aMI n omT k omT
def aSM{p:Nat->Bool}:∀(n:Nat),cnt n p<=n
 |0=>AQ _
 |n+1=>by simp only[cnt];have:=aSM (p:=p) n;split<;>omega
end
section
variable {P:CU}{ab:cu}{ops:Array HP}{call:Nat->LA->LO->Out}{c:Ctx}{tr:List (ae×Rec)}{ρ0:LA}{H0:LO}{ba:LN}
structure Env(P:CU)(ab:cu)(ops:Array HP)(call:Nat->LA->LO->Out)(c:Ctx)(tr:List (ae×Rec))(ρ0:LA)(H0:LO)(ba:LN):Prop where
 az:oT P ab call
 fr:bL9 call
 pre:K3 ops (tr.map (·.1))
 comp:∀(i:Nat) o ao r,ops[i]? = N1 o->tr[i]? = N1 (ao,r)->Xd P ab ops o ao
 ok:∀(k:Nat) o r,tr[k]? = N1 (o,r)->yq call c (uZ (λj=>decide (j<k)) 0 tr ρ0) (cW H0 tr k) o r
 next:∀(k:Nat) o r,tr[k]? = N1 (o,r)->cW H0 tr (k+1)=r.H2
 wrs:∀(k:Nat) o r,tr[k]? = N1 (o,r)->∀x∈r.wr.getD [],x<c.base->x∈ba
 pair:∀(i j:Nat) o r o' r',i<j->tr[i]? = N1 (o,r)->tr[j]? = N1 (o',r')->r.want=Pa->r'.want=Pa->bBq o'.pre i r r'
 pf:∀(k:Nat) o r zs id,tr[k]? = N1 (o,r)->o.op=.alloc zs->c.site o.dst=N1 id->o.guard=N2/\o.pre=[]/\id<H0.length/\∃v,H0[id]? = N1 (.box v zs)
def zD(h:tr[k]? = N1 (o,r)):(tr.map (·.1))[k]? = N1 o:=uXi
def Env.quiet(E:Env P ab ops call c tr ρ0 H0 ba)(h:tr[k]? = N1 (o,r))(hn:r.wr=N2):r.H2=cW H0 tr k:=by
 have hr:=E.ok k o r h;cases hw:r.want with
 |false=>exact (hr.no hw).2.1
 |true=>exact (aJ2 E.fr (hr.yes hw)).2.1 hn
def Env.qg(E:Env P ab ops call c tr ρ0 H0 ba)(h:tr[k]? = N1 (o,r))(hn:r.wr≠N2):r.want=true:=by
 have hr:=E.ok k o r h;cases hw:r.want with
 |false=>exact Vv (hr.no hw).2.2.2 hn
 |true=>rfl
def Env.step(E:Env P ab ops call c tr ρ0 H0 ba)(h:tr[k]? = N1 (o,r)):(cW H0 tr k).length<=r.H2.length/\∀x,x∉r.wr.getD []->r.H2[x]? = (cW H0 tr k)[x]? := by
 have hr:=E.ok k o r h;cases hw:r.want with
 |false=>rw[(hr.no hw).2.1];exact⟨AQ _,λ_ _=>rfl⟩
 |true=>
  obtain⟨h1,_,h3⟩:=aJ2 E.fr (hr.yes hw);refine⟨h1.1,λx hx=>?_⟩;by_cases hlt:x<(cW H0 tr k).length
  .exact h1.2 x hlt hx
  have nj:=Nat.le_of_not_lt λcr=>hx (h3 x omT cr);rw[CY omT,CY omT]
def Env.len(E:Env P ab ops call c tr ρ0 H0 ba):∀m,m<=tr.length->H0.length<=(cW H0 tr m).length
 |0,_=>by cases tr<;>exact AQ _
 |m+1,h=>by
  have hk:tr[m]? = N1 (tr[m].1,tr[m].2):=AP omT;rw[E.next m _ _ hk];exact HX (E.len m omT) (E.step hk).1
def Env.read(E:Env P ab ops call c tr ρ0 H0 ba){x m m':Nat}(hm:m<=tr.length)(oq:m'<=tr.length)(h:∀(k:Nat) o r,tr[k]? = N1 (o,r)->r.wr≠N2->(k<m↔k<m')∨x∉r.wr.getD []):(cW H0 tr m)[x]? = (cW H0 tr m')[x]? := by
 have walk:∀(d a:Nat),a+d<=tr.length->(∀(k:Nat) o r,tr[k]? = N1 (o,r)->r.wr≠N2->a<=k->k<a+d->x∉r.wr.getD [])->(cW H0 tr (a+d))[x]? = (cW H0 tr a)[x]? := by
  intro d
  induction d with
  |zero=>intro a _ _;rfl
  |succ d ih=>
   intro a hd hn;have hk:tr[a+d]? = N1 (tr[a+d].1,tr[a+d].2):=AP omT;rw[show a+(d+1)=a+d+1 by omega,E.next (a+d) _ _ hk];have:x∉tr[a+d].2.wr.getD []:=by
    cases hq:tr[a+d].2.wr with
    |none=>simp
    |some w=>have:=hn (a+d) _ _ hk (by rw[hq];simp) omT omT;rwa [hq]at this
   rw[(E.step hk).2 x this];exact ih a omT λk o r h1 h2 h3 h4=>hn k o r h1 h2 h3 omT
 rcases PI m m' with hle|hle
 .obtain⟨d,rfl⟩:=GN hle;exact (walk d m oq λk o r h1 h2 h3 h4=>(h k o r h1 h2).elim (λh5=>omT) id).symm
 obtain⟨d,rfl⟩:=GN hle;exact walk d m' hm λk o r h1 h2 h3 h4=>(h k o r h1 h2).elim (λh5=>omT) id
structure Inv(P:CU)(ab:cu)(c:Ctx)(tr:List (ae×Rec))(ρ0:LA)(H0:LO)(ba:LN)(g0:G)(w0:BL)(d:List HU)(L:Nat->Bool)(g:G)(a:Act)(w:BL):Prop where
 closed:∀(k:Nat) o r,tr[k]? = N1 (o,r)->L k=Pa->∀x∈o.pre,L x=Pa
 pos:∃m,m<=tr.length/\(∀(k:Nat) o r,tr[k]? = N1 (o,r)->r.wr≠N2->(L k=Pa↔k<m))/\∃W,Step g0 H0 w0 g (cW H0 tr m) w W/\∀o∈W,o<c.base->o∈ba
 bm:aX g (uZ L 0 tr ρ0) a.tmps
 defers:a.defers=d
 ab:bM P ab g
 unb:∀(k:Nat) o r zs id,tr[k]? = N1 (o,r)->o.op=.alloc zs->c.site o.dst=N1 id->L k=Po->∀l,g.obj id=N1 l->l.st<(H0[id]?).elim 0 ah.ver
variable {g0:G}{w0:BL}{d:List HU}{L:Nat->Bool}{g:G}{a:Act}{w:BL}
def Inv.names(E:Env P ab ops call c tr ρ0 H0 ba)(I:Inv P ab c tr ρ0 H0 ba g0 w0 d L g a w)(hi:tr[i]? = N1 (o,r))(hL:L i=Po)(hp:∀x∈o.pre,L x=Pa):∀t∈o.names,(uZ L 0 tr ρ0)[t]? = (uZ (λj=>decide (j<i)) 0 tr ρ0)[t]? := by
 intro t ht;refine aCY _ _ t tr 0 ρ0 ρ0 rfl rfl λk ok rk hk hd=>?_;simp only[BC];by_cases e:k=i
 .subst e;rw[hL];simp
 have:=E.pre.ord i k o ok (Ne.symm e) (zD hi) (zD hk) t hd ht;split at this
 .rename_i hlt;have h1:L k=false:=by
   cases hq:L k with
   |false=>rfl
   |true=>have:=I.closed k ok rk hk hq i this;rw[hL]at this;cases this
  rw[h1];simp;omega
 rename_i hlt;rw[hp k this];simp;omega
def Inv.put(E:Env P ab ops call c tr ρ0 H0 ba)(I:Inv P ab c tr ρ0 H0 ba g0 w0 d L g a w)(hi:tr[i]? = N1 (o,r))(hL:L i=Po)(hle:g.le g'){x:BE}(hv:ai g' r.v x):aX g' (uZ (λj=>L j || j==i) 0 tr ρ0) (a.put o.dst x).tmps:=by
 have h1:=(I.bm.mono hle).bg hv o.dst;refine⟨by rw[aFy];have:=h1.1;rw[fH,aFy]at this;exact this,λt=>?_⟩;have:=aR6 L i tr 0 ρ0 ρ0 o r hi rfl (by simpa using hL) (λk o' r' hk hlt t h2 h3=>by
  simp only[BC];have:=E.pre.ord i k o o' omT (zD hi) (zD hk) t h3 (by simp[ae.names,h2]);rw[Vx hlt]at this;cases hq:L k with
  |false=>rfl
  |true=>have:=I.closed k o' r' hk hq i this;rw[hL]at this;cases this) t rfl
 simp only[BC]at this;rw[this];exact h1.2 t
def Inv.F6(E:Env P ab ops call c tr ρ0 H0 ba)(I:Inv P ab c tr ρ0 H0 ba g0 w0 d L g a w)(hi:tr[i]? = N1 (o,r))(hL:L i=Po)(hp:∀x∈o.pre,L x=Pa)(hw:r.wr≠N2):∀(k:Nat) ok rk,tr[k]? = N1 (ok,rk)->rk.wr≠N2->(L k=Pa↔k<i):=by
 intro k ok rk hk pg;rcases NV k i with h|h|h
 .have:=E.pair k i ok rk o r h hk hi (E.qg hk pg) (E.qg hi hw);rcases this with this|this
  .simp[hp k this,h]
  cases hq:rk.wr with
  |none=>exact Vv hq pg
  |some a=>cases Qq:r.wr with
   |none=>exact Vv Qq hw
   |some b=>rw[hq,Qq]at this;exact this.elim
 .subst h;rw[hL];simp
 have:=E.pair i k o r ok rk h hi hk (E.qg hi hw) (E.qg hk pg);rcases this with this|this
 .have h1:L k=false:=by
   cases hq:L k with
   |false=>rfl
   |true=>have:=I.closed k ok rk hk hq i this;rw[hL]at this;cases this
  rw[h1];simp;omega
 cases hq:r.wr with
 |none=>exact Vv hq hw
 |some a=>cases Qq:rk.wr with
  |none=>exact Vv Qq pg
  |some b=>rw[hq,Qq]at this;exact this.elim
def Inv.reads(E:Env P ab ops call c tr ρ0 H0 ba)(I:Inv P ab c tr ρ0 H0 ba g0 w0 d L g a w){m:Nat}(hi:tr[i]? = N1 (o,r))(hL:L i=Po)(hp:∀x∈o.pre,L x=Pa)(hw:r.wr=N2)(K4:r.want=Pa)(hm:m<=tr.length)(kj:∀(k:Nat) o r,tr[k]? = N1 (o,r)->r.wr≠N2->(L k=Pa↔k<m)):∀x∈r.rd,(cW H0 tr m)[x]? = (cW H0 tr i)[x]? := by
 intro x hx;have hlt:i<tr.length:=(AH.1 hi).1;refine E.read hm omT λk ok rk hk pg=>?_;have Qz:=kj k ok rk hk pg;obtain⟨ws,zh⟩:=Ca.1 pg;rcases NV k i with h|h|h
 .cases hq:L k with
  |true=>rw[hq]at Qz;left;simp at Qz;omega
  |false=>
   have:=E.pair k i ok rk o r h hk hi (E.qg hk pg) K4;rcases this with this|this
   .rw[hp k this]at hq;cases hq
   rw[zh,hw]at this;right;rw[zh];exact this x hx
 .subst h;rw[hi]at hk;cases hk;exact Vv hw pg
 cases hq:L k with
 |false=>rw[hq]at Qz;left;simp at Qz;omega
 |true=>
  have:=E.pair i k o r ok rk h hi hk K4 (E.qg hk pg);rcases this with this|this
  .have:=I.closed k ok rk hk hq i this;rw[hL]at this;cases this
  rw[hw,zh]at this;right;rw[zh];exact this x hx
end
section
variable {P:CU}{ab:cu}{ops:Array HP}{call:Nat->LA->LO->Out}{c:Ctx}{tr:List (ae×Rec)}{ρ0:LA}{H0:LO}{ba:LN}
variable {g0:G}{w0:BL}{d:List HU}{L:Nat->Bool}{g:G}{a:Act}{w:BL}
def aA8.mono{o:HP}{R R':BE->BL->Prop}(h:aA8 P o a w R)(hr:∀v w',R v w'->R' v w'):aA8 P o a w R':=by
 rcases h with⟨v,w',h1,h2⟩ | ⟨w',h1,h2⟩ | ⟨f,args,w1,h1,h2⟩ | ⟨l,f,t,b,c,w1,h1,h2⟩
 .exact .inl ⟨v,w',h1,hr _ _ h2⟩
 .exact .inr (.inl ⟨w',h1,hr _ _ h2⟩)
 .exact .inr (.inr (.inl ⟨f,args,w1,h1,h2.mono λe w' he=>by grind⟩))
 exact .inr (.inr (.inr ⟨l,f,t,b,c,w1,h1,h2.mono λe w' he=>by grind⟩))
def aMJ{c:Ctx}{d1 d2:Option Nat}{id:Nat}(h1:c.site d1=N1 id)(h2:c.site d2=N1 id):d1=d2/\∃t,d1=N1 t:=by
 unfold Ctx.site at h1 h2;cases d1 with
 |none=>simp at h1
 |some t1=>
  cases d2 with
  |none=>simp at h2
  |some t2=>
   obtain⟨i1,e1,f1⟩:=map_some h1;obtain⟨i2,e2,f2⟩:=map_some h2;obtain⟨x1,y1,_⟩:=GW.1 e1;obtain⟨x2,y2,_⟩:=GW.1 e2
   grind
def Env.zi(E:Env P ab ops call c tr ρ0 H0 ba){id:Nat}(hk:tr[k]? = N1 (o,r))(ho:o.op=.alloc zs)(hs:c.site o.dst=N1 id):r.want=Pa/\r.rd=[id]/\r.wr=N2/\r.v=.ptr id (((cW H0 tr k)[id]?).elim 0 ah.ver) 0:=by
 obtain⟨h1,h2,h3,h4⟩:=E.pf k o r zs id hk ho hs;have hr:=E.ok k o r hk;have hw:r.want=true:=by rw[hr.want];unfold wanted;rw[h1]
 have:=hr.yes hw
 grind [aFJ,AG,BK]
theorem aCZ{f:α->df}{x:Option α}{y:df}(h:x.map f=N1 y)(hf:∀z,f z≠y):False:=uWl
def aOZ{dst op type pos after guard zs}(nw:cOp P ab ⟨dst,op,type,pos,after,guard⟩=N1 (.alloc zs)):∃t,op=.alloc t/\zeroCells? P ab t=N1 zs:=by
 unfold cOp at nw;split at nw
 case h_4=>
  split at nw
  all_goals simp_all
 all_goals grind [aCZ]
def Inv.apart(E:Env P ab ops call c tr ρ0 H0 ba)(I:Inv P ab c tr ρ0 H0 ba g0 w0 d L g a w){id:Nat}(hk:tr[k]? = N1 (o,r))(ho:o.op=.alloc zs)(hs:c.site o.dst=N1 id)(hL:L k=Po){oi:ae}{ri:Rec}(hi:tr[i]? = N1 (oi,ri))(hLi:L i=Pa∨∀x∈oi.pre,L x=Pa)(hw:ri.wr≠N2):id∉ri.wr.getD []:=by
 obtain⟨h1,h2,h3,h4⟩:=E.zi hk ho hs;obtain⟨ws,zh⟩:=Ca.1 hw;have sd:∀x∈oi.pre,L x=true:=by
  rcases hLi with h|h
  .exact I.closed i oi ri hi h
  exact h
 rcases NV k i with h|h|h
 .have:=E.pair k i o r oi ri h hk hi h1 (E.qg hi hw);rcases this with this|this
  .rw[sd k this]at hL;cases hL
  rw[h3,zh]at this;rw[zh];exact this id (by rw[h2];simp)
 .subst h;rw[hk]at hi;cases hi;exact Vv h3 hw
 have:=E.pair i k oi ri o r h hi hk (E.qg hi hw) h1;rcases this with this|this
 .rw[(E.pf k o r zs id hk ho hs).2.1]at this;simp at this
 rw[h3,zh]at this;rw[zh];exact this id (by rw[h2];simp)
def Inv.go(E:Env P ab ops call c tr ρ0 H0 ba)(I:Inv P ab c tr ρ0 H0 ba g0 w0 d L g a w)(hi:tr[i]? = N1 (o,r))(hL:L i=Po)(hp:∀x∈o.pre,L x=Pa){x:BE}{w':BL}(hoo:o.dst=oo.dst)(hle:g.le g')(hv:ai g' r.v x)(kj:∃m,m<=tr.length/\(∀(k:Nat) ok rk,tr[k]? = N1 (ok,rk)->rk.wr≠N2->((L k || k==i)=Pa↔k<m))/\∃W,Step g0 H0 w0 g' (cW H0 tr m) w' W/\∀o∈W,o<c.base->o∈ba)(F7:∀(k:Nat) ok rk zs id,tr[k]? = N1 (ok,rk)->ok.op=.alloc zs->c.site ok.dst=N1 id->k≠i->L k=Po->g'.obj id=g.obj id):Inv P ab c tr ρ0 H0 ba g0 w0 d (λj=>L j || j==i) g' (a.put oo.dst x) w':=by
 refine⟨λk ok rk hk A2 y hy=>?_,kj, ?_,by rw[aDW,I.defers],I.ab.mono hle,λk ok rk zs id hk ho hs A2 l hl=>?_⟩
 .simp only[EA,beq_iff_eq]at A2 ⊢;rcases A2 with h|h
  .exact .inl (I.closed k ok rk hk h y hy)
  subst h;rw[hi]at hk;cases hk;exact .inl (hp y hy)
 .rw[<- hoo];exact I.put E hi hL hle hv
 simp only[Bool.or_eq_false_iff,beq_eq_false_iff_ne]at A2;rw[F7 k ok rk zs id hk ho hs A2.2 A2.1]at hl;exact I.unb k ok rk zs id hk ho hs A2.1 l hl
def Inv.no(E:Env P ab ops call c tr ρ0 H0 ba)(I:Inv P ab c tr ρ0 H0 ba g0 w0 d L g a w)(hi:tr[i]? = N1 (o,r))(hL:L i=Po)(hp:∀x∈o.pre,L x=Pa)(hoo:o.dst=oo.dst)(hw:r.want=Po):Inv P ab c tr ρ0 H0 ba g0 w0 d (λj=>L j || j==i) g (a.put oo.dst EE) w:=by
 obtain⟨h1,h2,h3,h4⟩:=(E.ok i o r hi).no hw;refine I.go E hi hL hp hoo (G.le.refl g) (by rw[h1];exact .skip _) ?_ λ_ _ _ _ _ _ _ _ _ _=>rfl;obtain⟨m,hm,kj,W,hs,hb⟩:=I.pos
 grind
def Inv.yes(E:Env P ab ops call c tr ρ0 H0 ba)(I:Inv P ab c tr ρ0 H0 ba g0 w0 d L g a w)(hi:tr[i]? = N1 (o,r))(hL:L i=Po)(hp:∀x∈o.pre,L x=Pa)(hops:ops[i]? = N1 oo)(hw:r.want=Pa):aA8 P oo a w λx w'=>∃g',Inv P ab c tr ρ0 H0 ba g0 w0 d (λj=>L j || j==i) g' (a.put oo.dst x) w':=by
 have nx:=E.comp i oo o r hops hi;have xp:=E.ok i o r hi;have je:=xp.yes hw;have xq:=I.names E hi hL hp;have hlt:=(AH.1 hi).1;obtain⟨m,hm,kj,W,hs,hb⟩:=I.pos;have se:∀t∈o.op.bm,(uZ L 0 tr ρ0)[t]? = (uZ (λj=>decide (j<i)) 0 tr ρ0)[t]? := λt ht=>xq t (by simp[ae.names,ht]);have Qx:∀op,o.op=op->op≠.bad->cOp P ab oo=N1 op:=λop e F2=>by
  rw[nx.op]at e;cases hq:cOp P ab oo with
  |none=>rw[hq]at e;exact Vv e.symm F2
  |some op'=>rw[hq]at e;simp at e;rw[e]
 unfold aFJ at je;split at je
 ·
  rename_i zs id su qh;simp only[AG,BK]at je;obtain⟨hrv,hH2,zj,ma⟩:=je;obtain⟨_,hpre0,hid,v,Y6⟩:=E.pf i o r zs id hi su qh;have hHm:(cW H0 tr m)[id]? = N1 (.box v zs):=by
   have h0:cW H0 tr 0=H0:=by cases tr<;>rfl
   have zj:(cW H0 tr m)[id]? = (cW H0 tr 0)[id]? := ?_
   .rw[zj,h0,Y6]
   refine E.read hm (FF _) λk ok rk hk pg=>?_;cases hq:L k with
   |false=>left;have:=kj k ok rk hk pg;rw[hq]at this;simp at this;omega
   |true=>right;exact I.apart E hi su qh hL hk (.inl hq) pg
  have hHi:(cW H0 tr i)[id]? = N1 (.box v zs):=by rw[<- I.reads E hi hL hp ma.symm hw hm kj id (by rw[<- zj];simp)];exact hHm
  have hidm:=FU hid (E.len m hm);have nw:=Qx _ su siT;obtain⟨dst,op,type,pos,after,guard⟩:=oo;have F7:=I.unb i o r zs id hi su qh hL;rw[Y6]at F7;have lg:(cW H0 tr m).set id (.box v zs)=cW H0 tr m:=by
   apply HN;intro j;by_cases e:j=id
   .subst e;simp[hidm];have:=hHm;simp[hidm]at this;exact this.symm
   rw[getElem?_set_ne' _ _ (Ne.symm e)]
  have j8:=aOZ nw;obtain⟨t,rfl,hz⟩:=j8;obtain⟨it,z,hinfo,tq,ub⟩:=zeroCells?_spec hz;have bn:Step g (cW H0 tr m) w (g.setObj id ⟨w.heap.size,v,0,0,0⟩) ((cW H0 tr m).set id (.box v zs)) (w.alloc (.cells z.cells t)) [id]:=by
   refine Step.update hs.wf id (.box v zs) ⟨w.heap.size,v,0,0,0⟩ hidm siT (λb du _=>cK rfl du) siT (.inl (AQ _)) rfl rfl (λl hl=>?_) λhle=>⟨rfl,wV rfl,λj c hj=>?_⟩
   .have:=F7 l hl;simp only[HC,ah.ver]at this;exact⟨Nat.le_of_lt this,λe=>by have e':v=l.st:=e;omega⟩
   have hl:=ub g;have tt:=(AH.1 hj).1;have ax:=hl.1;simp at ax;exact⟨z.cells[j]'omT,siT,(hl.2 j c _ hj siT).mono hle⟩
  rw[lg]at bn;refine .inl ⟨.pointer (N1 ⟨w.heap.size,0,N2⟩),w.alloc (.cells z.cells t),by simp[execOp,Instr.alloc,zeroValue,typeInfo,hinfo,tq,newVar,newRow],_,I.go E hi hL hp nx.dst bn.le ?_ ?_ ?_⟩
  .rw[<- hrv,hHi];exact .ptr id v 0 _ _ (by simp[G.setObj];rfl) (AQ _) λ_ _=>rfl
  .refine⟨m,hm,λk ok rk hk pg=>?_,W++[id],hs.trans bn,λo' ho du=>?_⟩
   .have:k≠i:=λe=>by subst e;rw[hi]at hk;cases hk;exact pg ma.symm
    simp only[EA,beq_iff_eq,this,or_false];exact kj k ok rk hk pg
   rcases AY.1 ho with ho|ho
   .exact hb o' ho du
   simp only[CG]at ho;have:=aLB qh;omega
  intro k ok rk zs' id' hk z7 ml bl A2;have:id'≠id:=λe=>by
   subst e;obtain⟨e1,t1,e2⟩:=aMJ ml qh;have:=E.pre.ord i k o ok (Ne.symm bl) (zD hi) (zD hk) t1 e2 (by simp[ae.names,show o.dst=N1 t1 from e1 ▸ e2]);split at this
   .rw[(E.pf k ok rk zs' id' hk z7 ml).2.1]at this;simp at this
   rw[hpre0]at this;simp at this
  simp[G.setObj,this]
 rename_i op site Qr;have bl:o.op≠.bad:=λe=>by
  rw[e]at je;simp[isW,evR]at je
 have nw:=Qx _ rfl bl;split at je
 ·
  split at je
  .rename_i v H' wr hevw;obtain⟨wr0,ma,Kb,hv0,hH0⟩:∃wr0,N1 wr0=r.wr/\(∀x∈wr,x∈wr0)/\v=r.v/\H'=r.H2:=by
    split at je
    .simp only[AG,BK]at je;exact⟨wr,je.2.2.2,λ_ h=>h,je.1,je.2.1⟩
    split at je
    .simp only[AG,BK]at je;exact⟨_,je.2.2.2,λx h=>AY.2 (.inl h),je.1,je.2.1⟩
    cases je
   subst hv0;subst hH0;have K5:r.wr≠none:=by rw[<- ma];simp
   have hwrs:=I.F6 E hi hL hp K5;have hHeq:=aK6 tr H0 m i hm omT (λk ok rk hk hn=>E.quiet hk hn) λk ok rk hk pg=>by rw[<- kj k ok rk hk pg];exact hwrs k ok rk hk pg
   rw[<- hHeq,<- aOU se]at hevw;have hdo:=aK0 nw E.az hevw hs.wf I.ab I.bm;have Z0:=E.next i o r hi
   refine aA8.mono hdo λx w' ⟨g',bd,hv⟩=>⟨g',I.go E hi hL hp nx.dst bd.le hv ⟨i+1,omT,λk ok rk hk pg=>?_,W++wr,by rw[Z0];exact hs.trans bd,λo' ho du=>?_⟩ λk ok rk zs id hk z7 ml bl A2=>?_⟩
   .by_cases e:k=i
    .subst e;simp
    simp only[EA,beq_iff_eq,e,or_false];rw[hwrs k ok rk hk pg];omega
   .rcases AY.1 ho with ho|ho
    .exact hb o' ho du
    exact E.wrs i o r hi o' (by rw[<- ma];exact Kb _ ho) du
   have:=I.apart E hk z7 ml A2 hi (.inr hp) K5;rw[<- ma]at this;exact bd.aq id (FU (E.pf k ok rk zs id hk z7 ml).2.2.1 (E.len m hm)) λh=>this (Kb _ h)
  cases je
 ·
  split at je
  .rename_i v hevr;simp only[AG,BK]at je;obtain⟨rfl,hH2,zj,ma⟩:=je;have A3:=I.reads E hi hL hp ma.symm hw hm kj;rw[<- zj,<- aNJ se]at A3;rw[<- aOT se,<- aR4 A3]at hevr;have hdo:=(aJX nw hevr hs.wf I.ab I.bm).does;refine aA8.mono hdo λx w' ⟨g',bd,hv⟩=>⟨g',I.go E hi hL hp nx.dst bd.le hv ⟨m,hm,λk ok rk hk pg=>?_,W++[],hs.trans bd,λo' ho du=>hb o' (by simpa using ho) du⟩ λk ok rk zs id hk z7 ml bl A2=>?_⟩
   .have:k≠i:=λe=>by subst e;rw[hi]at hk;cases hk;exact pg ma.symm
    simp only[EA,beq_iff_eq,this,or_false];exact kj k ok rk hk pg
   exact bd.aq id (FU (E.pf k ok rk zs id hk z7 ml).2.2.1 (E.len m hm)) siT
  cases je
end
section
variable {P:CU}{ab:cu}{g:G}{H:LO}{w:BL}{a:Act}
def Step.laid(hw:WF g H w){id:Nat}(f:Nat->ah)(hf:∀n,(f n).ver=n)(hid:id<H.length):Step g H w g (make H id f) w [id]:=by
 have Qr:∀l x,au g (make H id f) id l x->False:=λl x hb=>by
  have h1:=hb.Pr;simp only[make,FB,Vu,hid]at h1;injection h1 with h1;have h2:=hw.st id _ l (AP hid) hb.loc;have h3:=hb.st;rw[<- h1,hf]at h3;simp only[AP hid,HC]at h3;omega
 have hold:∀o l x,au g (make H id f) o l x->o≠id/\au g H o l x:=λo l x hb=>by
  have bl:o≠id:=λe=>by subst e;exact Qr l x hb
  exact⟨bl,⟨by have:=hb.Pr;rwa [make,getElem?_set_ne' _ _ (Ne.symm bl)]at this,hb.alive,hb.loc,hb.st⟩⟩
 refine⟨G.le.refl g,⟨hw.perm,λo l hl=>by simpa [make]using hw.lt o l hl,hw.blk,λo x l hx hl=>?_,λo l x hb=>hw.obj o l x (hold o l x hb).2,λo l x hb=>hw.jh o l x (hold o l x hb).2,
  λo o' l l' x x' h1 h2=>hw.inj o o' l l' x x' (hold _ _ _ h1).2 (hold _ _ _ h2).2,hw.whole.aq rfl rfl ⟨rfl,rfl⟩ (λ_ _ _=>rfl) λo l y hl=>.inr ⟨o,l,y,(hold _ _ _ hl).2,rfl⟩⟩,aDS.refl g _ w,λo _ ho=>?_,by simp[make],λ_ l' hl=>.inr ⟨l',hl,rfl⟩,λ_ _ _=>rfl⟩
 .by_cases e:o=id
  .subst e;simp only[make,FB,Vu,hid]at hx;injection hx with hx;rw[<- hx,hf];have:=hw.st o _ l (AP hid) hl;simp only[AP hid,HC];omega
  rw[make,getElem?_set_ne' _ _ (Ne.symm e)]at hx;exact hw.st o x l hx hl
 rw[make,getElem?_set_ne' _ _ (λe=>ho (by simp[e]))]
def wY{c:Ctx}:∀(l:List ae)(H H':LO),WF g H w->cS c H l=N1 H'->∃W,Step g H w g H' w W/\∀o∈W,c.base<=o
 | [],H,H',hw,h=>by simp only[cS,AG]at h;subst h;exact⟨[],.refl hw,λ_ h=>by simp at h⟩
 |o::l,H,H',hw,h=>by
  unfold cS at h;split at h
  .rename_i zs id su hid;split at h
   .rename_i hc;have h1:=Step.laid hw (ah.box · zs) (λ_=>rfl) hc.1;obtain⟨W,h2,h3⟩:=wY l _ H' h1.wf h;refine⟨_,h1.trans h2,λo' ho=>?_⟩
    grind [CG,aLB]
   cases h
  exact wY l H H' hw h
def aAb{c:Ctx}{id:Nat}:∀(l:List ae)(H H':LO),cS c H l=N1 H'->(∀(k:Nat) o zs,l[k]? = N1 o->o.op=.alloc zs->c.site o.dst≠N1 id)->H'[id]? = H[id]?
 | [],H,H',h,_=>by simp only[cS,AG]at h;subst h;rfl
 |o::l,H,H',h,hn=>by
  unfold cS at h;have ze:∀(k:Nat) o zs,l[k]? = N1 o->o.op=.alloc zs->c.site o.dst≠N1 id:=λk o' zs h1=>hn (k+1) o' zs uWk;split at h
  .rename_i zs id' su hid;split at h
   .rw[aAb l _ H' h ze,make,getElem?_set_ne' _ _ (λe=>by subst e;exact hn 0 o zs rfl su hid)]
   cases h
  exact aAb l H H' h ze
def aAc{c:Ctx}:∀(l:List ae)(H H':LO),cS c H l=N1 H'->∀(k:Nat) o zs id,l[k]? = N1 o->o.op=.alloc zs->c.site o.dst=N1 id->o.pre=[]
 | [],H,H',h=>λk o zs id hk=>by simp at hk
 |o::l,H,H',h=>λk o' zs id hk ho hs=>by
  unfold cS at h;split at h
  .split at h
   .rename_i hc;cases k with
    |zero=>grind
    |succ k=>exact aAc l _ H' h k o' zs id uWs ho hs
   cases h
  rename_i Qr;cases k with
  |zero=>simp only[BG,AG]at hk;grind
  |succ k=>exact aAc l H H' h k o' zs id uWs ho hs
def wZ{c:Ctx}:∀(l:List ae)(H H':LO),WF g H w->cS c H l=N1 H' ->(∀(i j:Nat) o p zs zs' id,i<j->l[i]? = N1 o->l[j]? = N1 p->o.op=.alloc zs->p.op=.alloc zs'->c.site o.dst=N1 id->c.site p.dst≠N1 id) ->∀(k:Nat) o zs id,l[k]? = N1 o->o.op=.alloc zs->c.site o.dst=N1 id->o.guard=N2/\o.pre=[]/\id<H'.length/\∃v,H'[id]? = N1 (.box v zs)/\∀lc,g.obj id=N1 lc->lc.st<v
 | [],H,H',hw,h,_=>λk o zs id hk=>by simp at hk
 |o::l,H,H',hw,h,hd=>λk o' zs id hk ho hs=>by
  unfold cS at h;have hd':∀(i j:Nat) o p zs zs' id,i<j->l[i]? = N1 o->l[j]? = N1 p->o.op=.alloc zs->p.op=.alloc zs'->c.site o.dst=N1 id->c.site p.dst≠N1 id:=
   λi j o p zs zs' id h1 h2 h3=>hd (i+1) (j+1) o p zs zs' id omT uWj uWR
  split at h
  .rename_i zs1 id1 hzs1 hid1;split at h
   .rename_i hc;have h1:=Step.laid hw (ah.box · zs1) (λ_=>rfl) hc.1;cases k with
    |zero=>
     simp only[BG,AG]at hk;subst hk;rw[hzs1]at ho;cases ho;rw[hid1]at hs;injection hs with hs;subst hs;have hg:=aAb l _ H' h λk p zs' xe hp=>hd 0 (k+1) o p zs zs' id1 omT rfl uWa hzs1 hp hid1;have hl:=(wW _ _ _ h).1;refine⟨uWl,uWa,by rw[<- hl];simp[make];exact hc.1,bH H id1,by rw[hg];simp[make,hc.1,bH],λlc hlc=>?_⟩;have:=hw.st id1 _ lc (AP hc.1) hlc
     grind [bH,AP]
    |succ k=>exact wZ l _ H' h1.wf h hd' k o' zs id uWs ho hs
   cases h
  rename_i Qr;cases k with
  |zero=>grind
  |succ k=>exact wZ l _ H' hw h hd' k o' zs id uWs ho hs
def aAd(listed:Array Bool)(i:Nat):Bool:=listed.getD i Po
def aG1(hi:i<listed.size):(λj=>aAd listed j || j==i)=aAd (listed.setIfInBounds i Pa):=by
 funext j;unfold aAd;simp only[CR,Array.getElem?_setIfInBounds]
 grind
section
variable {ops:Array HP}{call:Nat->LA->LO->Out}{c:Ctx}{tr:List (ae×Rec)}{ρ0:LA}{H0:LO}{ba:LN}{g0:G}{w0:BL}{d:List HU}
theorem aG2(hs:listed.size=ops.size):i∈HO .any ops listed↔i<ops.size/\aAd listed i=Po/\∀o,ops[i]? = N1 o->∀e∈o.after,LZ .any e=Pa->aAd listed e.on=true:=by
 unfold HO aAd;simp only[OK,List.mem_range,AI,KB];constructor
 .rintro⟨h1,h2,h3⟩;refine⟨h1, ?_,λo ho e he hb=>?_⟩
  .grind
  grind [Array.all_eq_true_iff_forall_mem]
 grind
def aP0(E:Env P ab ops call c tr ρ0 H0 ba)(hs:listed.size=ops.size)(h:HO .any ops listed=[]):∀i,i<ops.size->aAd listed i=true:=by
 intro i
 induction i using Bd with
 |_ i ih=>
  intro hi;cases hq:aAd listed i with
  |true=>rfl
  |false=>
   have:i∈HO .any ops listed:=by rw[aG2 hs];refine⟨hi,hq,λo ho e he hb=>?_⟩;have ax:=E.pre.len;have hk:(tr.map (·.1))[i]? = N1 ((tr.map (·.1))[i]'omT):=AP omT;have h1:=E.pre.of i o _ ho hk e he hb;have h2:=E.pre.back i _ hk _ h1;exact ih _ h2 omT
   rw[h]at this;simp at this
def aK8(E:Env P ab ops call c tr ρ0 H0 ba){Q:Bp->Act->BL->Prop}{r:Option Nat}(hQ:∀g a w L,Inv P ab c tr ρ0 H0 ba g0 w0 d L g a w->(∀i,i<ops.size->L i=Pa)->Q .normal a w):∀fuel (listed:Array Bool) (g:G) (a:Act) (w:BL),listed.size=ops.size->cnt ops.size (aAd listed)<=fuel->Inv P ab c tr ρ0 H0 ba g0 w0 d (aAd listed) g a w ->wpAnyIn (fr r) 0 P .any ops Q fuel listed a w
 |0,listed,g,a,w,hs,hc,I=>by
  have da:=aMI ops.size (Nat.le_zero.1 hc);refine⟨?_,hQ g a w _ I da⟩;cases hr:HO .any ops listed with
  |nil=>rfl
  |cons i l=>
   have:i∈HO .any ops listed:=by rw[hr];simp
   grind [aG2]
 |fuel+1,listed,g,a,w,hs,hc,I=>by
  refine⟨λh=>hQ g a w _ I (aP0 E hs h),λi hi=>?_⟩;rw[aG2 hs]at hi;obtain⟨hlt,hL,hafter⟩:=hi;have ax:tr.length=ops.size:=by have:=E.pre.len;grind
  have ho:=CM hlt;have hi:tr[i]? = N1 (tr[i].1,tr[i].2):=AP omT;have hp:∀x∈tr[i].1.pre,aAd listed x=true:=λx hx=>by
   obtain⟨e,he,hb,h⟩:=E.pre.to i _ _ ho (zD hi) x hx;have h1:=hafter _ ho e he hb;rcases h with rfl | ⟨ao',h2,h3⟩
   .exact h1
   have rn:e.on<tr.length:=uWa
   have h4:=AP rn;have h5:=zD h4;rw[h2]at h5;injection h5 with h5;exact I.closed e.on _ _ h4 h1 x (h5 ▸ h3)
  have nx:=E.comp i _ _ _ ho hi;have xp:=E.ok i _ _ hi;have xq:=I.names E hi hL hp;have next:∀g' a' w',Inv P ab c tr ρ0 H0 ba g0 w0 d (λj=>aAd listed j || j==i) g' a' w'->wpAnyIn (fr r) 0 P .any ops Q fuel (listed.setIfInBounds i Pa) a' w':=λg' a' w' I'=>by
   rw[aG1 omT]at I';refine aK8 E hQ fuel _ g' a' w' (by simpa using hs) ?_ I';have:=aOY (q:=aAd (listed.setIfInBounds i Pa)) ops.size hlt hL (by rw[<- aG1 omT];simp) λk hk=>by rw[<- aG1 omT];simp[hk]
   omega
  have F3:OJ ops[i] (yielded ops a.tmps)=tr[i].2.want:=by have hcg:=aK3 (ρ:=uZ (aAd listed) 0 tr ρ0) (ρ':=uZ (λj=>decide (j<i)) 0 tr ρ0) λt ht=>xq t ht;rw[xp.want,<- hcg.1];exact aK1 nx.guard I.bm (by rw[hcg.2];exact xp.guard)
  unfold wpOpIn;rw[ho];simp only;rw[F3];cases hw:tr[i].2.want with
  |false=>exact⟨λ_ _=>trivial,next g _ w (I.no E hi hL hp nx.dst hw)⟩
  |true=>
   refine (I.yes E hi hL hp ho hw).wp λv w' hR=>?_
   grind
end
def aNM{id:Nat}{ops:Array HP}(hm:P.follows .mixedOrders=Pa)(az:oT P ab call)(Pw:bL9 call){s:gp}(h:iO call c Pa (aDQ P ab ops.toList ops.toList []) s=N1 s')(hw:WF g s.H w)(hg:bM P ab g)(hs:aX g s.ρ a.tmps)(hQ:∀a' w',aA9 P ab c.base g s.H w a.defers s' a' w'->Q .normal a' w'){r:Option Nat}:(PJ id ops Pa).wpIn (fr r) 0 P Q a w:=by
 unfold iO at h;split at h
 .rename_i hd;simp only[BR]at hd;split at h
  .rename_i H0 sd;split at h
   .rename_i s1 log je;split at h
    .rename_i zg;simp only[AG]at h;subst h;have PO:=aR7 (P:=P) (ab:=ab) hd;obtain⟨tr,h1,h2,h3,h4,h5,h6⟩:=aEK _ _ _ _ _ je;have qh:∀(i j:Nat) o p zs zs' id,i<j->(aDQ P ab ops.toList ops.toList [])[i]? = N1 o->(aDQ P ab ops.toList ops.toList [])[j]? = N1 p->o.op=.alloc zs->p.op=.alloc zs'->c.site o.dst=N1 id->c.site p.dst≠N1 id:=by
      intro i j o p zs zs' id Y4 hi hj ho hp hso Wo;obtain⟨e1,t,e2⟩:=aMJ hso Wo;have:=PO.ord i j o p omT hi hj t (e1 ▸ e2) (by simp[ae.names,e2]);rw[Vx Y4,aAc _ _ _ sd j p zs' id hj hp Wo]at this;simp at this
     obtain⟨W,bn,hW⟩:=wY _ _ _ hw sd;have K6:=wZ _ _ _ hw sd qh;have E:Env P ab ops call c tr s.ρ H0 s1.wr:=by
      refine⟨az,Pw,h1 ▸ PO,λi o ao r ho hi=>?_,λk o r hk=>(h5 k o r hk).1,λk o r hk=>(h5 k o r hk).2.1,λk o r hk=>(h5 k o r hk).2.2,λi j o r o' r' Y4 hi hj hwi hwj=>?_,λk o r zs id hk ho hs=>?_⟩
      .exact (aCU ops ops.toList []).2 i o ao (by simpa using ho) (by rw[<- h1];exact zD hi)
      .rw[h2]at zg;have:=aI6 _ tr 0 zg i j o r o' r' Y4 hi hj hwi hwj;simp only[BC]at this;have e:(aDQ P ab ops.toList ops.toList [])[j]? = N1 o':=by rw[<- h1];exact zD hj
       rw[e]at this;exact this
      obtain⟨a1,a2,a3,v,a4,a5⟩:=K6 k o zs id (by rw[<- h1];exact zD hk) ho hs;exact⟨a1,a2,a3,v,a4⟩
     have hL0:aAd (NW ops.size Po)=λ_=>false:=by funext i;simp[aAd,CR,Array.getElem?_replicate];split<;>rfl
     have sc:∀(l:List (ae×Rec))(n:Nat)(ρ:LA),uZ (λ_=>Po) n l ρ=ρ:=by
      intro l
      induction l with
      |nil=>intro n ρ;rfl
      |cons x l ih=>intro n ρ;obtain⟨a,b⟩:=x;simp only[uZ,BX,Vt];exact ih _ _
     have h00:cW H0 tr 0=H0:=by cases tr<;>rfl
     have ax:tr.length=ops.size:=by have:=E.pre.len;simpa using this
     refine wpIn_region_any hm (aK8 (g0:=g) (w0:=w) (d:=a.defers) E (λg' a' w' L I da=>hQ a' w' ?_) ops.size _ g a _ siT (aSM _) ?_)
     .obtain⟨m,oq,kj,W',bd,hb⟩:=I.pos;have e1:cW H0 tr m=s1.H:=by
       rw[h4];refine aK6 tr H0 m _ oq (AQ _) (λk o r hk hn=>E.quiet hk hn) λk o r hk hn=>?_;have xe:=(AH.1 hk).1;have:=kj k o r hk hn;rw[da k omT]at this;simp at this;omega
      have e2:uZ L 0 tr s.ρ=s1.ρ:=by rw[h3];exact aMG _ _ _ _ _ λk _ hk=>da k omT
      rw[e1]at bd;refine⟨g',W++W',bn.trans bd,λo ho du=>?_,e2 ▸ I.bm,I.defers,I.ab⟩;rcases AY.1 ho with ho|ho
      .have:=hW o ho;omega
      exact hb o ho du
     rw[hL0];refine⟨λk o r _ h=>(by cases h),⟨0,FF _,λk o r _ _=>siT,[],by rw[h00];exact Step.of_heap bn.wf rfl,λo ho=>by simp at ho⟩,by rw[sc];exact hs,rfl,hg,λk o r zs id hk ho ml _ l hl=>?_⟩;obtain⟨a1,a2,a3,v,a4,a5⟩:=K6 k o zs id (by rw[<- h1];exact zD hk) ho ml;rw[a4];exact a5 l hl
    cases h
   cases h
  cases h
 simp at h
end
def dS n:∀(l:LA),dJ n l=Pa↔∀a∈l,a.under n=Pa
 | []=>by simp[dJ]
 |v::r=>by simp[dJ,dS n r]
def kK n:∀(l:List LA),eR n l=Pa↔∀row∈l,∀a∈row,a.under n=Pa
 | []=>by simp[eR]
 |v::r=>by simp[eR,kK n r,dS]
def G.cut(g:G)(n:Nat):G:={ g with obj:=λo=>if o<n then g.obj o else N2 }
def kL{l:List α}(h:a∈l):∃i,i<l.length/\l[i]? = N1 a:=by obtain⟨i,hi,he⟩:=List.getElem_of_mem h;exact⟨i,hi,uWa⟩
theorem ai.under(hg:∀o l,g.obj o=N1 l->o<n){a:AV}{x:BE}(h:ai g a x):a.under n=true:=by
 induction h with
 |undef x=>rfl
 |bool b=>rfl
 |int k n=>rfl
 |str s=>rfl
 |fn f first ay vf vc hf hc h1 h2 ih1 ih2=>
  simp only[AV.under,AI,dS];refine⟨λa ha=>?_,λa ha=>?_⟩
  .obtain⟨i,hi,he⟩:=kL ha;exact ih1 i a _ he (CM omT)
  obtain⟨i,hi,he⟩:=kL ha;exact ih2 i a _ he (CM omT)
 |bx=>rfl
 |ptr o v off l a hl hv h=>simp[AV.under,hg o l hl]
 |vp o v n k i off l a hl hv hn h=>simp[AV.under,hg o l hl]
 |nilPtr=>rfl
 |bj=>rfl
 |ifc t v x hv h ih=>simpa [AV.under]using ih
 |ep row off b base bd hp h ih=>
  simp only[AV.under,dS];intro a ha;obtain⟨j,hj,he⟩:=kL ha;cases hq:g.perm b (base+j)with
  |none=>grind
  |some y=>grind
 |kn full=>rfl
 |sl full rows b off cap k cm jo hk bd hp h ih=>
  simp only[AV.under,kK];intro row hr a ha;obtain⟨i,hi,he⟩:=kL hr;obtain⟨j,hj,he'⟩:=kL ha;cases hq:g.perm b (off+i*k+j)with
  |none=>grind
  |some y=>grind
 |sr o v n l a cap hl hv hn jg h=>simp[AV.under,hg o l hl]
 |srv o v n k lo l a cap hl hv hn gr h=>simp[AV.under,hg o l hl]
 |srw o v n hi l a cap hl hv hn tf h=>simp[AV.under,hg o l hl]
 |ar=>rfl
 |mp o v l r hl hv h=>simp[AV.under,hg o l hl]
 |yld o v l r hl hv h=>simp[AV.under,hg o l hl]
 |fmp ks vs r entries clock xs hw hp hk hv h1 h2 ih1 ih2=>
  simp only[AV.under,AI,dS];refine⟨λa ha=>?_,λa ha=>?_⟩
  .obtain⟨i,hi,he⟩:=kL ha;exact ih1 i a _ he (AP omT)
  obtain⟨i,hi,he⟩:=kL ha;exact ih2 i a _ he (AP omT)
 |agg cs vs hs h ih=>simp only[AV.under,dS];intro a ha;obtain⟨i,hi,he⟩:=kL ha;exact ih i a _ he (CM omT)
 |tup cs vs hs h ih=>simp only[AV.under,dS];intro a ha;obtain⟨i,hi,he⟩:=kL ha;exact ih i a _ he (CM omT)
theorem ai.cut{a:AV}{x:BE}(h:ai g a x):a.under n=Pa->ai (g.cut n) a x:=by
 have la:∀o l,g.obj o=N1 l->o<n->(g.cut n).obj o=N1 l:=λo l h1 h2=>by simp[G.cut,h1,h2]
 induction h with
 |undef x=>exact λ_=>.undef x
 |bool b=>exact λ_=>.bool b
 |int k n=>exact λ_=>.int k n
 |str s=>exact λ_=>.str s
 |fn f first ay vf vc hf hc h1 h2 ih1 ih2=>intro hu;simp only[AV.under,AI,dS]at hu;exact .fn f first ay vf vc hf hc (λi a x e1 e2=>ih1 i a x e1 e2 (hu.1 a (AN e1))) (λi a x e1 e2=>ih2 i a x e1 e2 (hu.2 a (AN e1)))
 |bx=>exact λ_=>.bx
 |ptr o v off l a hl hv h=>intro hu;exact .ptr o v off l a (la o l hl uWm) hv h
 |vp o v n k i off l a hl hv hn h=>intro hu;exact .vp o v n k i off l a (la o l hl uWm) hv hn h
 |nilPtr=>exact λ_=>.nilPtr
 |bj=>exact λ_=>.bj
 |ifc t v x hv h ih=>exact λhu=>.ifc t v x hv (ih uWm)
 |ep row off b base bd hp h ih=>intro hu;simp only[AV.under,dS]at hu;exact .ep row off b base bd hp λj a x e1 e2=>ih j a x e1 e2 (hu a (AN e1))
 |kn full=>exact λ_=>.kn full
 |sl full rows b off cap k cm jo hk bd hp h ih=>intro hu;simp only[AV.under,kK]at hu;exact .sl full rows b off cap k cm jo hk bd hp λi j row a x e1 e2 e3=>ih i j row a x e1 e2 e3 (hu row (AN e1) a (AN e2))
 |sr o v n l a cap hl hv hn jg h=>intro hu;exact .sr o v n l a cap (la o l hl uWm) hv hn jg h
 |srv o v n k lo l a cap hl hv hn gr h=>intro hu;exact .srv o v n k lo l a cap (la o l hl uWm) hv hn gr h
 |srw o v n hi l a cap hl hv hn tf h=>intro hu;exact .srw o v n hi l a cap (la o l hl uWm) hv hn tf h
 |ar=>exact λ_=>.ar
 |mp o v l r hl hv h=>intro hu;exact .mp o v l r (la o l hl uWm) hv h
 |yld o v l r hl hv h=>intro hu;exact .yld o v l r (la o l hl uWm) hv h
 |fmp ks vs r entries clock xs hw hp hk hv h1 h2 ih1 ih2=>intro hu;simp only[AV.under,AI,dS]at hu;exact .fmp ks vs r entries clock xs hw hp hk hv (λi a e e1 e2=>ih1 i a e e1 e2 (hu.1 a (AN e1))) λi a e e1 e2=>ih2 i a e e1 e2 (hu.2 a (AN e1))
 |agg cs vs hs h ih=>intro hu;simp only[AV.under,dS]at hu;exact .agg cs vs hs λi a x e1 e2=>ih i a x e1 e2 (hu a (AN e1))
 |tup cs vs hs h ih=>intro hu;simp only[AV.under,dS]at hu;exact .tup cs vs hs λi a x e1 e2=>ih i a x e1 e2 (hu a (AN e1))
theorem aBw.under(hg:∀o l,g.obj o=N1 l->o<n){w:BL}{l:Loc}{x:ah}(h:aBw g w l x):x.under n=true:=by
 cases x with
 |gone v=>rfl
 |box v cells=>obtain⟨h1,h2,h3⟩:=h;simp only[ah.under,dS];intro a ha;obtain⟨j,hj,he⟩:=kL ha;obtain⟨y,hy,hr⟩:=h3 j a he;exact hr.under hg
 |cw v ty cells=>obtain⟨h1,h2,h3⟩:=h;simp only[ah.under,dS];intro a ha;obtain⟨j,hj,he⟩:=kL ha;obtain⟨y,hy,hr⟩:=h3 j a he;exact hr.under hg
 |vec v k rows=>obtain⟨h1,h2,h3,h4,h5,h6,h7⟩:=h;simp only[ah.under,kK];intro row hr a ha;obtain⟨i,hi,he⟩:=kL hr;obtain⟨j,hj,he'⟩:=kL ha;obtain⟨_,y,hy,hv⟩:=h7 i j row a he he';exact hv.under hg
 |oz v ty k rows=>obtain⟨⟨h1,h2,h3,h4,h5,h6,h7⟩,h8⟩:=h;simp only[ah.under,kK];intro row hr a ha;obtain⟨i,hi,he⟩:=kL hr;obtain⟨j,hj,he'⟩:=kL ha;obtain⟨_,y,hy,hv⟩:=h7 i j row a he he';exact hv.under hg
 |map v es=>obtain⟨h1,entries,clock,h2,h3,h4⟩:=h;simp only[ah.under,AO];rintro⟨k,v⟩ hm;obtain⟨i,hi,he⟩:=kL hm;have:=h4 i k v _ he (CM omT);simp[this.1.under hg,this.2.under hg]
 |rnd v base sites ps body ρ busy pend=>obtain⟨h1,r,h2,h3,h4,h5,h6,h7,h8,h9⟩:=h;simp only[ah.under,dS];intro a ha;obtain⟨j,hj,he⟩:=kL ha;have:=h9 j;rw[he]at this;exact this.under hg
theorem aBw.cut{w:BL}{l:Loc}{x:ah}(h:aBw g w l x)(hu:x.under n=Pa):aBw (g.cut n) w l x:=by
 cases x with
 |gone v=>trivial
 |box v cells=>obtain⟨h1,h2,h3⟩:=h;simp only[ah.under,dS]at hu;refine⟨h1,h2,λj a ha=>?_⟩;obtain⟨y,hy,hr⟩:=h3 j a ha;exact⟨y,hy,hr.cut (hu a (AN ha))⟩
 |cw v ty cells=>obtain⟨h1,h2,h3⟩:=h;simp only[ah.under,dS]at hu;refine⟨h1,h2,λj a ha=>?_⟩;obtain⟨y,hy,hr⟩:=h3 j a ha;exact⟨y,hy,hr.cut (hu a (AN ha))⟩
 |vec v k rows=>obtain⟨h1,h2,h3,h4,h5,h6,h7⟩:=h;simp only[ah.under,kK]at hu;refine⟨h1,h2,h3,h4,h5,h6,λi j row a hr ha=>?_⟩;obtain⟨hs,y,hy,hv⟩:=h7 i j row a hr ha;exact⟨hs,y,hy,hv.cut (hu row (AN hr) a (AN ha))⟩
 |oz v ty k rows=>obtain⟨⟨h1,h2,h3,h4,h5,h6,h7⟩,h8⟩:=h;simp only[ah.under,kK]at hu;refine⟨?_,h8⟩;refine⟨h1,h2,h3,h4,h5,h6,λi j row a hr ha=>?_⟩;obtain⟨hs,y,hy,hv⟩:=h7 i j row a hr ha;exact⟨hs,y,hy,hv.cut (hu row (AN hr) a (AN ha))⟩
 |map v es=>obtain⟨h1,entries,clock,h2,h3,h4⟩:=h;simp only[ah.under,AO]at hu;refine⟨h1,entries,clock,h2,h3,λi k v e hk he=>?_⟩;have:=hu (k,v) (AN hk);simp only[AI]at this;exact⟨(h4 i k v e hk he).1.cut this.1,(h4 i k v e hk he).2.cut this.2⟩
 |rnd v base sites ps body ρ busy pend=>
  obtain⟨h1,r,h2,h3,h4,h5,h6,h7,h8,h9⟩:=h;simp only[ah.under,dS]at hu;refine⟨h1,r,h2,h3,h4,h5,h6,h7,h8,λt=>(h9 t).cut ?_⟩;cases he:ρ[t]? with
  |none=>rfl
  |some a=>grind
section
variable {g g':G}{H H':LO}{w w':BL}{wr W:LN}
def Step.narrow(hlt:∀o l,g.obj o=N1 l->o<H.length)(h:Step g H w g' H' w' W)(hs:∀o∈W,o<H.length->o∈wr):Step g H w g' H' w' wr:=⟨h.le,h.wf,⟨h.frame.1,λb hb ho=>h.frame.2 b hb λo hm l hl=>ho o (hs o hm (hlt o l hl)) l hl⟩,λo hl ho=>h.same o hl λhm=>ho (hs o hm hl),h.len,h.mc,λo hl ho=>h.aq o hl λhm=>ho (hs o hm hl)⟩
theorem Step.cut(hw:WF g H w)(h:Step g H w g' H' w' wr)(hu:∀o∈wr,∀x,H'[o]? = N1 x->x.under H.length=Pa):Step g H w (g'.cut H.length) (H'.take H.length) w' wr:=by
 have gm:∀o,o<H.length->(H'.take H.length)[o]? = H'[o]? := λo ho=>by simp[ho]
 have dx:∀o l x,au (g'.cut H.length) (H'.take H.length) o l x->o<H.length/\au g' H' o l x:=λo l x hb=>by
  have hlt:o<H.length:=by
   have:=(AH.1 hb.Pr).1
   grind
  refine⟨hlt,⟨by rw[<- gm o hlt];exact hb.Pr,hb.alive, ?_,hb.st⟩⟩;have:=hb.loc;simpa [G.cut,hlt]using this
 have la:∀o l,(g'.cut H.length).obj o=N1 l->o<H.length/\g'.obj o=N1 l:=λo l hl=>by
  grind [G.cut]
 have ax:=h.len;refine⟨⟨λb i x hx=>h.le.perm b i x hx,λo l hl=>?_,h.le.whole,h.le.io,h.le.code⟩,⟨h.wf.perm,λo l hl=>?_,λo l hl=>h.wf.blk o l (la o l hl).2,λo x l hx hl=>?_,λo l x hb=>?_,λo l x hb=>h.wf.jh o l x (dx o l x hb).2,
  λo o' l l' x x' h1 h2=>h.wf.inj o o' l l' x x' (dx _ _ _ h1).2 (dx _ _ _ h2).2,h.wf.whole.aq rfl rfl ⟨rfl,rfl⟩ (λ_ _ _=>rfl) λo l y hl=>.inr ⟨o,l,y,(dx _ _ _ hl).2,rfl⟩⟩,h.frame,λo ho hn=>?_,soT,λo l hl=>h.mc o l (la o l hl).2,λo ho hn=>?_⟩
 .obtain⟨l',h1,h2⟩:=h.le.obj o l hl;exact⟨l',by simp[G.cut,hw.lt o l hl,h1],h2⟩
 .grind
 .obtain⟨h1,h2⟩:=la o l hl;rw[gm o h1]at hx;exact h.wf.st o x l hx h2
 .obtain⟨h1,h2⟩:=dx o l x hb;refine (h.wf.obj o l x h2).cut ?_;by_cases hm:o∈wr
  .exact hu o hm x h2.Pr
  have qw:au g H o l x:=⟨by rw[<- h.same o h1 hm];exact h2.Pr,h2.alive,by rw[<- h.aq o h1 hm];exact h2.loc,h2.st⟩;exact (hw.obj o l x qw).under hw.lt
 .rw[gm o ho];exact h.same o ho hn
 simp only[G.cut,ho,Vu];exact h.aq o ho hn
theorem pN.cut{n0:Nat}{v:BE}(h:pN g' H' n0 w' av v)(hu:av.under n=Pa):pN (g'.cut n) (H'.take n) n0 w' av v:=by
 cases av with
 |own k rows=>
  obtain⟨b,cap,e,ho⟩:=h;simp only[AV.under,kK]at hu;refine⟨b,cap,e,⟨ho.wx,ho.hlt,ho.cm,ho.dr,ho.cn,ho.dq,ho.eh,λi j row c hr hc=>?_,ho.Qm,λo l x hb=>?_,ho.u7⟩⟩
  .obtain⟨y,hy,hv⟩:=ho.dj i j row c hr hc;exact⟨y,hy,hv.cut (hu row (AN hr) c (AN hc))⟩
  have hlt:o<n:=by
   have:=(AH.1 hb.Pr).1
   grind
  refine ho.pd o l x ⟨?_,hb.alive, ?_,hb.st⟩
  .have:=hb.Pr;grind
  have:=hb.loc;simpa [G.cut,hlt]using this
 |_=>exact ai.cut h hu
end
section
variable {P:CU}{ab:cu}{g:G}{H:LO}{w w':BL}{ρ:LA}
def aP1(hw:WF g H w){o v v':Nat}(ho:H[o]? = N1 (.vec v' k rows))(hv:v'=v)(hn:rows.length=n){x:BE}(hx:ai g (.sr o v n) x):∃l,au g H o l (.vec v k rows)/\x=.slice (N1 ⟨l.b,0,N2⟩) n l.cap:=by
 cases hx with
 |sr _ _ _ l a cap hl hv ze jg h=>
  have bd:l.st=v':=by have:=hw.st o _ l ho hl;simp only[ah.ver]at this;omega
  have hb:au g H o l (.vec v' k rows):=⟨ho,rfl,hl,bd⟩;obtain⟨h0,_⟩:=hw.obj o l _ hb
  grind
def aI7{n0:Nat}(wx:∀o l,base<=o->g.obj o=N1 l->n0<=l.b)(hw:WF g H w){l:LN}(h:aDR base H v=N1 (v',H',l)){x:BE}(hx:ai g v x):∃g',Step g H w g' H' w l/\pN g' H' n0 w v' x:=by
 unfold aDR at h;split at h
 .rename_i o v n;split at h
  .cases h;exact⟨g,.refl hw,hx⟩
  split at h
  .rename_i v1 k rows ho;split at h
   .rename_i hc;obtain⟨mj,nc,Z4,hc4⟩:=hc;obtain⟨rfl,rfl,rfl⟩:=h;obtain⟨lc,hb,rfl⟩:=aP1 hw ho mj nc hx;obtain⟨h0,ow,cm,dr,hk,eh,bc⟩:=hw.obj o lc _ hb;obtain⟨h1,h2⟩:=Step.drop hw hb;have he:dL H [o]=H.set o (.gone (ah.vec v k rows).ver):=by simp only[dL,hb.Pr];rfl
    rw[he];refine⟨g,h1,lc.b,lc.cap,by rw[nc],⟨wx o lc Z4 hb.loc,hw.blk o lc hb.loc,cm,dr,hk, ?_,eh,λi j row c hr hj=>?_,hw.jh o lc _ hb,h2, ?_⟩⟩
    .exact hc4
    .obtain⟨_,y,hy,hv⟩:=bc i j row c hr hj;exact⟨y,hy,hv⟩
    cases hwh:g.whole lc.b with
    |none=>rfl
    |some z=>exact Vv rfl ((hw.whole.blocks lc.b z hwh).2 o lc _ hb)
   obtain⟨g',h1,h2⟩:=aCT hw h hx;refine⟨g',h1, ?_⟩;cases v' with
   |own k rows=>cases h2
   |_=>exact h2
  cases h
 .rename_i o v;split at h
  .rename_i v1 es ho;split at h
   .rename_i hc;obtain⟨rfl,rfl,rfl⟩:=h;exact bRK hw ho hc.1 hx
   cases h;exact⟨g,.refl hw,hx⟩
  cases h;exact⟨g,.refl hw,hx⟩
 obtain⟨g',h1,h2⟩:=qO hw h hx;refine⟨g',h1, ?_⟩;cases v' with
 |own k rows=>cases h2
 |_=>exact h2
def aG3:∀{vs vs':LA}{g:G}{H H':LO}{l:LN},WF g H w->aBv H vs=N1 (vs',H',l)->∀{xs:List BE},fU g vs xs->∃g',Step g H w g' H' w l/\fU g' vs' xs
 | [],vs',g,H,H',l,hw,h,xs,hx=>by
  obtain⟨rfl,rfl,rfl⟩:=h;exact⟨g,.refl hw,hx⟩
 |v::vs,vs',g,H,H',l,hw,h,xs,hx=>by
  unfold aBv at h;split at h
  .cases h
  rename_i v1 H1 l1 hf;split at h
  .cases h
  rename_i r1 H2 l2 hr;obtain⟨rfl,rfl,rfl⟩:=h;cases xs with
  |nil=>have:=hx.1;simp at this
  |cons x xs=>
   obtain⟨g1,h1,h2⟩:=qO hw hf (hx.2 0 v x rfl rfl);have re:fU g1 vs xs:=⟨by simpa using hx.1,λi a y ha hy=>(hx.2 (i+1) a y uWx uWB).mono h1.le⟩;obtain⟨g2,h3,h4⟩:=aG3 h1.wf hr re;refine⟨g2,h1.trans h3,by simp[h4.1],λi a y ha hy=>?_⟩;cases i with
   |zero=>simp at ha hy;subst ha;subst hy;exact h2.mono h3.le
   |succ i=>exact h4.2 i a y uWx uWB
def xA(tmps:Array BE)(rs:List ResultVar):Sem (List BE):=
 rs.mapM fun
  |.tmp t=>pure (tmps.getD t EE)
  |.cell a t=>do loadVar t (<- asAddr (tmps.getD a EE))
def vH(hw:WF g H w){tmps:Array BE}(hs:aX g ρ tmps):∀(rs:List ResultVar)(aqq:List ou)(vs:LA),aNz P rs=N1 aqq->aIS H ρ aqq=N1 vs ->∃xs,(xA tmps rs).run P w=.ok xs w/\fU g vs xs
 | [],aqq,vs,h,hv=>by
  simp only[aNz,AG]at h;subst h;simp only[aIS,AG]at hv;subst hv;exact⟨[],by simp[xA],rfl,λi a x h=>by simp at h⟩
 |r::rs,aqq,vs,h,hv=>by
  unfold aNz at h;split at h
  .rename_i a as' ha has;simp only[AG]at h;subst h;unfold aIS at hv;split at hv
   .cases hv
   rename_i v qy;split at hv
   .cases hv
   rename_i vs' C8;simp only[AG]at hv;subst hv;obtain⟨xs,h1,h2⟩:=vH hw hs rs as' vs' has C8;have key:∃x,(match r with | .tmp t=>pure (tmps.getD t EE) | .cell a t=>do loadVar t (<- asAddr (tmps.getD a EE)):Sem BE).run P w=.ok x w/\ai g v x:=by
    cases r with
    |tmp t=>simp only[aZL,AG]at ha;subst ha;simp only[aYq,AG]at qy;subst qy;exact⟨_,siT,hs.2 t⟩
    |cell t ty=>
     obtain⟨⟨n,agg⟩,vg,rfl⟩:=map_some ha;simp only[aYq]at qy;split at qy
     .rename_i cs hr;obtain⟨b,off,ys,e,ax,hl,hc⟩:=eI hw hr (hs.2 t);have ej:=aEF vg w b off ys (by rw[<- hl.1];exact ax) hc;exact⟨_,by
       show (do loadVar ty (<- asAddr (tmps.getD t EE)):Sem BE).run P w=_;rw[e,BS,show (asAddr (Value.pointer (N1 ⟨b,off,N2⟩))).run P w=.ok ⟨b,off,N2⟩ w from rfl];exact ej,wQ qy hl⟩
     cases qy
   obtain⟨x,lz,C9⟩:=key;refine⟨x::xs, ?_,by simp[h2.1],λi a' y ha' hy=>?_⟩
   .simp_all [xA,List.mapM_cons,BS,Result.andThen_ok]
   cases i with
   |zero=>grind
   |succ i=>exact h2.2 i a' y uWa uWB
  cases h
def aR8:List BE->BE
 | [x]=>x
 |xs=>.tuple xs.toArray
def aLD{fn:Bi}{xs:List BE}(h:(xA tmps fn.results.toList).run P w=.ok xs w):(results fn tmps).run P w=.ok (aR8 xs) w:=by
 unfold results;rw[Array.mapM_eq_mapM_toList];have h':=h;rw[map_eq_pure_bind];simp only[bind_assoc,pure_bind];rw[BS];refine (congrArg (λr=>DL r _) h').trans ?_;cases xs with
 |nil=>rfl
 |cons x r=>cases r with
  |nil=>rfl
  |cons y r=>rfl
end
section
variable {A:af}{n:Nat}{c:Ctx}{s:gp}
def gT{x:ag}:cY A 0 c x s=none:=rfl
def xB:cY A (n+1) c .skip s=N1 (.normal,s):=rfl
def qG:cY A (n+1) c .bad s=none:=rfl
theorem iS:cY A (n+1) c (.region d ops) s=match iO (dD A n) c d ops s with | some s'=>N1 (.normal,s') | none=>none:=rfl
def iD{x y:ag}:cY A (n+1) c (.seq x y) s=match cY A n c x s with | some (.normal,s')=>cY A n c y s' | r=>r:=rfl
def iT{t:aa}{x y:ag}:cY A (n+1) c (.cond t x y) s=match t.ev s.ρ with | .bool Pa=>cY A n c x s | .bool Po=>cY A n c y s | _=>none:=rfl
def eP{id:Nat}{x:ag}:cY A (n+1) c (.block id x) s=match cY A n c x s with
  |some (.exit id',s')=>if id'=id then N1 (.normal,s')else N1 (.exit id',s')
  |r=>r:=rfl
def gU{x:ag}:cY A (n+1) c (.loop x) s=match cY A n c x s with | some (.normal,s')=>cY A n c (.loop x) s' | r=>r:=rfl
def aCb{id:Nat}:cY A (n+1) c (.exit id) s=N1 (.exit id,s):=rfl
def aDZ:cY A (n+1) c .ret s=N1 (.ret,s):=rfl
def vI{ts:List (Nat×Nat)}:cY A (n+1) c (.frz ts) s=match nX c s ts with | some s'=>N1 (.normal,s') | none=>none:=rfl
def iU{ps:LN}{body:ag}:cY A (n+1) c (.dz x ps body) s=match x.ev s.ρ,c.site ps.head? with
   |.fn f first ay,N1 id=>
    if id<s.H.length/\eZ c s.H=Pa then
     match dD A n f (first++.yld id (bH s.H id)::ay) (make s.H id λv=>.rnd v c.base c.sites ps body s.ρ Po N2)with
     |some (_,H2,wr)=>match H2[id]? with
      |some (.rnd v _ _ _ _ _ Po pend)=>if v=bH s.H id/\eZ c H2=Pa then N1 (pend.getD .normal,⟨s.ρ,H2.set id (.gone v),bE c.base s.wr (id::wr)⟩)else N2
      |_=>N2
     |none=>N2
    else N2
   |_,_=>none:=rfl
def oK{r:AV×LO×LN}(h:sO ev H args=N1 r):∃o v xs base sites ps asg body ρ s0 b1 t1 p1 c1 r1 e s,args=.own 0 []::.yld o v::xs/\H[o]? = N1 (.rnd v base sites ps (.seq asg body) ρ Po N2)/\xs.length=ps.length /\ ev ⟨base,sites++[YF+o,YF+v]⟩ asg ⟨dH ρ ps xs,H,[]⟩=N1 (.normal,s0)/\s0.H[o]? = N1 (.rnd v b1 t1 p1 c1 r1 Po N2) /\ ev ⟨base,sites++[YF+o,YF+v]⟩ body ⟨s0.ρ,s0.H.set o (.rnd v b1 t1 p1 c1 r1 Pa N2),s0.wr⟩=N1 (e,s) /\ ∃b' s' p' c' r',s.H[o]? = N1 (.rnd v b' s' p' c' r' Pa N2) /\ r=(.bool (decide (e=.normal)),s.H.set o (.rnd v b' s' p' c' r' Po (if e=.normal then N2 else N1 e)),FM base (H.length - base)++(o::s.wr)):=by
 unfold sO at h;split at h
 .rename_i o v xs;split at h
  .rename_i v' base sites ps asg body ρ hH;split at h
   .rename_i hc;obtain⟨rfl,ax⟩:=hc;split at h
    .rename_i s0 xt;split at h
     .rename_i v1 b1 t1 p1 c1 r1 xu;split at h
      .rename_i qy;subst qy;split at h
       .rename_i e s je;split at h
        .rename_i v2 b' s' p' c' r' hs;split at h
         .rename_i hv;subst hv;cases h;exact⟨o,_,xs,base,sites,ps,asg,body,ρ,s0,b1,t1,p1,c1,r1,e,s,rfl,hH,ax,xt,xu,je,_,_,_,_,_,hs,rfl⟩
         cases h
        cases h
       cases h
      cases h
     cases h
    cases h
   cases h
  cases h
 cases h
def sS{r:AV×LO×LN}(h:dD A n f args H=N1 r):(∃p v,A.bq f=N1 p/\p args H=N1 v/\r=cT H v) ∨ (∃fn s' e r',A.fn f=N1 fn/\cY A n ⟨H.length,fn.sites⟩ fn.body (nF fn args H)=N1 (e,s')/\(e=.normal∨e=.ret)/\aA4 H.length fn s'=N1 r'/\r=cJ H.length r'/\args.length<=fn.ntmps) ∨ (A.fn f=N2/\sO (cY A n) H args=N1 r):=by
 unfold dD qL at h;split at h
 .rename_i v hv;cases h;cases hp:A.bq f with
  |none=>rw[hp]at hv;cases hv
  |some p=>rw[hp]at hv;exact .inl ⟨p,v,rfl,hv,rfl⟩
 split at h
 .rename_i hf;exact .inr (.inr ⟨hf,h⟩)
 rename_i fn hf;split at h;rotate_left
 .cases h
 rename_i hN;split at h
 .rename_i s' he;split at h
  .rename_i r' hr;cases h;exact .inr (.inl ⟨fn,s',_,r',hf,he,.inl rfl,hr,rfl,hN⟩)
  cases h
 .rename_i s' he;split at h
  .rename_i r' hr;cases h;exact .inr (.inl ⟨fn,s',_,r',hf,he,.inr rfl,hr,rfl,hN⟩)
  cases h
 cases h
def aTA{l:LN}(h:aDR base H v=N1 (v',H',l)):Fr H H' l:=by
 unfold aDR at h;split at h
 .split at h
  .cases h;exact .refl _ _
  split at h
  .split at h
   .cases h;exact aDX _ _
   exact aI3 h
  cases h
 .split at h
  .split at h
   .cases h;exact Fr.set _ _ _
   cases h;exact .refl _ _
  cases h;exact .refl _ _
 exact aFX h
def aMK:∀{vs vs':LA}{H H':LO}{l:LN},aBv H vs=N1 (vs',H',l)->Fr H H' l
 | [],vs',H,H',l,h=>by simp only[aBv,AG,BK]at h;obtain⟨_,rfl,rfl⟩:=h;exact .refl _ _
 |v::vs,vs',H,H',l,h=>by
  unfold aBv at h;split at h
  .cases h
  rename_i hf;split at h
  .cases h
  rename_i hr;cases h;exact (aFX hf).trans (aMK hr)
def aEL{s:gp}{r:AV×LO×LN}(h:aA4 base fn s=N1 r):∃vs,aIS s.H s.ρ fn.results=N1 vs /\ ((∃v v' H' l,vs=[v]/\aDR base s.H v=N1 (v',H',l)/\r=(v',H',bE base s.wr l)) ∨ (∃vs' H' l,vs.length≠1/\aBv s.H vs=N1 (vs',H',l)/\r=(.tup vs',H',bE base s.wr l))):=by
 unfold aA4 at h;split at h
 .cases h
 .rename_i v hv;split at h
  .rename_i v' H' l hf;cases h;exact⟨[v],hv,.inl ⟨v,v',H',l,rfl,hf,rfl⟩⟩
  cases h
 rename_i vs bl hv;split at h
 .rename_i vs' H' l hf;cases h;refine⟨vs,hv,.inr ⟨vs',H',l,λe=>?_,hf,rfl⟩⟩;obtain⟨x,rfl⟩:=FQ.1 e;exact bl x rfl
 cases h
def aP2{s:gp}{r:AV×LO×LN}(h:aA4 base fn s=N1 r):FrB base s ⟨s.ρ,r.2.1,r.2.2⟩:=by
 obtain⟨vs,_,⟨v,v',H',l,rfl,hf,rfl⟩ | ⟨vs',H',l,_,hf,rfl⟩⟩:=aEL h
 .exact FrB.of (aTA hf)
 exact FrB.of (aMK hf)
def aK9:∀(l:List (Nat×ah))(H:LO),Fr H (eU H l) (l.map Prod.fst)
 | [],H=>.refl _ _
 | (o,x)::r,H=>(Fr.set H o x).trans (aK9 r (H.set o x))
def Fr.more(h:Fr H H' wr)(l:LO):Fr H (H'++l) wr:=⟨by have:=h.1;simp;omega,λo ho hn=>by rw[BM (by have:=h.1;omega)];exact h.2 o ho hn⟩
def aEM(jz:∀(c:Ctx)(x:ag)(s:gp) e s',cY A n c x s=N1 (e,s')->FrB c.base s s'):bL9 (dD A n):=by
 intro f args H v H' wr h;rcases sS h with⟨p,v1,_,_,hr⟩ | ⟨fn,s',e,r',_,he,_,hf,hr,_⟩ | ⟨_,hr⟩
 .cases hr;exact (aK9 _ _).more _
 .have h1:=jz _ _ _ _ _ he;have h2:=h1.trans (aP2 hf);obtain⟨v1,H1,dc⟩:=r';have h3:Fr H H1 dc:=by
   refine⟨?_,λo ho hn=>?_⟩
   .have:=h2.1;simp only[nF,BA]at this;omega
   have:=h2.2.2 o (by simp only[nF,BA];omega) ho hn
   grind [nF,BM]
  simp only[cJ]at hr;split at hr
  .cases hr;refine⟨by have:=h3.1;simp;omega,λo ho hn=>?_⟩;rw[<- h3.2 o ho hn];simp[ho]
  grind
 obtain⟨o,ve,xs,base,sites,ps,asg,body,ρ,s0,b1,t1,p1,c1,r1,e,s1,rfl,hH,ax,xt,xu,je,b',s',p',c',r',hs,pw⟩:=oK hr;obtain⟨_,rfl,rfl⟩:=pw;have h0:=jz _ _ _ _ _ xt;have h1:=jz _ _ _ _ _ je;refine⟨by have a0:=h0.1;have a1:=h1.1;grind,λq hq hn=>?_⟩;simp only[AY,BD,not_or,FC]at hn;obtain⟨lx,xh,hn3⟩:=hn;have h2:=h1.2.2 q (by have a0:=h0.1;grind) uWa hn3;have h3:=h0.2.2 q hq uWa λhm=>hn3 (h1.2.1 q hm)
 grind
def fJ:∀n (c:Ctx) (x:ag) (s:gp) e s',cY A n c x s=N1 (e,s')->FrB c.base s s'
 |0,c,x,s,e,s',h=>by rw[gT]at h;cases h
 |n+1,c,x,s,e,s',h=>by
  have az:=aEM (fJ n);cases x with
  |skip=>rw[xB]at h;cases h;exact .refl _ _
  |bad=>rw[qG]at h;cases h
  |region d ops=>
   rw[iS]at h;split at h
   .rename_i s1 hr;cases h;exact aLC az hr
   cases h
  |seq a b=>
   rw[iD]at h;split at h
   .rename_i s1 hr;exact (fJ n _ _ _ _ _ hr).trans (fJ n _ _ _ _ _ h)
   exact fJ n _ _ _ _ _ h
  |cond t a b=>
   rw[iT]at h;split at h
   .exact fJ n _ _ _ _ _ h
   .exact fJ n _ _ _ _ _ h
   cases h
  |block id b=>
   rw[eP]at h;split at h
   .rename_i hr;split at h<;>(cases h;exact fJ n _ _ _ _ _ hr)
   exact fJ n _ _ _ _ _ h
  |loop b=>
   rw[gU]at h;split at h
   .rename_i s1 hr;exact (fJ n _ _ _ _ _ hr).trans (fJ n _ _ _ _ _ h)
   exact fJ n _ _ _ _ _ h
  |exit id=>rw[aCb]at h;cases h;exact .refl _ _
  |ret=>rw[aDZ]at h;cases h;exact .refl _ _
  |frz ts=>
   rw[vI]at h;split at h
   .rename_i s1 hr;cases h;exact sR _ _ _ hr
   cases h
  |dz x ps body=>
   rw[iU]at h;split at h
   .rename_i f first ay id hx hid
    split at h
    .rename_i hc;split at h
     .rename_i v2 H2 wr kq;split at h
      .rename_i v b' s' p' c' r' pend hH2;split at h
       .cases h;have h1:=az _ _ _ _ _ _ kq;have h2:Fr s.H (H2.set id (.gone v)) (id::wr):=by
         refine⟨by have:=h1.1;simp only[make,CP]at this ⊢;exact this,λq hq hn=>?_⟩;simp only[BD,not_or]at hn;rw[getElem?_set_ne' _ _ (Ne.symm hn.1),h1.2 q (by simpa [make]using hq) hn.2,make,getElem?_set_ne' _ _ (Ne.symm hn.1)]
        exact FrB.of h2
       cases h
      cases h
     cases h
    cases h
   cases h
def aKa n:bL9 (dD A n):=aEM (fJ n)
end
abbrev bN:=Nat->AV
variable {ρ:bN}{K:bN->LO->LN->Prop}
def upd(ρ:bN)(d:Nat)(v:AV):bN:=λt=>if t=d then v else ρ t
def zX(ρ:bN):Option Nat->AV->bN
 |some d,v=>upd ρ d v
 |none,_=>ρ
def ck(l:LA):bN:=λt=>(l[t]?).getD .undef
def aa.at(ρ:bN):aa->AV
 |.tmp t=>ρ t
 |.const v=>v
def aa.ka(l:LA)(x:aa):x.ev l=x.at (ck l):=by cases x<;>rfl
def aa.A4(l:LA):aa.ev l=aa.at (ck l):=funext λx=>x.ka l
def mK(ρ:bN)(cells:LA):List (Nat×Nat×aa)->Option LA
 | []=>N1 cells
 | (off,size,x)::r=>
  let vs:=(x.at ρ).cells
  if vs.length=size/\off+size<=cells.length/\vs.all AV.ak then mK ρ (nV cells off vs) r else N2
def nZ(ρ:bN)(k:Nat)(rows:List LA):List (Nat×aa)->Option (List LA)
 | []=>N1 rows
 | (i,x)::r=>
  let vs:=(x.at ρ).strip.cells
  if vs.length=k/\i<rows.length/\vs.all AV.still then nZ ρ k (rows.set i vs) r else N2
def mM(ρ:bN)(k:Nat)(rows:List LA):List (Nat×aa)->Option (List LA)
 | []=>N1 rows
 | (i,x)::r=>
  let vs:=(x.at ρ).strip.cells
  if vs.length=k/\i<rows.length/\vs.all AV.ak then mM ρ k (rows.set i vs) r else N2
def vA(H:LO)(ρ:bN):df->Option AV
 |.mov x=>N1 (x.at ρ)
 |.pick c a b=>match c.at ρ with
  |.bool t=>N1 (if t then a.at ρ else b.at ρ)
  |_=>N2
 |.alloc zs=>if zs.all AV.still then N1 (.ep (zs.map AV.aj) 0)else N2
 |.box k x=>
  let vs:=(x.at ρ).strip.cells
  if vs.length=k/\vs.all AV.still then N1 (.ep vs 0)else N2
 |.build zs parts=>(mK ρ zs parts).map .agg
 |.bsl k zs n parts=>(nZ ρ k (AX n zs) parts).map (.sl Pa)
 |.mks _ bytes zs len cap=>match len.at ρ,cap.at ρ with
  |.int _ n,.int _ c=>if 0<=n/\n=c/\bP n.toNat bytes then N1 (.sl Pa (AX n.toNat (zs.map AV.aj)))else N2
  |_,_=>N2
 |.load k agg x=>match bC H k (x.at ρ)with
  |some cs=>eD agg cs
  |none=>N2
 |.cz x=>match x.at ρ with
  |.ptr o v off=>N1 (.ptr o v off)
  |.vp o v n k i off=>N1 (.vp o v n k i off)
  |.ep row off=>N1 (.ep row off)
  |.fn f a b=>N1 (.fn f a b)
  |_=>N2
 |.ky neg x=>match x.at ρ with
  |.sl _ (_::_) | .sr ..=>N1 (.bool neg)
  |.ar=>N1 (.bool !neg)
  |_=>N2
 |.bin op ek x y=>kJ op ek (x.at ρ) (y.at ρ)
 |.un op x=>unV op (x.at ρ)
 |.conv c x=>pT H c (x.at ρ)
 |.mkf f first ay=>if (first.map (aa.at ρ)).all AV.still&&(ay.map (aa.at ρ)).all AV.still then N1 (.fn f (first.map λx=>(x.at ρ).aj) (ay.map λx=>(x.at ρ).aj))else N2
 |.fm x lo hi=>match x.at ρ with
  |.str s=>match dU s.length (lo.map (aa.at ρ)) (hi.map (aa.at ρ)) N2 with
   |some (l,h,_)=>N1 (.str ((s.take h).drop l))
   |none=>N2
  |_=>N2
 |.gw k x lo hi mx=>match x.at ρ with
  |.sl full rows=>match dU rows.length (lo.map (aa.at ρ)) (hi.map (aa.at ρ)) (mx.map (aa.at ρ))with
   |some (l,h,m)=>if dF k rows&&(!mx.isSome || hi.isSome)then N1 (.sl (decide (m=h)&&(mx.isSome || full)) ((rows.take h).drop l))else N2
   |none=>N2
  |.sr o v n=>if mx.isSome then N2 else match dU n (lo.map (aa.at ρ)) (hi.map (aa.at ρ)) N2 with
   |some (l,h,_)=>if hi.isSome&&decide (l=0)then N1 (.srw o v n h)else if h=n then N1 (.srv o v n k l)else N2
   |none=>N2
  |_=>N2
 |.view k x lo=>match x.at ρ with
  |.sl full rows=>match dU rows.length (lo.map (aa.at ρ)) N2 N2 with
   |some (l,h,m)=>if dF k rows then N1 (.sl (decide (m=h)&&full) ((rows.take h).drop l))else N2
   |none=>N2
  |.sr o v n=>match H[o]? with
   |some (.vec v' _ rows)=>if v'=v/\rows.length=n then match iL 0 n (lo.map (aa.at ρ))with
     |some l=>N1 (.srv o v n k l)
     |none=>N2
    else N2
   |_=>N2
  |_=>N2
 |.na n k x lo hi mx=>match x.at ρ with
  |.ep row off=>if off+n*k<=row.length then
    let rows:=aFH k n (row.drop off)
    match dU n (lo.map (aa.at ρ)) (hi.map (aa.at ρ)) (mx.map (aa.at ρ))with
    |some (l,h,m)=>if !mx.isSome || hi.isSome then N1 (.sl (decide (m=h)) ((rows.take h).drop l))else N2
    |none=>N2
   else N2
  |_=>N2
 |.fa off x=>match x.at ρ with
  |.ptr o v off0=>N1 (.ptr o v (off0+off))
  |.vp o v n k i off0=>N1 (.vp o v n k i (off0+off))
  |.ep row off0=>N1 (.ep row (off0+off))
  |_=>N2
 |.fld off k agg x=>match x.at ρ with
  |.agg cs=>if off+k<=cs.length then eD agg ((cs.drop off).take k)else N2
  |_=>N2
 |.iaV x i k=>match x.at ρ,i.at ρ with
  |.sl _ rows,.int _ n=>if 0<=n then match rows[n.toNat]? with
    |some row=>if row.length=k then N1 (.ep row 0)else N2
    |none=>N2
   else N2
  |.sr o v len,.int _ n=>if 0<=n/\n<len then N1 (.vp o v len k n.toNat 0)else N2
  |_,_=>N2
 |.iaA len k x i=>match x.at ρ,i.at ρ with
  |.ptr o v off,.int _ n=>if 0<=n/\n<len then N1 (.ptr o v (off+n.toNat*k))else N2
  |.ep row off,.int _ n=>if 0<=n/\n<len then N1 (.ep row (off+n.toNat*k))else N2
  |.vp o v m k2 r off,.int _ n=>if 0<=n/\n<len then N1 (.vp o v m k2 r (off+n.toNat*k))else N2
  |_,_=>N2
 |.ixS x i=>match x.at ρ,i.at ρ with
  |.str s,.int _ n=>if 0<=n then match s[n.toNat]? with
    |some b=>N1 (.int .u8 b.toNat)
    |none=>N2
   else N2
  |_,_=>N2
 |.ixA len k agg x i=>match x.at ρ,i.at ρ with
  |.agg cs,.int _ n=>if 0<=n/\n<len/\n.toNat*k+k<=cs.length then eD agg ((cs.drop (n.toNat*k)).take k)else N2
  |_,_=>N2
 |.fg x=>match x.at ρ with
  |.str s=>N1 (.int .i64 s.length)
  |_=>N2
 |.Wk x=>match x.at ρ with
  |.sl _ rows=>N1 (.int .i64 rows.length)
  |.sr _ _ n=>N1 (.int .i64 n)
  |.ar=>N1 (.int .i64 0)
  |_=>N2
 |.zb n=>N1 (.int .i64 n)
 |.mm mx xs=>mmV mx (xs.map (aa.at ρ))
 |.ext i x=>match x.at ρ with
  |.tup vs=>vs[i]?
  |_=>N2
 |.km t x=>if (x.at ρ).tn then N1 (.ifc t (x.at ρ))else N2
 |.look zero m k ok=>match m.at ρ with
  |.mp o v=>match H[o]? with
   |some (.map v' es)=>if v'=v then
     match findKey (k.at ρ) es 0 with
     |some (N1 (_,x))=>if ok then N1 (.tup [x,.bool Pa])else N1 x
     |some N2=>if ok then N1 (.tup [zero,.bool Po])else N1 zero
     |none=>N2
    else N2
   |_=>N2
  |.fmp ks vs=>match findKey (k.at ρ) (ks.zip vs) 0 with
   |some (N1 (_,x))=>if ok then N1 (.tup [x,.bool Pa])else N1 x
   |some N2=>if ok then N1 (.tup [zero,.bool Po])else N1 zero
   |none=>N2
  |_=>N2
 |.wy zero m k ok=>match m.at ρ with
  |.mp o v=>match H[o]? with
   |some (.map v' es)=>if v'=v/\(bJi (k.at ρ) (k.at ρ)).isSome then bJB zero ok (bIO (k.at ρ) es 0)else N2
   |_=>N2
  |.fmp ks vs=>if (bJi (k.at ρ) (k.at ρ)).isSome then bJB zero ok (bIO (k.at ρ) (ks.zip vs) 0)else N2
  |_=>N2
 |_=>N2
def aCc(ρ:bN):df->LN
 |.load _ _ x=>match x.at ρ with
  |.ptr o _ _=>[o]
  |.vp o _ _ _ _ _=>[o]
  |_=>[]
 |.conv .b2s x=>match x.at ρ with
  |.sr o _ _=>[o]
  |.srv o _ _ _ _=>[o]
  |.srw o _ _ _=>[o]
  |_=>[]
 |.look _ m _ _=>match m.at ρ with
  |.mp o _=>[o]
  |_=>[]
 |.wy _ m _ _=>match m.at ρ with
  |.mp o _=>[o]
  |_=>[]
 |.view _ x _=>match x.at ρ with
  |.sr o _ _=>[o]
  |_=>[]
 |_=>[]
def xC(ρ:bN)(k:Nat)(H:LO)(rows:List LA):List (Nat×aa)->Option (List LA×LO×LN)
 | []=>N1 (rows,H,[])
 | (i,x)::r=>
  match fix H (x.at ρ)with
  |some (v,H',l)=>
   if v.cells.length=k/\i<rows.length/\v.cells.all AV.still then
    match xC ρ k H' (rows.set i v.cells) r with
    |some (bt,H'',l')=>N1 (bt,H'',l++l')
    |none=>N2
   else N2
  |none=>N2
def aD0(call:Nat->LA->LO->Out)(H:LO)(ρ:bN)(site:Option Nat):df->Out
 |.alloc zs=>match site with
  |some id=>if id<H.length then N1 (.ptr id (bH H id) 0,make H id (.box · zs),[id])else N2
  |none=>N2
 |.gv ty zs=>match site with
  |some id=>if id<H.length then N1 (.ptr id (bH H id) 0,make H id (.cw · ty zs),[id])else N2
  |none=>N2
 |.box k x=>match site with
  |some id=>if id<H.length/\(x.at ρ).cells.length=k/\(x.at ρ).cells.all AV.ak then N1 (.ptr id (bH H id) 0,make H id (.box · (x.at ρ).cells),[id])else N2
  |none=>N2
 |.tbx ty k x=>match site with
  |some id=>if id<H.length/\(x.at ρ).cells.length=k/\(x.at ρ).cells.all AV.ak then N1 (.ptr id (bH H id) 0,make H id (.cw · ty (x.at ρ).cells),[id])else N2
  |none=>N2
 |.store k x v=>if (v.at ρ).cells.length=k/\(v.at ρ).cells.all AV.ak then
   match storeCells H (v.at ρ).cells (x.at ρ)with
   |some (H',wr)=>N1 (.undef,H',wr)
   |none=>N2
  else N2
 |.bsl k zs n parts=>match site with
  |some id=>match mM ρ k (AX n zs) parts with
   |some rows=>if id<H.length then N1 (.sr id (bH H id) n,make H id (.vec · k rows),[id])else N2
   |none=>N2
  |none=>match xC ρ k H (AX n zs) parts with
   |some (rows,H',wr)=>N1 (.sl Pa rows,H',wr)
   |none=>N2
 |.mks k bytes zs len cap=>match len.at ρ,cap.at ρ with
  |.int _ n,.int _ c=>
   if 0<=n/\n=c/\bP n.toNat bytes then
    match site with
    |some id=>if id<H.length then N1 (.sr id (bH H id) n.toNat,make H id (.vec · k (AX n.toNat (zs.map AV.aj))),[id])else N2
    |none=>N1 (.sl Pa (AX n.toNat (zs.map AV.aj)),H,[])
   else match site with
    |some id=>if n=0/\0<c/\bP c.toNat bytes/\id<H.length then N1 (.sr id (bH H id) 0,make H id (.vec · k []),[id])else N2
    |none=>N2
  |_,_=>N2
 |.app k bytes s x=>eX H site k bytes (s.at ρ) (x.at ρ)
 |.ni ty k bytes s x=>vB H site ty k bytes (s.at ρ) (x.at ρ)
 |.dm f args=>cX call H site (f.at ρ) (args.map (aa.at ρ))
 |.ee f args=>iN call H site (f.at ρ) (args.map (aa.at ρ))
 |.Rd tab x args=>match x.at ρ with
  |.ifc t v=>match tab.lookup t with
   |some f=>cX call H site (.fn f [v] []) (args.map (aa.at ρ))
   |none=>N2
  |_=>N2
 |.cpy k x y=>match x.at ρ with
  |.srv o v n k' lo=>match H[o]? with
   |some (.vec v' k2 rows)=>match bIz H (y.at ρ)with
    |some new=>if new.isEmpty then N1 (.int .i64 0,H,[])else if v'=v/\rows.length=n/\k2=k/\k'=k/\dF k new/\lo+new.length<=n then
      N1 (.int .i64 (new.length:Nat),H.set o (.vec v k (rows.take lo++new++rows.drop (lo+new.length))),[o])
     else N2
    |none=>N2
   |_=>N2
  |.sr o v n=>match H[o]? with
   |some (.vec v' k2 rows)=>match dO H (y.at ρ)with
    |some new=>if new.isEmpty then N1 (.int .i64 0,H,[])else if v'=v/\rows.length=n/\k2=k/\dF k new/\0<n then
      N1 (.int .i64 ((new.take n).length:Nat),H.set o (.vec v k (rows.take 0++new.take n++rows.drop (0+(new.take n).length))),[o])
     else N2
    |none=>N2
   |_=>N2
  |_=>N2
 |.jn=>match site with
  |some id=>if id<H.length then N1 (.mp id (bH H id),make H id (.map · []),[id])else N2
  |none=>N2
 |.ins m k v=>match m.at ρ,k.at ρ with
  |.mp o ver,key=>match H[o]? with
   |some (.map v' es)=>
    if v'=ver/\(aJK key key).isSome/\(v.at ρ).strip.cells.all AV.still then
     match findKey key es 0 with
     |some (N1 (i,_))=>N1 (.undef,H.set o (.map ver (es.set i (key,(v.at ρ).strip))),[o])
     |some N2=>N1 (.undef,H.set o (.map ver (es++[(key,(v.at ρ).strip)])),[o])
     |none=>N2
    else N2
   |_=>N2
  |_,_=>N2
 |.Fs m k v=>match m.at ρ with
  |.mp o ver=>match H[o]? with
   |some (.map v' es)=>
    if v'=ver/\(bJi (k.at ρ) (k.at ρ)).isSome/\(v.at ρ).strip.cells.all AV.still then
     match bIO (k.at ρ) es 0 with
     |some (N1 (i,_))=>N1 (.undef,H.set o (.map ver (es.set i (k.at ρ,(v.at ρ).strip))),[o])
     |some N2=>N1 (.undef,H.set o (.map ver (es++[(k.at ρ,(v.at ρ).strip)])),[o])
     |none=>N2
    else N2
   |_=>N2
  |_=>N2
 |_=>N2
def aD1(l:LA):∀(ps:List (Nat×Nat×aa))(cells:LA),iA l cells ps=mK (ck l) cells ps
 | [],_=>rfl
 | (off,size,x)::r,cells=>by
  unfold iA mK;simp only[aa.ka,aD1 l r]
def aEN(l:LA)(k:Nat):∀(ps:List (Nat×aa))(rows:List LA),lW l k rows ps=nZ (ck l) k rows ps
 | [],_=>rfl
 | (i,x)::r,rows=>by
  unfold lW nZ;simp only[aa.ka,aEN l k r]
def aD2(l:LA)(k:Nat):∀(ps:List (Nat×aa))(rows:List LA),jW l k rows ps=mM (ck l) k rows ps
 | [],_=>rfl
 | (i,x)::r,rows=>by
  unfold jW mM;simp only[aa.ka,aD2 l k r]
def aI8(l:LA)(k:Nat):∀(ps:List (Nat×aa))(H:LO)(rows:List LA),nW l k H rows ps=xC (ck l) k H rows ps
 | [],_,_=>rfl
 | (i,x)::r,H,rows=>by
  unfold nW xC;simp only[aa.ka,aI8 l k r];rfl
def aSN(H:LO)(l:LA)(o:df):evR H l o=vA H (ck l) o:=by cases o<;>simp only[evR,vA,aa.ka,aa.A4,aD1,aEN]<;>rfl
def aTB(l:LA)(o:df):aIR l o=aCc (ck l) o:=by
 cases o with
 |conv c x=>cases c<;>simp only[aIR,aCc,aa.ka]<;>rfl
 |_=>first | rfl | (simp only[aIR,aCc,aa.ka];done)|(simp only[aIR,aCc,aa.ka];rfl)
def aSO(call:Nat->LA->LO->Out)(H:LO)(l:LA)(site:Option Nat)(o:df):evW call H l site o=aD0 call H (ck l) site o:=by cases o<;>simp only[evW,aD0,aa.ka,aa.A4,aD2,aI8]<;>rfl
def aP3(c1 c2:Nat->LA->LO->Out):Prop:=∀f args H r,c1 f args H=N1 r->c2 f args H=N1 r
section
variable {c1 c2:Nat->LA->LO->Out}(hle:aP3 c1 c2)
include hle
def aEO{f:AV}{r}(h:cX c1 H site f args=N1 r):cX c2 H site f args=N1 r:=by
 unfold cX at h ⊢;split at h
 .split at h
  .cases h
  split at h
  .cases h
  rename_i hc;rw[hle _ _ _ _ hc];exact h
 .split at h
  .cases h
  split at h
  .cases h
  rename_i hc;rw[hle _ _ _ _ hc];exact h
 cases h
def aKb{f:AV}{r}(h:iN c1 H site f args=N1 r):iN c2 H site f args=N1 r:=by
 unfold iN at h ⊢;split at h
 .split at h
  .cases h
  rename_i hc;rw[hle _ _ _ _ hc];exact h
 cases h
def aML{ρ:LA}{o:df}{r}(h:evW c1 H ρ site o=N1 r):evW c2 H ρ site o=N1 r:=by
 cases o<;>first | exact h | skip
 .exact aEO hle h
 .exact aKb hle h
 rename_i tab x args;simp only[evW]at h ⊢;generalize aa.ev ρ x=y at h ⊢;cases y with
 |ifc t v=>
  dsimp only at h ⊢;generalize tab.lookup t=z at h ⊢;cases z with
  |none=>cases h
  |some f=>exact aEO hle h
 |_=>cases h
def aKc{ρ:LA}{r}(h:aOI c1 c d H ρ o=N1 r):aOI c2 c d H ρ o=N1 r:=by
 unfold aOI at h ⊢;split at h
 .rename_i hw;rw[Vx hw];exact aML hle h
 rename_i hw;rw[Vw hw];exact h
def aBa{c:Ctx}:∀{ops:List ae}{s s':gp},jL c1 c ops s=N1 s'->jL c2 c ops s=N1 s'
 | [],_,_,h=>h
 |o::r,s,s',h=>by
  unfold jL at h ⊢;split at h
  .rename_i hg;rw[Vx hg];split at h
   .rename_i hw;rw[Vx hw];split at h
    .rename_i he;rw[aKc hle he];exact aBa h
    cases h
   rename_i hw;rw[Vw hw];exact aBa h
  cases h
def aI9{ρ:LA}{r}(h:aFJ c1 c H ρ o=N1 r):aFJ c2 c H ρ o=N1 r:=by
 unfold aFJ at h ⊢;split at h
 .exact h
 split at h
 .rename_i hw;rw[Vx hw];split at h
  .rename_i he;rw[aML hle he];exact h
  cases h
 rename_i hw;rw[Vw hw];exact h
def xD{c:Ctx}:∀{i:Nat}{ops:List ae}{s:gp}{r},nT c1 c i ops s=N1 r->nT c2 c i ops s=N1 r
 |_,[],_,_,h=>h
 |i,o::r,s,s',h=>by
  unfold nT at h ⊢;split at h
  .rename_i hg;rw[Vx hg];split at h
   .rename_i hw;rw[Vx hw];split at h
    .rename_i he;rw[aI9 hle he];dsimp only;split at h
     .rename_i hr;rw[xD hr];exact h
     cases h
    cases h
   rename_i hw;rw[Vw hw];exact xD h
  cases h
def aJ4{s:gp}(h:iO c1 c d ops s=N1 s'):iO c2 c d ops s=N1 s':=by
 unfold iO at h ⊢;split at h
 .rename_i hd;rw[Vx hd];split at h
  .rename_i hp;split at h
   .rename_i hr;rw[xD hle hr];exact h
   cases h
  cases h
 rename_i hd;rw[Vw hd];split at h
 .cases h
 rename_i O9;rw[Vw O9];exact aBa hle h
end
section
variable {A:af}
def oU{e:bf}{r}(hp:(A.bq f).bind (· args H)=N2)(hf:A.fn f=N1 fn)(hc:cY A n ⟨H.length,fn.sites⟩ fn.body (nF fn args H)=N1 (e,s'))(he:e=.normal∨e=.ret)(hr:aA4 H.length fn s'=N1 r)(hN:args.length<=fn.ntmps):dD A n f args H=N1 (cJ H.length r):=by unfold dD qL;rw[hp,hf];dsimp only;rw[Vx hN,hc];rcases he with rfl|rfl<;>(dsimp only;rw[hr])
def aAe{o v:Nat}{xs:LA}:sO ev H (.own 0 []::.yld o v::xs)=match H[o]? with
  |some (.rnd v' base sites ps (.seq asg body) ρ Po N2)=>
   if v'=v/\xs.length=ps.length then
    match ev ⟨base,sites++[YF+o,YF+v]⟩ asg ⟨dH ρ ps xs,H,[]⟩ with
    |some (.normal,s0)=>match s0.H[o]? with
     |some (.rnd v1 b1 t1 p1 c1 r1 Po N2)=>
      if v1=v then
       match ev ⟨base,sites++[YF+o,YF+v]⟩ body ⟨s0.ρ,s0.H.set o (.rnd v b1 t1 p1 c1 r1 Pa N2),s0.wr⟩ with
       |some (e,s)=>match s.H[o]? with
        |some (.rnd v2 b2 s2 p2 c2 r2 Pa N2)=>if v2=v then N1 (.bool (decide (e=.normal)),s.H.set o (.rnd v b2 s2 p2 c2 r2 Po (if e=.normal then N2 else N1 e)),FM base (H.length - base)++(o::s.wr))else N2
        |_=>N2
       |none=>N2
      else N2
     |_=>N2
    |_=>N2
   else N2
  |_=>none:=rfl
def aJ5{e1 e2:Ctx->ag->gp->Option (bf×gp)}(he:∀c x s r,e1 c x s=N1 r->e2 c x s=N1 r){r}(h:sO e1 H args=N1 r):sO e2 H args=N1 r:=by obtain⟨o,v,xs,base,sites,ps,asg,body,ρ,s0,b1,t1,p1,c1,r1,e,s,rfl,hH,hl,xt,xu,je,b',s',p',c',r',hs,rfl⟩:=oK h;rw[aAe,hH];dsimp only;rw[Vx ⟨rfl,hl⟩,he _ _ _ _ xt];dsimp only;rw[xu];dsimp only;rw[Vx rfl,he _ _ _ _ je];dsimp only;rw[hs];dsimp only;rw[Vx rfl]
def tQ{m:Nat}(jz:∀c x s r,cY A n c x s=N1 r->cY A m c x s=N1 r):aP3 (dD A n) (dD A m):=by
 intro f args H r h;unfold dD qL at h;split at h
 .rename_i v hv;cases h;unfold dD qL;rw[hv]
 rename_i hv;split at h
 .rename_i hf;unfold dD qL;rw[hv,hf];exact aJ5 jz h
 rename_i fn hf;split at h;rotate_left
 .cases h
 rename_i hN;split at h
 .rename_i s' he;split at h
  .rename_i r' hr;cases h;exact oU hv hf (jz _ _ _ _ he) (.inl rfl) hr hN
  cases h
 .rename_i s' he;split at h
  .rename_i r' hr;cases h;exact oU hv hf (jz _ _ _ _ he) (.inr rfl) hr hN
  cases h
 cases h
def eJ:∀{n m:Nat},n<=m->∀(c:Ctx)(x:ag)(s:gp) r,cY A n c x s=N1 r->cY A m c x s=N1 r
 |0,_,_,c,x,s,r,h=>by rw[gT]at h;cases h
 |n+1,0,hn,_,_,_,_,_=>by omega
 |n+1,m+1,hn,c,x,s,r,h=>by
  have ih:=eJ (n:=n) (m:=m) omT;cases x with
  |skip=>exact h
  |bad=>exact h
  |region d ops=>
   rw[iS]at h ⊢;split at h
   .rename_i hr;rw[aJ4 (tQ ih) hr];exact h
   cases h
  |seq a b=>
   rw[iD]at h ⊢;split at h
   .rename_i hr;rw[ih _ _ _ _ hr];exact ih _ _ _ _ h
   rename_i bl;rw[ih _ _ _ _ h];split
   .rename_i D0;exact (bl _ (h.trans D0)).elim
   rfl
  |cond t a b=>
   rw[iT]at h ⊢;split at h
   .exact ih _ _ _ _ h
   .exact ih _ _ _ _ h
   cases h
  |block id b=>
   rw[eP]at h ⊢;split at h
   .rename_i hr;rw[ih _ _ _ _ hr];exact h
   rename_i bl;rw[ih _ _ _ _ h];split
   .rename_i D0;exact (bl _ _ (h.trans D0)).elim
   rfl
  |loop b=>
   rw[gU]at h ⊢;split at h
   .rename_i hr;rw[ih _ _ _ _ hr];exact ih _ _ _ _ h
   rename_i bl;rw[ih _ _ _ _ h];split
   .rename_i D0;exact (bl _ (h.trans D0)).elim
   rfl
  |exit id=>exact h
  |ret=>exact h
  |frz ts=>exact h
  |dz x ps body=>
   rw[iU]at h ⊢;split at h
   .split at h
    .rename_i hc;rw[Vx hc];split at h
     .rename_i kq;rw[tQ ih _ _ _ _ kq];exact h
     cases h
    cases h
   cases h
def oA{m:Nat}(h:n<=m):aP3 (dD A n) (dD A m):=tQ (eJ h)
noncomputable def aG(A:af)(f:Nat)(args:LA)(H:LO):Out:=
 open Classical in if h:∃n r,dD A n f args H=N1 r then N1 h.choose_spec.choose else N2
def oL{r}(h:dD A n f args H=N1 r):aG A f args H=N1 r:=by
 have mn:∃n r,dD A n f args H=N1 r:=⟨n,r,h⟩;unfold aG;rw[dif_pos mn];have h2:=mn.choose_spec.choose_spec;rcases PI n mn.choose with hn|hn
 .exact h2.symm.trans (oA hn _ _ _ _ h)
 have h3:=oA hn _ _ _ _ h2;exact h3.symm.trans h
theorem oM{r}(h:aG A f args H=N1 r):∃n,dD A n f args H=N1 r:=by
 unfold aG at h;split at h
 .rename_i mn;cases h;exact⟨_,mn.choose_spec.choose_spec⟩
 cases h
end
def nG{l:LA}{d:Nat}(h:d<l.length):ck (l.set d v)=upd (ck l) d v:=by
 funext t;unfold ck upd;by_cases e:t=d
 .subst e;simp[h]
 rw[Vw e,List.getElem?_set_ne (Ne.symm e)]
def zE(ρ:bN):Option (Option Nat×Bool)->Option Bool
 |none=>N1 Pa
 |some (N2,_)=>N2
 |some (N1 t,want)=>match ρ t with
  |.bool b=>N1 (b==want)
  |.tup []=>N1 Po
  |_=>N2
def aKd(l:LA)(o:ae):zE (ck l) o.guard=if pF l o then N1 (wanted l o)else none:=by
 unfold zE pF wanted ck;cases hg:o.guard with
 |none=>simp
 |some p=>
  obtain⟨t,want⟩:=p;cases t with
  |none=>simp
  |some t=>
   simp only;cases ht:l[t]? with
   |none=>simp
   |some v=>cases v with
    |tup vs=>cases vs<;>simp
    |_=>simp
def nB(call:Nat->LA->LO->Out)(site:Option Nat)(inDraw:Bool)(ρ:bN)(H:LO)(op:df):Out:=
 if isW site inDraw op then aD0 call H ρ site op
 else match vA H ρ op with
  |some v=>N1 (v,H,[])
  |none=>N2
def aR9(call:Nat->LA->LO->Out)(c:Ctx)(d:Bool)(H:LO)(l:LA)(o:ae):aOI call c d H l o=nB call (c.site o.dst) d (ck l) H o.op:=by unfold aOI nB;rw[aSO,aSN];rfl
def aP4(N:Nat)(o:ae):Bool:=match o.dst with
 |some d=>decide (d<N)
 |none=>Pa
def sT{l:LA}(h:aP4 l.length o=Pa):ck (bg l o.dst v)=zX (ck l) o.dst v:=by
 unfold aP4 at h;unfold bg zX;cases hd:o.dst with
 |none=>rfl
 |some d=>rw[hd]at h;simp only[decide_eq_true_eq]at h;exact nG h
section
variable (call:Nat->LA->LO->Out)(c:Ctx)
def aD3:List ae->bN->LO->LN->(bN->LO->LN->Prop)->Prop | [],ρ,H,wr,K=>K ρ H wr | o::r,ρ,H,wr,K=>match zE ρ o.guard with | none=>False | some Po=>aD3 r (zX ρ o.dst (.tup [])) H wr K | some Pa=>match nB call (c.site o.dst) Po ρ H o.op with | none=>False | some (v,H',w)=>aD3 r (zX ρ o.dst v) H' (bE c.base wr w) K
def oB(site:Option Nat)(ρ:bN)(H:LO)(op:df):Option (AV×LO×LN×Option LN):=
 match op,site with
 |.alloc _,N1 id=>N1 (.ptr id ((H[id]?).elim 0 ah.ver) 0,H,[id],N2)
 |op,site=>
  if isW site Pa op then
   match aD0 call H ρ site op with
   |some (v,H',wr)=>if H'.length=H.length then N1 (v,H',[],N1 wr)else if H.length<H'.length then N1 (v,H',[],N1 (wr++FM H.length (H'.length - H.length)))else N2
   |none=>N2
  else match vA H ρ op with
   |some v=>N1 (v,H,aCc ρ op,N2)
   |none=>N2
def aRa(H:LO)(l:LA)(o:ae):aFJ call c H l o=oB call (c.site o.dst) (ck l) H o.op:=by unfold aFJ oB;simp only[aTB,aSN,aSO];rfl
def wpD(aq:LN):Nat->List ae->bN->LO->LN->(bN->LO->LN->Log->Prop)->Prop
 |_,[],ρ,H,wr,K=>K ρ H wr []
 |i,o::r,ρ,H,wr,K=>match zE ρ o.guard with
  |none=>False
  |some Po=>wpD aq (i+1) r (zX ρ o.dst (.tup [])) H wr K
  |some Pa=>match oB call (c.site o.dst) ρ H o.op with
   |none=>False
   |some (v,H',rd,w)=>wpD aq (i+1) r (zX ρ o.dst v) H' (bE c.base wr (w.getD []))
    (if aq.contains i then λρ H wr log=>K ρ H wr ((i,rd,w)::log)else K)
end
def looks(site:Option Nat):df->Bool
 |.load .. | .look .. | .wy .. | .conv .. | .view ..=>Pa
 |.alloc _=>site.isSome
 |_=>Po
def aBG(c:Ctx)(o:ae):Bool:=match o.op,c.site o.dst with
 |.alloc _,N1 _=>Pa
 |_,site => !isW site Pa o.op
def aG4(c:Ctx)(aq:LN)(o:ae)(i:Nat)(p:ae)(j:Nat):Bool:=
 p.pre.contains i || (aq.contains i&&aq.contains j) ||
 (aBG c o&&aBG c p) ||
 (aBG c o && !looks (c.site o.dst) o.op) || (aBG c p && !looks (c.site p.dst) p.op)
def aCd(c:Ctx)(aq:LN):Nat->List ae->Bool
 |_,[]=>Pa
 |i,o::r=>((r.zipIdx (i+1)).all λ(p,j)=>aG4 c aq o i p j)&&aCd c aq (i+1) r
def aLE{op:df}(h:looks site op=Po):aCc ρ op=[]:=by cases op<;>first | rfl | (simp[looks]at h)
def Ent(c:Ctx)(e:Nat×LN×Option LN)(o:ae):Prop:=
 (aBG c o=Pa->e.2.2=N2)/\(aBG c o=Pa->looks (c.site o.dst) o.op=Po->e.2.1=[])
def aP5{v H' rd w}(i:Nat)(h:oB call (c.site o.dst) ρ H o.op=N1 (v,H',rd,w)):Ent c (i,rd,w) o:=by
 unfold oB at h;unfold Ent aBG;split at h
 .rename_i h1 h2;cases h;refine⟨λ_=>rfl,λ_ hl=>?_⟩;rw[h2]at hl;simp[h1,looks]at hl
 split at h
 .rename_i hw;constructor
  .intro hh;simp[hw]at hh
  intro hh;simp[hw]at hh
 split at h
 .cases h;refine⟨λ_=>rfl,λ_ hl=>aLE hl⟩
 cases h
def tR(c:Ctx):Nat->List ae->Log->Prop
 |_,[],log=>log=[]
 |i,o::r,log=>tR c (i+1) r log∨∃rd w log',log=(i,rd,w)::log'/\Ent c (i,rd,w) o/\tR c (i+1) r log'
def tR.mem:∀{i:Nat}{ops:List ae}{log:Log},tR c i ops log->∀e∈log,∃o,(o,e.1)∈ops.zipIdx i/\Ent c e o
 |_,[],_,h,e,he=>by rw[tR]at h;subst h;cases he
 |i,o::r,log,h,e,he=>by
  unfold tR at h;rw[NX];rcases h with h | ⟨rd,w,log',rfl,h1,h2⟩
  .obtain⟨p,hp,hq⟩:=h.mem e he;exact⟨p,BZ _ hp,hq⟩
  rcases BD.1 he with rfl|he
  .exact⟨o,List.mem_cons_self,h1⟩
  obtain⟨p,hp,hq⟩:=h2.mem e he;exact⟨p,BZ _ hp,hq⟩
def aNN{p:ae}{j:Nat}(h:(p,j)∈ops.zipIdx):((ops[j]?).map ae.pre).getD []=p.pre:=by have:=List.mem_zipIdx h;simp only[FF,Nat.sub_zero,BC,true_and]at this;obtain⟨h1,h2⟩:=this;rw[AP h1,<- h2];rfl
def xE{c:Ctx}{aq:LN}{all:List ae}:∀{i:Nat}{ops:List ae}{log:Log},tR c i ops log->aCd c aq i ops=Pa ->(∀p∈ops.zipIdx i,p∈all.zipIdx) ->eH (λj=>((all[j]?).map ae.pre).getD []) (log.filter λe=>aq.contains e.1)=Pa ->eH (λj=>((all[j]?).map ae.pre).getD []) log=Pa
 |_,[],log,h,_,_,_=>by rw[tR]at h;subst h;rfl
 |i,o::r,log,h,hp,iv,hk=>by
  unfold aCd at hp;rw[AI]at hp;unfold tR at h;rw[NX]at iv;rcases h with h | ⟨rd,w,log',rfl,h1,h2⟩
  .exact xE h hp.2 (λp hp=>iv p (BZ _ hp)) hk
  unfold eH;rw[AI];constructor
  .rw[AO];rintro⟨j,rd',w'⟩ he;obtain⟨p,hpm,hpe⟩:=h2.mem _ he;have hpp:=aNN (iv _ (BZ _ hpm));have hpo:=(AO.1 hp.1) _ hpm;dsimp only at hpp hpo ⊢;rw[hpp];unfold aG4 at hpo;simp only[EA,AI,KB]at hpo;rcases hpo with (((h | ⟨hi,hj⟩) | ⟨ho,hq⟩) | ⟨ho,hl⟩) | ⟨hq,hl⟩
   .simp only[h,Bool.true_or]
   .have z8:eH (λj=>((all[j]?).map ae.pre).getD []) ((i,rd,w)::log'.filter λe=>aq.contains e.1)=true:=by
     rw[JV]at hk;simp only[hi,Vu]at hk;exact hk
    unfold eH at z8;rw[AI]at z8;have:=(AO.1 z8.1) (j,rd',w') (by rw[OK];exact⟨he,hj⟩);dsimp only at this;rw[hpp]at this;exact this
   .have e1:w=none:=h1.1 ho;have e2:w'=none:=hpe.1 hq;subst e1;subst e2;simp
   .have e1:w=none:=h1.1 ho;have e2:rd=[]:=h1.2 ho hl;subst e1;subst e2;cases w'<;>simp[dG]
   have e1:w'=none:=hpe.1 hq;have e2:rd'=[]:=hpe.2 hq hl;subst e1;subst e2;cases w<;>simp[dG]
  refine xE h2 hp.2 (λp hp=>iv p (BZ _ hp)) ?_;rw[JV]at hk;split at hk
  .unfold eH at hk;rw[AI]at hk;exact hk.2
  exact hk
section
variable {A:af}
def aIa{f:AV}{r}(h:cX (aG A) H site f args=N1 r):∃n,cX (dD A n) H site f args=N1 r:=by
 unfold cX at h;split at h
 all_goals grind [oM,cX]
def aNO{f:AV}{r}(h:iN (aG A) H site f args=N1 r):∃n,iN (dD A n) H site f args=N1 r:=by
 unfold iN at h
 grind [oM,iN]
def aP6{o:df}{r}(h:aD0 (aG A) H ρ site o=N1 r):∃n,aD0 (dD A n) H ρ site o=N1 r:=by
 cases o<;>first | exact⟨0,h⟩ | skip
 .exact aIa h
 .exact aNO h
 rename_i tab x args;simp only[aD0]at h ⊢;generalize aa.at ρ x=y at h ⊢;cases y with
 |ifc t v=>
  dsimp only at h ⊢;generalize tab.lookup t=z at h ⊢;cases z with
  |none=>cases h
  |some f=>exact aIa h
 |_=>cases h
def aRb{o:df}{r}(h:nB (aG A) site d ρ H o=N1 r):∃n,nB (dD A n) site d ρ H o=N1 r:=by
 unfold nB at h;split at h
 all_goals simp_all [aP6,nB,Vx,Vw]
def aRc{o:df}{r}(h:oB (aG A) site ρ H o=N1 r):∃n,oB (dD A n) site ρ H o=N1 r:=by
 unfold oB at h;split at h
 .exact⟨0,h⟩
 rename_i bl;split at h
 .rename_i hw;split at h
  .rename_i he;obtain⟨n,hn⟩:=aP6 he;refine⟨n, ?_⟩;unfold oB
   grind
  cases h
 rename_i hw;refine⟨0, ?_⟩;unfold oB
 grind
def aCe{c:Ctx}:∀{ops:List ae}{l:LA}{H:LO}{wr:LN}{K},aD3 (aG A) c ops (ck l) H wr K->(ops.all (aP4 l.length))=Pa ->∃n s',jL (dD A n) c ops ⟨l,H,wr⟩=N1 s'/\s'.ρ.length=l.length/\K (ck s'.ρ) s'.H s'.wr
 | [],l,H,wr,K,h,_=>⟨0,⟨l,H,wr⟩,rfl,rfl,h⟩
 |o::r,l,H,wr,K,h,hd=>by
  rw[ES,AI]at hd;unfold aD3 at h;rw[aKd]at h;split at h
  .cases h
  .rename_i hg;split at hg
   .rename_i hok;rw[<- sT hd.1]at h;obtain⟨n,s',h1,h2,h3⟩:=aCe h (by rw[fH];exact hd.2);refine⟨n,s', ?_,by rw[h2,fH],h3⟩;unfold jL
    grind
   cases hg
  rename_i hg;split at hg
  .rename_i hok;rw[AG]at hg;split at h
   .cases h
   rename_i v H' w hs;obtain⟨n1,lx⟩:=aRb hs;rw[<- sT hd.1]at h;obtain⟨n2,s',h1,h2,h3⟩:=aCe h (by rw[fH];exact hd.2);refine⟨max n1 n2,s', ?_,by rw[h2,fH],h3⟩;unfold jL;rw[Vx hok,Vx hg];have e1:=aKc (oA (GJ n1 n2)) ((aR9 (dD A n1) c Po H l o).trans lx);rw[e1];exact aBa (oA (GC n1 n2)) h1
  cases hg
def aG5{c:Ctx}{aq:LN}:∀{ops:List ae}{i:Nat}{l:LA}{H:LO}{wr:LN}{K},wpD (aG A) c aq i ops (ck l) H wr K->(ops.all (aP4 l.length))=Pa ->∃n s' log,nT (dD A n) c i ops ⟨l,H,wr⟩=N1 (s',log)/\s'.ρ.length=l.length/\tR c i ops log/\K (ck s'.ρ) s'.H s'.wr (log.filter λe=>aq.contains e.1)
 | [],i,l,H,wr,K,h,_=>⟨0,⟨l,H,wr⟩,[],rfl,rfl,rfl,h⟩
 |o::r,i,l,H,wr,K,h,hd=>by
  rw[ES,AI]at hd;unfold wpD at h;rw[aKd]at h;split at h
  .cases h
  .rename_i hg;split at hg
   .rename_i hok;rw[<- sT hd.1]at h;obtain⟨n,s',log,h1,h2,h3,h4⟩:=aG5 h (by rw[fH];exact hd.2);refine⟨n,s',log, ?_,by rw[h2,fH],.inl h3,h4⟩;unfold nT
    grind
   cases hg
  rename_i hg;split at hg
  .rename_i hok;rw[AG]at hg;split at h
   .cases h
   rename_i v H' rd w hs;obtain⟨n1,lx⟩:=aRc hs;rw[<- sT hd.1]at h;obtain⟨n2,s',log,h1,h2,h3,h4⟩:=aG5 h (by rw[fH];exact hd.2);refine⟨max n1 n2,s',(i,rd,w)::log, ?_,by rw[h2,fH],.inr ⟨rd,w,log,rfl,aP5 i hs,h3⟩, ?_⟩
   .unfold nT;rw[Vx hok,Vx hg];have e1:=aI9 (oA (GJ n1 n2)) ((aRa (dD A n1) c H l o).trans lx);rw[e1];dsimp only;rw[xD (oA (GC n1 n2)) h1]
   grind
  cases hg
def Wp(A:af)(N:Nat)(c:Ctx)(x:ag)(ρ:bN)(H:LO)(wr:LN)(Q:bf->bN->LO->LN->Prop):Prop:=
 ∀l:LA,l.length=N->ck l=ρ->∃n e s',cY A n c x ⟨l,H,wr⟩=N1 (e,s')/\s'.ρ.length=N/\Q e (ck s'.ρ) s'.H s'.wr
def aVH(H:LO)(v:AV):Option (AV×LO×LN):=match fix H v with
 |some r=>N1 (bPE r.2.1 r.1 r.2.2)
 |none=>aA3 H v
def aD4(H:LO)(k:Nat)(v:AV):Option (LO×LN):=match bKj H v with
 |some r=>N1 r
 |none=>match bC H k v with
  |some cs=>match fix H (.agg cs)with
   |some (.agg cs',H',l)=>match storeCells H' cs' v with
    |some (H'',l')=>N1 (H'',l++l')
    |none=>N2
   |_=>N2
  |none=>N2
def aD5(c:Ctx):List (Nat×Nat)->bN->LO->LN->(bN->LO->LN->Prop)->Prop
 | [],ρ,H,wr,K=>K ρ H wr
 | (k+1,t)::r,ρ,H,wr,K=>
  if (ρ t).iy then aD5 c r ρ H wr K else
  match aD4 H (k+1) (ρ t)with
  |some (H',l)=>aD5 c r ρ H' (bE c.base wr l) K
  |none=>False
 | (0,t)::r,ρ,H,wr,K=>
  match aVH H (ρ t)with
  |some (v,H',l)=>aD5 c r (upd ρ t v) H' (bE c.base wr l) K
  |none=>False
def bS0{r}(h:fix H (.agg cs)=N1 r):∃cs',r.1=.agg cs':=by
 unfold fix dw at h;dsimp only at h;split at h
 .rename_i hl;split at hl
  .cases hl;cases h;exact⟨_,rfl⟩
  cases hl
 cases h
def aTC{r}(h:fix H (.agg cs)=N1 r):aMD H (.agg cs)=N1 r:=by obtain⟨cs',e⟩:=bS0 h;obtain⟨v,H',l⟩:=r;cases e;unfold aMD;rw[h];rfl
theorem aTD{r}(h:aVH H v=N1 r):aMD H v=N1 r:=by
 unfold aVH at h;unfold aMD
 grind [fix,aA3]
def qP{c:Ctx}:∀{ts:List (Nat×Nat)}{l:LA}{H:LO}{wr:LN}{K},aD5 c ts (ck l) H wr K->(ts.all λp=>decide (p.2<l.length))=Pa ->∃s',nX c ⟨l,H,wr⟩ ts=N1 s'/\s'.ρ.length=l.length/\K (ck s'.ρ) s'.H s'.wr
 | [],l,H,wr,K,h,_=>⟨⟨l,H,wr⟩,rfl,rfl,h⟩
 | (k+1,t)::r,l,H,wr,K,h,hd=>by
  rw[ES,AI]at hd;unfold aD5 at h;have e:ck l t=(l[t]?).getD .undef:=rfl;rw[e]at h;split at h
  .rename_i hc;obtain⟨s',h1,h2,h3⟩:=qP h hd.2;refine⟨s', ?_,h2,h3⟩;unfold nX
   grind
  rename_i hc;unfold aD4 at h;cases hk:bKj H ((l[t]?).getD .undef)with
  |some x=>
   rw[hk]at h;obtain⟨s',h1,h2,h3⟩:=qP h hd.2;refine⟨s', ?_,h2,h3⟩;unfold nX
   grind
  |none=>
   rw[hk]at h;cases hr:bC H (k+1) ((l[t]?).getD .undef)with
   |none=>rw[hr]at h;exact h.elim
   |some cs=>
    rw[hr]at h;dsimp only at h;cases hf:fix H (.agg cs)with
    |none=>rw[hf]at h;exact h.elim
    |some x=>
     obtain⟨v,H',l1⟩:=x;rw[hf]at h;cases v<;>try exact h.elim
     rename_i cs';dsimp only at h;cases hs:storeCells H' cs' ((l[t]?).getD .undef)with
     |none=>rw[hs]at h;exact h.elim
     |some y=>
      rw[hs]at h;obtain⟨s',h1,h2,h3⟩:=qP h hd.2;refine⟨s', ?_,h2,h3⟩
      simp_all [nX,Vw,aTC]
 | (0,t)::r,l,H,wr,K,h,hd=>by
  rw[ES,AI]at hd;unfold aD5 at h;have e:ck l t=(l[t]?).getD .undef:=rfl;split at h
  .rename_i v H' l1 hf;have ht:t<l.length:=by simpa using hd.1
   rw[<- nG ht]at h;obtain⟨s',h1,h2,h3⟩:=qP h uWa
   grind [nX,aTD]
  exact h.elim
def aBH(c:Ctx)(ops:List ae):LN:=
 let z:=ops.zipIdx
 z.filterMap λ(o,i)=>if z.all λ(p,j)=>if i<j then aG4 c [] o i p j else if j<i then aG4 c [] p j o i else Pa then N2 else N1 i
def wpc(A:af)(N:Nat)(c:Ctx):ag->bN->LO->LN->(bf->bN->LO->LN->Prop)->Prop
 |.skip,ρ,H,wr,Q=>Q .normal ρ H wr
 |.bad,_,_,_,_=>False
 |.region Po ops,ρ,H,wr,Q=>aD3 (aG A) c ops ρ H wr (Q .normal)
 |.region Pa ops,ρ,H,wr,Q=>match cS c H ops with
  |some H0=>wpD (aG A) c (aBH c ops) 0 ops ρ H0 wr λρ H wr log=>eH (λj=>((ops[j]?).map ae.pre).getD []) log=Pa/\Q .normal ρ H wr
  |none=>False
 |.seq a b,ρ,H,wr,Q=>wpc A N c a ρ H wr λe ρ H wr=>match e with
  |.normal=>wpc A N c b ρ H wr Q
  |e=>Q e ρ H wr
 |.cond t a b,ρ,H,wr,Q=>match t.at ρ with
  |.bool Pa=>wpc A N c a ρ H wr Q
  |.bool Po=>wpc A N c b ρ H wr Q
  |_=>False
 |.block id b,ρ,H,wr,Q=>wpc A N c b ρ H wr λe ρ H wr=>match e with
  |.exit id'=>if id'=id then Q .normal ρ H wr else Q (.exit id') ρ H wr
  |e=>Q e ρ H wr
 |.loop b,ρ,H,wr,Q=>Wp A N c (.loop b) ρ H wr Q
 |.exit id,ρ,H,wr,Q=>Q (.exit id) ρ H wr
 |.ret,ρ,H,wr,Q=>Q .ret ρ H wr
 |.frz ts,ρ,H,wr,Q=>aD5 c ts ρ H wr (Q .normal)
 |.dz x ps b,ρ,H,wr,Q=>Wp A N c (.dz x ps b) ρ H wr Q
def dK(N:Nat)(c:Ctx):ag->Bool
 |.region d ops=>ops.all (aP4 N)&&(!d || (aOK ops&&aCd c (aBH c ops) 0 ops))
 |.seq a b=>dK N c a&&dK N c b
 |.cond _ a b=>dK N c a&&dK N c b
 |.block _ b=>dK N c b
 |.loop b=>dK N c b
 |.frz ts=>ts.all λp=>decide (p.2<N)
 |_=>Pa
def kM{N:Nat}{c:Ctx}:∀{x:ag}{ρ:bN}{H:LO}{wr:LN}{Q},wpc A N c x ρ H wr Q->dK N c x=Pa->Wp A N c x ρ H wr Q
 |.skip,ρ,H,wr,Q,h,_=>λl hl he=>⟨1,.normal,⟨l,H,wr⟩,rfl,hl,by rw[wpc]at h;grind⟩
 |.bad,_,_,_,_,h,_=>by rw[wpc]at h;exact h.elim
 |.region Po ops,ρ,H,wr,Q,h,hok=>λl hl he=>by
  subst he;simp only[dK,AI]at hok;obtain⟨n,s',h1,h2,h3⟩:=aCe h uWa;refine⟨n+1,.normal,s', ?_,by rw[h2,hl],h3⟩
  grind [iS,iO,dD]
 |.region Pa ops,ρ,H,wr,Q,h,hok=>λl hl he=>by
  subst he;rw[wpc]at h;simp only[dK,AI,Bool.not_true,Bool.false_or]at hok;split at h
  .rename_i H0 hp;obtain⟨n,s',log,h1,h2,h3,h4,h5⟩:=aG5 h uWa;refine⟨n+1,.normal,s', ?_,by rw[h2,hl],h5⟩;rw[iS];have zg:=xE h3 hok.2.2 (λp hp=>hp) h4
   simp_all [iO,dD,BR,Vu,Vx]
  grind
 |.seq a b,ρ,H,wr,Q,h,hok=>λl hl he=>by
  rw[wpc]at h;simp only[dK,AI]at hok;obtain⟨n,e,s',h1,h2,h3⟩:=kM h hok.1 l hl he;by_cases hn:e=.normal
  .subst hn;obtain⟨m,e',s'',g1,g2,g3⟩:=kM h3 hok.2 s'.ρ h2 rfl;refine⟨max n m+1,e',s'', ?_,g2,g3⟩;rw[iD,eJ (GJ n m) _ _ _ _ h1];exact eJ (GC n m) _ _ _ _ g1
  refine⟨n+1,e,s', ?_,h2, ?_⟩
  .rw[iD,h1]
   grind
  grind
 |.cond t a b,ρ,H,wr,Q,h,hok=>λl hl he=>by
  rw[wpc]at h;simp only[dK,AI]at hok;have ht:t.ev l=t.at ρ:=by rw[<- he];exact t.ka l
  split at h
  .rename_i hb;obtain⟨n,e,s',h1,h2⟩:=kM h hok.1 l hl he;exact⟨n+1,e,s',by rw[iT];grind,h2⟩
  .rename_i hb;obtain⟨n,e,s',h1,h2⟩:=kM h hok.2 l hl he;exact⟨n+1,e,s',by rw[iT];grind,h2⟩
  grind
 |.block id b,ρ,H,wr,Q,h,hok=>λl hl he=>by
  rw[wpc]at h;obtain⟨n,e,s',h1,h2,h3⟩:=kM h hok l hl he;cases e with
  |normal=>exact⟨n+1,.normal,s',by rw[eP,h1],h2,h3⟩
  |ret=>exact⟨n+1,.ret,s',by rw[eP,h1],h2,h3⟩
  |exit id'=>
   dsimp only at h3;split at h3
   .rename_i hid;exact⟨n+1,.normal,s',by rw[eP,h1];grind,h2,h3⟩
   rename_i hid;exact⟨n+1,.exit id',s',by rw[eP,h1];grind,h2,h3⟩
 |.loop b,ρ,H,wr,Q,h,_=>by rw[wpc]at h;exact h
 |.dz x ps b,ρ,H,wr,Q,h,_=>by rw[wpc]at h;exact h
 |.exit id,ρ,H,wr,Q,h,_=>λl hl he=>⟨1,.exit id,⟨l,H,wr⟩,rfl,hl,by rw[wpc]at h;grind⟩
 |.ret,ρ,H,wr,Q,h,_=>λl hl he=>⟨1,.ret,⟨l,H,wr⟩,rfl,hl,by rw[wpc]at h;grind⟩
 |.frz ts,ρ,H,wr,Q,h,hok=>λl hl he=>by
  subst he;obtain⟨s',h1,h2,h3⟩:=qP h (by rw[hl];exact hok);exact⟨1,.normal,s',by rw[vI,h1],by rw[h2,hl],h3⟩
def Wp.mono{N:Nat}{x:ag}{Q Q'}(hk:∀e ρ H wr,Q e ρ H wr->Q' e ρ H wr)(h:Wp A N c x ρ H wr Q):Wp A N c x ρ H wr Q':=λl hl he=>by
 obtain⟨n,e,s',h1,h2,h3⟩:=h l hl he
 grind
def aNP(H:LO)(ρ:bN):ou->Option AV
 |.tmp t=>N1 (ρ t)
 |.cell t k agg=>match bC H k (ρ t)with
  |some cs=>eD agg cs
  |none=>N2
def aEP(H:LO)(ρ:bN):List ou->Option LA
 | []=>N1 []
 |r::rs=>match aNP H ρ r with
  |none=>N2
  |some v=>match aEP H ρ rs with
   |none=>N2
   |some vs=>N1 (v::vs)
theorem aJ6(H:LO)(l:LA):∀rs,aIS H l rs=aEP H (ck l) rs
 | []=>rfl
 |r::rs=>by
  unfold aIS aEP;have:aYq H l r=aNP H (ck l) r:=by cases r<;>rfl
  rw[this,aJ6 H l rs];rfl
def iE(base:Nat)(rs:List ou)(ρ:bN)(H:LO)(wr:LN):Out:=
 match aEP H ρ rs with
 |none=>N2
 |some [v]=>match aDR base H v with
  |some (v',H',l)=>N1 (v',H',bE base wr l)
  |none=>N2
 |some vs=>match aBv H vs with
  |some (vs',H',l)=>N1 (.tup vs',H',bE base wr l)
  |none=>N2
def aVI(base:Nat)(rs:List ou)(K:AV->LO->LN->Prop):bf->bN->LO->LN->Prop
 |.exit _,_,_,_=>False
 |_,ρ,H,wr=>match iE base rs ρ H wr with
  |some r=>K (cJ base r).1 (cJ base r).2.1 (cJ base r).2.2
  |none=>False
def pO(args:LA):bN:=λt=>(args[t]?).getD .undef
def aE0(args:LA) k:ck (args++AX k .undef)=pO args:=by
 funext t;unfold ck pO
 grind
def aE1{K:AV->LO->LN->Prop}(hf:A.fn f=N1 fn)(hp:(A.bq f).bind (· args H)=N2)(hN:args.length<=fn.ntmps)(hok:dK fn.ntmps ⟨H.length,fn.sites⟩ fn.body=Pa)(h:wpc A fn.ntmps ⟨H.length,fn.sites⟩ fn.body (pO args) (H++AX fn.sites.length (.gone 0)) [] (aVI H.length fn.results K)):∃v H' wr,aG A f args H=N1 (v,H',wr)/\K v H' wr:=by
 obtain⟨n,e,s',h1,h2,h3⟩:=kM h hok (args++AX (fn.ntmps - args.length) .undef) soT (aE0 _ _);have key:∀r,iE H.length fn.results (ck s'.ρ) s'.H s'.wr=N1 r->aA4 H.length fn s'=N1 r:=by grind [iE,aA4,aJ6]
 cases e with
 |exit id=>exact h3.elim
 |normal=>
  unfold aVI at h3;dsimp only at h3;split at h3
  .rename_i r hr;exact⟨_,_,_,oL (oU hp hf h1 (.inl rfl) (key _ hr) hN),h3⟩
  grind
 |ret=>
  unfold aVI at h3;dsimp only at h3;split at h3
  .rename_i r hr;exact⟨_,_,_,oL (oU hp hf h1 (.inr rfl) (key _ hr) hN),h3⟩
  grind
end
structure Tg{α:Type}(a:α):Type where
def aCi{α:Type}(x:Option α)(k:α->Prop)(tg:Tg k):Prop:=match x with
 |some a=>k a
 |none=>False
@[go_sem] def aVJ{k:α->Prop}{t:Tg k}:aCi (N1 a) k t=k a:=(rfl)
def bnd{α:Type}(x:Option α)(k:α->Prop):Prop:=aCi x k ⟨⟩
@[go_sem] def aYv{k:α->Prop}:bnd (N1 a) k=k a:=(rfl)
@[congr] def aX1{x y:Option α}{k:α->Prop}(h:x=y):bnd x k=bnd y k:=by rw[h]
def aB{x:Option α}{k:α->Prop}:bnd x k=aCi x k ⟨⟩:=(rfl)
def zF(b:Bool)(x y:Prop)(tg:Tg (x,y)):Prop:=match b with
 |true=>x
 |false=>y
@[go_sem] def aTW{x:Prop}{t:Tg (x,y)}:zF Pa x y t=x:=(rfl)
@[go_sem] def aSS{x:Prop}{t:Tg (x,y)}:zF Po x y t=y:=(rfl)
def aD{x:Prop}{t:Tg (x,y)}(h1:b=Pa->x)(h2:b=Po->y):zF b x y t:=by
 cases b
 .exact h2 rfl
 exact h1 rfl
def aST:AV->Option Bool
 |.bool b=>N1 b
 |_=>N2
@[go_sem] def aTX:aST (.bool b)=N1 b:=(rfl)
def aIn(b:Bool):AV->Option Bool
 |.bool b'=>N1 (b'==b)
 |.tup []=>N1 Po
 |_=>N2
@[go_sem] def aTY{b':Bool}:aIn b (.bool b')=N1 (b'==b):=(rfl)
@[go_sem] def aTZ:aIn b (.tup [])=N1 false:=(rfl)
def wo(call:Nat->LA->LO->Out)(c:Ctx)(ops:List ae)(ρ:bN)(H:LO)(wr:LN)(K:bN->LO->LN->Prop)(tg:Tg (call,c,ops,K)):Prop:=aD3 call c ops ρ H wr K
def wd(call:Nat->LA->LO->Out)(c:Ctx)(aq:LN)(i:Nat)(ops:List ae)(ρ:bN)(H:LO)(wr:LN)(L:bN->LO->LN->Log->Prop)(tg:Tg (call,c,aq,ops,L)):Prop:=
 wpD call c aq i ops ρ H wr L
def wc(A:af)(N:Nat)(c:Ctx)(x:ag)(ρ:bN)(H:LO)(wr:LN)(Q:bf->bN->LO->LN->Prop)(tg:Tg (A,N,c,x,Q)):Prop:=wpc A N c x ρ H wr Q
def wl(A:af)(N:Nat)(c:Ctx)(x:ag)(ρ:bN)(H:LO)(wr:LN)(Q:bf->bN->LO->LN->Prop)(tg:Tg (A,N,c,x,Q)):Prop:=Wp A N c (.loop x) ρ H wr Q
def wfz(c:Ctx)(ts:List (Nat×Nat))(ρ:bN)(H:LO)(wr:LN)(K:bN->LO->LN->Prop)(tg:Tg (c,ts,K)):Prop:=aD5 c ts ρ H wr K
section
variable {call:Nat->LA->LO->Out}{c:Ctx}{ρ:bN}{H:LO}{wr:LN}{r:List ae}{p:LN}{d:Nat}
 {K:bN->LO->LN->Prop} {t:Tg (call,c,r,K)}
@[go_sem] def bBs{t:Tg (call,c,[],K)}:wo call c [] ρ H wr K t=K ρ H wr:=(rfl)
def aGj{op:df}{t:Tg (call,c,⟨N1 d,op,N2,p⟩::r,K)}(h:isW (c.site (N1 d)) Po op=Po):wo call c (⟨N1 d,op,N2,p⟩::r) ρ H wr K t=bnd (vA H ρ op) λv=>wo call c r (upd ρ d v) H wr K ⟨⟩:=by
 unfold wo
 conv=>lhs;unfold aD3
 unfold nB;rw[Vw uXi];cases vA H ρ op<;>rfl
abbrev WoR(op:df):Prop:=∀{call:Nat->LA->LO->Out}{c:Ctx}{ρ:bN}{H:LO}{wr:LN}{r:List ae}{p:LN}{d:Nat}{K:bN->LO->LN->Prop}{t:Tg (call,c,⟨N1 d,op,N2,p⟩::r,K)},
 wo call c (⟨N1 d,op,N2,p⟩::r) ρ H wr K t=bnd (vA H ρ op) λv=>wo call c r (upd ρ d v) H wr K ⟨⟩
@[go_sem] def bBt{x1}:WoR (.mov x1):=aGj rfl
@[go_sem] def bA7{x1 y1 z1}:WoR (.pick x1 y1 z1):=aGj rfl
@[go_sem] def aYw{zs1 ps1}:WoR (.build zs1 ps1):=aGj rfl
@[go_sem] def bA8{k1 agg1 x1}:WoR (.load k1 agg1 x1):=aGj rfl
@[go_sem] def aYx{x1}:WoR (.cz x1):=aGj rfl
@[go_sem] def aYy{n1 x1}:WoR (.ky n1 x1):=aGj rfl
@[go_sem] def bBu{b1 e1 x1 y1}:WoR (.bin b1 e1 x1 y1):=aGj rfl
@[go_sem] def bCb{u1 x1}:WoR (.un u1 x1):=aGj rfl
@[go_sem] def bA9{cv1 x1}:WoR (.conv cv1 x1):=aGj rfl
@[go_sem] def bBv{f1 xs1 ys1}:WoR (.mkf f1 xs1 ys1):=aGj rfl
@[go_sem] def aX2{x1 lo1 G7}:WoR (.fm x1 lo1 G7):=aGj rfl
@[go_sem] def aX3{k1 x1 lo1 G7 mx1}:WoR (.gw k1 x1 lo1 G7 mx1):=aGj rfl
@[go_sem] def bCc{o1 x1}:WoR (.fa o1 x1):=aGj rfl
@[go_sem] def bBw{o1 k1 agg1 x1}:WoR (.fld o1 k1 agg1 x1):=aGj rfl
@[go_sem] def bBx{x1 i1 k1}:WoR (.iaV x1 i1 k1):=aGj rfl
@[go_sem] def bBy{n1 k1 x1 i1}:WoR (.iaA n1 k1 x1 i1):=aGj rfl
@[go_sem] def bBz{x1 i1}:WoR (.ixS x1 i1):=aGj rfl
@[go_sem] def bTm{n1 k1 agg1 x1 i1}:WoR (.ixA n1 k1 agg1 x1 i1):=aGj rfl
@[go_sem] def bAa{x1}:WoR (.fg x1):=aGj rfl
@[go_sem] def bAb{x1}:WoR (.Wk x1):=aGj rfl
@[go_sem] def bCd{m1 xs1}:WoR (.mm m1 xs1):=aGj rfl
@[go_sem] def bBA{i1 x1}:WoR (.ext i1 x1):=aGj rfl
@[go_sem] def bAc{z1 m1 k1 ok1}:WoR (.look z1 m1 k1 ok1):=aGj rfl
@[go_sem] def bSU{z1 m1 k1 ok1}:WoR (.wy z1 m1 k1 ok1):=aGj rfl
@[go_sem] def aYz{u1 x1}:WoR (.km u1 x1):=aGj rfl
def aLN{op:df}{d:Option Nat}{t:Tg (call,c,⟨d,op,N2,p⟩::r,K)}:wo call c (⟨d,op,N2,p⟩::r) ρ H wr K t=bnd (nB call (c.site d) Po ρ H op) λt=>wo call c r (zX ρ d t.1) t.2.1 (bE c.base wr t.2.2) K ⟨⟩:=by
 unfold wo
 conv=>lhs;unfold aD3
 cases nB call (c.site d) Po ρ H op<;>rfl
@[go_sem] def aYA{k:Nat}{x v:aa}{d:Option Nat}{t:Tg (call,c,⟨d,.store k x v,N2,p⟩::r,K)}:wo call c (⟨d,.store k x v,N2,p⟩::r) ρ H wr K t=bnd (aD0 call H ρ (c.site d) (.store k x v)) λt=>wo call c r (zX ρ d t.1) t.2.1 (bE c.base wr t.2.2) K ⟨⟩:=aLN
@[go_sem] def bBB{k b:Nat}{x v:aa}{d:Option Nat}{t:Tg (call,c,⟨d,.app k b x v,N2,p⟩::r,K)}:wo call c (⟨d,.app k b x v,N2,p⟩::r) ρ H wr K t=bnd (eX H (c.site d) k b (x.at ρ) (v.at ρ)) λt=>wo call c r (zX ρ d t.1) t.2.1 (bE c.base wr t.2.2) K ⟨⟩:=aLN
@[go_sem] def aYB{f:aa}{d:Option Nat}{t:Tg (call,c,⟨d,.dm f xs,N2,p⟩::r,K)}:wo call c (⟨d,.dm f xs,N2,p⟩::r) ρ H wr K t=bnd (cX call H (c.site d) (f.at ρ) (xs.map (aa.at ρ))) λt=>wo call c r (zX ρ d t.1) t.2.1 (bE c.base wr t.2.2) K ⟨⟩:=aLN
@[go_sem] def aYC{f:aa}{d:Option Nat}{t:Tg (call,c,⟨d,.ee f xs,N2,p⟩::r,K)}:wo call c (⟨d,.ee f xs,N2,p⟩::r) ρ H wr K t=bnd (iN call H (c.site d) (f.at ρ) (xs.map (aa.at ρ))) λt=>wo call c r (zX ρ d t.1) t.2.1 (bE c.base wr t.2.2) K ⟨⟩:=aLN
@[go_sem] def bAd{tab:List (Nat×Nat)}{x:aa}{d:Option Nat}{t:Tg (call,c,⟨d,.Rd tab x xs,N2,p⟩::r,K)}:wo call c (⟨d,.Rd tab x xs,N2,p⟩::r) ρ H wr K t=bnd (aD0 call H ρ (c.site d) (.Rd tab x xs)) λt=>wo call c r (zX ρ d t.1) t.2.1 (bE c.base wr t.2.2) K ⟨⟩:=aLN
@[go_sem] def bAe{ty k b:Nat}{x v:aa}{d:Option Nat}{t:Tg (call,c,⟨d,.ni ty k b x v,N2,p⟩::r,K)}:wo call c (⟨d,.ni ty k b x v,N2,p⟩::r) ρ H wr K t=bnd (vB H (c.site d) ty k b (x.at ρ) (v.at ρ)) λt=>wo call c r (zX ρ d t.1) t.2.1 (bE c.base wr t.2.2) K ⟨⟩:=aLN
@[go_sem] def aX4{ty:Nat}{d:Option Nat}{t:Tg (call,c,⟨d,.gv ty zs,N2,p⟩::r,K)}:wo call c (⟨d,.gv ty zs,N2,p⟩::r) ρ H wr K t=bnd (nB call (c.site d) Po ρ H (.gv ty zs)) λt=>wo call c r (zX ρ d t.1) t.2.1 (bE c.base wr t.2.2) K ⟨⟩:=aLN
@[go_sem] def bBC{ty k:Nat}{d:Option Nat}{t:Tg (call,c,⟨d,.tbx ty k x,N2,p⟩::r,K)}:wo call c (⟨d,.tbx ty k x,N2,p⟩::r) ρ H wr K t=bnd (nB call (c.site d) Po ρ H (.tbx ty k x)) λt=>wo call c r (zX ρ d t.1) t.2.1 (bE c.base wr t.2.2) K ⟨⟩:=aLN
@[go_sem] def aYD{d:Option Nat}{t:Tg (call,c,⟨d,.jn,N2,p⟩::r,K)}:wo call c (⟨d,.jn,N2,p⟩::r) ρ H wr K t=bnd (aD0 call H ρ (c.site d) .jn) λt=>wo call c r (zX ρ d t.1) t.2.1 (bE c.base wr t.2.2) K ⟨⟩:=aLN
@[go_sem] def bBD{m k v:aa}{d:Option Nat}{t:Tg (call,c,⟨d,.ins m k v,N2,p⟩::r,K)}:wo call c (⟨d,.ins m k v,N2,p⟩::r) ρ H wr K t=bnd (aD0 call H ρ (c.site d) (.ins m k v)) λt=>wo call c r (zX ρ d t.1) t.2.1 (bE c.base wr t.2.2) K ⟨⟩:=aLN
@[go_sem] def aYE{d:Option Nat}{t:Tg (call,c,⟨d,.alloc zs,N2,p⟩::r,K)}:wo call c (⟨d,.alloc zs,N2,p⟩::r) ρ H wr K t=bnd (nB call (c.site d) Po ρ H (.alloc zs)) λt=>wo call c r (zX ρ d t.1) t.2.1 (bE c.base wr t.2.2) K ⟨⟩:=aLN
@[go_sem] def bBE{k:Nat}{d:Option Nat}{t:Tg (call,c,⟨d,.box k x,N2,p⟩::r,K)}:wo call c (⟨d,.box k x,N2,p⟩::r) ρ H wr K t=bnd (nB call (c.site d) Po ρ H (.box k x)) λt=>wo call c r (zX ρ d t.1) t.2.1 (bE c.base wr t.2.2) K ⟨⟩:=aLN
@[go_sem] def bBF{k n:Nat}{zs:LA}{d:Option Nat}{t:Tg (call,c,⟨d,.bsl k zs n ps,N2,p⟩::r,K)}:wo call c (⟨d,.bsl k zs n ps,N2,p⟩::r) ρ H wr K t=bnd (aD0 call H ρ (c.site d) (.bsl k zs n ps)) λt=>wo call c r (zX ρ d t.1) t.2.1 (bE c.base wr t.2.2) K ⟨⟩:=by
 rw[aLN];have:nB call (c.site d) Po ρ H (.bsl k zs n ps)=aD0 call H ρ (c.site d) (.bsl k zs n ps):=by unfold nB;rw[Vx (by simp[isW])]
 rw[this]
@[go_sem] def bBG{k n:Nat}{zs:LA}{x y:aa}{d:Option Nat}{t:Tg (call,c,⟨d,.mks k n zs x y,N2,p⟩::r,K)}:wo call c (⟨d,.mks k n zs x y,N2,p⟩::r) ρ H wr K t=bnd (aD0 call H ρ (c.site d) (.mks k n zs x y)) λt=>wo call c r (zX ρ d t.1) t.2.1 (bE c.base wr t.2.2) K ⟨⟩:=by
 rw[aLN];have:nB call (c.site d) Po ρ H (.mks k n zs x y)=aD0 call H ρ (c.site d) (.mks k n zs x y):=by unfold nB;rw[Vx (by simp[isW])]
 rw[this]
@[go_sem] def aYF{op:df}{d:Option Nat}{t:Tg (call,c,⟨d,op,N1 (N1 t1,b),p⟩::r,K)}:wo call c (⟨d,op,N1 (N1 t1,b),p⟩::r) ρ H wr K t = bnd (aIn b (ρ t1)) λw=>zF w (wo call c (⟨d,op,N2,p⟩::r) ρ H wr K ⟨⟩) (wo call c r (zX ρ d (.tup [])) H wr K ⟨⟩) ⟨⟩:=by
 conv=>lhs;unfold wo aD3
 simp only[zE];cases ht:ρ t1<;>try rfl
 rotate_left
 .rename_i vs;cases vs<;>rfl
 rename_i b';simp only[aIn,bnd,aCi];cases hb:(b'==b)with
 |false=>rfl
 |true=>simp only[zF];rw[aLN];cases nB call (c.site d) Po ρ H op<;>rfl
variable {aq:LN}{n0:Nat}{L:bN->LO->LN->Log->Prop}
@[go_sem] def bBH{t:Tg (call,c,aq,[],L)}:wd call c aq n0 [] ρ H wr L t=L ρ H wr []:=(rfl)
def aVK(i:Nat)(rd:LN)(w:Option LN)(L:bN->LO->LN->Log->Prop)(tg:Tg L):bN->LO->LN->Log->Prop:=
 λρ H wr log=>L ρ H wr ((i,rd,w)::log)
@[go_sem] def bAf{w:Option LN}{t:Tg L}:aVK i rd w L t ρ H wr log=L ρ H wr ((i,rd,w)::log):=(rfl)
def aU0(b:Bool)(x y:Prop)(tg:Tg (x,y)):Prop:=match b with
 |true=>x
 |false=>y
@[go_sem] def aX5{x:Prop}{t:Tg (x,y)}:aU0 Pa x y t=x:=(rfl)
@[go_sem] def aVL{x:Prop}{t:Tg (x,y)}:aU0 Po x y t=y:=(rfl)
def aRs{op:df}{d:Option Nat}{t:Tg (call,c,aq,⟨d,op,N2,p⟩::r,L)}:wd call c aq n0 (⟨d,op,N2,p⟩::r) ρ H wr L t=bnd (oB call (c.site d) ρ H op) λt=>aU0 (aq.contains n0) (wd call c aq (n0+1) r (zX ρ d t.1) t.2.1 (bE c.base wr (t.2.2.2.getD [])) (aVK n0 t.2.2.1 t.2.2.2 L ⟨⟩) ⟨⟩) (wd call c aq (n0+1) r (zX ρ d t.1) t.2.1 (bE c.base wr (t.2.2.2.getD [])) L ⟨⟩) ⟨⟩:=by
 unfold wd
 conv=>lhs;unfold wpD
 cases oB call (c.site d) ρ H op with
 |none=>rfl
 |some v=>cases hk:aq.contains n0<;>rfl
def aJ9{op:df}{t:Tg (call,c,aq,⟨N1 d,op,N2,p⟩::r,L)}(h:isW (c.site (N1 d)) Pa op=Po)(ha:∀zs,op≠.alloc zs):wd call c aq n0 (⟨N1 d,op,N2,p⟩::r) ρ H wr L t=bnd (vA H ρ op) λv=>aU0 (aq.contains n0) (bnd (N1 (aCc ρ op)) λrd=>wd call c aq (n0+1) r (upd ρ d v) H wr (aVK n0 rd N2 L ⟨⟩) ⟨⟩) (wd call c aq (n0+1) r (upd ρ d v) H wr L ⟨⟩) ⟨⟩:=by
 rw[aRs];have:oB call (c.site (N1 d)) ρ H op=match vA H ρ op with
   |some v=>N1 (v,H,aCc ρ op,N2)
   |none=>none:=by
  cases op<;>first | exact Vv rfl (ha _)|(unfold oB;dsimp only;rw[Vw (by rw[h];exact Bool.false_ne_true)]<;>rfl)
 rw[this];cases vA H ρ op<;>rfl
abbrev WdR(op:df):Prop:=∀{call:Nat->LA->LO->Out}{c:Ctx}{ρ:bN}{H:LO}{wr:LN}{r:List ae}{p:LN}{d:Nat}{aq:LN}{n0:Nat}{L:bN->LO->LN->Log->Prop}{t:Tg (call,c,aq,⟨N1 d,op,N2,p⟩::r,L)},
 wd call c aq n0 (⟨N1 d,op,N2,p⟩::r) ρ H wr L t=bnd (vA H ρ op) λv=>
  aU0 (aq.contains n0) (bnd (N1 (aCc ρ op)) λrd=>wd call c aq (n0+1) r (upd ρ d v) H wr (aVK n0 rd N2 L ⟨⟩) ⟨⟩)
   (wd call c aq (n0+1) r (upd ρ d v) H wr L ⟨⟩) ⟨⟩
abbrev WdS(op:df):Prop:=∀{call:Nat->LA->LO->Out}{c:Ctx}{ρ:bN}{H:LO}{wr:LN}{r:List ae}{p:LN}{d:Option Nat}{aq:LN}{n0:Nat}{L:bN->LO->LN->Log->Prop}{t:Tg (call,c,aq,⟨d,op,N2,p⟩::r,L)},
 wd call c aq n0 (⟨d,op,N2,p⟩::r) ρ H wr L t=bnd (oB call (c.site d) ρ H op) λt=>
  aU0 (aq.contains n0) (wd call c aq (n0+1) r (zX ρ d t.1) t.2.1 (bE c.base wr (t.2.2.2.getD [])) (aVK n0 t.2.2.1 t.2.2.2 L ⟨⟩) ⟨⟩)
   (wd call c aq (n0+1) r (zX ρ d t.1) t.2.1 (bE c.base wr (t.2.2.2.getD [])) L ⟨⟩) ⟨⟩
@[go_sem] def bBI{x1}:WdR (.mov x1):=aJ9 rfl (λ_ h=>by cases h)
@[go_sem] def bAg{x1 y1 z1}:WdR (.pick x1 y1 z1):=aJ9 rfl (λ_ h=>by cases h)
@[go_sem] def aYG{zs1 ps1}:WdR (.build zs1 ps1):=aJ9 rfl (λ_ h=>by cases h)
@[go_sem] def bAh{k1 agg1 x1}:WdR (.load k1 agg1 x1):=aJ9 rfl (λ_ h=>by cases h)
@[go_sem] def aYH{x1}:WdR (.cz x1):=aJ9 rfl (λ_ h=>by cases h)
@[go_sem] def bBJ{b1 e1 x1 y1}:WdR (.bin b1 e1 x1 y1):=aJ9 rfl (λ_ h=>by cases h)
@[go_sem] def bCe{u1 x1}:WdR (.un u1 x1):=aJ9 rfl (λ_ h=>by cases h)
@[go_sem] def bAi{cv1 x1}:WdR (.conv cv1 x1):=aJ9 rfl (λ_ h=>by cases h)
@[go_sem] def bBK{f1 xs1 ys1}:WdR (.mkf f1 xs1 ys1):=aJ9 rfl (λ_ h=>by cases h)
@[go_sem] def bHT{x1 lo1 G7}:WdR (.fm x1 lo1 G7):=aJ9 rfl (λ_ h=>by cases h)
@[go_sem] def aX6{k1 x1 lo1 G7 mx1}:WdR (.gw k1 x1 lo1 G7 mx1):=aJ9 rfl (λ_ h=>by cases h)
@[go_sem] def bSx{n1 k1 x1 lo1 G7 mx1}:WdR (.na n1 k1 x1 lo1 G7 mx1):=aJ9 rfl (λ_ h=>by cases h)
@[go_sem] def bCf{o1 x1}:WdR (.fa o1 x1):=aJ9 rfl (λ_ h=>by cases h)
@[go_sem] def bBL{x1 i1 k1}:WdR (.iaV x1 i1 k1):=aJ9 rfl (λ_ h=>by cases h)
@[go_sem] def bBM{n1 k1 x1 i1}:WdR (.iaA n1 k1 x1 i1):=aJ9 rfl (λ_ h=>by cases h)
@[go_sem] def bBN{x1 i1}:WdR (.ixS x1 i1):=aJ9 rfl (λ_ h=>by cases h)
@[go_sem] def bT5{x1}:WdR (.fg x1):=aJ9 rfl (λ_ h=>by cases h)
@[go_sem] def bAj{x1}:WdR (.Wk x1):=aJ9 rfl (λ_ h=>by cases h)
@[go_sem] def bCg{m1 xs1}:WdR (.mm m1 xs1):=aJ9 rfl (λ_ h=>by cases h)
@[go_sem] def bBO{i1 x1}:WdR (.ext i1 x1):=aJ9 rfl (λ_ h=>by cases h)
@[go_sem] def bAk{z1 m1 k1 ok1}:WdR (.look z1 m1 k1 ok1):=aJ9 rfl (λ_ h=>by cases h)
@[go_sem] def bSV{z1 m1 k1 ok1}:WdR (.wy z1 m1 k1 ok1):=aJ9 rfl (λ_ h=>by cases h)
@[go_sem] def bAl{k1 x1 lo1}:WdR (.view k1 x1 lo1):=aJ9 rfl (λ_ h=>by cases h)
@[go_sem] def aYI{v:aa}:WdS (.store k x v):=aRs
@[go_sem] def bBP{b:Nat}{v:aa}:WdS (.app k b x v):=aRs
@[go_sem] def aYJ{f:aa}:WdS (.dm f xs):=aRs
@[go_sem] def aYK{f:aa}:WdS (.ee f xs):=aRs
@[go_sem] def bT6{k v:aa}:WdS (.Fs m k v):=aRs
@[go_sem] def aYL:WdS (.alloc zs):=aRs
@[go_sem] def bBQ:WdS (.bsl k zs n ps):=aRs
@[go_sem] def aYM{op:df}{d:Option Nat}{t:Tg (call,c,aq,⟨d,op,N1 (N1 t1,b),p⟩::r,L)}:wd call c aq n0 (⟨d,op,N1 (N1 t1,b),p⟩::r) ρ H wr L t = bnd (aIn b (ρ t1)) λw=>zF w (wd call c aq n0 (⟨d,op,N2,p⟩::r) ρ H wr L ⟨⟩) (wd call c aq (n0+1) r (zX ρ d (.tup [])) H wr L ⟨⟩) ⟨⟩:=by
 conv=>lhs;unfold wd wpD
 simp only[zE];cases ht:ρ t1<;>try rfl
 rotate_left
 .rename_i vs;cases vs<;>rfl
 rename_i b';simp only[aIn,bnd,aCi];cases hb:(b'==b)with
 |false=>rfl
 |true=>
  simp only[zF];rw[aRs];cases oB call (c.site d) ρ H op with
  |none=>rfl
  |some v=>cases hk:aq.contains n0<;>rfl
def oD(H:LO):Out->Option (AV×LO×LN×Option LN)
 |some (v,H',w)=>if H'.length=H.length then N1 (v,H',[],N1 w)else if H.length<H'.length then N1 (v,H',[],N1 (w++FM H.length (H'.length - H.length)))else N2
 |none=>N2
@[go_sem] def aSU{w:LN}:oD H (N1 (v,H',w))=if H'.length=H.length then N1 (v,H',[],N1 w)else if H.length<H'.length then N1 (v,H',[],N1 (w++FM H.length (H'.length - H.length)))else none:=(rfl)
@[go_sem] def aU1{f:aa}:oB call s ρ H (.ee f xs)=oD H (iN call H s (f.at ρ) (xs.map (aa.at ρ))):=(rfl)
@[go_sem] def aU2{v:aa}:oB call s ρ H (.store k x v)=oD H (aD0 call H ρ s (.store k x v)):=(rfl)
@[go_sem] def aU3{f:aa}:oB call s ρ H (.dm f xs)=oD H (cX call H s (f.at ρ) (xs.map (aa.at ρ))):=(rfl)
@[go_sem] def aX7{b:Nat}{v:aa}:oB call s ρ H (.app k b x v)=oD H (eX H s k b (x.at ρ) (v.at ρ)):=(rfl)
@[go_sem] def aU4{id:Nat}:oB call (N1 id) ρ H (.alloc zs)=N1 (.ptr id ((H[id]?).elim 0 ah.ver) 0,H,[id],N2):=(rfl)
@[go_sem] def aX8{id:Nat}:oB call (N1 id) ρ H (.bsl k zs n ps)=oD H (aD0 call H ρ (N1 id) (.bsl k zs n ps)):=(rfl)
@[go_sem] def aQW:oB call N2 ρ H (.bsl k zs n ps)=match vA H ρ (.bsl k zs n ps)with
 |some v=>N1 (v,H,[],N2)
 |none=>none:=(rfl)
@[go_sem] def aU5{id:Nat}:nB call (N1 id) Po ρ H (.alloc zs)=if id<H.length then N1 (.ptr id (bH H id) 0,make H id (.box · zs),[id])else none:=(rfl)
@[go_sem] def aX9{id:Nat}:nB call (N1 id) Po ρ H (.box k x)=if id<H.length/\(x.at ρ).cells.length=k/\(x.at ρ).cells.all AV.ak then N1 (.ptr id (bH H id) 0,make H id (.box · (x.at ρ).cells),[id])else none:=(rfl)
@[go_sem] def aQX:nB call N2 Po ρ H (.box k x)=if (x.at ρ).strip.cells.length=k/\(x.at ρ).strip.cells.all AV.still then N1 (.ep (x.at ρ).strip.cells 0,H,[])else none:=by
 unfold nB;rw[Vw (by simp[isW])];unfold vA;dsimp only;by_cases h:(x.at ρ).strip.cells.length=k/\(x.at ρ).strip.cells.all AV.still
 .rw[Vx h,Vx h]
 rw[Vw h,Vw h]
end
section
variable {A:af}{N:Nat}{c:Ctx}{ρ:bN}{H:LO}{wr:LN}{Q:bf->bN->LO->LN->Prop}{a b:ag}
def aNW(A:af)(N:Nat)(c:Ctx)(b:ag)(Q:bf->bN->LO->LN->Prop)(tg:Tg (A,N,c,b,Q)):bf->bN->LO->LN->Prop:=λe ρ H wr=>match e with
 |.normal=>wpc A N c b ρ H wr Q
 |e=>Q e ρ H wr
def pP(id:Nat)(Q:bf->bN->LO->LN->Prop)(tg:Tg Q):bf->bN->LO->LN->Prop:=λe ρ H wr=>match e with
 |.exit id'=>if id'=id then Q .normal ρ H wr else Q (.exit id') ρ H wr
 |e=>Q e ρ H wr
def aGk(ops:List ae)(Q:bN->LO->LN->Prop)(tg:Tg (ops,Q)):bN->LO->LN->Log->Prop:=λρ H wr log=>eH (λj=>((ops[j]?).map ae.pre).getD []) log=Pa/\Q ρ H wr
@[go_sem] def bAm{t:Tg (A,N,c,ag.skip,Q)}:wc A N c .skip ρ H wr Q t=Q .normal ρ H wr:=(rfl)
@[go_sem] def aXa{t:Tg (A,N,c,ag.region Po ops,Q)}:wc A N c (.region Po ops) ρ H wr Q t=wo (aG A) c ops ρ H wr (Q .normal) ⟨⟩:=(rfl)
@[go_sem] def bBR{t:Tg (A,N,c,ag.seq a b,Q)}:wc A N c (.seq a b) ρ H wr Q t=wc A N c a ρ H wr (aNW A N c b Q ⟨⟩) ⟨⟩:=(rfl)
@[go_sem] def bAn{t:Tg (A,N,c,ag.cond x a b,Q)}:wc A N c (.cond x a b) ρ H wr Q t=bnd (aST (x.at ρ)) λv=>zF v (wc A N c a ρ H wr Q ⟨⟩) (wc A N c b ρ H wr Q ⟨⟩) ⟨⟩:=by
 unfold wc;rw[wpc];cases x.at ρ<;>try rfl
 rename_i v;cases v<;>rfl
@[go_sem] def aYN{id:Nat}{t:Tg (A,N,c,ag.block id a,Q)}:wc A N c (.block id a) ρ H wr Q t=wc A N c a ρ H wr (pP id Q ⟨⟩) ⟨⟩:=(rfl)
@[go_sem] def bAo{t:Tg (A,N,c,ag.loop a,Q)}:wc A N c (.loop a) ρ H wr Q t=wl A N c a ρ H wr Q ⟨⟩:=(rfl)
@[go_sem] def bAp{id:Nat}{t:Tg (A,N,c,ag.exit id,Q)}:wc A N c (.exit id) ρ H wr Q t=Q (.exit id) ρ H wr:=(rfl)
@[go_sem] def bBS{t:Tg (A,N,c,ag.ret,Q)}:wc A N c .ret ρ H wr Q t=Q .ret ρ H wr:=(rfl)
@[go_sem] def bBT{ts:List (Nat×Nat)}{t:Tg (A,N,c,ag.frz ts,Q)}:wc A N c (.frz ts) ρ H wr Q t=wfz c ts ρ H wr (Q .normal) ⟨⟩:=(rfl)
def aU6{t:Tg (A,N,c,ag.region Pa ops,Q)}(h:cS c H ops=N1 H0)(hk:aBH c ops=aq):wc A N c (.region Pa ops) ρ H wr Q t=wd (aG A) c aq 0 ops ρ H0 wr (aGk ops (Q .normal) ⟨⟩) ⟨⟩:=by subst hk;unfold wc wd;rw[wpc,h];rfl
def aY{t:Tg (A,N,c,ag.region Pa ops,Q)}(h:cS c H ops=N1 H0)(hk:aBH c ops=aq)(hw:wd (aG A) c aq 0 ops ρ H0 wr (aGk ops (Q .normal) ⟨⟩) ⟨⟩):wc A N c (.region Pa ops) ρ H wr Q t:=by rw[aU6 h hk];exact hw
@[go_sem] def aSV{t:Tg (A,N,c,b,Q)}:aNW A N c b Q t .normal ρ H wr=wc A N c b ρ H wr Q ⟨⟩:=(rfl)
@[go_sem] def aXb{t:Tg (A,N,c,b,Q)}:aNW A N c b Q t .ret ρ H wr=Q .ret ρ H wr:=(rfl)
@[go_sem] def aVM{t:Tg (A,N,c,b,Q)}{id:Nat}:aNW A N c b Q t (.exit id) ρ H wr=Q (.exit id) ρ H wr:=(rfl)
@[go_sem] def aRt{t:Tg Q}{id:Nat}:pP id Q t .normal ρ H wr=Q .normal ρ H wr:=(rfl)
@[go_sem] def aVN{t:Tg Q}{id:Nat}:pP id Q t .ret ρ H wr=Q .ret ρ H wr:=(rfl)
@[go_sem] def aU7{t:Tg Q}{id:Nat}:pP id Q t (.exit id) ρ H wr=Q .normal ρ H wr:=by unfold pP;dsimp only;rw[Vx rfl]
def aL{t:Tg (ops,K)}(h:eH (λj=>((ops[j]?).map ae.pre).getD []) log=Pa):aGk ops K t ρ H wr log=K ρ H wr:=by unfold aGk;grind
@[go_sem] def aU8{t:Tg (ops,K)}:aGk ops K t ρ H wr []=K ρ H wr:=aL rfl
@[go_sem] def bAq{t:Tg (c,[],K)}:wfz c [] ρ H wr K t=K ρ H wr:=(rfl)
@[go_sem] def aYO{s:Nat}{r:List (Nat×Nat)}{t:Tg (c,(0,s)::r,K)}:wfz c ((0,s)::r) ρ H wr K t=bnd (aVH H (ρ s)) λx=>wfz c r (upd ρ s x.1) x.2.1 (bE c.base wr x.2.2) K ⟨⟩:=by
 unfold wfz
 conv=>lhs;unfold aD5
 cases aVH H (ρ s)<;>rfl
@[go_sem] def aU9{o v:Nat}:bKj H (.ptr o v off)=(match H[o]? with
  |some (.box v2 cs)=>if v2=v/\cs.all AV.Xx=Pa then (match bL5 H cs with
    |some (cs2,H2,l)=>if l.contains o=Po then N1 (H2.set o (.box v cs2),l++[o])else N2
    |none=>N2)else N2
  |_=>N2):=(rfl)
@[go_sem] def aVO{o v:Nat}:bKj H (.vp o v n k i off)=none:=(rfl)
@[go_sem] def aXc{s:Nat}{r:List (Nat×Nat)}{t:Tg (c,(k+1,s)::r,K)}:wfz c ((k+1,s)::r) ρ H wr K t = bnd (N1 (ρ s).iy) λb=>zF b (wfz c r ρ H wr K ⟨⟩) (bnd (aD4 H (k+1) (ρ s)) λx=>wfz c r ρ x.1 (bE c.base wr x.2) K ⟨⟩) ⟨⟩:=by
 unfold wfz
 conv=>lhs;unfold aD5
 cases hu:(ρ s).iy with
 |true=>simp[bnd,zF,aCi]
 |false=>simp only[bnd,zF,aCi,BX,Vt];cases aD4 H (k+1) (ρ s)<;>rfl
end
@[go_sem] def bBU{t:Nat}:(aa.tmp t).at ρ=ρ t:=(rfl)
@[go_sem] def aYP:(aa.const v).at ρ=v:=(rfl)
@[go_sem] def aYQ{d:Nat}:upd ρ d v d=v:=by unfold upd;rw[Vx rfl]
theorem aAk{d t:Nat}(h:t≠d):upd ρ d v t=ρ t:=by unfold upd;rw[Vw h]
@[go_sem] def aVP{d t:Nat}(h:(t==d)=Po):upd ρ d v t=ρ t:=aAk uWg
@[go_sem] def aXd{d:Nat}:zX ρ (N1 d) v=upd ρ d v:=(rfl)
@[go_sem] def aXe:zX ρ N2 v=ρ:=(rfl)
@[go_sem] def bSp:AV.still (.bool b)=true:=(rfl)
@[go_sem] def aUa:AV.ak (.bool b)=true:=(rfl)
@[go_sem] def aXf:AV.atom (.bool b)=true:=(rfl)
@[go_sem] def aUb:AV.atomic (.bool b)=AV.atom (.bool b):=(rfl)
@[go_sem] def bS1:AV.aj (.bool b)=(.bool b):=(rfl)
@[go_sem] def aVQ:AV.strip (.bool b)=(.bool b):=(rfl)
@[go_sem] def aVR:AV.cells (.bool b)=[(.bool b)]:=(rfl)
@[go_sem] def bSq:aA2 H (.bool b)=N1 ((.bool b),[]):=(rfl)
@[go_sem] def aXg:dw H (.bool b)=N1 ((.bool b),[]):=(rfl)
@[go_sem] def aXh{k:DK}{n:Int}:AV.still (.int k n)=true:=(rfl)
@[go_sem] def aVS{k:DK}{n:Int}:AV.ak (.int k n)=true:=(rfl)
@[go_sem] def aVT{k:DK}{n:Int}:AV.aj (.int k n)=(.int k n):=(rfl)
@[go_sem] def aXi{k:DK}{n:Int}:AV.strip (.int k n)=(.int k n):=(rfl)
@[go_sem] def aXj{k:DK}{n:Int}:AV.cells (.int k n)=[(.int k n)]:=(rfl)
@[go_sem] def aXk{k:DK}{n:Int}:aA2 H (.int k n)=N1 ((.int k n),[]):=(rfl)
@[go_sem] def aYR{k:DK}{n:Int}:dw H (.int k n)=N1 ((.int k n),[]):=(rfl)
@[go_sem] def aXl:AV.still (.str l)=true:=(rfl)
@[go_sem] def aVU:AV.ak (.str l)=true:=(rfl)
@[go_sem] def aYS:AV.atom (.str l)=true:=(rfl)
@[go_sem] def aVV:AV.atomic (.str l)=AV.atom (.str l):=(rfl)
@[go_sem] def aVW:AV.aj (.str l)=(.str l):=(rfl)
@[go_sem] def aXm:AV.strip (.str l)=(.str l):=(rfl)
@[go_sem] def aXn:AV.cells (.str l)=[(.str l)]:=(rfl)
@[go_sem] def aXo:aA2 H (.str l)=N1 ((.str l),[]):=(rfl)
@[go_sem] def aYT:dw H (.str l)=N1 ((.str l),[]):=(rfl)
@[go_sem] def aYU{a c:LA}:AV.still (.fn f a c)=true:=(rfl)
@[go_sem] def aXp{a c:LA}:AV.ak (.fn f a c)=true:=(rfl)
@[go_sem] def aXq{a c:LA}:AV.aj (.fn f a c)=(.fn f a c):=(rfl)
@[go_sem] def aYV{a c:LA}:AV.strip (.fn f a c)=(.fn f a c):=(rfl)
@[go_sem] def aYW{a c:LA}:AV.cells (.fn f a c)=[(.fn f a c)]:=(rfl)
@[go_sem] def aYX{a c:LA}:aA2 H (.fn f a c)=N1 ((.fn f a c),[]):=(rfl)
@[go_sem] def bAr{a c:LA}:dw H (.fn f a c)=N1 ((.fn f a c),[]):=(rfl)
@[go_sem] def aXr{o v:Nat}:AV.still (.ptr o v off)=true:=(rfl)
@[go_sem] def aVX{o v:Nat}:AV.ak (.ptr o v off)=true:=(rfl)
@[go_sem] def aUc{o v:Nat}:AV.iy (.ptr o v off)=false:=(rfl)
@[go_sem] def aVY{o v:Nat}:AV.aj (.ptr o v off)=(.ptr o v off):=(rfl)
@[go_sem] def aXs{o v:Nat}:AV.strip (.ptr o v off)=(.ptr o v off):=(rfl)
@[go_sem] def aXt{o v:Nat}:AV.cells (.ptr o v off)=[(.ptr o v off)]:=(rfl)
@[go_sem] def aYY{o v:Nat}:dw H (.ptr o v off)=N1 ((.ptr o v off),[]):=(rfl)
@[go_sem] def aVZ{o v:Nat}:AV.iy (.vp o v n k i off)=false:=(rfl)
@[go_sem] def aRu  : AV.ak .nilPtr=true:=(rfl)
@[go_sem] def aYZ:AV.still (.ep row off)=true:=(rfl)
@[go_sem] def aXu:AV.aj (.ep row off)=(.ep row off):=(rfl)
@[go_sem] def aZ0:AV.strip (.ep row off)=(.ep row off):=(rfl)
@[go_sem] def bAs:dw H (.ep row off)=N1 ((.ep row off),[]):=(rfl)
@[go_sem] def aZ1{f:Bool}:AV.still (.sl f rows)=true:=(rfl)
@[go_sem] def aXv{f:Bool}:AV.ak (.sl f rows)=true:=(rfl)
@[go_sem] def aXw{f:Bool}:AV.aj (.sl f rows)=(.sl Po rows):=(rfl)
@[go_sem] def aZ2{f:Bool}:AV.strip (.sl f rows)=(.sl Po rows):=(rfl)
@[go_sem] def bT7{f:Bool}:bPE H (.sl f rows) l0=((.sl f rows),H,l0):=(rfl)
@[go_sem] def bT8{f:Bool}:AV.Xx (.sl f rows)=false:=(rfl)
@[go_sem] def aZ3{f:Bool}:AV.cells (.sl f rows)=[(.sl f rows)]:=(rfl)
@[go_sem] def aZ4{f:Bool}:aA2 H (.sl f rows)=N1 ((.sl f rows),[]):=(rfl)
@[go_sem] def bAt{f:Bool}:dw H (.sl f rows)=N1 ((.sl f rows),[]):=(rfl)
@[go_sem] def bSW{o v:Nat}:AV.still (.sr o v n)=false:=(rfl)
@[go_sem] def aXx{o v:Nat}:AV.ak (.sr o v n)=true:=(rfl)
@[go_sem] def aXy{o v:Nat}:AV.aj (.sr o v n)=(.sr o v n):=(rfl)
@[go_sem] def bT9{o v:Nat}:AV.Xx (.sr o v n)=false:=(rfl)
@[go_sem] def aZ5{o v:Nat}:AV.cells (.sr o v n)=[(.sr o v n)]:=(rfl)
@[go_sem] def bAu{o v:Nat}:dw H (.sr o v n)=aA2 H (.sr o v n):=(rfl)
@[go_sem] def bSy{o v:Nat}:AV.ak (.mp o v)=true:=(rfl)
@[go_sem] def bTa{o v:Nat}:AV.Xx (.mp o v)=true:=(rfl)
@[go_sem] def bSX{o v:Nat}:AV.cells (.mp o v)=[(.mp o v)]:=(rfl)
@[go_sem] def aSW  : AV.ak .ar=true:=(rfl)
@[go_sem] def aUd  : AV.strip .ar=.ar:=(rfl)
@[go_sem] def aUe  : AV.cells .ar=[.ar]:=(rfl)
@[go_sem] def aW0  : dw H .ar=N1 (.ar,[]):=(rfl)
@[go_sem] def aRv  : AV.ak .bj=true:=(rfl)
@[go_sem] def aSX  : AV.strip .bj=.bj:=(rfl)
@[go_sem] def aUf  : dw H .bj=N1 (.bj,[]):=(rfl)
@[go_sem] def aW1{t:Nat}{x:AV}:AV.ak (.ifc t x)=true:=(rfl)
@[go_sem] def aXz{t:Nat}{x:AV}:AV.cells (.ifc t x)=[(.ifc t x)]:=(rfl)
@[go_sem] def aXA:AV.cells (.agg cs)=cs:=(rfl)
@[go_sem] def aRw  : AV.iy .undef=true:=(rfl)
@[go_sem] def bSr  : AV.Xx .undef=true:=(rfl)
@[go_sem] def aXB:AV.strip (.agg cs)=.agg (cs.map AV.aj):=(rfl)
@[go_sem] def aZ6{o v:Nat}:aA2 H (.sr o v n)=match H[o]? with
  |some (.vec v' _ rows)=>if v'=v/\rows.length=n/\rows.all (λr=>r.all AV.still)then N1 (.sl Po rows,[o])else N2
  |_=>none:=(rfl)
@[go_sem] def aRx:dw H (.agg cs)=match aIQ H cs with
  |some (cs',l)=>N1 (.agg cs',l)
  |none=>none:=(rfl)
attribute [go_sem] aIQ kA dL fix
@[go_sem] def bSY{o v:Nat}:bPE H (.ptr o v 0) l0=(match H[o]? with
  |some (.box v' cs)=>if v'=v/\cs.all AV.still=Pa then (.ep cs 0,H.set o (.gone v),l0++[o])else (.ptr o v 0,H,l0)
  |_=>(.ptr o v 0,H,l0)):=(rfl)
@[go_sem] def aUg:eD Pa cs=N1 (.agg cs):=(rfl)
@[go_sem] def aUh:eD Po [v]=N1 v:=(rfl)
section
variable {k:DK}{a b:Int}{ek:vd}
@[go_sem] def bAv:kJ .add ek (.int k a) (.int k b)=N1 (.int k (k.wrap (a+b))):=uWA
@[go_sem] def bAw:kJ .sub ek (.int k a) (.int k b)=N1 (.int k (k.wrap (a - b))):=uWA
@[go_sem] def bAx:kJ .mul ek (.int k a) (.int k b)=N1 (.int k (k.wrap (a*b))):=uWA
def aAl(h:b≠0):kJ .quo ek (.int k a) (.int k b)=N1 (.int k (k.wrap (a.tdiv b))):=by simp[kJ,h]
def tS(h:b≠0):kJ .rem ek (.int k a) (.int k b)=N1 (.int k (a.tmod b)):=by simp[kJ,h]
@[go_sem] def bAy:kJ .eql ek (.int k a) (.int k b)=N1 (.bool (a==b)):=uWA
@[go_sem] def aUi:kJ .neq ek (.int k a) (.int k b)=N1 (.bool (a != b)):=uWA
@[go_sem] def bAz:kJ .lss ek (.int k a) (.int k b)=N1 (.bool (decide (a<b))):=uWA
@[go_sem] def bAA:kJ .leq ek (.int k a) (.int k b)=N1 (.bool (decide (a<=b))):=uWA
@[go_sem] def bAB:kJ .gtr ek (.int k a) (.int k b)=N1 (.bool (decide (a>b))):=uWA
@[go_sem] def bAC:kJ .geq ek (.int k a) (.int k b)=N1 (.bool (decide (a ≥ b))):=uWA
end
section
variable {a b:List UInt8}{ek:vd}
def kE(h:a.length+b.length<=4611686018427387904):kJ .add ek (.str a) (.str b)=N1 (.str (a++b)):=by simp[kJ,h]
@[go_sem] def aZ7:kJ .eql ek (.str a) (.str b)=N1 (.bool (a==b)):=uWA
@[go_sem] def aRy:kJ .neq ek (.str a) (.str b)=N1 (.bool (a != b)):=uWA
@[go_sem] def bSZ{a b:Bool}:kJ .eql .bool (.bool a) (.bool b)=N1 (.bool (a==b)):=by simp[kJ,tN]
@[go_sem] def bBV{b:Bool}:unV .not (.bool b)=N1 (.bool !b):=(rfl)
@[go_sem] def bBW{k:DK}{n:Int}:unV .neg (.int k n)=N1 (.int k (k.wrap (0 - n))):=(rfl)
end
def wrap_i64{n:Int}(h1 : -9223372036854775808<=n)(h2:n<=9223372036854775807):IntKind.wrap .i64 n=n:=by rw[Go.IntKind.wrap_i64];omega
def mgE(f:α->β){l:List α}(h:i<l.length):(l.map f)[i]? = N1 (f l[i]):=uWa
def wS(h:i<4611686018427387904):IntKind.i64.wrap (i+1)=((i+1:Nat):Int):=by rw[wrap_i64 omT omT];omega
section
variable {H:LO}{L:LO}{i o:Nat}{x:ah}
@[go_sem] def bX:(H++L)[H.length+i]? = L[i]? := by rw[BU omT];congr 1;omega
@[go_sem] def aBd:(H++L)[H.length]? = L[0]? := bX (i:=0)
@[go_sem] def eS:(H++L).set (H.length+i) x=H++L.set i x:=by rw[List.set_append_right _ _ omT];congr 2;omega
@[go_sem] def aBe:(H++L).set H.length x=H++L.set 0 x:=eS (i:=0)
def eK(h:o<H.length):(H++L)[o]? = H[o]? := BM h
def fN(h:o<H.length):(H++L).set o x=H.set o x++L:=List.set_append_left _ _ h
@[go_sem] def aD8:(H++L).take H.length=H:=List.take_left ..
def aR{y:ah}(h:o<H.length):(H.set o x++L).set o y=H.set o y++L:=uWl
def aP(h:o<H.length):(H.set o x++L)[o]? = N1 x:=uWa
@[go_sem] def aPr:(H.set o x++L)[H.length+i]? = L[i]? := by have:=bX (H:=H.set o x) (L:=L) (i:=i);rwa [CP]at this
@[go_sem] def aW2:(H.set o x++L)[H.length]? = L[0]? := aPr (i:=0)
@[go_sem] def aPs{y:ah}:(H.set o x++L).set (H.length+i) y=H.set o x++L.set i y:=by have:=eS (H:=H.set o x) (L:=L) (i:=i) (x:=y);rwa [CP]at this
@[go_sem] def aW3{y:ah}:(H.set o x++L).set H.length y=H.set o x++L.set 0 y:=aPs (i:=0)
@[go_sem] def aW4:(H.set o x++L).take H.length=H.set o x:=by have:=aD8 (H:=H.set o x) (L:=L);rwa [CP]at this
@[go_sem] def aZ8:(H.set o x).take H.length=H.set o x:=by have:=List.take_length (l:=H.set o x);rwa [CP]at this
def sV{mk:Nat->ah}:make (H++L) (H.length+i) mk=H++L.set i (mk ((L[i]?).elim 0 ah.ver+1)):=by unfold make;grind
attribute [go_sem] make bH
@[go_sem] def aZ9{v:Nat}:ah.ver (.gone v)=v:=(rfl)
@[go_sem] def bAD{v:Nat}:ah.ver (.box v cs)=v:=(rfl)
@[go_sem] def bAE{v:Nat}:ah.ver (.vec v k rows)=v:=(rfl)
@[go_sem] def vN{b:Nat}:bE b wr []=wr:=(rfl)
@[go_sem] def aKs{b i:Nat}{r:LN}:bE b wr ((b+i)::r)=bE b wr r:=by
 conv=>lhs;unfold bE
 rw[Vw omT]
@[go_sem] def nJ{b o:Nat}{r:LN}(h1:o<b):bE b [] (o::r)=bE b [o] r:=by
 conv=>lhs;unfold bE
 rw[Vx ⟨h1,siT⟩]
@[go_sem] def aPt{b o:Nat}{r:LN}:bE b [o] (o::r)=bE b [o] r:=by
 conv=>lhs;unfold bE
 rw[Vw siT]
@[go_sem] def aW5{b:Nat}{r:LN}:bE b wr (b::r)=bE b wr r:=aKs (i:=0)
end
def aW6:AV->Option AV
 |.sl _ rows=>N1 (.int .i64 rows.length)
 |.sr _ _ n=>N1 (.int .i64 n)
 |.ar=>N1 (.int .i64 0)
 |_=>N2
@[go_sem] def bAF{f:Bool}:aW6 (.sl f rows)=N1 (.int .i64 rows.length):=(rfl)
@[go_sem] def aZa:aW6 .ar=N1 (.int .i64 0):=(rfl)
@[go_sem] def bAG{o v:Nat}:aW6 (.sr o v n)=N1 (.int .i64 n):=(rfl)
section
variable {H:LO}{ρ:bN}{call:Nat->LA->LO->Out}{site:Option Nat}
@[go_sem] def aZb:vA H ρ (.mov x)=(N1 (x.at ρ)):=(rfl)
@[go_sem] def aXC{c:aa}{a:aa}{b:aa}:vA H ρ (.pick c a b)=(match c.at ρ with
  |.bool t=>N1 (if t then a.at ρ else b.at ρ)
  |_=>N2):=(rfl)
@[go_sem] def aW7{parts:List (Nat×Nat×aa)}:vA H ρ (.build zs parts)=((mK ρ zs parts).map .agg):=(rfl)
@[go_sem] def aZc:vA H ρ (.bsl k zs n parts)=((nZ ρ k (AX n zs) parts).map (.sl Pa)):=(rfl)
@[go_sem] def aXD:vA H ρ (.load k agg x)=(match bC H k (x.at ρ)with
  |some cs=>eD agg cs
  |none=>N2):=(rfl)
@[go_sem] def aW8:vA H ρ (.cz x)=(match x.at ρ with
  |.ptr o v off=>N1 (.ptr o v off)
  |.vp o v n k i off=>N1 (.vp o v n k i off)
  |.ep row off=>N1 (.ep row off)
  |.fn f a b=>N1 (.fn f a b)
  |_=>N2):=(rfl)
@[go_sem] def aW9{neg:Bool}:vA H ρ (.ky neg x)=(match x.at ρ with
  |.sl _ (_::_) | .sr ..=>N1 (.bool neg)
  |.ar=>N1 (.bool !neg)
  |_=>N2):=(rfl)
@[go_sem] def aZe{op:MZ}{ek:vd}{y:aa}:vA H ρ (.bin op ek x y)=(kJ op ek (x.at ρ) (y.at ρ)):=(rfl)
@[go_sem] def bAH{op:UnOp}:vA H ρ (.un op x)=(unV op (x.at ρ)):=(rfl)
@[go_sem] def aXE{c:tm}:vA H ρ (.conv c x)=(pT H c (x.at ρ)):=(rfl)
@[go_sem] def aZf{first:List aa}{ay:List aa}:vA H ρ (.mkf f first ay)=(if (first.map (aa.at ρ)).all AV.still&&(ay.map (aa.at ρ)).all AV.still then N1 (.fn f (first.map λx=>(x.at ρ).aj) (ay.map λx=>(x.at ρ).aj))else N2):=(rfl)
@[go_sem] def aUj:vA H ρ (.fm x lo hi)=(match x.at ρ with
  |.str s=>match dU s.length (lo.map (aa.at ρ)) (hi.map (aa.at ρ)) N2 with
   |some (l,h,_)=>N1 (.str ((s.take h).drop l))
   |none=>N2
  |_=>N2):=(rfl)
@[go_sem] def aUk:vA H ρ (.gw k x lo hi mx)=(match x.at ρ with
  |.sl full rows=>match dU rows.length (lo.map (aa.at ρ)) (hi.map (aa.at ρ)) (mx.map (aa.at ρ))with
   |some (l,h,m)=>if dF k rows&&(!mx.isSome || hi.isSome)then N1 (.sl (decide (m=h)&&(mx.isSome || full)) ((rows.take h).drop l))else N2
   |none=>N2
  |.sr o v n=>if mx.isSome then N2 else match dU n (lo.map (aa.at ρ)) (hi.map (aa.at ρ)) N2 with
   |some (l,h,_)=>if hi.isSome&&decide (l=0)then N1 (.srw o v n h)else if h=n then N1 (.srv o v n k l)else N2
   |none=>N2
  |_=>N2):=(rfl)
@[go_sem] def aXF:vA H ρ (.view k x lo)=(match x.at ρ with
  |.sl full rows=>match dU rows.length (lo.map (aa.at ρ)) N2 N2 with
   |some (l,h,m)=>if dF k rows then N1 (.sl (decide (m=h)&&full) ((rows.take h).drop l))else N2
   |none=>N2
  |.sr o v n=>match H[o]? with
   |some (.vec v' _ rows)=>if v'=v/\rows.length=n then match iL 0 n (lo.map (aa.at ρ))with
     |some l=>N1 (.srv o v n k l)
     |none=>N2
    else N2
   |_=>N2
  |_=>N2):=(rfl)
@[go_sem] def bS2:vA H ρ (.na n k x lo hi mx)=(match x.at ρ with
  |.ep row off=>if off+n*k<=row.length then
    let rows:=aFH k n (row.drop off)
    match dU n (lo.map (aa.at ρ)) (hi.map (aa.at ρ)) (mx.map (aa.at ρ))with
    |some (l,h,m)=>if !mx.isSome || hi.isSome then N1 (.sl (decide (m=h)) ((rows.take h).drop l))else N2
    |none=>N2
   else N2
  |_=>N2):=(rfl)
@[go_sem] def bAI:vA H ρ (.fa off x)=(match x.at ρ with
  |.ptr o v off0=>N1 (.ptr o v (off0+off))
  |.vp o v n k i off0=>N1 (.vp o v n k i (off0+off))
  |.ep row off0=>N1 (.ep row (off0+off))
  |_=>N2):=(rfl)
@[go_sem] def aZg:vA H ρ (.fld off k agg x)=(match x.at ρ with
  |.agg cs=>if off+k<=cs.length then eD agg ((cs.drop off).take k)else N2
  |_=>N2):=(rfl)
@[go_sem] def aZh{i:aa}:vA H ρ (.iaV x i k)=(match x.at ρ,i.at ρ with
  |.sl _ rows,.int _ n=>if 0<=n then match rows[n.toNat]? with
    |some row=>if row.length=k then N1 (.ep row 0)else N2
    |none=>N2
   else N2
  |.sr o v len,.int _ n=>if 0<=n/\n<len then N1 (.vp o v len k n.toNat 0)else N2
  |_,_=>N2):=(rfl)
@[go_sem] def aZi{len:Nat}{i:aa}:vA H ρ (.iaA len k x i)=(match x.at ρ,i.at ρ with
  |.ptr o v off,.int _ n=>if 0<=n/\n<len then N1 (.ptr o v (off+n.toNat*k))else N2
  |.ep row off,.int _ n=>if 0<=n/\n<len then N1 (.ep row (off+n.toNat*k))else N2
  |.vp o v m k2 r off,.int _ n=>if 0<=n/\n<len then N1 (.vp o v m k2 r (off+n.toNat*k))else N2
  |_,_=>N2):=(rfl)
@[go_sem] def aZj{i:aa}:vA H ρ (.ixS x i)=(match x.at ρ,i.at ρ with
  |.str s,.int _ n=>if 0<=n then match s[n.toNat]? with
    |some b=>N1 (.int .u8 b.toNat)
    |none=>N2
   else N2
  |_,_=>N2):=(rfl)
@[go_sem] def bT0{len:Nat}{i:aa}:vA H ρ (.ixA len k agg x i)=(match x.at ρ,i.at ρ with
  |.agg cs,.int _ n=>if 0<=n/\n<len/\n.toNat*k+k<=cs.length then eD agg ((cs.drop (n.toNat*k)).take k)else N2
  |_,_=>N2):=(rfl)
@[go_sem] def aXG:vA H ρ (.fg x)=(match x.at ρ with
  |.str s=>N1 (.int .i64 s.length)
  |_=>N2):=(rfl)
@[go_sem] def aXH:vA H ρ (.Wk x)=aW6 (x.at ρ):=by cases hx:x.at ρ<;>simp only[vA,aW6,hx]
@[go_sem] def bAJ{mx:Bool}:vA H ρ (.mm mx xs)=(mmV mx (xs.map (aa.at ρ))):=(rfl)
@[go_sem] def aZk:vA H ρ (.ext i x)=(match x.at ρ with
  |.tup vs=>vs[i]?
  |_=>N2):=(rfl)
@[go_sem] def aWa{t:Nat}:vA H ρ (.km t x)=(if (x.at ρ).tn then N1 (.ifc t (x.at ρ))else N2):=(rfl)
@[go_sem] def aXI{k:aa}:vA H ρ (.look zero m k ok)=(match m.at ρ with
  |.mp o v=>match H[o]? with
   |some (.map v' es)=>if v'=v then
     match findKey (k.at ρ) es 0 with
     |some (N1 (_,x))=>if ok then N1 (.tup [x,.bool Pa])else N1 x
     |some N2=>if ok then N1 (.tup [zero,.bool Po])else N1 zero
     |none=>N2
    else N2
   |_=>N2
  |.fmp ks vs=>match findKey (k.at ρ) (ks.zip vs) 0 with
   |some (N1 (_,x))=>if ok then N1 (.tup [x,.bool Pa])else N1 x
   |some N2=>if ok then N1 (.tup [zero,.bool Po])else N1 zero
   |none=>N2
  |_=>N2):=(rfl)
@[go_sem] def bSs{k:aa}:vA H ρ (.wy zero m k ok)=(match m.at ρ with
  |.mp o v=>match H[o]? with
   |some (.map v' es)=>if v'=v/\(bJi (k.at ρ) (k.at ρ)).isSome then bJB zero ok (bIO (k.at ρ) es 0)else N2
   |_=>N2
  |.fmp ks vs=>if (bJi (k.at ρ) (k.at ρ)).isSome then bJB zero ok (bIO (k.at ρ) (ks.zip vs) 0)else N2
  |_=>N2):=(rfl)
@[go_sem] def aWb{v:aa}:aD0 call H ρ site (.store k x v)=(if (v.at ρ).cells.length=k/\(v.at ρ).cells.all AV.ak then match storeCells H (v.at ρ).cells (x.at ρ)with
   |some (H',wr)=>N1 (.undef,H',wr)
   |none=>N2
  else N2):=(rfl)
@[go_sem] def aZl:aD0 call H ρ site (.bsl k zs n parts)=(match site with
  |some id=>match mM ρ k (AX n zs) parts with
   |some rows=>if id<H.length then N1 (.sr id (bH H id) n,make H id (.vec · k rows),[id])else N2
   |none=>N2
  |none=>match xC ρ k H (AX n zs) parts with
   |some (rows,H',wr)=>N1 (.sl Pa rows,H',wr)
   |none=>N2):=(rfl)
@[go_sem] def aZm{len:aa}{cap:aa}:aD0 call H ρ site (.mks k bytes zs len cap)=(match len.at ρ,cap.at ρ with
  |.int _ n,.int _ c=>
   if 0<=n/\n=c/\bP n.toNat bytes then
    match site with
    |some id=>if id<H.length then N1 (.sr id (bH H id) n.toNat,make H id (.vec · k (AX n.toNat (zs.map AV.aj))),[id])else N2
    |none=>N1 (.sl Pa (AX n.toNat (zs.map AV.aj)),H,[])
   else match site with
    |some id=>if n=0/\0<c/\bP c.toNat bytes/\id<H.length then N1 (.sr id (bH H id) 0,make H id (.vec · k []),[id])else N2
    |none=>N2
  |_,_=>N2):=(rfl)
@[go_sem] def aXJ{tab:List (Nat×Nat)}{args:List aa}:aD0 call H ρ site (.Rd tab x args)=(match x.at ρ with
  |.ifc t v=>match tab.lookup t with
   |some f=>cX call H site (.fn f [v] []) (args.map (aa.at ρ))
   |none=>N2
  |_=>N2):=(rfl)
@[go_sem] def aZn{y:aa}:aD0 call H ρ site (.cpy k x y)=(match x.at ρ with
  |.srv o v n k' lo=>match H[o]? with
   |some (.vec v' k2 rows)=>match bIz H (y.at ρ)with
    |some new=>if new.isEmpty then N1 (.int .i64 0,H,[])else if v'=v/\rows.length=n/\k2=k/\k'=k/\dF k new/\lo+new.length<=n then
      N1 (.int .i64 (new.length:Nat),H.set o (.vec v k (rows.take lo++new++rows.drop (lo+new.length))),[o])
     else N2
    |none=>N2
   |_=>N2
  |.sr o v n=>match H[o]? with
   |some (.vec v' k2 rows)=>match dO H (y.at ρ)with
    |some new=>if new.isEmpty then N1 (.int .i64 0,H,[])else if v'=v/\rows.length=n/\k2=k/\dF k new/\0<n then
      N1 (.int .i64 ((new.take n).length:Nat),H.set o (.vec v k (rows.take 0++new.take n++rows.drop (0+(new.take n).length))),[o])
     else N2
    |none=>N2
   |_=>N2
  |_=>N2):=(rfl)
@[go_sem] def aWc  : aD0 call H ρ site (.jn)=(match site with
  |some id=>if id<H.length then N1 (.mp id (bH H id),make H id (.map · []),[id])else N2
  |none=>N2):=(rfl)
@[go_sem] def aZo{k:aa}{v:aa}:aD0 call H ρ site (.ins m k v)=(match m.at ρ,k.at ρ with
  |.mp o ver,key=>match H[o]? with
   |some (.map v' es)=>
    if v'=ver/\(aJK key key).isSome/\(v.at ρ).strip.cells.all AV.still then
     match findKey key es 0 with
     |some (N1 (i,_))=>N1 (.undef,H.set o (.map ver (es.set i (key,(v.at ρ).strip))),[o])
     |some N2=>N1 (.undef,H.set o (.map ver (es++[(key,(v.at ρ).strip)])),[o])
     |none=>N2
    else N2
   |_=>N2
  |_,_=>N2):=(rfl)
@[go_sem] def bSz{k:aa}{v:aa}:aD0 call H ρ site (.Fs m k v)=(match m.at ρ with
  |.mp o ver=>match H[o]? with
   |some (.map v' es)=>
    if v'=ver/\(bJi (k.at ρ) (k.at ρ)).isSome/\(v.at ρ).strip.cells.all AV.still then
     match bIO (k.at ρ) es 0 with
     |some (N1 (i,_))=>N1 (.undef,H.set o (.map ver (es.set i (k.at ρ,(v.at ρ).strip))),[o])
     |some N2=>N1 (.undef,H.set o (.map ver (es++[(k.at ρ,(v.at ρ).strip)])),[o])
     |none=>N2
    else N2
   |_=>N2
  |_=>N2):=(rfl)
@[go_sem] def aWd{u0:Nat}{u1:Bool}:aCc ρ (.load u0 u1 x)=(match x.at ρ with
  |.ptr o _ _=>[o]
  |.vp o _ _ _ _ _=>[o]
  |_=>[]):=(rfl)
@[go_sem] def aOJ{k:DK}:aCc ρ (.conv (.toInt k) x)=[]:=(rfl)
@[go_sem] def aQY:aCc ρ (.conv .b2s x)=(match x.at ρ with
  |.sr o _ _=>[o]
  |.srv o _ _ _ _=>[o]
  |.srw o _ _ _=>[o]
  |_=>[]):=(rfl)
end
def aIo:LN->Nat->Nat->Option Nat | [],_,_=>N2 | t::ts,i,d=>if t=d then N1 i else aIo ts (i+1) d
def idxOf?_siteIn d:∀(l:LN) i,(l.idxOf? d).map (i + ·)=aIo l i d
 | [],i=>by simp[aIo]
 |t::ts,i=>by
  rw[List.idxOf?_cons];unfold aIo;by_cases h:t=d
  .simp[h]
  have hb:(t==d)=false:=uWg
  rw[Vw h,<- idxOf?_siteIn d ts (i+1),hb];cases ts.idxOf? d<;>simp<;>omega
@[go_sem] def aXK{b d:Nat}{l:LN}:Ctx.site ⟨b,l⟩ (N1 d)=(aIo l 0 d).map (b + ·):=by rw[<- idxOf?_siteIn];show (l.idxOf? d).map (b + ·)=_;cases l.idxOf? d<;>simp
@[go_sem] def aXL:c.site N2=none:=(rfl)
attribute [go_sem] aIo
@[go_sem] def aUl{f:α->β}:(N1 a).map f=N1 (f a):=(rfl)
@[go_sem] def aUm{f:α->β}:(N2:Option α).map f=none:=(rfl)
@[go_sem] def aSY{b:β}{f:α->β}:(N1 a).elim b f=f a:=(rfl)
attribute [go_sem] List.length_append Nat.add_lt_add_iff_left Nat.lt_add_right_iff_pos
def aEa(a b:Nat):(a==b)=decide (a=b):=rfl
@[go_sem] def bAK{x a b:Nat}:(x+a==x+b)=(a==b):=by rw[aEa,aEa];exact decide_eq_decide.2 omT
@[go_sem] def aZp{x a:Nat}:(x+a==x)=(a==0):=by rw[aEa,aEa];exact decide_eq_decide.2 omT
@[go_sem] def aZq{x a:Nat}:(x==x+a)=(0==a):=by rw[aEa,aEa];exact decide_eq_decide.2 omT
@[go_sem] def bBX:(Po==Pa)=false:=(rfl)
@[go_sem] def bBY:(Pa==Po)=false:=(rfl)
attribute [go_sem] Bool.false_eq_true
attribute [go_sem] Int.cast_ofNat_Int Int.lt_irrefl
attribute [go_sem] Int.natCast_nonneg Int.ofNat_lt Int.ofNat_le Int.toNat_natCast
@[go_sem] def aZr{full:Bool}{x:AV}:eX H site k bytes (.sl full rows) x=(match bIz H x with
 |none=>N2
 |some new=>
  if !dF k new then N2 else
   if new.isEmpty then N1 (.sl full rows,H,[])
   else if full&&dF k rows&&bP (rows.length+new.length) bytes then
    match site with
    |some id=>if id<H.length then N1 (.sr id (bH H id) (rows.length+new.length),make H id (.vec · k (rows++new)),[id])else N2
    |none=>N2
   else N2):=(rfl)
@[go_sem] def aZs{o v:Nat}{x:AV}:eX H site k bytes (.sr o v n) x=(match bIz H x with
 |none=>N2
 |some new=>
  if !dF k new then N2 else
   match H[o]? with
   |some (.vec v' k' rows)=>
    if v'=v/\rows.length=n/\k'=k/\bP (n+new.length) bytes then
     if new.isEmpty then N1 (.sr o v n,H,[])else
     N1 (.sr o v (n+new.length),H.set o (.vec v k (rows++new)),[o])
    else N2
   |_=>N2):=(rfl)
@[go_sem] def aWe:dF k []=true:=(rfl)
@[go_sem] def aCj{r:LA}:dF k (r::rows)=(r.length==k):=(rfl)
attribute [go_sem] aJK findKey bC storeCells bIz dO nV aD4 aVH mK nZ mM xC mmV aEE mm2
attribute [go_sem] List.drop_zero List.drop_succ_cons List.drop_nil List.take_zero List.take_succ_cons List.take_nil List.getElem?_cons_zero List.getElem?_cons_succ List.getElem?_nil List.set_cons_zero List.set_cons_succ List.set_nil List.nil_append List.cons_append List.append_nil List.all_cons List.all_nil List.map_cons List.map_nil List.length_cons List.length_nil List.replicate_succ List.replicate_zero List.length_set List.length_map List.getElem?_set_self List.set_set List.take_length List.isEmpty_nil List.isEmpty_cons List.contains_cons List.contains_nil Bool.or_false Bool.false_or Bool.or_true Bool.true_or Option.getD_some Option.getD_none Nat.add_zero Nat.zero_add and_true true_and and_false false_and Vu Vt ite_true ite_false Bool.and_true Bool.true_and Bool.and_false Bool.false_and Bool.not_true Bool.not_false decide_true decide_false Vy Nat.reduceAdd Nat.reduceLT Nat.reduceLeDiff
abbrev z0:AV:=.int .i64 0
abbrev yq3:LN:=[3,2,1,0]
abbrev yq4:LN:=4::yq3
abbrev yq5:LN:=5::yq4
abbrev yq6:LN:=6::yq5
abbrev yq7:LN:=7::yq6
abbrev yq8:LN:=8::yq7
abbrev yq9:LN:=9::yq8
abbrev bBZ:LN:=10::yq9
abbrev u:=aa.tmp
abbrev ui(n:Int):aa:=.const (.int .i64 n)
abbrev uc:=aa.const
abbrev uF:aa:=.const (.bool Po)
abbrev uT:aa:=.const (.bool Pa)
abbrev uf(f:Nat):aa:=.const (.fn f [] [])
abbrev om(x:Nat):df:=.mov (.tmp x)
abbrev omc(v:AV):df:=.mov (.const v)
abbrev ol(k x:Nat):df:=.load k Po (.tmp x)
abbrev ola(k x:Nat):df:=.load k Pa (.tmp x)
abbrev of(o x:Nat):df:=.fa o (.tmp x)
abbrev ob(o:MZ)(x y:Nat):df:=.bin o .no (.tmp x) (.tmp y)
abbrev obi(o:MZ)(x:Nat)(n:Int):df:=.bin o .no (.tmp x) (.const (.int .i64 n))
abbrev oi(x i k:Nat):df:=.iaV (.tmp x) (.tmp i) k
abbrev on(x:Nat):df:=.Wk (.tmp x)
abbrev op(x y:Nat):df:=.pick (.tmp x) (.tmp y) (.const (.bool Po))
abbrev oa(k b x y:Nat):df:=.app k b (.tmp x) (.tmp y)
abbrev os(k x y:Nat):df:=.store k (.tmp x) (.tmp y)
abbrev oc(f:Nat)(l:List aa):df:=.dm (.const (.fn f [] [])) l
abbrev qq(d:Nat)(o:df):ae:=⟨N1 d,o,N2,[]⟩
abbrev qz(o:df):ae:=⟨N2,o,N2,[]⟩
abbrev qT(d g:Nat)(o:df):ae:=⟨N1 d,o,N1 (N1 g,Pa),[]⟩
abbrev qF(d g:Nat)(o:df):ae:=⟨N1 d,o,N1 (N1 g,Po),[]⟩
abbrev qm(d x:Nat):ae:=⟨N1 d,.mov (.tmp x),N2,[]⟩
abbrev qmc(d:Nat)(v:AV):ae:=⟨N1 d,.mov (.const v),N2,[]⟩
abbrev ql(d k x:Nat):ae:=⟨N1 d,.load k Po (.tmp x),N2,[]⟩
abbrev qla(d k x:Nat):ae:=⟨N1 d,.load k Pa (.tmp x),N2,[]⟩
abbrev qf(d o x:Nat):ae:=⟨N1 d,.fa o (.tmp x),N2,[]⟩
abbrev qb(d:Nat)(o:MZ)(x y:Nat):ae:=⟨N1 d,.bin o .no (.tmp x) (.tmp y),N2,[]⟩
abbrev qbi(d:Nat)(o:MZ)(x:Nat)(n:Int):ae:=⟨N1 d,.bin o .no (.tmp x) (.const (.int .i64 n)),N2,[]⟩
abbrev qi(d x i k:Nat):ae:=⟨N1 d,.iaV (.tmp x) (.tmp i) k,N2,[]⟩
abbrev qn(d x:Nat):ae:=⟨N1 d,.Wk (.tmp x),N2,[]⟩
abbrev qx(d k x:Nat):ae:=⟨N1 d,.box k (.tmp x),N2,[]⟩
abbrev qp(d x y:Nat):ae:=⟨N1 d,.pick (.tmp x) (.tmp y) (.const (.bool Po)),N2,[]⟩
abbrev qa(d k b x y:Nat):ae:=⟨N1 d,.app k b (.tmp x) (.tmp y),N2,[]⟩
abbrev qs(k x y:Nat):ae:=⟨N2,.store k (.tmp x) (.tmp y),N2,[]⟩
abbrev qc(d f:Nat)(l:List aa):ae:=⟨N1 d,.dm (.const (.fn f [] [])) l,N2,[]⟩
abbrev qS(l:List ae)(c:ag):ag:=.seq (.region Po l) c
abbrev qR(l:List ae):ag:=.region Po l
abbrev qC(x:Nat)(a b:ag):ag:=.cond (.tmp x) a b
def aXY(f:Nat):LN:=match f with
 |3=>[13,99,118,120,203]
 |4=>[2,3,4]
 |5=>[2,22,4,7,10,58,13,81,98,104]
 |6=>[2,3,39,59,13,136,153]
 |7=>[1,2]
 |8=>[4,8,17,9,22,32,60,62,84,96,51]
 |9=>[13]
 |10=>[2,39]
 |11=>[1,2]
 |12=>[2,47]
 |14=>[1]
 |15=>[2,3,31]
 |16=>[54]
 |18=>[4,5]
 |19=>[4,6,9]
 |20=>[3]
 |21=>[4,5,28,58,68]
 |24=>[53]
 |25=>[1]
 |26=>[1]
 |27=>[29]
 |30=>[1,4,9,10,12,79,14,15,17]
 |31=>[6,9,38,43]
 |32=>[3,5,7,9,10,11,116,15,136]
 |34=>[28]
 |35=>[4,5]
 |36=>[2]
 |37=>[2,3,29,34]
 |38=>[81,83,2,3,18,35,58,69,84]
 |39=>[2,3,12,57,61,66]
 |40=>[23]
 |46=>[24,45]
 |50=>[13,5,7,9,11]
 |54=>[1]
 |55=>[1]
 |56=>[6]
 |57=>[18,32,34]
 |59=>[19]
 |60=>[8]
 |61=>[4,7,46]
 |64=>[46]
 |70=>[3]
 |74=>[1]
 |76=>[1]
 |80=>[9,11]
 |82=>[3]
 |83=>[14]
 |93=>[3]
 |94=>[5]
 |95=>[5,16]
 |96=>[13]
 |97=>[11,13]
 |100=>[8]
 |101=>[6,10,68]
 |102=>[2,4,8,32,9,38,45,11,57]
 |110=>[2,3]
 |111=>[2,3]
 |113=>[9]
 |130=>[14]
 |131=>[9,11]
 |133=>[5]
 |134=>[5]
 |135=>[9]
 |139=>[4]
 |140=>[5,23]
 |142=>[1]
 |143=>[9,16,23,28,39,46]
 |144=>[4,22,5,25,6]
 |145=>[5,6,7,8]
 |148=>[24,33]
 |150=>[1]
 |153=>[2]
 |154=>[2,14,10]
 |155=>[3,4,5]
 |157=>[2,3]
 |163=>[2,3]
 |166=>[8,9]
 |194=>[5]
 |195=>[5]
 |196=>[5]
 |201=>[2,5,32,4]
 |206=>[5,6,7,25,34]
 |209=>[6]
 |210=>[2]
 |211=>[26]
 |214=>[2,3]
 |217=>[2]
 |218=>[2,4,47]
 |220=>[30,36]
 |221=>[2]
 |222=>[2,4,5,3]
 |224=>[26,32]
 |225=>[2]
 |226=>[2,3,37,42,48]
 |228=>[16]
 |229=>[2]
 |230=>[4,3]
 |232=>[4,5,9,6]
 |235=>[1,2,3,4,5,7]
 |236=>[1,3,9,4]
 |238=>[22]
 |239=>[2,7,11]
 |241=>[5]
 |243=>[5]
 |246=>[1]
 |247=>[2]
 |248=>[9]
 |249=>[4,5,9,71,84,86,102,107,17,140]
 |250=>[2,3]
 |251=>[5]
 |252=>[8,9]
 |268=>[94,11]
 |276=>[7,18,30,39,44,54,69,85]
 |277=>[2,3,4,13]
 |282=>[34,35,36,48,49,22]
 |283=>[2,3,4]
 |284=>[12]
 |289=>[2]
 |295=>[12,98]
 |298=>[1]
 |299=>[1]
 |300=>[7]
 |301=>[3,9]
 |302=>[3]
 |303=>[1]
 |312=>[9]
 |313=>[13]
 |315=>[2,7,5,11]
 |316=>[10]
 |317=>[10]
 |319=>[3,4,5,6]
 |322=>[31]
 |337=>[2,3]
 |342=>[16]
 |343=>[100,101,163,210,230]
 |346=>[14,20]
 |347=>[2,3]
 |349=>[3]
 |356=>[10]
 |357=>[10]
 |358=>[15]
 |359=>[15]
 |377=>[9]
 |378=>[17,7,27]
 |379=>[2,4,5]
 |384=>[5]
 |393=>[2]
 |413=>[5]
 |416=>[5]
 |422=>[85]
 |428=>[11]
 |429=>[11]
 |430=>[2]
 |431=>[14]
 |445=>[6]
 |466=>[27]
 |_=>[]
def bC1(f r:Nat):List (Nat×Nat):=match f,r with
 |4,4=>[(9,6)]
 |6,27=>[(0,5)]
 |8,25=>[(2,9)]
 |30,24=>[(2,10)]
 |31,14=>[(0,7)]
 |38,13=>[(1,94)]
 |102,15=>[(0,11)]
 |222,3=>[(1,3)]
 |249,17=>[(0,14)]
 |322,18=>[(0,9)]
 |_,_=>[]
def nlK(f:Nat):Bool:=match f with
 |50 | 131 | 148 | 149 | 239 | 268 | 272 | 315 | 316 | 422=>Pa
 |_=>Po
def tyK(f:Nat):LN:=match f with
 |50=>[171,173,5]
 |83=>[171,173,5]
 |130=>[171,173,5]
 |316=>[171,173,5]
 |_=>[]
def aXZ:LN:=[10,59,250,276,317,346,378]
@[reducible] def vi(n:Int):AV:=.int .i64 n
def aQ0:LA:=[[119,104,111,108,101],[101,110,116,114,121],[105,110,115,105,100,101],[108,101,102,116],[108,111,110,103,101,114],[98,97,114],[114,111,119]].map AV.str
def aRZ:LA:=[vi 0,vi 999999,vi 4,.int .u8 0,vi 0,vi 25,vi 4,.int .u8 0,vi 1,vi 0,vi 3,.int .u8 45,vi 2,vi 0,vi 1,.int .u8 43,vi 2,vi 0,vi 1,.int .u8 45,vi 2,vi 0,vi 2,.int .u8 42,vi 2,vi 0,vi 2,.int .u8 47,
 vi 2,vi 0,vi 3,.int .u8 94,vi 1,vi 0,vi 4,.int .u8 82,vi 2,vi 0,vi 0,.int .u8 61,vi 2,vi 0,vi 0,.int .u8 60]
def aOi:LA:=[[],[],[110,101,103],[43],[45],[42],[47],[94],[114,111,111,116],[61],[60]].map AV.str
def aPV:LA:=[[100,111,116],[108,105,110,101],[97,114,101,97]].map AV.str
def aQg:LA:=[[99,104,111,105,99,101],[99,111,117,110,116],[111,112,101,110]].map AV.str
def tH(b:Int)(n:Nat):AV:=.agg [vi b,.fn n [] []]
def aMi:LA:=[tH (-1) 433,tH 3 435,tH 4 437,tH 4 439,tH 4 440,
 tH 5 441,tH 6 443]
def aSj:LA:=[.fmp [vi 0,vi 1,vi 2,vi 3,vi 4,vi 5,vi 6] aMi]
def aZA(n:Nat):Option LA:=match n with
 |0=>N1 aQ0
 |4=>N1 aRZ
 |1=>N1 aOi
 |2=>N1 aPV
 |3=>N1 aQg
 |5=>N1 aSj
 |6=>N1 (EB.map λz=>AV.int .u64 z)
 |_=>N2
def aBx:cu:=⟨aZA,Po,[],aXZ⟩
def bR8:Nat->ag->ag
 |p,.seq a b=>if p<2 then .seq a b else if p % 2=0 then bR8 (p / 2) a else bR8 (p / 2) b
 |p,.cond c a b=>if p<2 then .cond c a b else if p % 2=0 then bR8 (p / 2) a else bR8 (p / 2) b
 |p,.block i c=>if p<2 then .block i c else bR8 (p / 2) c
 |p,.loop c=>if p<2 then .loop c else bR8 (p / 2) c
 |p,.dz x ps c=>if p<2 then .dz x ps c else bR8 (p / 2) c
 |_,c=>c
def bO3(x:ag):Nat->ag->ag
 |p,.seq a b=>if p<2 then x else if p % 2=0 then .seq (bO3 x (p / 2) a) b else .seq a (bO3 x (p / 2) b)
 |p,.cond c a b=>if p<2 then x else if p % 2=0 then .cond c (bO3 x (p / 2) a) b else .cond c a (bO3 x (p / 2) b)
 |p,.block i c=>if p<2 then x else .block i (bO3 x (p / 2) c)
 |p,.loop c=>if p<2 then x else .loop (bO3 x (p / 2) c)
 |p,.dz y ps c=>if p<2 then x else .dz y ps (bO3 x (p / 2) c)
 |_,_=>x
def bRd:List (Nat×ag)->ag->ag
 | [],c=>c
 | (p,x)::r,c=>bRd r (bO3 x p c)
def bSA:ag->List ae | .region _ l=>l | _=>[]
section
variable (P:CU)(gl:cu)
def bSB(t:BP):vd:=
 match P.underlying t with
 |some (.struct fs)=>((qN P 0 fs.toList).map .cells).getD .no
 |some .bool=>.bool
 |some (.func ..)=>.func
 |some (.pointer _)=>.ptr
 |_=>.no
def bSC(t:BP)(x y:CA):vd:=
 match P.underlying t with
 |some (.interface _)=>if aLz x || aLz y then .iface else .no
 |some (.array n e)=>((aOL P e).map λg=>.cells (AX n g)).getD .no
 |_=>bSB P t
def bRe(x:CA):aa:=(fA gl x).getD default
def bQ6(o:HP):df:=
 match o.op with
 |.binOp op t x y _=>if aIV P t y then (cOp P gl o).getD .bad else .bin op (bSC P t x y) (bRe gl x) (bRe gl y)
 |.mapUpdate _ m k v=>.Fs (bRe gl m) (bRe gl k) (bRe gl v)
 |.lookup t m k ok=>match P.underlying t with
  |some (.map kt et)=>match P.underlying kt,zeroV? P gl et with
   |some (.struct _),N1 z=>.wy z (bRe gl m) (bRe gl k) ok
   |_,_=>(cOp P gl o).getD .bad
  |_=>.bad
 |_=>(cOp P gl o).getD .bad
def bTb(all:List HP):List HP->List LN->List ae
 | [],_=>[]
 |o::r,ps=>⟨o.dst,bQ6 P gl o,aFL all o.guard,aJM ps o⟩::bTb all r (ps++[aJM ps o])
def bTc(all:List HP):List HP->List ae
 | []=>[]
 |o::r=>⟨o.dst,bQ6 P gl o,aFL all o.guard,[]⟩::bTc all r
def bR9(frz:Nat->List (Nat×Nat)):Code->ag
 |.region id ops d=>
  let r:=ag.region d (match d with
   |true=>bTb P gl ops.toList ops.toList []
   |false=>bTc P gl ops.toList ops.toList)
  match frz id with
  | []=>r
  |ts=>.seq (.frz ts) r
 |.seq a b=>.seq (bR9 frz a) (bR9 frz b)
 |.cond (.tmp t) a b=>.cond (.tmp t) (bR9 frz a) (bR9 frz b)
 |.block id c=>.block id (bR9 frz c)
 |.loop c=>.loop (bR9 frz c)
 |.rangeFunc g ps a c=>.dz (bRe gl g) ps.toList (.seq (bR9 frz a) (bR9 frz c))
 |.exit id=>.exit id
 |.ret=>.ret
 |_=>.skip
end
noncomputable def bT1(n:Nat)(F:Bi):ag:=bR9 Go.Proofs.Tryz.prog { aBx with nl:=nlK n,typed:=tyK n } (bC1 n) (F.body.getD .skip)
noncomputable def bIC(l:List (Nat×ag))(n:Nat)(F:Bi):bw:=⟨F.ntmps,aXY n,(aNz Go.Proofs.Tryz.prog F.results.toList).getD [],bRd l (bT1 n F)⟩
noncomputable abbrev bTx:=bIC []
noncomputable def bIF(p:Nat)(l:List (Nat×ag))(n:Nat)(F:Bi):ag:=bRd l (bR8 p (bT1 n F))
noncomputable def bJ6(p n:Nat)(F:Bi):List ae:=bSA (bR8 p (bT1 n F))
noncomputable def bTs(n:Nat):Bi:=(Go.Proofs.Tryz.prog.funcs[n]?).getD default
open Go.Proofs in
attribute [simp] Tryz.t3 Tryz.t4 Tryz.t5 Tryz.t9 Tryz.t16 Tryz.t22 Tryz.t23 Tryz.t25 Tryz.t29 Tryz.t31 Tryz.t33 Tryz.t35 Tryz.t36 Tryz.t38 Tryz.t40 Tryz.t56 Tryz.t58 Tryz.t62 Tryz.t63 Tryz.t65 Tryz.t66 Tryz.t67 Tryz.t69 Tryz.t70 Tryz.t71 Tryz.t73 Tryz.t75 Tryz.t76 Tryz.t78 Tryz.t79 Tryz.t81 Tryz.t82 Tryz.t84 Tryz.t86 Tryz.t89 Tryz.t93 Tryz.t97 Tryz.t117 Tryz.t121 Tryz.t127 Tryz.t130 Tryz.t131 Tryz.t133 Tryz.t141 Tryz.t144 Tryz.t145 Tryz.t148 Tryz.t150 Tryz.t151 Tryz.t153 Tryz.t157 Tryz.t171 Tryz.t173 Tryz.t194 Tryz.t197 Tryz.t199 Tryz.t238 Tryz.t239 Tryz.t241 Tryz.t246 Tryz.t255 Tryz.t257 Tryz.t260 Tryz.t265 Tryz.t267 Tryz.t269 Tryz.t289 Tryz.t303 Tryz.t309 Tryz.t311 Tryz.t313 Tryz.t338 Tryz.t369 Tryz.t375 Tryz.t378 Tryz.t380 Tryz.t381 Tryz.t398 Tryz.t427 Tryz.t429 Tryz.t431
structure bb{α:Type}(n:Nat)(k:Nat->Bi->α) where
 x:α
 h:k n (bTs n)=x:=by conv=>
  lhs
  (conv=>rhs;whnf)
  simp (config := { maxSteps := 9999999 }) [-getElem?_pos,-Array.getElem?_eq_getElem,List.getElem?_cons_zero,List.getElem?_nil,bTx,bIC,bIF,bJ6,bT1,bRd,bO3,bR8,bSA,bR9,bTb,bTc,bQ6,bSC,bSB,bRe,fA,sB,wP,ofV,aYr,aQZ,cOp,qM,size?,aVG,zeroCells?,zeroV?,aHU,aHV,aFK,aOL,qN,aJL,aIU,aLz,aYs,aTm,aIV,aZK,aFL,once,aJM,bC1,nlK,tyK,aXY,aXZ,aBx,aZA,Tables.info?,aNz,aZL,Go.Region.binds,Value.cells,AV.still,AV.aj]
@[reducible] def bTw{α:Type}(n:Nat)(k:Nat->Bi->α)(e:bb n k:=by exact .mk _):α:=match e with
 |⟨x,_⟩=>x
end Go.AM
end
section
namespace Go.AM
open Go
def aWE(x:aa)(H:LO)(ρ:bN):Option AV:=N1 (x.at ρ)
def aTE(c:aa)(a:aa)(b:aa)(H:LO)(ρ:bN):Option AV:=match c.at ρ with
  |.bool t=>N1 (if t then a.at ρ else b.at ρ)
  |_=>N2
def aRd(zs:LA)(H:LO)(ρ:bN):Option AV:=if zs.all AV.still then N1 (.ep (zs.map AV.aj) 0)else N2
def aWF(k:Nat)(x:aa)(H:LO)(ρ:bN):Option AV:=
  let vs:=(x.at ρ).strip.cells
  if vs.length=k/\vs.all AV.still then N1 (.ep vs 0)else N2
def aRe(zs:LA)(parts:List (Nat×Nat×aa))(H:LO)(ρ:bN):Option AV:=(mK ρ zs parts).map .agg
def aWG(k:Nat)(zs:LA)(n:Nat)(parts:List (Nat×aa))(H:LO)(ρ:bN):Option AV:=(nZ ρ k (AX n zs) parts).map (.sl Pa)
def aWH(u0:Nat)(bytes:Nat)(zs:LA)(len:aa)(cap:aa)(H:LO)(ρ:bN):Option AV:=match len.at ρ,cap.at ρ with
  |.int _ n,.int _ c=>if 0<=n/\n=c/\bP n.toNat bytes then N1 (.sl Pa (AX n.toNat (zs.map AV.aj)))else N2
  |_,_=>N2
def aTF(k:Nat)(agg:Bool)(x:aa)(H:LO)(ρ:bN):Option AV:=match bC H k (x.at ρ)with
  |some cs=>eD agg cs
  |none=>N2
def aRf(x:aa)(H:LO)(ρ:bN):Option AV:=match x.at ρ with
  |.ptr o v off=>N1 (.ptr o v off)
  |.vp o v n k i off=>N1 (.vp o v n k i off)
  |.ep row off=>N1 (.ep row off)
  |.fn f a b=>N1 (.fn f a b)
  |_=>N2
def aRg(neg:Bool)(x:aa)(H:LO)(ρ:bN):Option AV:=match x.at ρ with
  |.sl _ (_::_) | .sr ..=>N1 (.bool neg)
  |.ar=>N1 (.bool !neg)
  |_=>N2
def aWI(op:MZ)(ek:vd)(x:aa)(y:aa)(H:LO)(ρ:bN):Option AV:=kJ op ek (x.at ρ) (y.at ρ)
def bA3(op:UnOp)(x:aa)(H:LO)(ρ:bN):Option AV:=unV op (x.at ρ)
def aTG(c:tm)(x:aa)(H:LO)(ρ:bN):Option AV:=pT H c (x.at ρ)
def aWJ(f:Nat)(first:List aa)(ay:List aa)(H:LO)(ρ:bN):Option AV:=if (first.map (aa.at ρ)).all AV.still&&(ay.map (aa.at ρ)).all AV.still then N1 (.fn f (first.map λx=>(x.at ρ).aj) (ay.map λx=>(x.at ρ).aj))else N2
def aP7(x:aa)(lo:Option aa)(hi:Option aa)(H:LO)(ρ:bN):Option AV:=match x.at ρ with
  |.str s=>match dU s.length (lo.map (aa.at ρ)) (hi.map (aa.at ρ)) N2 with
   |some (l,h,_)=>N1 (.str ((s.take h).drop l))
   |none=>N2
  |_=>N2
def aP8(k:Nat)(x:aa)(lo:Option aa)(hi:Option aa)(mx:Option aa)(H:LO)(ρ:bN):Option AV:=match x.at ρ with
  |.sl full rows=>match dU rows.length (lo.map (aa.at ρ)) (hi.map (aa.at ρ)) (mx.map (aa.at ρ))with
   |some (l,h,m)=>if dF k rows&&(!mx.isSome || hi.isSome)then N1 (.sl (decide (m=h)&&(mx.isSome || full)) ((rows.take h).drop l))else N2
   |none=>N2
  |.sr o v n=>if mx.isSome then N2 else match dU n (lo.map (aa.at ρ)) (hi.map (aa.at ρ)) N2 with
   |some (l,h,_)=>if hi.isSome&&decide (l=0)then N1 (.srw o v n h)else if h=n then N1 (.srv o v n k l)else N2
   |none=>N2
  |_=>N2
def aTH(k:Nat)(x:aa)(lo:Option aa)(H:LO)(ρ:bN):Option AV:=match x.at ρ with
  |.sl full rows=>match dU rows.length (lo.map (aa.at ρ)) N2 N2 with
   |some (l,h,m)=>if dF k rows then N1 (.sl (decide (m=h)&&full) ((rows.take h).drop l))else N2
   |none=>N2
  |.sr o v n=>match H[o]? with
   |some (.vec v' _ rows)=>if v'=v/\rows.length=n then match iL 0 n (lo.map (aa.at ρ))with
     |some l=>N1 (.srv o v n k l)
     |none=>N2
    else N2
   |_=>N2
  |_=>N2
def aP9(n:Nat)(k:Nat)(x:aa)(lo:Option aa)(hi:Option aa)(mx:Option aa)(H:LO)(ρ:bN):Option AV:=match x.at ρ with
  |.ep row off=>if off+n*k<=row.length then
    let rows:=aFH k n (row.drop off)
    match dU n (lo.map (aa.at ρ)) (hi.map (aa.at ρ)) (mx.map (aa.at ρ))with
    |some (l,h,m)=>if !mx.isSome || hi.isSome then N1 (.sl (decide (m=h)) ((rows.take h).drop l))else N2
    |none=>N2
   else N2
  |_=>N2
def bA4(off:Nat)(x:aa)(H:LO)(ρ:bN):Option AV:=match x.at ρ with
  |.ptr o v off0=>N1 (.ptr o v (off0+off))
  |.vp o v n k i off0=>N1 (.vp o v n k i (off0+off))
  |.ep row off0=>N1 (.ep row (off0+off))
  |_=>N2
def aWK(off:Nat)(k:Nat)(agg:Bool)(x:aa)(H:LO)(ρ:bN):Option AV:=match x.at ρ with
  |.agg cs=>if off+k<=cs.length then eD agg ((cs.drop off).take k)else N2
  |_=>N2
def aWL(x:aa)(i:aa)(k:Nat)(H:LO)(ρ:bN):Option AV:=match x.at ρ,i.at ρ with
  |.sl _ rows,.int _ n=>if 0<=n then match rows[n.toNat]? with
    |some row=>if row.length=k then N1 (.ep row 0)else N2
    |none=>N2
   else N2
  |.sr o v len,.int _ n=>if 0<=n/\n<len then N1 (.vp o v len k n.toNat 0)else N2
  |_,_=>N2
def aWM(len:Nat)(k:Nat)(x:aa)(i:aa)(H:LO)(ρ:bN):Option AV:=match x.at ρ,i.at ρ with
  |.ptr o v off,.int _ n=>if 0<=n/\n<len then N1 (.ptr o v (off+n.toNat*k))else N2
  |.ep row off,.int _ n=>if 0<=n/\n<len then N1 (.ep row (off+n.toNat*k))else N2
  |.vp o v m k2 r off,.int _ n=>if 0<=n/\n<len then N1 (.vp o v m k2 r (off+n.toNat*k))else N2
  |_,_=>N2
def aWN(x:aa)(i:aa)(H:LO)(ρ:bN):Option AV:=match x.at ρ,i.at ρ with
  |.str s,.int _ n=>if 0<=n then match s[n.toNat]? with
    |some b=>N1 (.int .u8 b.toNat)
    |none=>N2
   else N2
  |_,_=>N2
def aWO(len:Nat)(k:Nat)(agg:Bool)(x:aa)(i:aa)(H:LO)(ρ:bN):Option AV:=match x.at ρ,i.at ρ with
  |.agg cs,.int _ n=>if 0<=n/\n<len/\n.toNat*k+k<=cs.length then eD agg ((cs.drop (n.toNat*k)).take k)else N2
  |_,_=>N2
def aTI(x:aa)(H:LO)(ρ:bN):Option AV:=match x.at ρ with
  |.str s=>N1 (.int .i64 s.length)
  |_=>N2
def aTJ(x:aa)(H:LO)(ρ:bN):Option AV:=match x.at ρ with
  |.sl _ rows=>N1 (.int .i64 rows.length)
  |.sr _ _ n=>N1 (.int .i64 n)
  |.ar=>N1 (.int .i64 0)
  |_=>N2
def aTK(n:Nat)(H:LO)(ρ:bN):Option AV:=N1 (.int .i64 n)
def bA5(mx:Bool)(xs:List aa)(H:LO)(ρ:bN):Option AV:=mmV mx (xs.map (aa.at ρ))
def aWP(i:Nat)(x:aa)(H:LO)(ρ:bN):Option AV:=match x.at ρ with
  |.tup vs=>vs[i]?
  |_=>N2
def aRh(t:Nat)(x:aa)(H:LO)(ρ:bN):Option AV:=if (x.at ρ).tn then N1 (.ifc t (x.at ρ))else N2
def aTL(zero:AV)(m:aa)(k:aa)(ok:Bool)(H:LO)(ρ:bN):Option AV:=match m.at ρ with
  |.mp o v=>match H[o]? with
   |some (.map v' es)=>if v'=v then
     match findKey (k.at ρ) es 0 with
     |some (N1 (_,x))=>if ok then N1 (.tup [x,.bool Pa])else N1 x
     |some N2=>if ok then N1 (.tup [zero,.bool Po])else N1 zero
     |none=>N2
    else N2
   |_=>N2
  |.fmp ks vs=>match findKey (k.at ρ) (ks.zip vs) 0 with
   |some (N1 (_,x))=>if ok then N1 (.tup [x,.bool Pa])else N1 x
   |some N2=>if ok then N1 (.tup [zero,.bool Po])else N1 zero
   |none=>N2
  |_=>N2
def bRf(zero:AV)(m:aa)(k:aa)(ok:Bool)(H:LO)(ρ:bN):Option AV:=match m.at ρ with
  |.mp o v=>match H[o]? with
   |some (.map v' es)=>if v'=v/\(bJi (k.at ρ) (k.at ρ)).isSome then bJB zero ok (bIO (k.at ρ) es 0)else N2
   |_=>N2
  |.fmp ks vs=>if (bJi (k.at ρ) (k.at ρ)).isSome then bJB zero ok (bIO (k.at ρ) (ks.zip vs) 0)else N2
  |_=>N2
def rOp:df->LO->bN->Option AV:=λop=>match op with
 |.mov a0=>aWE a0
 |.pick a0 a1 a2=>aTE a0 a1 a2
 |.alloc a0=>aRd a0
 |.box a0 a1=>aWF a0 a1
 |.build a0 a1=>aRe a0 a1
 |.bsl a0 a1 a2 a3=>aWG a0 a1 a2 a3
 |.mks a0 a1 a2 a3 a4=>aWH a0 a1 a2 a3 a4
 |.load a0 a1 a2=>aTF a0 a1 a2
 |.cz a0=>aRf a0
 |.ky a0 a1=>aRg a0 a1
 |.bin a0 a1 a2 a3=>aWI a0 a1 a2 a3
 |.un a0 a1=>bA3 a0 a1
 |.conv a0 a1=>aTG a0 a1
 |.mkf a0 a1 a2=>aWJ a0 a1 a2
 |.fm a0 a1 a2=>aP7 a0 a1 a2
 |.gw a0 a1 a2 a3 a4=>aP8 a0 a1 a2 a3 a4
 |.view a0 a1 a2=>aTH a0 a1 a2
 |.na a0 a1 a2 a3 a4 a5=>aP9 a0 a1 a2 a3 a4 a5
 |.fa a0 a1=>bA4 a0 a1
 |.fld a0 a1 a2 a3=>aWK a0 a1 a2 a3
 |.iaV a0 a1 a2=>aWL a0 a1 a2
 |.iaA a0 a1 a2 a3=>aWM a0 a1 a2 a3
 |.ixS a0 a1=>aWN a0 a1
 |.ixA a0 a1 a2 a3 a4=>aWO a0 a1 a2 a3 a4
 |.fg a0=>aTI a0
 |.Wk a0=>aTJ a0
 |.zb a0=>aTK a0
 |.mm a0 a1=>bA5 a0 a1
 |.ext a0 a1=>aWP a0 a1
 |.km a0 a1=>aRh a0 a1
 |.look a0 a1 a2 a3=>aTL a0 a1 a2 a3
 |.wy a0 a1 a2 a3=>bRf a0 a1 a2 a3
 |_=>λ_ _=>N2
def aSP(op:df)(H:LO)(ρ:bN):rOp op H ρ=vA H ρ op:=by cases op<;>rfl
def aRi(zs:LA)(H:LO)(ρ:bN)(site:Option Nat):Out:=match site with
  |some id=>if id<H.length then N1 (.ptr id (bH H id) 0,make H id (.box · zs),[id])else N2
  |none=>N2
def aPa(ty:Nat)(zs:LA)(H:LO)(ρ:bN)(site:Option Nat):Out:=match site with
  |some id=>if id<H.length then N1 (.ptr id (bH H id) 0,make H id (.cw · ty zs),[id])else N2
  |none=>N2
def aWQ(k:Nat)(x:aa)(H:LO)(ρ:bN)(site:Option Nat):Out:=match site with
  |some id=>if id<H.length/\(x.at ρ).cells.length=k/\(x.at ρ).cells.all AV.ak then N1 (.ptr id (bH H id) 0,make H id (.box · (x.at ρ).cells),[id])else N2
  |none=>N2
def aWR(ty:Nat)(k:Nat)(x:aa)(H:LO)(ρ:bN)(site:Option Nat):Out:=match site with
  |some id=>if id<H.length/\(x.at ρ).cells.length=k/\(x.at ρ).cells.all AV.ak then N1 (.ptr id (bH H id) 0,make H id (.cw · ty (x.at ρ).cells),[id])else N2
  |none=>N2
def aRj(k:Nat)(x:aa)(v:aa)(H:LO)(ρ:bN)(site:Option Nat):Out:=if (v.at ρ).cells.length=k/\(v.at ρ).cells.all AV.ak then
   match storeCells H (v.at ρ).cells (x.at ρ)with
   |some (H',wr)=>N1 (.undef,H',wr)
   |none=>N2
  else N2
def aWS(k:Nat)(zs:LA)(n:Nat)(parts:List (Nat×aa))(H:LO)(ρ:bN)(site:Option Nat):Out:=match site with
  |some id=>match mM ρ k (AX n zs) parts with
   |some rows=>if id<H.length then N1 (.sr id (bH H id) n,make H id (.vec · k rows),[id])else N2
   |none=>N2
  |none=>match xC ρ k H (AX n zs) parts with
   |some (rows,H',wr)=>N1 (.sl Pa rows,H',wr)
   |none=>N2
def aWT(k:Nat)(bytes:Nat)(zs:LA)(len:aa)(cap:aa)(H:LO)(ρ:bN)(site:Option Nat):Out:=match len.at ρ,cap.at ρ with
  |.int _ n,.int _ c=>
   if 0<=n/\n=c/\bP n.toNat bytes then
    match site with
    |some id=>if id<H.length then N1 (.sr id (bH H id) n.toNat,make H id (.vec · k (AX n.toNat (zs.map AV.aj))),[id])else N2
    |none=>N1 (.sl Pa (AX n.toNat (zs.map AV.aj)),H,[])
   else match site with
    |some id=>if n=0/\0<c/\bP c.toNat bytes/\id<H.length then N1 (.sr id (bH H id) 0,make H id (.vec · k []),[id])else N2
    |none=>N2
  |_,_=>N2
def aWU(k:Nat)(bytes:Nat)(s:aa)(x:aa)(H:LO)(ρ:bN)(site:Option Nat):Out:=eX H site k bytes (s.at ρ) (x.at ρ)
def aTM(ty:Nat)(k:Nat)(bytes:Nat)(s:aa)(x:aa)(H:LO)(ρ:bN)(site:Option Nat):Out:=vB H site ty k bytes (s.at ρ) (x.at ρ)
def aWV(k:Nat)(x:aa)(y:aa)(H:LO)(ρ:bN)(site:Option Nat):Out:=match x.at ρ with
  |.srv o v n k' lo=>match H[o]? with
   |some (.vec v' k2 rows)=>match bIz H (y.at ρ)with
    |some new=>if new.isEmpty then N1 (.int .i64 0,H,[])else if v'=v/\rows.length=n/\k2=k/\k'=k/\dF k new/\lo+new.length<=n then
      N1 (.int .i64 (new.length:Nat),H.set o (.vec v k (rows.take lo++new++rows.drop (lo+new.length))),[o])
     else N2
    |none=>N2
   |_=>N2
  |.sr o v n=>match H[o]? with
   |some (.vec v' k2 rows)=>match dO H (y.at ρ)with
    |some new=>if new.isEmpty then N1 (.int .i64 0,H,[])else if v'=v/\rows.length=n/\k2=k/\dF k new/\0<n then
      N1 (.int .i64 ((new.take n).length:Nat),H.set o (.vec v k (rows.take 0++new.take n++rows.drop (0+(new.take n).length))),[o])
     else N2
    |none=>N2
   |_=>N2
  |_=>N2
def aRk(H:LO)(ρ:bN)(site:Option Nat):Out:=match site with
  |some id=>if id<H.length then N1 (.mp id (bH H id),make H id (.map · []),[id])else N2
  |none=>N2
def aWW(m:aa)(k:aa)(v:aa)(H:LO)(ρ:bN)(site:Option Nat):Out:=match m.at ρ,k.at ρ with
  |.mp o ver,key=>match H[o]? with
   |some (.map v' es)=>
    if v'=ver/\(aJK key key).isSome/\(v.at ρ).strip.cells.all AV.still then
     match findKey key es 0 with
     |some (N1 (i,_))=>N1 (.undef,H.set o (.map ver (es.set i (key,(v.at ρ).strip))),[o])
     |some N2=>N1 (.undef,H.set o (.map ver (es++[(key,(v.at ρ).strip)])),[o])
     |none=>N2
    else N2
   |_=>N2
  |_,_=>N2
def bS3(m:aa)(k:aa)(v:aa)(H:LO)(ρ:bN)(site:Option Nat):Out:=match m.at ρ with
  |.mp o ver=>match H[o]? with
   |some (.map v' es)=>
    if v'=ver/\(bJi (k.at ρ) (k.at ρ)).isSome/\(v.at ρ).strip.cells.all AV.still then
     match bIO (k.at ρ) es 0 with
     |some (N1 (i,_))=>N1 (.undef,H.set o (.map ver (es.set i (k.at ρ,(v.at ρ).strip))),[o])
     |some N2=>N1 (.undef,H.set o (.map ver (es++[(k.at ρ,(v.at ρ).strip)])),[o])
     |none=>N2
    else N2
   |_=>N2
  |_=>N2
def wOp:df->LO->bN->Option Nat->Out:=λop=>match op with
 |.alloc a0=>aRi a0
 |.gv a0 a1=>aPa a0 a1
 |.box a0 a1=>aWQ a0 a1
 |.tbx a0 a1 a2=>aWR a0 a1 a2
 |.store a0 a1 a2=>aRj a0 a1 a2
 |.bsl a0 a1 a2 a3=>aWS a0 a1 a2 a3
 |.mks a0 a1 a2 a3 a4=>aWT a0 a1 a2 a3 a4
 |.app a0 a1 a2 a3=>aWU a0 a1 a2 a3
 |.ni a0 a1 a2 a3 a4=>aTM a0 a1 a2 a3 a4
 |.cpy a0 a1 a2=>aWV a0 a1 a2
 |.jn=>aRk
 |.ins a0 a1 a2=>aWW a0 a1 a2
 |.Fs a0 a1 a2=>bS3 a0 a1 a2
 |_=>λ_ _ _=>N2
def aRl{call:Nat->LA->LO->Out}{op:df}{H:LO}{ρ:bN}{site:Option Nat}{r}(h:wOp op H ρ site=N1 r):aD0 call H ρ site op=N1 r:=by cases op<;>first | exact h | (simp[wOp]at h;done)
inductive KT where
 |e
 |n (v:AV) (l r:KT)
def aIb:Nat->Nat->List Bool
 |0,_=>[]
 |k+1,t=>if t=0 then [] else EY (t % 2) 1::aIb k ((t - 1) / 2)
def aG6(t:Nat):List Bool:=aIb t t
noncomputable def aIc(p:List Bool):KT->AV:=
 IU (motive:=λ_=>KT->AV) (λt=>KT.casesOn t .undef λv _ _=>v) (λb _ ih t=>KT.casesOn t .undef λ_ l r=>ih (MM r l b)) p
noncomputable def aTN(p:List Bool)(v:AV):KT->KT:=
 IU (motive:=λ_=>KT->KT) (λt=>KT.casesOn t (.n v .e .e) λ_ l r=>.n v l r)
  (λb _ ih t=>KT.casesOn t (MM (.n .undef .e (ih .e)) (.n .undef (ih .e) .e) b) λx l r=>MM (.n x l (ih r)) (.n x (ih l) r) b) p
noncomputable def toF(t:KT):bN:=λi=>aIc (aG6 i) t
noncomputable def aLF(d:Option Nat)(v:AV)(t:KT):KT:=match d with
 |none=>t
 |some d=>aTN (aG6 d) v t
def aMM:∀p,aIc p .e=.undef
 | []=>rfl
 |_::_=>rfl
def aKe(v:AV):∀(p q:List Bool)(t:KT),aIc p (aTN q v t)=if p=q then v else aIc p t
 | [],[],t=>by cases t<;>rfl
 |b::p,[],t=>by
  cases t with
  |e=>show aIc p (MM KT.e KT.e b)=_;cases b<;>simp[aMM]
  |n x l r=>simp;rfl
 | [],c::q,t=>by cases t<;>cases c<;>(simp;rfl)
 |b::p,c::q,t=>by
  have ih:=aKe v p q;cases t with
  |e=>cases b<;>cases c<;>first | (show aIc p (aTN q v .e)=_;rw[ih];by_cases h:p=q<;>simp[h,aMM]) | (show aIc p .e=_;simp[aMM])
  |n x l r=>cases b<;>cases c<;>first
   |simp_all [aIc,aTN]
   |simp_all [aIc,aTN]
   | (simp;rfl)
def xF:∀(k t:Nat),t<=k->aIb k t=aG6 t
 |0,t,h=>by
  have:t=0:=omT;subst this;rfl
 |k+1,t,h=>by
  cases t with
  |zero=>rfl
  |succ t=>show (if t+1=0 then [] else EY ((t+1) % 2) 1::aIb k (t / 2))=(if t+1=0 then [] else EY ((t+1) % 2) 1::aIb t (t / 2));rw[xF k (t / 2) omT,xF t (t / 2) omT]
def vJ t:aG6 (t+1)=EY ((t+1) % 2) 1::aG6 (t / 2):=by show (if t+1=0 then [] else EY ((t+1) % 2) 1::aIb t (t / 2))=_;rw[Vw omT,xF t (t / 2) omT]
def aKf:∀(n s t:Nat),s<=n->aG6 s=aG6 t->s=t
 |0,s,t,hs,h=>by
  have:s=0:=omT;subst this;cases t with
  |zero=>rfl
  |succ t=>rw[vJ]at h;cases h
 |n+1,s,t,hs,h=>by
  cases s with
  |zero=>
   cases t with
   |zero=>rfl
   |succ t=>rw[vJ]at h;cases h
  |succ s=>
   cases t with
   |zero=>rw[vJ]at h;cases h
   |succ t=>
    rw[vJ,vJ]at h;injection h with h1 h2;have h3:=aKf n (s / 2) (t / 2) omT h2
    grind [Nat.beq_eq]
def aBb(d:Option Nat)(v:AV)(t:KT):toF (aLF d v t)=zX (toF t) d v:=by
 cases d with
 |none=>rfl
 |some d=>
  funext i;show aIc (aG6 i) (aTN (aG6 d) v t)=if i=d then v else aIc (aG6 i) t
  rw[aKe];by_cases h:i=d
  .grind
  rw[Vw h,Vw λhp=>h (aKf i i d (AQ _) hp)]
abbrev pV:=Nat->LA->LO->(AV->LO->LN->Bool)->Bool
def KOk(A:af)(K:pV):Prop:=∀f args H k,K f args H k=Pa->∃v H' wr,aG A f args H=N1 (v,H',wr)/\k v H' wr=Pa
def aSQ(H:LO)(site:Option Nat)(quiet:Bool)(v:AV)(H':LO)(wr:LN):Out:=
 if quiet then
  match v with
  |.own k rows=>
   match site with
   |some id=>if id<H'.length then N1 (.sr id (bH H' id) rows.length,make H' id (.vec · k rows),if wr.contains id then wr else id::wr)else N2
   |none=>N1 (.sl Po rows,H',wr)
  |v=>N1 (v,H',wr)
 else if wr.isEmpty&&decide (H'.length=H.length)&&v.atomic then N1 (v,H,[])else N2
noncomputable def aFz{α:Type}(o:Option α)(k:α->Bool):Bool:=JA Po k o
def fX{α:Type}{o:Option α}{k:α->Bool}(h:aFz o k=Pa):∃a,o=N1 a/\k a=true:=by
 cases o with
 |none=>cases h
 |some a=>exact⟨a,rfl,h⟩
noncomputable def aMN(K:pV)(H:LO)(site:Option Nat)(f:AV)(args:LA)(k:AV->LO->LN->Bool):Bool:=
 match f with
 |.fn f first ay=>aFz (kA H (first++args++ay)) λp=>K f (p.1.map AV.strip) (dL H p.2) λv H' wr=>aFz (aSQ H site p.2.isEmpty v H' wr) λr=>k r.1 r.2.1 r.2.2
 |.yld o v=>aFz (kA H args) λp=>K YF (.own 0 []::.yld o v::p.1.map AV.strip) (dL H p.2) λb H' wr=>bif p.2.isEmpty&&b.atomic then k b H' wr else Po
 |_=>Po
def aEQ{A:af}{K:pV}(hK:KOk A K){H:LO}{site:Option Nat}{f:AV}{args:LA}{k}(h:aMN K H site f args k=Pa):∃r,cX (aG A) H site f args=N1 r/\k r.1 r.2.1 r.2.2=true:=by
 unfold aMN at h;split at h
 .rename_i f first ay
  obtain⟨p,h1,h2⟩:=fX h;obtain⟨v,H',wr,h3,h4⟩:=hK _ _ _ _ h2;obtain⟨r,h5,h6⟩:=fX h4;refine⟨r, ?_,h6⟩;simp only[cX,h1];rw[h3];exact h5
 .rename_i o v;obtain⟨p,h1,h2⟩:=fX h;obtain⟨b,H',wr,h3,h4⟩:=hK _ _ _ _ h2;obtain⟨args',lent⟩:=p;cases hc:lent.isEmpty&&b.atomic with
  |false=>grind
  |true=>
   simp only[hc,cond_true]at h4;refine⟨(b,H',wr), ?_,h4⟩
   simp_all [cX,Vx]
 cases h
noncomputable def aPb(K:pV)(H:LO)(site:Option Nat)(f:AV)(args:LA)(k:AV->LO->LN->Bool):Bool:=
 match f with
 |.fn f first ay=>K f (first++args++ay) H λv H' wr=>aFz (aSQ H site Pa v H' wr) λr=>k r.1 r.2.1 r.2.2
 |_=>Po
def aKg{A:af}{K:pV}(hK:KOk A K){H:LO}{site:Option Nat}{f:AV}{args:LA}{k}(h:aPb K H site f args k=Pa):∃r,iN (aG A) H site f args=N1 r/\k r.1 r.2.1 r.2.2=true:=by
 unfold aPb at h;split at h
 .rename_i f first ay
  obtain⟨v,H',wr,h3,h4⟩:=hK _ _ _ _ h;obtain⟨r,h5,h6⟩:=fX h4;refine⟨r, ?_,h6⟩;simp only[iN];rw[h3];exact h5
 cases h
def aTO:df->Bool
 |.alloc _ | .gv .. | .box .. | .tbx .. | .bsl .. | .mks .. | .store .. | .app .. | .ni .. | .dm .. | .ee .. | .Rd .. | .cpy .. | .jn | .ins .. | .Fs ..=>Pa
 |_=>Po
noncomputable def aMO(K:pV)(site:Option Nat)(inDraw:Bool)(op:df)(H:LO)(ρ:bN)(k:AV->LO->LN->Bool):Bool:=
 match op with
 |.dm f xs=>aMN K H site (f.at ρ) (xs.map (aa.at ρ)) k
 |.ee f xs=>aPb K H site (f.at ρ) (xs.map (aa.at ρ)) k
 |.Rd tab x xs=>match x.at ρ with
  |.ifc t v=>aFz (tab.lookup t) λf=>aMN K H site (.fn f [v] []) (xs.map (aa.at ρ)) k
  |_=>Po
 |op=>if isW site inDraw op then aFz (wOp op H ρ site) λr=>k r.1 r.2.1 r.2.2 else Po
noncomputable def aRm(K:pV)(c:Ctx)(o:ae)(tr:KT)(H:LO)(k:AV->LO->LN->Bool):Bool:=
 bif aTO o.op then
  (bif isW (c.site o.dst) Po o.op then aMO K (c.site o.dst) Po o.op H (toF tr) k else aFz (rOp o.op H (toF tr)) λv=>k v H [])
 else aFz (rOp o.op H (toF tr)) λv=>k v H []
theorem aMP{site:Option Nat}{d:Bool}{op:df}(h:aTO op=Po):isW site d op=false:=by cases op<;>first | rfl | (cases h)
def aER{A:af}{K:pV}(hK:KOk A K){site:Option Nat}{d:Bool}{op:df}{H:LO}{ρ:bN}{k}(h:aMO K site d op H ρ k=Pa):isW site d op=Pa/\∃r,aD0 (aG A) H ρ site op=N1 r/\k r.1 r.2.1 r.2.2=true:=by
 unfold aMO at h;split at h
 .obtain⟨r,h1,h2⟩:=aEQ hK h;exact⟨rfl,r,h1,h2⟩
 .obtain⟨r,h1,h2⟩:=aKg hK h;exact⟨rfl,r,h1,h2⟩
 .rename_i tab x xs;split at h
  .rename_i t v hx;obtain⟨f,h0,h⟩:=fX h;obtain⟨r,h1,h2⟩:=aEQ hK h;refine⟨rfl,r, ?_,h2⟩;simp only[aD0,hx,h0];exact h1
  cases h
 split at h
 .rename_i hw;obtain⟨r,h1,h2⟩:=fX h;exact⟨hw,r,aRl h1,h2⟩
 cases h
def aLG{A:af}{K:pV}(hK:KOk A K){c:Ctx}{o:ae}{tr:KT}{H:LO}{k}(h:aRm K c o tr H k=Pa):∃r,nB (aG A) (c.site o.dst) Po (toF tr) H o.op=N1 r/\k r.1 r.2.1 r.2.2=true:=by
 have viaR:isW (c.site o.dst) Po o.op=Po->aFz (rOp o.op H (toF tr)) (λv=>k v H [])=Pa->∃r,nB (aG A) (c.site o.dst) Po (toF tr) H o.op=N1 r/\k r.1 r.2.1 r.2.2=true:=by
  intro hw h;obtain⟨v,h1,h2⟩:=fX h
  simp_all [aSP,nB,Vw]
 unfold aRm at h;cases hm:aTO o.op with
 |false=>rw[hm]at h;exact viaR (aMP hm) h
 |true=>
  rw[hm]at h;cases hw:isW (c.site o.dst) Po o.op with
  |false=>grind
  |true=>
   rw[hw]at h;obtain⟨_,r,h1,h2⟩:=aER hK h
   simp_all [nB,Vx]
abbrev KQ:=KT->LO->LN->Bool
noncomputable def aId(g:Option (Option Nat×Bool))(ρ:bN)(a b:Bool):Bool:=match g with
 |none=>a
 |some (N1 t,want)=>match ρ t with
  |.bool x=>bif x==want then a else b
  |.tup []=>b
  |_=>Po
 |some (N2,_)=>Po
def aG7{g:Option (Option Nat×Bool)}{ρ:bN}{a b:Bool}(h:aId g ρ a b=Pa):(zE ρ g=N1 Pa/\a=Pa)∨(zE ρ g=N1 Po/\b=Pa):=by
 unfold aId at h;unfold zE
 grind
noncomputable def aYt(K:pV)(c:Ctx)(ops:List ae):KT->LO->LN->KQ->Bool:=
 IU (motive:=λ_=>KT->LO->LN->KQ->Bool) (λtr H wr k=>k tr H wr)
  (λo _ ih tr H wr k=>aId o.guard (toF tr) (aRm K c o tr H λv H' w=>ih (aLF o.dst v tr) H' (bE c.base wr w) k) (ih (aLF o.dst (.tup []) tr) H wr k)) ops
def aE2{A:af}{K:pV}(hK:KOk A K){c:Ctx}:∀(ops:List ae){tr:KT}{H:LO}{wr:LN}{k:KQ},aYt K c ops tr H wr k=Pa ->aD3 (aG A) c ops (toF tr) H wr λρ H wr=>∃tr,ρ=toF tr/\k tr H wr=Pa
 | [],tr,H,wr,k,h=>⟨tr,rfl,h⟩
 |o::ops,tr,H,wr,k,h=>by
  have h':=h;unfold aD3;rcases aG7 h' with⟨h1,h2⟩ | ⟨h1,h2⟩
  .rw[h1];obtain⟨r,h3,h4⟩:=aLG hK h2;rw[h3];dsimp only;rw[<- aBb];exact aE2 hK ops h4
  rw[h1];rw[<- aBb];exact aE2 hK ops h2
abbrev KL:=KT->LO->LN->Log->Bool
noncomputable def aMQ(K:pV)(c:Ctx)(o:ae)(tr:KT)(H:LO)(k:AV->LO->LN->Option LN->Bool):Bool:=
 match o.op,c.site o.dst with
 |.alloc _,N1 id=>k (.ptr id ((H[id]?).elim 0 ah.ver) 0) H [id] N2
 |op,site=>bif aTO op&&isW site Pa op then aMO K site Pa op H (toF tr) λv H' w=>EY H'.length H.length&&k v H' [] (N1 w)
  else aFz (rOp op H (toF tr)) λv=>k v H (aCc (toF tr) op) N2
def aKh{A:af}{K:pV}(hK:KOk A K){c:Ctx}{o:ae}{tr:KT}{H:LO}{k}(h:aMQ K c o tr H k=Pa):∃r,oB (aG A) (c.site o.dst) (toF tr) H o.op=N1 r/\k r.1 r.2.1 r.2.2.1 r.2.2.2=true:=by
 unfold aMQ at h;unfold oB;generalize o.op=op at h ⊢;generalize c.site o.dst=site at h ⊢;split at h
 .grind
 rename_i bl;have key:∃r,(if isW site Pa op then
   match aD0 (aG A) H (toF tr) site op with
   |some (v,H',wr)=>if H'.length=H.length then N1 (v,H',[],N1 wr)else N2
   |none=>N2
  else match vA H (toF tr) op with
   |some v=>N1 (v,H,aCc (toF tr) op,N2)
   |none=>N2)=N1 r/\k r.1 r.2.1 r.2.2.1 r.2.2.2=true:=by
  by_cases hm:(aTO op&&isW site Pa op)=Pa
  .rw[hm]at h;obtain⟨hw,r,h3,h4⟩:=aER hK h
   simp_all
  have oq:(aTO op&&isW site Pa op)=false:=by simpa using hm
  rw[oq]at h;have hw:isW site Pa op=false:=by grind [aTO,aMP]
  obtain⟨v,h3,h4⟩:=fX h;rw[aSP]at h3
  simp_all
 grind
noncomputable def aRn(K:pV)(c:Ctx)(aq:LN)(ops:List ae):Nat->KT->LO->LN->KL->Bool:=
 IU (motive:=λ_=>Nat->KT->LO->LN->KL->Bool) (λ_ tr H wr k=>k tr H wr [])
  (λo _ ih i tr H wr k=>aId o.guard (toF tr) (aMQ K c o tr H λv H' rd w=>ih (i+1) (aLF o.dst v tr) H' (bE c.base wr (w.getD [])) (bif aq.contains i then λtr H wr log=>k tr H wr ((i,rd,w)::log)else k))
   (ih (i+1) (aLF o.dst (.tup []) tr) H wr k)) ops
def aCf{A:af}{K:pV}(hK:KOk A K){c:Ctx}{aq:LN}:∀(ops:List ae){i:Nat}{tr:KT}{H:LO}{wr:LN}{k:KL}{k':bN->LO->LN->Log->Prop},(∀tr H wr log,k tr H wr log=Pa->k' (toF tr) H wr log)->aRn K c aq ops i tr H wr k=Pa->wpD (aG A) c aq i ops (toF tr) H wr k'
 | [],i,tr,H,wr,k,k',hk,h=>hk _ _ _ _ h
 |o::ops,i,tr,H,wr,k,k',hk,h=>by
  have h':=h;unfold wpD;rcases aG7 h' with⟨h1,h2⟩ | ⟨h1,h2⟩
  .rw[h1];obtain⟨r,h3,h4⟩:=aKh hK h2;rw[h3];dsimp only at h4 ⊢;rw[<- aBb];refine aCf hK ops (λtr H wr log hh=>?_) h4;cases hc:aq.contains i with
   |true=>grind
   |false=>grind
  rw[h1];rw[<- aBb];exact aCf hK ops hk h2
noncomputable def aTP(c:Ctx)(ts:List (Nat×Nat)):KT->LO->LN->KQ->Bool:=
 IU (motive:=λ_=>KT->LO->LN->KQ->Bool) (λtr H wr k=>k tr H wr)
  (λp _ ih tr H wr k=>match p with
   | (0,t)=>aFz (aMD H (toF tr t)) λr=>ih (aLF (N1 t) r.1 tr) r.2.1 (bE c.base wr r.2.2) k
   | (n+1,t)=>bif (toF tr t).iy then ih tr H wr k else match bKj H (toF tr t)with
    |some r=>ih tr r.1 (bE c.base wr r.2) k
    |none=>aFz (bC H (n+1) (toF tr t)) λcs=>aFz (aMD H (.agg cs)) λr=>match r with
     | (.agg cs',H',l)=>aFz (storeCells H' cs' (toF tr t)) λq=>ih tr q.1 (bE c.base wr (l++q.2)) k
     |_=>Po) ts
def vK{c:Ctx}:∀(ts:List (Nat×Nat)){tr:KT}{l:LA}{H:LO}{wr:LN}{k:KQ},ck l=toF tr->aTP c ts tr H wr k=Pa->(ts.all λp=>decide (p.2<l.length))=Pa ->∃s' tr',nX c ⟨l,H,wr⟩ ts=N1 s'/\s'.ρ.length=l.length/\ck s'.ρ=toF tr'/\k tr' s'.H s'.wr=Pa
 | [],tr,l,H,wr,k,he,h,_=>⟨⟨l,H,wr⟩,tr,rfl,rfl,he,h⟩
 | (0,t)::ts,tr,l,H,wr,k,he,h,hd=>by
  rw[ES,AI]at hd;have h':=h;obtain⟨⟨v,H',l1⟩,h1,h2⟩:=fX h';have ht:t<l.length:=by simpa using hd.1
  have hf:ck (l.set t v)=toF (aLF (N1 t) v tr):=by rw[nG ht,he,aBb];rfl
  obtain⟨s',tr',g1,g2,g3,g4⟩:=vK ts hf h2 uWa;refine⟨s',tr', ?_,by rw[g2];simp,g3,g4⟩;unfold nX;rw[show (l[t]?).getD .undef=toF tr t by rw[<- he];rfl,h1];exact g1
 | (n+1,t)::ts,tr,l,H,wr,k,he,h,hd=>by
  rw[ES,AI]at hd;have e1:(l[t]?).getD .undef=toF tr t:=by rw[<- he];rfl
  have h':(bif (toF tr t).iy then aTP c ts tr H wr k else match bKj H (toF tr t)with
    |some r=>aTP c ts tr r.1 (bE c.base wr r.2) k
    |none=>aFz (bC H (n+1) (toF tr t)) λcs=>aFz (aMD H (.agg cs)) λr=>match r with
     | (.agg cs',H',l)=>aFz (storeCells H' cs' (toF tr t)) λq=>aTP c ts tr q.1 (bE c.base wr (l++q.2)) k
     |_=>Po)=true:=h
  cases hu:(toF tr t).iy with
  |true=>rw[hu]at h';obtain⟨s',tr',g1,g2,g3,g4⟩:=vK ts he h' hd.2;refine⟨s',tr', ?_,g2,g3,g4⟩;unfold nX;rw[Vx uWa];exact g1
  |false=>
   rw[hu]at h';cases hk:bKj H (toF tr t)with
   |some r=>
    rw[hk]at h';obtain⟨s',tr',g1,g2,g3,g4⟩:=vK ts he h' hd.2;refine⟨s',tr', ?_,g2,g3,g4⟩
    simp_all [nX,Vw]
   |none=>
   rw[hk]at h';obtain⟨cs,h1,h2⟩:=fX h';obtain⟨r,h3,h4⟩:=fX h2;split at h4
   .rename_i cs' H' l1;obtain⟨⟨H2,l2⟩,h5,h6⟩:=fX h4;obtain⟨s',tr',g1,g2,g3,g4⟩:=vK ts he h6 hd.2;refine⟨s',tr', ?_,g2,g3,g4⟩
    simp_all [nX,Vw]
   cases h4
theorem aG8 b(s:LN)(d:Option Nat):((Ctx.mk b s).site d).isSome=((Ctx.mk 0 s).site d).isSome:=by
 unfold Ctx.site
 grind
theorem aES{s s':Option Nat}(h:s.isSome=s'.isSome)(op:df):looks s op=looks s' op:=by cases op<;>first | rfl | (simp only[looks,h])
theorem aG9 b(s:LN)(o:ae):aBG ⟨b,s⟩ o=aBG ⟨0,s⟩ o:=by
 have h:=aG8 b s o.dst;unfold aBG;generalize (Ctx.mk b s).site o.dst=x at h ⊢;generalize (Ctx.mk 0 s).site o.dst=y at h ⊢;cases x<;>cases y<;>simp at h
 .rfl
 cases o.op<;>rfl
def aGa b(s:LN)(aq:LN)(o:ae) i (p:ae) j:aG4 ⟨b,s⟩ aq o i p j=aG4 ⟨0,s⟩ aq o i p j:=by grind [aG4,aG9,aES,aG8]
def aGb b(s:LN)(ops:List ae):aBH ⟨b,s⟩ ops=aBH ⟨0,s⟩ ops:=by unfold aBH;simp only[aGa b]
def aET b(s:LN)(aq:LN):∀(ops:List ae) i,aCd ⟨b,s⟩ aq i ops=aCd ⟨0,s⟩ aq i ops
 | [],_=>rfl
 |o::r,i=>by
  unfold aCd;simp only[aGa b];rw[aET b s aq r]
def iV(N b:Nat)(s:LN):∀x:ag,dK N ⟨b,s⟩ x=dK N ⟨0,s⟩ x
 |.region d ops=>by simp only[dK,aGb b,aET b]
 |.seq x y=>by simp only[dK,iV N b s x,iV N b s y]
 |.cond _ x y=>by simp only[dK,iV N b s x,iV N b s y]
 |.block _ x=>by simp only[dK,iV N b s x]
 |.loop x=>by simp only[dK,iV N b s x]
 |.frz _ | .skip | .bad | .exit _ | .ret | .dz _ _ _=>rfl
abbrev KE:=bf->KT->LO->LN->Bool
noncomputable def aRo(ih:KT->LO->LN->KE->Bool)(m:Nat):KT->LO->LN->KE->Bool:=
 Nat.rec (motive:=λ_=>KT->LO->LN->KE->Bool) (λ_ _ _ _=>Po)
  (λ_ again tr H wr Q=>ih tr H wr λe tr H wr=>bf.casesOn (motive:=λ_=>Bool) e (again tr H wr Q) (λid=>Q (.exit id) tr H wr) (Q .ret tr H wr)) m
noncomputable def aTQ(x:aa)(ρ:bN)(a b:Bool):Bool:=match x.at ρ with
 |.bool t=>bif t then a else b
 |_=>Po
noncomputable def aLH(K:pV)(c:Ctx)(d:Bool)(ops:List ae)(tr:KT)(H:LO)(wr:LN)(Q:KE):Bool:=
 bif d then aFz (cS c H ops) λH0=>aRn K c (aBH ⟨0,c.sites⟩ ops) ops 0 tr H0 wr λtr H wr log=>eH (λj=>((ops[j]?).map ae.pre).getD []) log&&Q .normal tr H wr
 else aYt K c ops tr H wr (Q .normal)
def aPc(N:Nat)(ρ:bN):LA:=(List.range N).map ρ
def aPd{N:Nat}{l:LA}(hl:l.length=N):aPc N (ck l)=l:=by
 subst hl;apply HN;intro i;unfold aPc;rw[BN];by_cases h:i<l.length
 .rw[List.getElem?_range h];simp[ck,h]
 grind
noncomputable def aPe(K:pV)(N:Nat)(c:Ctx)(x:aa)(ps:LN)(body:ag)(tr:KT)(H:LO)(wr:LN)(Q:KE):Bool:=
 match x.at (toF tr)with
 |.fn f first ay=>aFz (c.site ps.head?) λid=>bif decide (id<H.length)&&eZ c H then
   K f (first++.yld id (bH H id)::ay) (make H id λv=>.rnd v c.base c.sites ps body (aPc N (toF tr)) Po N2) λ_ H2 ba=>
    match H2[id]? with
    |some (.rnd v _ _ _ _ _ Po pend)=>bif EY v (bH H id)&&eZ c H2 then Q (pend.getD .normal) tr (H2.set id (.gone v)) (bE c.base wr (id::ba))else Po
    |_=>Po
  else Po
 |_=>Po
noncomputable def aHv(K:pV)(m N:Nat)(c:Ctx)(x:ag):KT->LO->LN->KE->Bool:=
 ag.rec (motive:=λ_=>KT->LO->LN->KE->Bool)
  (λtr H wr Q=>Q .normal tr H wr)
  (λ_ _ _ _=>Po)
  (λd ops tr H wr Q=>aLH K c d ops tr H wr Q)
  (λ_ _ iha ihb tr H wr Q=>iha tr H wr λe tr H wr=>bf.casesOn (motive:=λ_=>Bool) e (ihb tr H wr Q) (λid=>Q (.exit id) tr H wr) (Q .ret tr H wr))
  (λx _ _ iha ihb tr H wr Q=>aTQ x (toF tr) (iha tr H wr Q) (ihb tr H wr Q))
  (λid _ ih tr H wr Q=>ih tr H wr λe tr H wr=>bf.casesOn (motive:=λ_=>Bool) e (Q .normal tr H wr) (λid'=>bif EY id' id then Q .normal tr H wr else Q (.exit id') tr H wr) (Q .ret tr H wr))
  (λ_ ih tr H wr Q=>aRo ih m tr H wr Q)
  (λid tr H wr Q=>Q (.exit id) tr H wr)
  (λtr H wr Q=>Q .ret tr H wr)
  (λts tr H wr Q=>aTP c ts tr H wr (Q .normal))
  (λx ps body _ tr H wr Q=>aPe K N c x ps body tr H wr Q) x
section
variable {A:af}{K:pV}{m:Nat}{c:Ctx}{N:Nat}
def toQ(Q:KE):bf->bN->LO->LN->Prop:=λe ρ H wr=>∃tr,ρ=toF tr/\Q e tr H wr=Pa
def aGc{b:ag}{ih:KT->LO->LN->KE->Bool}(hok:dK N c b=Pa)(hb:∀{tr:KT}{H:LO}{wr:LN}{Q:KE},ih tr H wr Q=Pa->Wp A N c b (toF tr) H wr (toQ Q)):∀(m:Nat){tr:KT}{H:LO}{wr:LN}{Q:KE},aRo ih m tr H wr Q=Pa->Wp A N c (.loop b) (toF tr) H wr (toQ Q)
 |0,tr,H,wr,Q,h=>by cases h
 |m+1,tr,H,wr,Q,h=>by
  have h1:=hb (show ih tr H wr (λe tr H wr=>bf.casesOn e (aRo ih m tr H wr Q) (λid=>Q (.exit id) tr H wr) (Q .ret tr H wr))=Pa from h);intro l hl he;obtain⟨n,e,s',g1,g2,tr1,g3,g4⟩:=h1 l hl he;cases e with
  |normal=>obtain⟨n2,e',s'',k1,k2,k3⟩:=aGc hok hb m g4 s'.ρ g2 g3;refine⟨max n n2+1,e',s'', ?_,k2,k3⟩;rw[gU,eJ (GJ n n2) _ _ _ _ g1];exact eJ (GC n n2) _ _ _ _ k1
  |exit id=>exact⟨n+1,.exit id,s',by rw[gU,g1],g2,tr1,g3,g4⟩
  |ret=>exact⟨n+1,.ret,s',by rw[gU,g1],g2,tr1,g3,g4⟩
def iW(hK:KOk A K):∀(x:ag){tr:KT}{H:LO}{wr:LN}{Q:KE},dK N c x=Pa->aHv K m N c x tr H wr Q=Pa->Wp A N c x (toF tr) H wr (toQ Q)
 |.skip,tr,H,wr,Q,hok,h=>λl hl he=>⟨1,.normal,⟨l,H,wr⟩,rfl,hl,tr,he,h⟩
 |.bad,tr,H,wr,Q,hok,h=>by cases h
 |.region d ops,tr,H,wr,Q,hok,h=>by
  have h':=h;refine kM ?_ hok;cases d with
  |false=>exact aE2 hK ops h'
  |true=>obtain⟨H0,h1,h2⟩:=fX h';rw[wpc,h1];rw[show aBH c ops=aBH ⟨0,c.sites⟩ ops from aGb c.base c.sites ops];refine aCf hK ops (λtr H wr log hh=>?_) h2;rw[AI]at hh;exact⟨hh.1,tr,rfl,hh.2⟩
 |.seq a b,tr,H,wr,Q,hok,h=>by
  simp only[dK,AI]at hok;have h':=h;intro l hl he;obtain⟨n,e,s',g1,g2,tr1,g3,g4⟩:=iW hK a hok.1 h' l hl he;cases e with
  |normal=>obtain⟨n2,e',s'',k1,k2,k3⟩:=iW hK b hok.2 g4 s'.ρ g2 g3;refine⟨max n n2+1,e',s'', ?_,k2,k3⟩;rw[iD,eJ (GJ n n2) _ _ _ _ g1];exact eJ (GC n n2) _ _ _ _ k1
  |exit id=>exact⟨n+1,.exit id,s',by rw[iD,g1],g2,tr1,g3,g4⟩
  |ret=>exact⟨n+1,.ret,s',by rw[iD,g1],g2,tr1,g3,g4⟩
 |.cond x a b,tr,H,wr,Q,hok,h=>by
  simp only[dK,AI]at hok;have h':aTQ x (toF tr) (aHv K m N c a tr H wr Q) (aHv K m N c b tr H wr Q)=true:=h;unfold aTQ at h';split at h'
  .rename_i t hx;intro l hl he;have ht:x.ev l=x.at (toF tr):=by rw[<- he];exact x.ka l
   cases t with
   |true=>obtain⟨n,e,s',g1,g2⟩:=iW hK a hok.1 h' l hl he;exact⟨n+1,e,s',by rw[iT];grind,g2⟩
   |false=>obtain⟨n,e,s',g1,g2⟩:=iW hK b hok.2 h' l hl he;exact⟨n+1,e,s',by rw[iT];grind,g2⟩
  cases h'
 |.block id b,tr,H,wr,Q,hok,h=>by
  have h':=h;intro l hl he;obtain⟨n,e,s',g1,g2,tr1,g3,g4⟩:=iW hK b hok h' l hl he;cases e with
  |normal=>exact⟨n+1,.normal,s',by rw[eP,g1],g2,tr1,g3,g4⟩
  |ret=>exact⟨n+1,.ret,s',by rw[eP,g1],g2,tr1,g3,g4⟩
  |exit id'=>
   dsimp only at g4;cases hb:EY id' id with
   |true=>rw[hb]at g4;exact⟨n+1,.normal,s',by simp_all [eP,Vx,ET],g2,tr1,g3,g4⟩
   |false=>rw[hb]at g4;exact⟨n+1,.exit id',s',by rw[eP,g1];dsimp only;rw[Vw (Nat.ne_of_beq_eq_false hb)],g2,tr1,g3,g4⟩
 |.loop b,tr,H,wr,Q,hok,h=>by
  simp only[dK]at hok;exact aGc hok (λh=>iW hK b hok h) m (show aRo (aHv K m N c b) m tr H wr Q=Pa from h)
 |.exit id,tr,H,wr,Q,hok,h=>λl hl he=>⟨1,.exit id,⟨l,H,wr⟩,rfl,hl,tr,he,h⟩
 |.ret,tr,H,wr,Q,hok,h=>λl hl he=>⟨1,.ret,⟨l,H,wr⟩,rfl,hl,tr,he,h⟩
 |.frz ts,tr,H,wr,Q,hok,h=>λl hl he=>by
  have h':=h;obtain⟨s',tr',h1,h2,h3,h4⟩:=vK ts he h' (by rw[hl];exact hok);exact⟨1,.normal,s',by rw[vI,h1],by rw[h2,hl],tr',h3,h4⟩
 |.dz x ps body,tr,H,wr,Q,hok,h=>λl hl he=>by
  have h':aPe K N c x ps body tr H wr Q=true:=h;unfold aPe at h';have hx:x.ev l=x.at (toF tr):=by rw[<- he];exact x.ka l
  split at h'
  .rename_i f first ay Qd
   obtain⟨id,hid,h1⟩:=fX h';cases hc:decide (id<H.length)&&eZ c H with
   |false=>simp only[hc,cond_false]at h1;cases h1
   |true=>
    simp only[hc,cond_true]at h1;obtain⟨v,H2,ba,h2,h3⟩:=hK _ _ _ _ h1;obtain⟨n,hn⟩:=oM h2;rw[<- he,aPd hl]at hn;split at h3
    .rename_i v2 b' s' p' c' r' pend hH2;cases hv:EY v2 (bH H id)&&eZ c H2 with
     |false=>simp only[hv,cond_false]at h3;cases h3
     |true=>
      simp only[hv,cond_true]at h3;refine⟨n+1,pend.getD .normal,⟨l,H2.set id (.gone v2),bE c.base wr (id::ba)⟩, ?_,hl,tr,he,h3⟩
      simp_all [iU,Vx]
    cases h3
  cases h'
end
noncomputable def aIe(args:LA):Nat->KT->KT:=
 IU (motive:=λ_=>Nat->KT->KT) (λ_ t=>t) (λa _ ih i t=>ih (i+1) (aTN (aG6 i) a t)) args
def aIf:∀(args:LA) i (t:KT),toF (aIe args i t)=λj=>if i<=j/\j<i+args.length then (args[j - i]?).getD .undef else toF t j
 | [],i,t=>by
  funext j;show toF t j=_
  grind
 |a::r,i,t=>by
  have h:=aIf r (i+1) (aLF (N1 i) a t);show toF (aIe r (i+1) (aLF (N1 i) a t))=_;rw[h,aBb];funext j;simp only[zX,upd,AW]
  grind
def aKi(args:LA):toF (aIe args 0 .e)=pO args:=by
 rw[aIf];funext j;unfold pO;by_cases h:j<args.length
 .grind
 rw[Vw omT,CY omT];exact aMM _
noncomputable def aMR{α:Type}(l:List α)(k:List α->Bool):Bool:=
 IU (motive:=λ_=>(List α->Bool)->Bool) (λk=>k []) (λa _ ih k=>ih λr=>k (a::r)) l k
def aKj{α:Type}:∀(l:List α)(k:List α->Bool),aMR l k=k l
 | [],_=>rfl
 |a::r,k=>aKj r λr=>k (a::r)
noncomputable def bA6(base:Nat)(rs:List ou)(k:AV->LO->LN->Bool):KE:=λe tr H wr=>
 bf.casesOn (motive:=λ_=>Bool) e (aFz (iE base rs (toF tr) H wr) λr=>aMR (cJ base r).2.1 λH'=>k (cJ base r).1 H' (cJ base r).2.2) (λ_=>Po)
  (aFz (iE base rs (toF tr) H wr) λr=>aMR (cJ base r).2.1 λH'=>k (cJ base r).1 H' (cJ base r).2.2)
noncomputable def kFn(K:pV)(m:Nat)(fn:bw)(args:LA)(H:LO)(k:AV->LO->LN->Bool):Bool:=
 dK fn.ntmps ⟨0,fn.sites⟩ fn.body&&Nat.ble args.length fn.ntmps &&
  aHv K m fn.ntmps ⟨H.length,fn.sites⟩ fn.body (aIe args 0 .e) (H++AX fn.sites.length (.gone 0)) [] (bA6 H.length fn.results k)
def aPf:bf->Bool
 |.normal=>Pa
 |_=>Po
def aWX:bf->Option bf
 |.normal=>N2
 |e=>N1 e
noncomputable def aMS(K:pV)(m:Nat)(args:LA)(H:LO)(k:AV->LO->LN->Bool):Bool:=match args with
 |.own 0 []::.yld o v::xs=>match H[o]? with
  |some (.rnd v' base sites ps (.seq asg body) ρ Po N2)=>
   bif EY v' v&&EY xs.length ps.length&&(dK ρ.length ⟨0,sites++[YF+o,YF+v]⟩ asg&&dK ρ.length ⟨0,sites++[YF+o,YF+v]⟩ body)then
    aHv K m ρ.length ⟨base,sites++[YF+o,YF+v]⟩ asg (aIe (dH ρ ps xs) 0 .e) H [] λe0 tr0 H0 wr0=>bif aPf e0 then match H0[o]? with
     |some (.rnd v1 b1 t1 p1 c1 r1 Po N2)=>bif EY v1 v then
      aHv K m ρ.length ⟨base,sites++[YF+o,YF+v]⟩ body tr0 (H0.set o (.rnd v b1 t1 p1 c1 r1 Pa N2)) wr0 λe tr H' wr=>match H'[o]? with
       |some (.rnd v2 b2 s2 p2 c2 r2 Pa N2)=>bif EY v2 v then k (.bool (aPf e)) (H'.set o (.rnd v b2 s2 p2 c2 r2 Po (aWX e))) (FM base (H.length - base)++(o::wr))else Po
       |_=>Po
      else Po
     |_=>Po
     else Po
   else Po
  |_=>Po
 |_=>Po
def aAf:∀(ps:LN)(xs ρ:LA),(dH ρ ps xs).length=ρ.length
 | [],_,_=>by simp[dH]
 |_::_,[],_=>by simp[dH]
 |t::ps,x::xs,ρ=>by rw[dH,aAf ps xs];simp
def aKk{A:af}{K:pV}(hK:KOk A K){m:Nat}{f:Nat}{args:LA}{H:LO}{k}(hp:(A.bq f).bind (· args H)=N2)(hf:A.fn f=N2)(h:aMS K m args H k=Pa):∃v H' wr,aG A f args H=N1 (v,H',wr)/\k v H' wr=true:=by
 unfold aMS at h;split at h
 .rename_i o v xs;split at h
  .rename_i v' base sites ps asg body ρ hH;cases hc:EY v' v&&EY xs.length ps.length&&(dK ρ.length ⟨0,sites++[YF+o,YF+v]⟩ asg&&dK ρ.length ⟨0,sites++[YF+o,YF+v]⟩ body)with
   |false=>grind
   |true=>
    rw[hc,cond_true]at h;simp only[AI]at hc;obtain⟨⟨c1,c2⟩,c0,c3⟩:=hc;have e1:=ET c1;have e2:=ET c2;subst e1;have hok:dK ρ.length ⟨base,sites++[YF+o,YF+v']⟩ body=true:=by rw[iV];exact c3
    have hokA:dK ρ.length ⟨base,sites++[YF+o,YF+v']⟩ asg=true:=by rw[iV];exact c0
    have hw:=iW hK asg hokA h;rw[aKi]at hw;have hent:ck (dH ρ ps xs)=pO (dH ρ ps xs):=by
     have:=aE0 (dH ρ ps xs) 0
     grind
    obtain⟨n0,e0,s0,a1,a2,tr0,a3,a4⟩:=hw (dH ρ ps xs) (aAf _ _ _) hent;cases e0 with
    |exit id=>cases a4
    |ret=>cases a4
    |normal=>
    dsimp only[aPf,cond_true]at a4;split at a4;rotate_left
    .cases a4
    rename_i v1 b1 t1 p1 c1' r1 xu;cases qy:EY v1 v' with
    |false=>grind
    |true=>
    rw[qy,cond_true]at a4;have:=ET qy;subst this;obtain⟨n1,e,s',h1,h2,tr,h3,h4⟩:=iW hK body hok a4 s0.ρ a2 a3;dsimp only at h4;split at h4
    .rename_i v2 b2 s2 p2 c2' r2 hs;cases hv:EY v2 v1 with
     |false=>grind
     |true=>rw[hv,cond_true]at h4;have:=ET hv;subst this;refine⟨_,_,_,oL (n:=max n0 n1) ?_,h4⟩;unfold dD qL;rw[hp,hf];rw[aAe,hH];dsimp only;rw[Vx ⟨rfl,e2⟩,eJ (GJ n0 n1) _ _ _ _ a1];dsimp only;rw[xu];dsimp only;rw[Vx rfl,eJ (GC n0 n1) _ _ _ _ h1];dsimp only;rw[hs];dsimp only;rw[Vx rfl];cases e<;>rfl
    cases h4
  cases h
 cases h
noncomputable def aE3(A:af)(m n:Nat):pV:=
 Nat.rec (motive:=λ_=>pV) (λ_ _ _ _=>Po)
  (λ_ K f args H k=>JA (JA (aMS K m args H k) (λfn=>kFn K m fn args H k) (A.fn f)) (λr=>k (cT H r).1 (cT H r).2.1 (cT H r).2.2) ((A.bq f).bind (· args H))) n
def xG(A:af) m:∀n,KOk A (aE3 A m n)
 |0,f,args,H,k,h=>by cases h
 |n+1,f,args,H,k,h=>by
  have h':(JA (JA (aMS (aE3 A m n) m args H k) (λfn=>kFn (aE3 A m n) m fn args H k) (A.fn f)) (λr=>k (cT H r).1 (cT H r).2.1 (cT H r).2.2) ((A.bq f).bind (· args H)):Bool)=true:=h;cases hp:(A.bq f).bind (· args H)with
  |some r=>rw[hp]at h';refine⟨_,_,_,oL (n:=0) ?_,h'⟩;unfold dD qL;rw[hp]
  |none=>
   rw[hp]at h';cases hf:A.fn f with
   |none=>rw[hf]at h';exact aKk (xG A m n) hp hf h'
   |some fn=>
    rw[hf]at h';have h2:=h';unfold kFn at h2;simp only[AI]at h2;obtain⟨⟨hok,hN⟩,hc⟩:=h2;have hok':dK fn.ntmps ⟨H.length,fn.sites⟩ fn.body=true:=by rw[iV];exact hok
    have Dv:=Nat.le_of_ble_eq_true hN;have hw:=iW (xG A m n) fn.body hok' hc;rw[aKi]at hw;obtain⟨n1,e,s',h1,h2,tr,h3,h4⟩:=hw (args++AX (fn.ntmps - args.length) .undef) soT (aE0 _ _);have key:∀r,iE H.length fn.results (toF tr) s'.H s'.wr=N1 r->aA4 H.length fn s'=N1 r:=by grind [iE,aA4,aJ6]
    have fin:(e=.normal∨e=.ret)->aFz (iE H.length fn.results (toF tr) s'.H s'.wr) (λr=>aMR (cJ H.length r).2.1 λH'=>k (cJ H.length r).1 H' (cJ H.length r).2.2)=Pa ->
      ∃v H' wr,aG A f args H=N1 (v,H',wr)/\k v H' wr=true:=by
     intro he hk;obtain⟨r,hr,hk⟩:=fX hk;rw[aKj]at hk;exact⟨_,_,_,oL (oU hp hf h1 he (key _ hr) Dv),hk⟩
    cases e with
    |normal=>exact fin (.inl rfl) h4
    |ret=>exact fin (.inr rfl) h4
    |exit id=>cases h4
section
variable {P:CU}{ab:cu}{g g':G}{H H':LO}{w w':BL}{W:LN}
def aCg{l0:Nat}{r0:Loop}(h:w.heap[l0]? = N1 (.loop r0))(fn:FuncId)(tmps:Array BE)(ps:Array Tmp)(assign body:Code):(JZ fn tmps ps assign body (N1 l0)).run P w = .ok (w.heap.size,[]) (w.alloc (.loop { state:=.ready,pending:=N2,fn,tmps,params:=ps,assign,body,defers:=r0.defers })):=by unfold JZ;simp only[BS,run_newObj_alloc,DL,Sem.run_pure,run_getLoop h]
def Step.xw(h:WF g H w)(x:Obj):Step g H w { g with whole:=λb=>if b=w.heap.size then N1 x else g.whole b } H (w.alloc x) []:=by
 have e:(w.alloc x).heap=w.heap.push x:=rfl;have hle:g.le { g with whole:=λb=>if b=w.heap.size then N1 x else g.whole b }:=by refine⟨λ_ _ _ hx=>hx,λo l hl=>⟨l,hl,AQ _,λ_=>⟨AQ _,λ_=>rfl⟩⟩,λb y hy=>?_,rfl,rfl⟩;have:=h.whole.lt hy;have bl:b≠w.heap.size:=omT;simp only[bl,Vt];exact hy
 have dx:∀o l y,au { g with whole:=λb=>if b=w.heap.size then N1 x else g.whole b } H o l y->au g H o l y:=λo l y hb=>⟨hb.Pr,hb.alive,hb.loc,hb.st⟩;refine⟨hle,⟨λb i y hy=>?_,h.lt,λo l hl=>?_,h.st,λo l y hb=>?_,λo l y hb=>h.jh o l y (dx o l y hb),λo o' l l' y y' hb du=>h.inj o o' l l' y y' (dx _ _ _ hb) (dx _ _ _ du),⟨λb y hy=>?_,h.whole.io⟩⟩,⟨by rw[e];simp,λb hb _=>cK e hb⟩,λ_ _ _=>rfl,AQ _,λ_ l' hl=>.inr ⟨l',hl,rfl⟩,λ_ _ _=>rfl⟩
 .rw[cell_of_heap (cK e (h.ko hy))];exact h.perm b i y hy
 .have:=h.blk o l hl;rw[e];simp;omega
 .exact (h.obj o l y (dx o l y hb)).aq hle (cK e (h.blk o l hb.loc))
 by_cases hb:b=w.heap.size
 .subst hb;simp only[Vu,AG]at hy;subst hy;refine⟨by rw[e];simp,λo l z hz hE=>?_⟩;have:=h.blk o l hz.loc;omega
 simp only[hb,Vt]at hy;obtain⟨h1,h2⟩:=h.whole.blocks b y hy;exact⟨by rw[cK e (h.whole.lt hy)];exact h1,λo l z hz=>h2 o l z (dx o l z hz)⟩
def Step.put(h:WF g H w){o:Nat}{l:Loc}{x x':ah}(hb:au g H o l x)(hv:x'.ver=x.ver)(j8:x'.alive=Pa)(ob:Obj)(la:g.le (g.setObj o l)->aBw (g.setObj o l) (w.putObj l.b ob) l x'):Step g H w (g.setObj o l) (H.set o x') (w.putObj l.b ob) [o]:=by refine Step.update h o x' l (h.lt o l hb.loc) siT (λb _ bl=>GK (Ne.symm (bl l x hb))) (by simpa using h.blk o l hb.loc) (.inr ⟨l,x,hb,rfl⟩) (by rw[hv];exact hb.st) j8 (λl0 sz=>?_) la;rw[hb.loc]at sz;cases sz;exact⟨AQ _,λ_=>⟨AQ _,λ_=>rfl⟩⟩
def Step.F8(h:WF g H w){o:Nat}{l:Loc}{x:ah}(hb:au g H o l x)(ob:Obj):Step g H w g (H.set o (.gone x.ver)) (w.putObj l.b ob) [o]:=by
 obtain⟨h1,h2⟩:=Step.drop h hb;have hh:∀b,b≠l.b->(w.putObj l.b ob).heap[b]? = w.heap[b]? := λb bl=>GK bl;have pj:=h1.wf;refine⟨G.le.refl g,⟨λb i y hy=>?_,pj.lt,λo' l' hl=>by simpa using pj.blk o' l' hl,pj.st,λo' l' y du=>(pj.obj o' l' y du).aq (G.le.refl g) (hh _ (h2 o' l' y du)),pj.jh,pj.inj,⟨λb y hy=>?_,pj.whole.io⟩⟩,⟨siT,λb du hw=>hh b λe=>hw o siT l hb.loc e.symm⟩,h1.same,h1.len,λo' l' hl=>.inr ⟨l',hl,rfl⟩,λ_ _ _=>rfl⟩
 .have bl:b≠l.b:=λe=>by
   have:=h.jh o l x hb i;rw[<- e,hy]at this;cases this
  rw[cell_of_heap (hh b bl)];exact pj.perm b i y hy
 have bl:b≠l.b:=λe=>(h.whole.blocks b y hy).2 o l x hb e.symm;obtain⟨a1,a2⟩:=pj.whole.blocks b y hy;exact⟨by rw[hh b bl];exact a1,a2⟩
def oV(w:BL):LN->BL
 | []=>w
 |b::bs=>oV (w.putObj b (.deferred N2)) bs
def oW:∀(bs:LN)(w:BL){b:Nat},b∉bs->(oV w bs).heap[b]? = w.heap[b]?
 | [],_,_,_=>rfl
 |c::bs,w,b,h=>by
  simp only[BD,not_or]at h;rw[oV,oW bs _ h.2,GK h.1]
def aCh:∀(bs:LN)(w:BL),(oV w bs).heap.size=w.heap.size
 | [],_=>rfl
 |c::bs,w=>by rw[oV,aCh bs];simp
def aGd:∀(bs:LN)(w:BL),(oV w bs).os=w.os/\(oV w bs).output=w.output
 | [],_=>⟨rfl,rfl⟩
 |c::bs,w=>by rw[oV];exact aGd bs _
def G.jb(g:G)(bs:LN):G:={ g with whole:=λb=>if b∈bs then N2 else g.whole b }
def ai.jb{bs:LN}(ss:∀b∈bs,g.whole b=N1 (.deferred (N1 []))){a:AV}{x:BE}(h:ai g a x):ai (g.jb bs) a x:=by
 induction h with
 |undef x=>exact .undef x
 |bool b=>exact .bool b
 |int k n=>exact .int k n
 |str s=>exact .str s
 |fn f first ay vf vc hf hc h1 h2 ih1 ih2=>exact .fn f first ay vf vc hf hc ih1 ih2
 |bx=>exact .bx
 |ptr o v off l a hl hv h=>exact .ptr o v off l a hl hv h
 |vp o v n k i off l a hl hv hn h=>exact .vp o v n k i off l a hl hv hn h
 |nilPtr=>exact .nilPtr
 |bj=>exact .bj
 |ifc t v x hv h ih=>exact .ifc t v x hv ih
 |ep row off b base bd hp h ih=>exact .ep row off b base bd hp ih
 |kn full=>exact .kn full
 |sl full rows b off cap k cm jo hk bd hp h ih=>exact .sl full rows b off cap k cm jo hk bd hp ih
 |sr o v n l a cap hl hv hn jg h=>exact .sr o v n l a cap hl hv hn jg h
 |srv o v n k lo l a cap hl hv hn gr h=>exact .srv o v n k lo l a cap hl hv hn gr h
 |srw o v n hi l a cap hl hv hn tf h=>exact .srw o v n hi l a cap hl hv hn tf h
 |ar=>exact .ar
 |mp o v l r hl hv h=>exact .mp o v l r hl hv h
 |fmp ks vs r entries clock xs hw hp hk hv h1 h2 ih1 ih2=>
  refine .fmp ks vs r entries clock xs ?_ hp hk hv ih1 ih2;show (if r∈bs then N2 else g.whole r)=_
  grind
 |yld o v l r hl hv h=>exact .yld o v l r hl hv h
 |agg cs vs hs h ih=>exact .agg cs vs hs ih
 |tup cs vs hs h ih=>exact .tup cs vs hs ih
def aBw.jb{bs:LN}(ss:∀b∈bs,g.whole b=N1 (.deferred (N1 []))){l:Loc}{x:ah}(hb:w'.heap[l.b]? = w.heap[l.b]?)(h:aBw g w l x):aBw (g.jb bs) w' l x:=by
 cases x with
 |gone v=>trivial
 |box v cells=>obtain⟨h1,h2,h3⟩:=h;refine⟨h1,h2.of_heap hb,λj a ha=>?_⟩;obtain⟨y,hy,hr⟩:=h3 j a ha;exact⟨y,by rw[cell_of_heap hb];exact hy,hr.jb ss⟩
 |cw v ty cells=>obtain⟨h1,⟨cs,h2,zc⟩,h3⟩:=h;refine⟨h1,⟨cs,uWa,zc⟩,λj a ha=>?_⟩;obtain⟨y,hy,hr⟩:=h3 j a ha;exact⟨y,by rw[cell_of_heap hb];exact hy,hr.jb ss⟩
 |vec v k rows=>obtain⟨h1,h2,h3,h4,h5,h6,h7⟩:=h;refine⟨h1,h2,h3,h4.of_heap hb,h5,λj hj=>by rw[cell_of_heap hb];exact h6 j hj,λi j row a hr ha=>?_⟩;obtain⟨hs,y,hy,hv⟩:=h7 i j row a hr ha;exact⟨hs,y,by rw[cell_of_heap hb];exact hy,hv.jb ss⟩
 |oz v ty k rows=>obtain⟨⟨h1,h2,h3,h4,h5,h6,h7⟩,cs,h8⟩:=h;refine⟨?_,cs,uWa⟩;refine⟨h1,h2,h3,h4.of_heap hb,h5,λj hj=>by rw[cell_of_heap hb];exact h6 j hj,λi j row a hr ha=>?_⟩;obtain⟨hs,y,hy,hv⟩:=h7 i j row a hr ha;exact⟨hs,y,by rw[cell_of_heap hb];exact hy,hv.jb ss⟩
 |map v es=>obtain⟨h1,entries,clock,h2,h3,h4⟩:=h;exact⟨h1,entries,clock,uWa,h3,λi k v e hk he=>⟨(h4 i k v e hk he).1.jb ss,(h4 i k v e hk he).2.jb ss⟩⟩
 |rnd v base sites ps body ρ busy pend=>obtain⟨h1,r,h2,h3,h4,h5,h6,h7,h8,h9⟩:=h;exact⟨h1,r,uWa,h3,h4,h5,h6,h7,h8,λt=>(h9 t).jb ss⟩
def Step.marks{g0:G}{H0:LO}{w0:BL}(h0:WF g0 H0 w0)(h:Step g0 H0 w0 g H w W){bs:LN}(ss:∀b∈bs,w0.heap.size<=b/\g.whole b=N1 (.deferred (N1 []))):Step g0 H0 w0 (g.jb bs) H (oV w bs) W:=by
 have dp:∀b∈bs,g.whole b=N1 (.deferred (N1 [])):=λb hb=>(ss b hb).2;have dx:∀o l y,au (g.jb bs) H o l y->au g H o l y:=λo l y hb=>⟨hb.Pr,hb.alive,hb.loc,hb.st⟩;have yh:∀o l y,au g H o l y->l.b∉bs:=λo l y hb hm=>(h.wf.whole.blocks l.b _ (dp _ hm)).2 o l y hb rfl;refine⟨⟨λb i x hx=>h.le.perm b i x hx,λo l hl=>h.le.obj o l hl,λb x hx=>?_,h.le.io,h.le.code⟩,⟨λb i y hy=>?_,h.wf.lt,λo l hl=>by rw[aCh];exact h.wf.blk o l hl,h.wf.st,λo l y hb=>?_,λo l y hb=>h.wf.jh o l y (dx _ _ _ hb),λo o' l l' y y' hb du=>h.wf.inj o o' l l' y y' (dx _ _ _ hb) (dx _ _ _ du),⟨λb y hy=>?_, ?_⟩⟩,⟨by rw[aCh];exact h.frame.1,λb hb hw=>?_⟩,h.same,h.len,h.mc,h.aq⟩
 .have:=h0.whole.lt hx;show (if b∈bs then N2 else g.whole b)=_;rw[Vw λhm=>by have:=(ss b hm).1;omega];exact h.le.whole b x hx
 .have hp:=h.wf.perm b i y hy;have bl:b∉bs:=λhm=>by
   have:=(h.wf.whole.blocks b _ (dp b hm)).1;simp[EF,this]at hp
  rw[cell_of_heap (oW bs w bl)];exact hp
 .exact (h.wf.obj o l y (dx _ _ _ hb)).jb dp (oW bs w (yh o l y (dx _ _ _ hb)))
 .have hy':(if b∈bs then N2 else g.whole b)=N1 y:=hy;split at hy'
  .cases hy'
  rename_i bl;obtain⟨a1,a2⟩:=h.wf.whole.blocks b y hy';exact⟨by rw[oW bs w bl];exact a1,λo l z hz=>a2 o l z (dx o l z hz)⟩
 .have:=h.wf.whole.io;rw[(aGd bs w).1,(aGd bs w).2];exact this
 rw[oW bs w λhm=>by have:=(ss b hm).1;omega];exact h.frame.2 b hb hw
def aEU{fn:Bi}{tmps:Array BE}{R:Ending->BL->Prop}:∀(bs:LN)(w:BL),bs.Nodup->(∀b∈bs,w.heap[b]? = N1 (.deferred (N1 []))) ->(∃v,(results fn tmps).run P (oV w bs)=.ok v (oV w bs)/\R (.returned v) (oV w bs)) ->LeavesInM FJ 0 P fn tmps R (bs.map λb=>⟨.collected b,#[]⟩) .returning w
 | [],w,_,_,h=>h
 |b::bs,w,hn,hb,h=>by
  refine⟨siT,.inl ⟨b,_,rfl,run_takeDeferred (hb b siT), ?_⟩⟩;rw[List.nodup_cons]at hn;exact aEU bs _ hn.2 (λc hc=>by
   have bl:c≠b:=λe=>hn.1 (e ▸ hc);rw[GK bl];exact hb c (by simp[hc])) h
def aEV:∀(ps:LN)(xs:LA)(vs:List BE){ρ:LA}{tmps:Array BE},aX g ρ tmps->fU g xs vs->xs.length=ps.length ->aX g (dH ρ ps xs) ((ps.zip vs).foldl (λt (p:Nat×BE)=>t.setIfInBounds p.1 p.2) tmps)
 | [],[],vs,ρ,tmps,hs,hx,_=>by simpa [dH]using hs
 |t::ps,x::xs,[],ρ,tmps,hs,hx,_=>by have:=hx.1;simp at this
 |t::ps,x::xs,v::vs,ρ,tmps,hs,hx,hl=>by
  refine aEV ps xs vs ⟨by simpa using hs.1,λt'=>?_⟩ ⟨by have:=hx.1;grind,λi a y e1 e2=>hx.2 (i+1) a y uWh uWp⟩ uWo;have h1:=hs.1;by_cases e:t=t'
  .subst e;by_cases hlt:t<ρ.length
   .have:=hx.2 0 x v rfl rfl
    simp_all
   have:(ρ.set t x)[t]? = none:=CY soT;rw[this];exact .undef _
  rw[getElem?_set_ne' _ _ e];have:=hs.2 t'
  simp_all
 | [],x::xs,vs,_,_,_,_,hl=>by simp at hl
 |t::ps,[],vs,_,_,_,_,hl=>by simp at hl
end
section
variable {P:CU}{ab:cu}{A:af}
def aMT(P:CU)(ab:cu)(f:Nat)(fn:bw):Prop:=
 ∃F body frz nl ty rs,P.funcs[f]? = N1 F/\(F.name == "runtime.NumGoroutine")=Po/\F.body=N1 body /\
  fn.body=nR P { ab with nl:=nl,typed:=ty,refs:=rs } frz body/\fn.ntmps=F.ntmps/\aNz P F.results.toList=N1 fn.results
def aWY(P:CU)(ab:cu)(A:af)(f:Nat):Prop:=
 ∀n,(∀m,m<n->oT P ab (dD A m))->gS P ab λf' args H=>if f'=f then dD A n f args H else N2
structure Good(P:CU)(ab:cu)(A:af):Prop where
 mixed:P.follows .mixedOrders=Pa
 A5:A.fn YF=N2/\A.bq YF=N2
 fn:∀f fn,A.fn f=N1 fn->aMT P ab f fn∨aWY P ab A f
 bq:∀f p,A.bq f=N1 p->gS P ab λf' args H=>if f'=f then (p args H).map (cT H)else N2
def bf.real:bf->Bp
 |.normal=>.normal
 |.exit id=>.exit id
 |.ret=>.ret
def aHw(g:G)(n0:Nat)(ds d:List HU):Prop:=
 ∃bs:LN,ds=bs.map (λb=>⟨.collected b,#[]⟩)++d/\(∀b∈bs,n0<=b/\g.whole b=N1 (.deferred (N1 [])))/\bs.Nodup
def aHw.refl{g:G}{n0:Nat}{d:List HU}:aHw g n0 d d:=⟨[],rfl,λb h=>by simp at h,List.nodup_nil⟩
def aHw.trans{g1 g2:G}{n0 n1:Nat}{d1 d2 d:List HU}(h1:aHw g1 n0 d1 d)(hle:g1.le g2)(hn:n0<=n1)(hlt:∀b x,g1.whole b=N1 x->b<n1)(h2:aHw g2 n1 d2 d1):aHw g2 n0 d2 d:=by
 obtain⟨b1,e1,f1,u1⟩:=h1;obtain⟨b2,e2,f2,u2⟩:=h2;refine⟨b2++b1,uWa,λb hb=>?_,List.nodup_append.2 ⟨u2,u1,λx hx y hy e=>?_⟩⟩
 .rcases AY.1 hb with hb|hb
  .grind
  exact⟨(f1 b hb).1,hle.whole _ _ (f1 b hb).2⟩
 grind
def aGe(P:CU)(ab:cu)(base:Nat)(g:G)(H:LO)(w:BL)(d:List HU)(s':gp)(a':Act)(w':BL):Prop:=
 ∃g' W,Step g H w g' s'.H w' W/\(∀o∈W,o<base->o∈s'.wr)/\aX g' s'.ρ a'.tmps/\aHw g' w.heap.size a'.defers d/\bM P ab g'
def aA9.to{base:Nat}{g:G}{H:LO}{w:BL}{d:List HU}{s':gp}{a':Act}{w':BL}(h:aA9 P ab base g H w d s' a' w'):aGe P ab base g H w d s' a' w':=by obtain⟨g',W,h1,h2,h3,h4,h5⟩:=h;exact⟨g',W,h1,h2,h3,h4 ▸ aHw.refl,h5⟩
def aGe.refl{base:Nat}{g:G}{w:BL}{a:Act}{s:gp}(hw:WF g s.H w)(hs:aX g s.ρ a.tmps)(hg:bM P ab g):aGe P ab base g s.H w a.defers s a w:=(aA9.refl hw hs hg).to
def aGe.join{base:Nat}{g g1:G}{H:LO}{w:BL}{d:List HU}{s1 s2:gp}{a1 a2:Act}{w1 w2:BL}{W:LN}(h1:Step g H w g1 s1.H w1 W)(h2:∀o∈W,o<base->o∈s1.wr)(h4:aHw g1 w.heap.size a1.defers d)(ma:∀o∈s1.wr,o∈s2.wr)(h:aGe P ab base g1 s1.H w1 a1.defers s2 a2 w2):aGe P ab base g H w d s2 a2 w2:=by
 obtain⟨g2,W',i1,i2,i3,i4,i5⟩:=h;refine⟨g2,W++W',h1.trans i1,λo ho hb=>?_,i3,h4.trans i1.le h1.frame.1 (λb x hx=>h1.wf.whole.lt hx) i4,i5⟩
 grind
def aKl{w:BL}{b off:Nat}{x:BE}(h:w.cell? ⟨b,off,N2⟩=N1 x):w.setCell ⟨b,off,N2⟩ x=w:=by
 have key:(w.heap.modify b fun
   |.cells c elem frozen=>.cells (c.setIfInBounds off x) elem frozen
   |o=>o)=w.heap:=by
  apply Array.ext_getElem?;intro i;rw[DJ];by_cases e:b=i
  .subst e;rw[Vx rfl];simp only[EF]at h;cases hb:w.heap[b]? with
   |none=>rfl
   |some o=>
    cases o with
    |cells c elem fz=>
     simp only[DE,AG,Go.Obj.cells.injEq,and_self,and_true]
     grind
    |_=>rfl
  grind
 exact congrArg (λh=>{ w with heap:=h }) key
def aD6{w:BL}{b:Nat}:∀(vs:List BE) off,(∀j v,vs[j]? = N1 v->w.cell? ⟨b,off+j,N2⟩=N1 v)->w.setCells b off vs=w
 | [],_,_=>rfl
 |v::vs,off,h=>by
  have h0:=h 0 v rfl;simp only[DU]at h0;simp only[World.setCells];rw[aKl h0];exact aD6 vs (off+1) λj x hx=>by
   have:=h (j+1) x uWn
   grind
def aAg{c:Ctx}{w:BL}{a:Act}:∀(ts:List (Nat×Nat))(s s':gp),nX c s ts=N1 s'->∀(g:G),WF g s.H w->bM P ab g->aX g s.ρ a.tmps->aA9 P ab c.base g s.H w a.defers s' a w
 | [],s,s',h,g,hw,hg,hs=>by simp only[nX,AG]at h;subst h;exact .refl hw hs hg
 | (0,t)::ts,s,s',h,g,hw,hg,hs=>by
  unfold nX at h;split at h
  .rename_i v H' l hf;obtain⟨g1,h1,h2⟩:=aI1 hw hf (hs.2 t);have lq:aX g1 (s.ρ.set t v) a.tmps:=by
    refine⟨by simpa using hs.1,λt'=>?_⟩;by_cases e:t=t'
    .subst e;by_cases hlt:t<s.ρ.length
     .grind
     have:(s.ρ.set t v)[t]? = none:=CY soT;rw[this];exact .undef _
    rw[getElem?_set_ne' _ _ e];exact (hs.2 t').mono h1.le
   have h3:=aAg ts _ s' h g1 h1.wf (hg.mono h1.le) lq;obtain⟨g2,W,i1,i2,i3,i4,i5⟩:=h3;refine⟨g2,l++W,h1.trans i1,λo ho hb=>?_,i3,i4,i5⟩;rcases AY.1 ho with ho|ho
   .exact (sR ts _ s' h).2.1 o ((cE _ _ _).2 o ho hb)
   grind
  cases h
 | (k+1,t)::ts,s,s',h,g,hw,hg,hs=>by
  unfold nX at h;split at h
  .exact aAg ts _ s' h g hw hg hs
  split at h
  .rename_i H' l hk;obtain⟨g1,h1⟩:=aIY hw hk (hs.2 t);have h3:=aAg ts _ s' h g1 h1.wf (hg.mono h1.le) (hs.mono h1.le);obtain⟨g2,W,i1,i2,i3,i4,i5⟩:=h3;refine⟨g2,l++W,h1.trans i1,λo ho hb=>?_,i3,i4,i5⟩;rcases AY.1 ho with ho|ho
   .exact (sR ts _ s' h).2.1 o ((cE _ _ _).2 o ho hb)
   grind
  split at h
  .rename_i cs hr;split at h
   .rename_i cs' H' l hf;split at h
    .rename_i H2 l2 bd;obtain⟨b,off,vs,e,ax,hl,hc⟩:=eI hw hr (hs.2 t);obtain⟨g1,h1,h2⟩:=aI1 hw hf (fU.agg uWo);obtain⟨ys,e1,qe⟩:=h2.fu;cases e1;have hl1':fU g1 cs' vs:=uWa
     obtain⟨b',off',e',_,_,h3⟩:=fF h1.wf bd ((hs.2 t).mono h1.le) hl1';rw[e]at e';cases e';have hsame:=aD6 vs off λj v hv=>hc j v hv;rw[hsame]at h3;have h4:=aAg ts _ s' h g1 h3.wf (hg.mono h1.le) (hs.mono h1.le);obtain⟨g2,W,i1,i2,i3,i4,i5⟩:=h4;refine⟨g2,(l++l2)++W,(h1.trans h3).trans i1,λo ho hb=>?_,i3,i4,i5⟩;rcases AY.1 ho with ho|ho
     .exact (sR ts _ s' h).2.1 o ((cE _ _ _).2 o ho hb)
     grind
    cases h
   cases h
  cases h
def WF.more{g:G}{H:LO}{w:BL}(h:WF g H w) k:Step g H w g (H++AX k (.gone 0)) w []:=by
 have jk:∀o l x,au g (H++AX k (.gone 0)) o l x->au g H o l x:=λo l x hb=>⟨by rw[<- BM (h.lt o l hb.loc)];exact hb.Pr,hb.alive,hb.loc,hb.st⟩;refine⟨G.le.refl g,⟨h.perm,λo l hl=>by have:=h.lt o l hl;simp;omega,h.blk,λo x l hx hl=>?_,λo l x hb=>h.obj o l x (jk o l x hb),λo l x hb=>h.jh o l x (jk o l x hb),
  λo o' l l' x x' h1 h2=>h.inj o o' l l' x x' (jk _ _ _ h1) (jk _ _ _ h2),h.whole.aq rfl rfl ⟨rfl,rfl⟩ (λ_ _ _=>rfl) λo l y hl=>.inr ⟨o,l,y,jk _ _ _ hl,rfl⟩⟩,aDS.refl _ _ _,λo ho _=>BM ho,siT,λ_ l' hl=>.inr ⟨l',hl,rfl⟩,λ_ _ _=>rfl⟩
 rw[BM (h.lt o l hl)]at hx;exact h.st o x l hx hl
def aE4(r:Option Nat)(c:Ctx)(g:G):Prop:=∀l,r=N1 l->∃o v,c.rd=N1 (o,v)/\ai g (.yld o v) (.func (.yield l) #[] #[])
def aE4.mono{r:Option Nat}{c:Ctx}{g g':G}(h:aE4 r c g)(hg:g.le g'):aE4 r c g':=λl e=>let ⟨o,v,h1,h2⟩:=h l e;⟨o,v,h1,h2.mono hg⟩
def bLa{g:G}{H:LO}{w:BL}(hw:WF g H w){o v:Nat}{l:Nat}(hx:ai g (.yld o v) (.func (.yield l) #[] #[])){base:Nat}{sites ps:LN}{body:ag}{ρ:LA}{busy:Bool}{pend:Option bf}(ho:H[o]? = N1 (.rnd v base sites ps body ρ busy pend)):∃lc,au g H o lc (.rnd v base sites ps body ρ busy pend)/\lc.b=l:=by
 cases hx with
 |yld _ _ lc r hl hv h=>
  have bd:lc.st=v:=by have:=hw.st o _ lc ho hl;simp only[ah.ver]at this;omega
  have hb:au g H o lc (.rnd v base sites ps body ρ busy pend):=⟨ho,rfl,hl,bd⟩;obtain⟨h0,_⟩:=hw.obj o lc _ hb;exact⟨lc,hb,(h bd h0).symm⟩
def aPg(P:CU)(ab:cu)(A:af)(n:Nat):Prop:=
 ∀(nl:Bool)(ty rs:LN)(c:Ctx)(frz:Nat->List (Nat×Nat))(x:Code)(s:gp) e s',cY A n c (nR P { ab with nl:=nl,typed:=ty,refs:=rs } frz x) s=N1 (e,s')->∀(g:G)(a:Act)(w:BL),WF g s.H w->bM P ab g->aX g s.ρ a.tmps ->
  ∀Q:Bp->Act->BL->Prop,(∀a' w',aGe P ab c.base g s.H w a.defers s' a' w'->Q e.real a' w')->∀r:Option Nat,aE4 r c g->x.wpIn (fr r) 0 P Q a w/\∀b,x=.loop b->LL (fr r) 0 P b Q n a w
def aLI(A0:Good P ab A){n:Nat}(jz:aPg P ab A n):aOS P ab (dD A n):=by
 intro o v aqq H av H' wr h g w l xs hw hg hy hx;rcases sS h with⟨p,v1,hp,hv,hr⟩ | ⟨fn,s',e,r',hf,_⟩ | ⟨_,hr⟩
 .rw[A0.A5.2]at hp;cases hp
 .rw[A0.A5.1]at hf;cases hf
 obtain⟨o',v',as',base,sites,ps,asg,body,ρ,s0,b1,t1,p1,c1,r1,e,s,e1,hH,ax,xt,xu,je,b2,s2,p2,c2,r2,nu,pw⟩:=oK hr;simp only[List.cons.injEq,AV.yld.injEq,true_and]at e1;obtain⟨⟨rfl,rfl⟩,rfl⟩:=e1;simp only[BK]at pw;obtain⟨rfl,rfl,rfl⟩:=pw;obtain⟨lc,hb,rfl⟩:=bLa hw hy hH;obtain⟨h0,rec,pe,bd,hpe,hps,⟨ca,cb,hcab,Kl,ig⟩,_,gd,qt⟩:=hw.obj o lc _ hb;simp only[ag.seq.injEq]at hcab;obtain⟨rfl,rfl⟩:=hcab;have n9:=hx.1;have hpsl:rec.params.size=xs.length:=uWa
 refine⟨rec,pe,hpsl, ?_⟩;obtain⟨nlA,tyA,rsA,frzA,rfl⟩:=(hg.code asg rec.assign).1 Kl;obtain⟨nlB,tyB,rsB,frzB,rfl⟩:=(hg.code body rec.body).1 ig;have zj:(Ctx.mk base (sites++[YF+o,YF+v])).rd=N1 (o,v):=by simp[Ctx.rd]
 have F9:aE4 (N1 lc.b) ⟨base,sites++[YF+o,YF+v]⟩ g:=λl' e=>by
  grind
 have se:aX g (dH ρ ps aqq) ((rec.params.zip xs.toArray).foldl (λtmps (t,a)=>tmps.setIfInBounds t a) rec.tmps):=by have h1:=aEV (g:=g) ps aqq xs (tmps:=rec.tmps) ⟨gd,qt⟩ hx ax;rw[<- Array.foldl_toList,Array.toList_zip,hps];exact h1
 refine roundIn_of_wpIn (F:=FJ) trivial ?_;refine (jz nlA tyA rsA _ frzA rec.assign _ .normal s0 xt g { tmps:=_,defers:=[] } w hw hg se _ (λa1 w1 G1=>?_) (N1 lc.b) F9).1;obtain⟨g1,W1,j1,j2,j3,j4,j5⟩:=G1;obtain⟨lc1,fo,hlb1⟩:=bLa j1.wf (hy.mono j1.le) xu;obtain⟨z0,rec1,zheap,zst,zpe,zps,zas,_,zsz,ztm⟩:=j1.wf.obj o lc1 _ fo;have s1:=Step.put (x':=.rnd v b1 t1 p1 c1 r1 Pa N2) j1.wf fo rfl rfl (.loop { rec1 with state:=.busy }) λhle=>⟨z0,{ rec1 with state:=.busy },LR (j1.wf.blk o lc1 fo.loc),siT,zpe,zps,zas,trivial,zsz,λt=>(ztm t).mono hle⟩;rw[hlb1]at zheap s1;refine⟨_,run_beginRound zheap uWa, ?_⟩;have xm:aE4 (N1 lc.b) ⟨base,sites++[YF+o,YF+v]⟩ (g1.setObj o lc1):=λl' e=>by
  cases e;exact⟨o,v,zj,(hy.mono j1.le).mono s1.le⟩
 refine (jz nlB tyB rsB _ frzB rec.body _ e s je _ a1 _ s1.wf (j5.mono s1.le) (j3.mono s1.le) (roundPost P lc.b _) (λa' w' ku=>?_) (N1 lc.b) xm).1;obtain⟨g2,W,i1,i2,i3,i4,i5⟩:=ku;obtain⟨lc2,dp,P0⟩:=bLa i1.wf (((hy.mono j1.le).mono s1.le).mono i1.le) nu;obtain⟨q0,rec2,qheap,qst,qpe,qps,qas,qcd,qsz,qtm⟩:=i1.wf.obj o lc2 _ dp;rw[P0]at qheap;have fin:∀(jump:Option Code)(pend:Option bf),jump=pend.map aIT->(decide (e=.normal))=jump.isNone->pend=(if e=.normal then N2 else N1 e) ->
   ∃v' w'',(Instr.endRound lc.b jump).run P w'=.ok v' w''/\∃g',Step g H w g' (s.H.set o (.rnd v b2 s2 p2 c2 r2 Po (if e=.normal then N2 else N1 e))) w'' (FM base (H.length - base)++(o::s.wr))/\ai g' (.bool (decide (e=.normal))) v':=by
  intro jump pend hj hd hp;refine⟨_,_,run_endRound jump qheap, ?_⟩;have s3:=Step.put (x':=.rnd v b2 s2 p2 c2 r2 Po pend) i1.wf dp rfl rfl (.loop { rec2 with state:=if jump.isNone then .ready else .done,pending:=jump }) λhle=>⟨q0,{ rec2 with state:=if jump.isNone then .ready else .done,pending:=jump },LR (i1.wf.blk o lc2 dp.loc),uWa,hj,qps,qas,qcd,qsz,λt=>(qtm t).mono hle⟩;rw[P0]at s3;rw[<- hp];refine⟨_,(((j1.trans s1).trans i1).trans s3).narrow hw.lt λq hq hlt=>?_,by rw[hd];exact .bool _⟩;simp only[AY,BD,List.not_mem_nil,or_false]at hq;simp only[AY,BD,FC];rcases hq with ((hq|rfl) | hq) | rfl
  .by_cases hlb':q<base
   .exact .inr (.inr ((fJ _ _ _ _ _ _ je).2.1 q (j2 q hq hlb')))
   grind
  all_goals grind
 cases e with
 |normal=>exact fin N2 N2 rfl rfl rfl
 |ret=>exact fin (N1 .ret) (N1 .ret) rfl rfl rfl
 |exit id=>exact fin (N1 (.exit id)) (N1 (.exit id)) rfl rfl rfl
def aE5(A0:Good P ab A):∀(n:Nat),(∀m,m<=n->aPg P ab A m)->oT P ab (dD A n):=by
 intro n
 induction n using Bd with
 |_ n ihc=>
 intro da;have jz:=da n (AQ _);refine⟨?_,aLI A0 jz⟩;intro f args H av H' wr h g w xs hw hg hx;rcases sS h with⟨p,v1,hp,hv,hr⟩ | ⟨fn,s',e,r',hf,he,Ra,zk,hr,_⟩ | ⟨_,hrr⟩
 rotate_left 2
 .obtain⟨o,v,aqq,_,_,_,_,_,_,_,_,_,_,_,_,_,_,rfl,_⟩:=oK hrr;obtain⟨y,hy⟩:∃y,xs[0]? = N1 y:=⟨xs[0]'(by have:=hx.1;grind),AP _⟩;have:=hx.2 0 _ y rfl hy;cases this
 .cases hr;exact A0.bq f p hp f args H _ _ _ (by simp[hv];rfl) g w xs hw hg hx
 rcases A0.fn f fn hf with nx|halt;rotate_left
 .exact halt n (λm hm=>ihc m hm λk hk=>da k omT) f args H av H' wr uWg g w xs hw hg hx
 obtain⟨F,body,frz,nl,ty,rs,e1,e2,e3,e4,e5,e6⟩:=nx;refine⟨⟨F,e1,e2,by simp[e3]⟩,callsIn_wide.1 (callsIn_of_wp_marks (F:=FJ) (n:=0) e1 e3 trivial ?_)⟩;rw[e4]at he;have bd:=hw.more fn.sites.length;refine (jz nl ty rs _ frz body _ e s' he g _ w bd.wf hg ?_ _ (λa' w' ku=>?_) N2 (λl e=>by cases e)).1
 ·
  have ax:=hx.1;refine⟨by simp[nF,ax,e5],λt=>?_⟩;simp only[nF];by_cases ht:t<args.length
  .rw[BM ht,AP ht];have h1:(xs.toArray++NW (F.ntmps - xs.toArray.size) EE).getD t EE=xs[t]'omT:=by
    simp[CR,Array.getElem?_append,show t<xs.length by omega]
   rw[h1];exact hx.2 t _ _ (AP ht) (AP omT)
  rw[BU omT,List.getElem?_replicate];split<;>exact .undef _
 obtain⟨g0,W,j1,i2,j3,⟨bs,hbs1,hbs2,hbs3⟩,j5⟩:=ku;have xu:Step g H w g0 s'.H w' W:=by simpa using bd.trans j1
 have hbsW:∀b∈bs,g0.whole b=N1 (.deferred (N1 [])):=λb hb=>(hbs2 b hb).2;have lq:=Step.marks hw xu hbs2;have i1:=lq;have i3:aX (g0.jb bs) s'.ρ a'.tmps:=⟨j3.1,λt=>(j3.2 t).jb hbsW⟩;generalize hg1:g0.jb bs=g1 at lq i1 i3;have A6:(∃v,(results F a'.tmps).run P (oV w' bs)=.ok v (oV w' bs)/\(match Ending.returned v with | .returned v=>∃g',Step g H w g' H' (oV w' bs) wr/\pN g' H' w.heap.size (oV w' bs) av v | _=>False)) ->
   LeavesInM FJ 0 P F a'.tmps (λe w'=>match e with | .returned v=>∃g',Step g H w g' H' w' wr/\pN g' H' w.heap.size w' av v | _=>False) a'.defers .returning w':=λhh=>by
  rw[hbs1,List.append_nil];exact aEU bs w' hbs3 (λb hb=>(xu.wf.whole.blocks b _ (hbsW b hb)).1) hh
 generalize gn:oV w' bs=w2 at lq i1 A6;obtain⟨vs,C8,Yh⟩:=aEL zk;obtain⟨ys,tc,hy2⟩:=vH (P:=P) i1.wf i3 F.results.toList fn.results vs e6 C8;have ej:=aLD tc;have vu:∃g2,Step g H w g2 r'.2.1 w2 r'.2.2/\pN g2 r'.2.1 w.heap.size w2 r'.1 (aR8 ys):=by
  rcases Yh with⟨v,v',H2,l,rfl,yp,rfl⟩ | ⟨vs',H2,l,bl,yp,rfl⟩
  .have hl:ys.length=1:=by have:=hy2.1;grind
   obtain⟨y,rfl⟩:=FQ.1 hl;have wx:∀o l,H.length<=o->g1.obj o=N1 l->w.heap.size<=l.b:=λo l ho hl=>by
    rcases lq.mc o l hl with h1 | ⟨l0,h0,_⟩
    .exact h1
    have:=hw.lt o l0 h0;omega
   obtain⟨g2,j1,j2⟩:=aI7 wx i1.wf yp (hy2.2 0 v y rfl rfl);refine⟨g2,(lq.trans j1).narrow hw.lt λo ho hb=>?_,j2⟩;rcases AY.1 ho with ho|ho
   all_goals simp_all [cE]
  obtain⟨g2,j1,j2⟩:=aG3 i1.wf yp hy2;have ht:aR8 ys=.tuple ys.toArray:=by
   have:=hy2.1;cases ys with
   |nil=>rfl
   |cons y r=>cases r with
    |nil=>grind
    |cons z r=>rfl
  rw[ht];refine⟨g2,(lq.trans j1).narrow hw.lt λo ho hb=>?_, ?_⟩
  .rcases AY.1 ho with ho|ho
   all_goals simp_all [cE]
  exact ai.tup vs' ys.toArray (by simpa using j2.1) λi a x ha hx=>j2.2 i a x ha uWn
 have hfinal:∃g2,Step g H w g2 H' w2 wr/\pN g2 H' w.heap.size w2 av (aR8 ys):=by
  obtain⟨g2,k1,k2⟩:=vu;obtain⟨v3,H3,wr3⟩:=r';simp only[cJ]at hr;split at hr
  .rename_i zl;simp only[AI]at zl;cases hr;refine⟨g2.cut H.length,Step.cut hw k1 λo ho x hx=>?_,pN.cut k2 zl.1⟩
   grind
  grind
 have hb:=A6 ⟨_,ej,hfinal⟩;rcases Ra with rfl|rfl
 .exact hb
 exact hb
def aNQ(A0:Good P ab A)(n:Nat):aPg P ab A n:=by
 induction n using Bd with
 |_ n ihs=>
 cases n with
 |zero=>exact λnl ty rs c frz x s e s' h=>by rw[gT]at h;cases h
 |succ n=>
  have ih:=ihs n (Nat.lt_succ_self n);have az:=aE5 A0 n λk hk=>ihs k omT;have Pw:bL9 (dD A n):=aKa n;intro nl ty rs c frz x s e s' h g a w hw hg hs Q hQ r hR;have region:∀(m:Nat)(id:Nat)(ops:Array HP)(d:Bool)(s s':gp)(g:G)(e:bf),oT P ab (dD A m)->WF g s.H w->aX g s.ρ a.tmps->bM P ab g->cY A (m+1) c (.region d (aTn d (aDQ P { ab with nl:=nl,typed:=ty,refs:=rs } ops.toList ops.toList []))) s=N1 (e,s') ->
    ∀Q:Bp->Act->BL->Prop,(∀a' w',aGe P ab c.base g s.H w a.defers s' a' w'->Q e.real a' w')->(PJ id ops d).wpIn (fr r) 0 P Q a w:=by
   intro m id ops d s s' g e hc hw hs hg h Q hQ;rw[iS]at h;split at h
   .rename_i s1 hr;cases h;cases d with
    |true=>exact aNM (ab:={ ab with nl:=nl,typed:=ty,refs:=rs }) A0.mixed hc (aKa m) hr hw hg hs λa' w' h0=>hQ a' w' (aA9.to h0)
    |false=>simp only[iO,Bool.false_and,BX,Vt,aFW]at hr;exact aK2 (ab:={ ab with nl:=nl,typed:=ty,refs:=rs }) hc hr hw hg hs λa' w' h0=>hQ a' w' (aA9.to h0)
   cases h
  have noloop:∀{y:Code},(∀b,y≠.loop b)->y.wpIn (fr r) 0 P Q a w->y.wpIn (fr r) 0 P Q a w/\∀b,y=.loop b->LL (fr r) 0 P b Q (n+1) a w:=λbl hwp=>⟨hwp,λb hb=>Vv hb (bl b)⟩;cases x with
  |skip=>refine noloop (λb=>siT) (wpIn_skip ?_);simp only[nR,xB,AG,BK]at h;obtain⟨rfl,rfl⟩:=h;exact hQ a w (.refl hw hs hg)
  |region id ops d=>
   refine noloop (λb=>siT) ?_;simp only[nR]at h;split at h
   .grind
   rename_i ts _;rw[iD]at h;cases n with
   |zero=>rw[gT]at h;cases h
   |succ m=>
    rw[vI]at h;split at h
    .rename_i s1 hz;split at hz
     .rename_i s2 hf;cases hz;have ku:=aAg _ s s1 hf g (w:=w) (a:=a) hw hg hs;obtain⟨g1,W,i1,i2,i3,i4,i5⟩:=ku;have hcm:oT P ab (dD A m):=aE5 A0 m λk hk=>ihs k omT;refine region m id ops d s1 s' g1 e hcm i1.wf i3 i5 h Q λa' w' hr=>hQ a' w' ?_;obtain⟨g2,W',j1,j2,j3,j4,j5⟩:=hr;refine⟨g2,W++W',i1.trans j1,λo ho hb=>?_,j3,j4,j5⟩;rcases AY.1 ho with ho|ho
      .exact (fJ _ _ _ _ _ _ h).2.1 o (i2 o ho hb)
      grind
     cases hz
    grind
  |seq x y=>
   refine noloop (λb=>siT) (wpIn_seq ?_);simp only[nR,iD]at h;split at h
   .rename_i s1 h1;refine (ih nl ty rs c frz x s _ s1 h1 g a w hw hg hs _ (λa1 w1 hr=>?_) r hR).1;obtain⟨g1,W,i1,i2,i3,i4,i5⟩:=hr;refine (ih nl ty rs c frz y s1 e s' h g1 a1 w1 i1.wf i5 i3 Q (λa' w' pw=>hQ a' w' ?_) r (hR.mono i1.le)).1;exact aGe.join i1 i2 i4 (fJ _ _ _ _ _ _ h).2.1 pw
   rename_i bl;refine (ih nl ty rs c frz x s e s' h g a w hw hg hs _ (λa1 w1 hr=>?_) r hR).1;cases e with
   |normal=>grind
   |exit id=>exact hQ a1 w1 hr
   |ret=>exact hQ a1 w1 hr
  |cond t x y=>
   refine noloop (λb=>siT) ?_;cases t with
   |tmp t=>
    simp only[nR,iT]at h;have hv:=hs.2 t;split at h
    .rename_i hb;simp only[aa.ev]at hb;rw[hb]at hv;have he:a.eval (.tmp t)=.bool true:=by cases hv'  : a.tmps.getD t EE<;>rw[hv']at hv<;>cases hv;exact hv'
     exact wpIn_cond_true he (ih nl ty rs c frz x s e s' h g a w hw hg hs Q hQ r hR).1
    .rename_i hb;simp only[aa.ev]at hb;rw[hb]at hv;have he:a.eval (.tmp t)=.bool false:=by cases hv'  : a.tmps.getD t EE<;>rw[hv']at hv<;>cases hv;exact hv'
     exact wpIn_cond_false he (ih nl ty rs c frz y s e s' h g a w hw hg hs Q hQ r hR).1
    cases h
   |_=>simp only[nR,qG]at h;cases h
  |block id b=>
   refine noloop (λb=>siT) (wpIn_block ?_);simp only[nR,eP]at h;split at h
   .rename_i id' s1 h1;refine (ih nl ty rs c frz b s _ s1 h1 g a w hw hg hs _ (λa1 w1 hr=>?_) r hR).1;split at h
    .rename_i hid;cases h
     simp_all [bf.real,Go.Exit.inBlock,Vu]
    rename_i hid;cases h
    simp_all [bf.real,Go.Exit.inBlock,Vt]
   rename_i bl;refine (ih nl ty rs c frz b s e s' h g a w hw hg hs _ (λa1 w1 hr=>?_) r hR).1;cases e with
   |normal=>exact hQ a1 w1 hr
   |exit id'=>grind
   |ret=>exact hQ a1 w1 hr
  |loop b=>
   have key:LL (fr r) 0 P b Q (n+1) a w:=by
    simp only[nR,gU]at h;rw[roundsIn_succ];split at h
    .rename_i s1 h1;refine (ih nl ty rs c frz b s _ s1 h1 g a w hw hg hs _ (λa1 w1 hr=>?_) r hR).1;obtain⟨g1,W,i1,i2,i3,i4,i5⟩:=hr;refine (ih nl ty rs c frz (.loop b) s1 e s' h g1 a1 w1 i1.wf i5 i3 Q (λa' w' pw=>hQ a' w' ?_) r (hR.mono i1.le)).2 b rfl;exact aGe.join i1 i2 i4 (fJ _ _ _ _ _ _ h).2.1 pw
    rename_i bl;refine (ih nl ty rs c frz b s e s' h g a w hw hg hs _ (λa1 w1 hr=>?_) r hR).1;cases e with
    |normal=>grind
    |exit id=>exact hQ a1 w1 hr
    |ret=>exact hQ a1 w1 hr
   grind [wpIn_loop_rounds]
  |exit id=>refine noloop (λb=>siT) (wpIn_exit ?_);simp only[nR,aCb,AG,BK]at h;obtain⟨rfl,rfl⟩:=h;exact hQ a w (.refl hw hs hg)
  |ret=>refine noloop (λb=>siT) (wpIn_ret ?_);simp only[nR,aDZ,AG,BK]at h;obtain⟨rfl,rfl⟩:=h;exact hQ a w (.refl hw hs hg)
  |rangeFunc gx ps assign body=>
   refine noloop (λb=>siT) ?_;simp only[nR]at h;split at h;rotate_left
   .rw[qG]at h;cases h
   rename_i xo hxo;rw[iU]at h;split at h;rotate_left
   .cases h
   rename_i f first ay id O5 qh
   split at h;rotate_left
   .cases h
   rename_i hc;obtain⟨hid,uo⟩:=hc;split at h;rotate_left
   .cases h
   rename_i rv H2 wr kq;split at h;rotate_left
   .cases h
   rename_i v b2 s2 p2 c2 r2 pend hH2;split at h;rotate_left
   .cases h
   rename_i hv;obtain⟨rfl,hthere2⟩:=hv;cases h;have D1:=bIw (P:=P) (ab:={ ab with nl:=nl,typed:=ty,refs:=rs }) hxo hg hs;rw[O5]at D1;obtain⟨vf,vc,je,yo,hlc⟩:=D1.rm;have hidx:s.H[id]? = N1 s.H[id]:=by simp[hid]
   have X5:bH s.H id=s.H[id].ver+1:=uXl
   obtain⟨l,mark,D,g0,w0,he,s0,hmark⟩:∃(l:Nat)(mark:List HU)(D:Nat)(g0:G)(w0:BL),
     (∀fn,(JZ fn a.tmps ps assign body (fr r).round).run P w=.ok (l,mark) (w0.alloc (.loop { state:=.ready,pending:=N2,fn,tmps:=a.tmps,params:=ps,assign,body,defers:=D }))) /\
     (Step g s.H w g0 s.H w0 []/\l=w0.heap.size)/\(mark=[]∨(mark=[⟨.collected w.heap.size,#[]⟩]/\g0.whole w.heap.size=N1 (.deferred (N1 [])))):=by
    cases r with
    |none=>have h1:=Step.xw hw (.deferred (N1 []));exact⟨_,_,w.heap.size,_,_,λfn=>run_enterLoop_outer fn a.tmps ps assign body,⟨h1,by simp[World.size_alloc]⟩,.inr ⟨rfl,siT⟩⟩
    |some l0=>
     obtain⟨o,v,zj,hy⟩:=hR l0 rfl;simp only[eZ,zj]at uo;split at uo
     .rename_i v' b3 s3 p3 c3 r3 hH3;have hvv:v'=v:=uWa
      subst hvv;obtain⟨lc,hb,rfl⟩:=bLa hw hy hH3;obtain⟨_,rec,pe,_⟩:=hw.obj o lc _ hb;exact⟨_,_,rec.defers,g,w,λfn=>aCg pe fn a.tmps ps assign body,⟨.refl hw,rfl⟩,.inl rfl⟩
     grind
   obtain⟨s0,rfl⟩:=s0;refine wpIn_rangeFunc λfn _=>?_;generalize xp:(Obj.loop { state:=.ready,pending:=N2,fn,tmps:=a.tmps,params:=ps,assign,body,defers:=D })=ob;have he':=he fn;rw[xp]at he';have e1:(w0.alloc ob).heap=w0.heap.push ob:=rfl;have jz:∃ca cb,ag.seq (nR P ⟨ab.row,nl,ty,rs⟩ frz assign) (nR P ⟨ab.row,nl,ty,rs⟩ frz body)=.seq ca cb/\g0.code ca assign/\g0.code cb body:=⟨_,_,rfl,((hg.mono s0.le).code _ _).2 ⟨nl,ty,rs,frz,rfl⟩,((hg.mono s0.le).code _ _).2 ⟨nl,ty,rs,frz,rfl⟩⟩;have s1:=Step.update (w':=w0.alloc ob) s0.wf id (.rnd (bH s.H id) c.base c.sites ps.toList (.seq (nR P ⟨ab.row,nl,ty,rs⟩ frz assign) (nR P ⟨ab.row,nl,ty,rs⟩ frz body)) s.ρ Po N2) ⟨w0.heap.size,bH s.H id,0,0,0⟩ hid (by rw[e1];simp) (λb hb _=>cK e1 hb) (by rw[e1];simp) (.inl (AQ _)) rfl rfl (λl hl=>by
     have:=s0.wf.st id _ l hidx hl
     grind)
    λhle=>⟨rfl,{ state:=.ready,pending:=N2,fn,tmps:=a.tmps,params:=ps,assign,body,defers:=D },uWa,rfl,rfl,rfl,jz,trivial,hs.1,λt=>((hs.2 t).mono s0.le).mono hle⟩
   have hyl:ai (g0.setObj id ⟨w0.heap.size,bH s.H id,0,0,0⟩) (.yld id (bH s.H id)) (.func (.yield w0.heap.size) #[] #[]):=.yld id _ _ _ (by simp[G.setObj];rfl) (AQ _) λ_ _=>rfl;have A7:g.le (g0.setObj id ⟨w0.heap.size,bH s.H id,0,0,0⟩):=s0.le.trans s1.le;have hargs:fU (g0.setObj id ⟨w0.heap.size,bH s.H id,0,0,0⟩) (first++.yld id (bH s.H id)::ay) (vf.toList++.func (.yield w0.heap.size) #[] #[]::vc.toList):=by
    refine (yo.mono A7).append (fU.append (aqq:=[.yld id (bH s.H id)]) (xs:=[.func (.yield w0.heap.size) #[] #[]]) ⟨rfl,λi c x h1 h2=>?_⟩ (hlc.mono A7))
    grind
   obtain⟨⟨Fn,Qd,jq,gh⟩,kr⟩:=az.1 f _ _ rv H2 wr kq _ (w0.alloc ob) _ s1.wf (hg.mono A7) hargs;have Hz:¬(Fn.name = "runtime.NumGoroutine"):=uWa
   have hbb:¬(Fn.body=N2):=λe=>by grind
   have harr:(vf ++ #[Value.func (.yield w0.heap.size) #[] #[]]++vc)=(vf.toList++.func (.yield w0.heap.size) #[] #[]::vc.toList).toArray:=uWa
   refine⟨w0.heap.size,mark,w0.alloc ob,⟨.fn (.func f) vc,vf ++ #[.func (.yield w0.heap.size) #[] #[]]⟩,w0.alloc ob,f,(vf.toList++.func (.yield w0.heap.size) #[] #[]::vc.toList).toArray,w0.alloc ob,he', ?_,λ_ _=>trivial, ?_,λh=>(by simp[fr,FJ]at h), ?_⟩
   .have hy:a.eval (.const (.func (.yield w0.heap.size) #[] #[]))=.func (.yield w0.heap.size) #[] #[]:=rfl;simp[resolve,je,hy,JF]
   .simp_all [invoke,callFunc]
   have hC:CallsIn FJ (0 - 1) P f _ (w0.alloc ob) _:=callsIn_wide.2 kr;refine CallsIn.mono (F:=fr r) hC λe w3 vu=>?_;cases e with
   |panicked ch=>grind
   |outgrown=>grind
   |returned rvv=>
    obtain⟨g2,s3,_⟩:=vu;obtain⟨lc2,dp,P0⟩:=bLa s3.wf (hyl.mono s3.le) hH2;obtain⟨q0,rec2,qheap,qst,qpe,_⟩:=s3.wf.obj id lc2 _ dp;rw[P0]at qheap;have s4:=Step.F8 s3.wf dp (.loop { rec2 with state:=.exhausted });rw[P0]at s4;have yh:rec2.state≠.busy:=uWa
    have ku:aGe P ab c.base g s.H w a.defers ⟨s.ρ,H2.set id (.gone (bH s.H id)),bE c.base s.wr (id::wr)⟩ { a with defers:=mark++a.defers } (w3.putObj w0.heap.size (.loop { rec2 with state:=.exhausted })):=by
     refine⟨g2,_,((s0.trans s1).trans s3).trans s4,λo ho hb=>(cE _ _ _).2 o ?_ hb,hs.mono (A7.trans s3.le), ?_,hg.mono (A7.trans s3.le)⟩
     .grind
     rcases hmark with rfl | ⟨rfl,Ep⟩
     .exact aHw.refl
     exact⟨[w.heap.size],rfl,λb hb=>by rw[CG]at hb;subst hb;exact⟨AQ _,(s1.le.trans s3.le).whole _ _ Ep⟩,siT⟩
    refine⟨pend.map aIT,w3.putObj w0.heap.size (.loop { rec2 with state:=.exhausted }),by rw[run_endLoop qheap yh,<- qpe], ?_⟩;cases pend with
    |none=>exact hQ _ _ ku
    |some e=>
     cases e with
     |normal=>exact wpIn_skip (hQ _ _ ku)
     |ret=>exact wpIn_ret (hQ _ _ ku)
     |exit id'=>exact wpIn_exit (hQ _ _ ku)
  |_=>simp only[nR,qG]at h;cases h
def sU(A0:Good P ab A)(n:Nat):oT P ab (dD A n):=aE5 A0 n λm _=>aNQ A0 m
end
def fB(tB tP:Nat):aIP:=λargs H=>match args with
 | [.ptr o v 0]=>match H[o]? with
  |some (.cw v' ty [.nilPtr,c])=>if v'=v/\(ty=tB∨ty=tP)then N1 (.tup [],[(o,.cw v ty [.ptr o v 0,c])],[])else N2
  |some (.cw v' _ [.ptr o' v2 0,_])=>if v'=v/\o'=o/\v2=v then N1 (.tup [],[],[])else N2
  |_=>N2
 |_=>N2
def aE6:List LA->Bool
 | []=>Pa
 | [.int .u8 n]::r=>decide (0<=n)&&decide (n<256)&&aE6 r
 |_=>Po
def aAh(tb:Nat):aIP:=λargs H=>match args with
 | [.ptr o v 0]=>match H[o]? with
  |some (.cw v' _ [_,.ar])=>if v'=v then N1 (.str [],[],[])else N2
  |some (.cw v' _ [_,.sr o2 v2 n])=>if v'=v then match H[o2]? with
    |some (.oz v3 t3 1 rows)=>if v3=v2/\t3=tb/\rows.length=n/\n≠0/\o2≠o/\n<=1000000000/\aE6 rows then match cM rows with
      |some l=>N1 (.str l,[(o2,.gone v2)],[])
      |none=>N2
     else N2
    |_=>N2
   else N2
  |_=>N2
 |_=>N2
def aNR(tB tb:Nat):aIP:=λargs H=>match args with
 | [.ptr o v 0,.int .i64 n]=>match H[o]? with
  |some (.cw v' ty [.nilPtr,.ar])=>if v'=v/\ty=tB/\0<n/\n<=1000000 then N1 (.tup [],[(o,.cw v tB [.ptr o v 0,.sr H.length 1 0])],[.oz 1 tb 1 []])else N2
  |_=>N2
 |_=>N2
def aJ7(sep:List UInt8):List LA->Option (List UInt8)
 | []=>N1 []
 | [[.str s]]=>N1 s
 | [.str s]::r=>match aJ7 sep r with
  |some t=>N1 (s++sep++t)
  |none=>N2
 |_=>N2
def aKm:aIP:=λargs _=>match args with
 | [.sl _ rows,.str sep]=>match aJ7 sep rows with
  |some s=>if s.length<=140737488355328/\rows.length<=140737488355328 then N1 (.str s,[],[])else N2
  |none=>N2
 |_=>N2
def aYu:aIP:=λargs _=>match args with
 | [.str s,.int .u8 c]=>N1 (.int .i64 (EV s c.toNat.toUInt8),[],[])
 |_=>N2
def aE7:aIP:=λargs _=>match args with
 | [.str s,.str [c]]=>N1 (.int .i64 (PC s c),[],[])
 |_=>N2
def aAi:aIP:=λargs H=>match args with
 | [p]=>match bC H 1 p with
  |some [.int .u32 n]=>N1 (.bool (n != 0),[],[])
  |_=>N2
 |_=>N2
def nC:Nat->Nat->List UInt8
 |0,_=>[]
 |k+1,n=>if n<10 then [UInt8.ofNat (48+n)] else nC k (n / 10)++[UInt8.ofNat (48+n % 10)]
def sC:aIP:=λargs _=>match args with
 | [.int .i64 n]=>if 0<=n/\n<1000000 then N1 (.str (nC 7 n.toNat),[],[])else if n<0 /\ -1000000<n then N1 (.str (45::nC 7 (-n).toNat),[],[])else N2
 |_=>N2
section
variable {P:CU}{ab:cu}
def oC{f:Nat}{p:aIP}(hf:∃F,P.funcs[f]? = N1 F/\(F.name == "runtime.NumGoroutine")=Po/\F.body.isNone=Po) (h:∀args H v ws ns,p args H=N1 (v,ws,ns)->∀g w xs,WF g H w->bM P ab g->fU g args xs->FV P f xs.toArray w λe w'=>match e with
   |.returned x=>∃g',Step g H w g' (eU H ws++ns) w' (ws.map Prod.fst)/\pN g' (eU H ws++ns) w.heap.size w' v x
   |_=>False):gS P ab λf' args H=>if f'=f then (p args H).map (cT H)else none:=by
 intro f' args H av H' wr hh g w xs hw hg hx;dsimp only at hh;split at hh
 .rename_i e;subst e;cases hp:p args H with
  |none=>rw[hp]at hh;cases hh
  |some r=>obtain⟨v,ws,ns⟩:=r;rw[hp]at hh;obtain⟨rfl,rfl,rfl⟩:=hh;exact⟨hf,h args H v ws ns hp g w xs hw hg hx⟩
 cases hh
def Step.nf{g:G}{H:LO}{w w':BL}(hw:WF g H w)(gd:w.heap.size<=w'.heap.size)(da:∀b,b<w.heap.size->w'.heap[b]? = w.heap[b]?)(io:w'.os=w.os/\w'.output=w.output):Step g H w g H w' []:=by
 refine⟨G.le.refl g,⟨λb i x hx=>?_,hw.lt,λo l hl=>FU (hw.blk o l hl) gd,hw.st,λo l x hb=>?_,hw.jh,hw.inj,hw.whole.aq rfl rfl io (λb hb _=>da b hb) λo l y hl=>.inr ⟨o,l,y,hl,rfl⟩⟩,⟨gd,λb hb _=>da b hb⟩,λ_ _ _=>rfl,AQ _,λ_ l' hl=>.inr ⟨l',hl,rfl⟩,λ_ _ _=>rfl⟩
 .rw[cell_of_heap (da b (hw.ko hx))];exact hw.perm b i x hx
 exact (hw.obj o l x hb).aq (G.le.refl g) (da l.b (hw.blk o l hb.loc))
def aBc{g:G}{a:AV}{xs:List BE}(h:fU g [a] xs):∃x,xs=[x]/\ai g a x:=by
 obtain⟨h1,h2⟩:=h
 match xs,h1 with
 | [x],_=>exact⟨x,rfl,h2 0 a x rfl rfl⟩
def nH{g:G}{a b:AV}{xs:List BE}(h:fU g [a,b] xs):∃x y,xs=[x,y]/\ai g a x/\ai g b y:=by
 obtain⟨h1,h2⟩:=h
 match xs,h1 with
 | [x,y],_=>exact⟨x,y,rfl,h2 0 a x rfl rfl,h2 1 b y rfl rfl⟩
def aGf{g:G}{H:LO}{w:BL}(hw:WF g H w){o v v' ty:Nat}{cells:LA}(ho:H[o]? = N1 (.cw v' ty cells))(hv:v'=v){x:BE}(hx:ai g (.ptr o v 0) x):∃l cs,au g H o l (.cw v ty cells)/\x=.pointer (N1 ⟨l.b,0,N2⟩)/\w.heap[l.b]? = N1 (.cells cs ty (0,0))/\fU g cells cs.toList:=by
 subst hv;cases hx with
 |ptr _ _ _ l a hl hv h=>
  have bd:l.st=v':=by have:=hw.st o _ l ho hl;simp only[ah.ver]at this;omega
  have hb:au g H o l (.cw v' ty cells):=⟨ho,rfl,hl,bd⟩;obtain⟨h0,⟨cs,h1,h2⟩,h3⟩:=hw.obj o l _ hb;refine⟨l,cs,hb,by rw[h bd h0],h1,by simpa using h2.symm,λi a x e1 e2=>?_⟩;obtain⟨y,hy,hr⟩:=h3 i a e1;simp only[EF,h1]at hy;have e2':cs[i]? = N1 x:=uWp
  rw[e2']at hy;simp at hy;subst hy;exact hr
def Step.spoil{g:G}{H:LO}{w w':BL}(hw:WF g H w){o:Nat}{l:Loc}{x:ah}(hb:au g H o l x)(gd:w'.heap.size=w.heap.size)(ju:∀b,b≠l.b->w'.heap[b]? = w.heap[b]?)(io:w'.os=w.os/\w'.output=w.output):Step g H w g (H.set o (.gone x.ver)) w' [o]:=by
 obtain⟨h1,h2⟩:=Step.drop hw hb;have pj:=h1.wf;refine⟨h1.le,⟨λb i y hy=>?_,pj.lt,λo' l' hl=>by rw[gd];exact pj.blk o' l' hl,pj.st,λo' l' x' du=>(pj.obj o' l' x' du).aq (G.le.refl g) (ju l'.b (h2 o' l' x' du)),pj.jh,pj.inj,⟨λb y hy=>⟨?_,(pj.whole.blocks b y hy).2⟩,by rw[io.1,io.2];exact hw.whole.io⟩⟩,⟨omT,λb _ bl=>ju b (Ne.symm (bl o siT l hb.loc))⟩,h1.same,h1.len,λo' l' hl=>.inr ⟨l',hl,rfl⟩,λ_ _ _=>rfl⟩
 .have bl:b≠l.b:=λe=>by subst e;have:=hw.jh o l x hb i;rw[hy]at this;cases this
  rw[cell_of_heap (ju b bl)];exact hw.perm b i y hy
 rw[ju b (Ne.symm ((hw.whole.blocks b y hy).2 o l x hb))];exact (hw.whole.blocks b y hy).1
def Step.tset{g:G}{H:LO}{w w':BL}(hw:WF g H w){o v ty:Nat}{l:Loc}{cells dh:LA}{cs':Array BE}(hb:au g H o l (.cw v ty cells))(gd:w'.heap.size=w.heap.size)(ju:∀b,b≠l.b->w'.heap[b]? = w.heap[b]?)(ld:w'.heap[l.b]? = N1 (.cells cs' ty (0,0)))(hl:fU g dh cs'.toList)(io:w'.os=w.os/\w'.output=w.output):Step g H w g (H.set o (.cw v ty dh)) w' [o]:=by
 have hg:g.setObj o l=g:=by
  cases g with
  |mk p ob wh io=>
   have:=hb.loc;simp only[G.setObj,G.mk.injEq,true_and,and_true];funext o';by_cases e:o'=o
   .subst e;simpa using this.symm
   simp[e]
 have h0:=(hw.obj o l _ hb).1;have:=Step.update (w':=w') hw o (.cw v ty dh) l (hw.lt o l hb.loc) omT
  (λb _ bl=>ju b (Ne.symm (bl l _ hb))) (by rw[gd];exact hw.blk o l hb.loc) (.inr ⟨l,_,hb,rfl⟩) hb.st rfl
  (λl0 h0=>by rw[hb.loc]at h0;cases h0;exact⟨AQ _,λ_=>⟨AQ _,λ_=>rfl⟩⟩)
  (λ_=>by
   rw[hg];refine⟨h0,⟨cs',ld,uXh⟩,λj a ha=>?_⟩;have hj:j<dh.length:=(AH.1 ha).1;have ax:=hl.1;simp at ax;exact⟨cs'[j]'omT,uXa,hl.2 j a _ ha siT⟩) io
 rwa [hg]at this
end
end Go.AM
end
section
namespace Go.Proofs
open Go.Shelf
def Tryz.lays156_ren:HK:=⟨λ| 156=>100 | 165=>152 | 166=>130 | 169=>84 | 240=>136 | 241=>244 | 276=>193 | 277=>296 | n=>n,λ| 31=>63 | 9=>9 | 3=>3 | 4=>4 | 0=>0 | 20=>20 | 72=>171 | 76=>222 | 70=>169 | 37=>23 | 75=>180 | 127=>232 | 164=>315 | 5=>5 | 80=>118 | n=>n,λ| n=>n⟩
def Tryz.lays156:Go.Proofs.Lays.n156 Tryz.prog Tryz.lays156_ren:=by refine' { .. }<;>first | kernel_rfl | (intro _;kernel_rfl)
def Tryz.Builder_Extra_156:Builder.Extra Tryz.prog Tryz.lays156_ren:=by refine' { neB5:=by decide,.. }<;>first | kernel_rfl | (intro _;kernel_rfl)
open Go.RowKit in
def Tryz.strings_Join_none(a:Option Addr)(c:Nat)(sep:ByteArray)(w:BL):FV Tryz.prog 100 #[.slice a 0 c,.string sep] w λe w'=>e=.returned (.string ⟨#[]⟩)/\w'=w:=Any.strings_Join_none Tryz.lays156 Tryz.Builder_Extra_156 a c sep w
open Go.RowKit in
def Tryz.strings_Join(bk o c:Nat)(xs:List ByteArray)(sep:ByteArray)(w:BL)(jy:∀(j:Nat) x,xs[j]? = N1 x->w.cell? ⟨bk,o+j,N2⟩=N1 (.string x))(dx:bk<w.heap.size)(hN:xs.length<=140737488355328)(cm:xs.length<=c)(ax:(OT (xs.map (·.data.toList)) sep.data.toList).length<=140737488355328):FV Tryz.prog 100 #[.slice (N1 ⟨bk,o,N2⟩) xs.length c,.string sep] w λe w'=>e=.returned (.string ⟨(OT (xs.map (·.data.toList)) sep.data.toList).toArray⟩)/\Below w.heap.size w w':=Any.strings_Join Tryz.lays156 Tryz.Builder_Extra_156 bk o c xs sep w jy dx hN cm ax
def Tryz.laysM171_ren:HK:=⟨λ| 171=>99 | 243=>151 | 246=>243 | 283=>292 | 284=>293 | 285=>294 | 286=>295 | 129=>333 | 317=>332 | 318=>334 | 319=>335 | 320=>336 | 337=>363 | 338=>364 | n=>n,λ| 3=>3 | 9=>9 | 2=>2 | 4=>4 | 171=>403 | 0=>0 | 53=>404 | 37=>23 | 5=>5 | 173=>407 | 212=>451 | 51=>301 | 20=>20 | 213=>452 | 46=>453 | 232=>502 | 233=>503 | n=>n,λ| 17=>6 | 18=>10 | 19=>11 | n=>n⟩
def Tryz.laysM171:Go.Proofs.LaysM.n171 Tryz.prog Tryz.laysM171_ren:=by refine' { .. }<;>first | kernel_rfl | (intro _;kernel_rfl)
open Go.RowKit Go.Sort Go.Lib in
def Tryz.strconv_Itoa(n:Int)(h0 : -9223372036854775808<=n)(h1:n<=9223372036854775807)(w:BL)(cx:Lib.TabIs Tryz.prog w "internal/strconv.uint64pow10" .u64 EB):FV Tryz.prog 99 #[.int .i64 n] w λe w'=>e=.returned (.string ⟨(Lib.itoa n).toArray⟩)/\∃k os,w'=grow (w.drewN k) os:=Any.strconv_Itoa Tryz.laysM171 n h0 h1 w cx
def Tryz.lays217_ren:HK:=⟨λ| 217=>351 | 266=>380 | n=>n,λ| 9=>9 | 5=>5 | 3=>3 | n=>n,λ| n=>n⟩
def Tryz.lays217:Go.Proofs.Lays.n217 Tryz.prog Tryz.lays217_ren:=by refine' { .. }<;>first | kernel_rfl | (intro _;kernel_rfl)
open Go.RowKit Go.Lib in
def Tryz.stringslite_IndexByte(s:ByteArray)(c:Int)(w:BL):FV Tryz.prog 351 #[.string s,.int .u8 c] w λe w'=>e=.returned (.int .i64 (EV s.data.toList c.toNat.toUInt8))/\w'=w:=Any.stringslite_IndexByte Tryz.lays217 s c w
def Tryz.lays138_ren:HK:=⟨λ| 138=>344 | 195=>375 | 218=>376 | 143=>279 | 219=>323 | 217=>351 | 225=>352 | 224=>353 | 267=>354 | 266=>380 | 314=>381 | n=>n,λ| 9=>9 | 3=>3 | 4=>4 | 5=>5 | 0=>0 | 46=>453 | 146=>494 | 51=>301 | n=>n,λ| 1=>7 | n=>n⟩
def Tryz.lays138:Go.Proofs.Lays.n138 Tryz.prog Tryz.lays138_ren:=by refine' { .. }<;>first | kernel_rfl | (intro _;kernel_rfl)
open Go.RowKit Go.Lib in
def Tryz.strings_Count_one(s:ByteArray)(c:UInt8)(w:BL):FV Tryz.prog 344 #[.string s,.string ⟨#[c]⟩] w λe w'=>e=.returned (.int .i64 (PC s.data.toList c))/\w'=w:=Any.strings_Count_one Tryz.lays138 s c w
open Go.RowKit Go.Lib in def Tryz.laysM288_ren : Go.Shelf.Ren := ⟨λ| 288 => 378 | 283 => 292 | 284 => 293 | 285 => 294 | 286 => 295 | 129 => 333 | 317 => 332 | 318 => 334 | 319 => 335 | 320 => 336 | 337 => 363 | 338 => 364 | n => n, λ| 37 => 23 | 53 => 404 | 3 => 3 | 4 => 4 | 9 => 9 | 171 => 403 | 0 => 0 | 173 => 407 | 212 => 451 | 51 => 301 | 5 => 5 | 20 => 20 | 213 => 452 | 46 => 453 | 232 => 502 | 233 => 503 | n => n, λ| 17 => 6 | 18 => 10 | 19 => 11 | n => n⟩
def Tryz.laysM288:Go.Proofs.LaysM.n288 Tryz.prog Tryz.laysM288_ren:=by refine' { .. }<;>first | kernel_rfl | (intro _;kernel_rfl)
end Go.Proofs
end
