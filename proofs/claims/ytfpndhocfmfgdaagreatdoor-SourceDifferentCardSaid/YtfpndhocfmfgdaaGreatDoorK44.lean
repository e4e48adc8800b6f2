/- Part 44: lemmas for the last text. -/
import Derived.Test.YtfpndhocfmfgdaaGreatDoorK14
import Derived.Test.YtfpndhocfmfgdaaGreatDoorK35
import Derived.Test.YtfpndhocfmfgdaaGreatDoorK43
import Derived.DeepKeys2
import Derived.Handed
import Derived.ChangeSlices
import Derived.ProofKit
import Derived.OpenShut
import Derived.Lib.LaidTab
import Derived.Lib.ItoaNum
import Derived.Test.YtfpndhocfmfgdaaGreatDoorRows
import Derived.Test.YtfpndhocfmfgdaaGreatDoorTie
import Derived.Test.YtfpndhocfmfgdaaGreatDoorCards
import Derived.LaidMore
import Derived.Stop.Joined
import Derived.SevenTiedAt
import Derived.Lay
set_option linter.unusedVariables false
set_option linter.unusedSimpArgs false
section
set_option maxRecDepth 100000
namespace Go.AM
open Go
theorem aIB{l m:List Int}(hl:gD l)(hm:gD m){a:Int}(ha:dN a)(h:Int){b:Int}(hb:dN b)(H:List AObj):
  aL AM0 3 [.sl false (l.map bD),.sl false (m.map bD),vi a,vi h,vi b] H=some (.bool true,H,[]):=by
 have:=aNx aLw hl hm (at':=a) (how:=h) (by':=b) ha hb H
 have e:gZ "dactyl/dactyllaw25.SourceDifferent" = 3:=by kernel_rfl
 rwa [e]at this
#print axioms aIB
end Go.AM
end
section
namespace Go.AM
open Go Go.ChangeShapes Go.WideShapes Go.ChangeAt Go.RowKit
def G0(C:ACode->Code->Prop)(W:World):G:={ perm:=fun b i=>W.cell? ⟨b,i,none⟩,obj:=fun _=>none,whole:=fun b=>W.heap[b]?,io:=(W.os,W.output),code:=C }
theorem wf0(C:ACode->Code->Prop)(W:World):WF (G0 C W) [] W where
 perm:=fun _ _ _ h=>h
 lt:=fun _ _ h=>by cases h
 blk:=fun _ _ h=>by cases h
 st:=fun _ _ _ _ h=>by cases h
 obj:=fun _ _ _ hb=>by have:=hb.loc;cases this
 priv:=fun _ _ _ hb=>by have:=hb.loc;cases this
 inj:=fun _ _ _ _ _ _ hb=>by have:=hb.loc;cases this
 whole:=⟨fun _ _ h=>⟨h,fun _ _ _ hb=>by have:=hb.loc;cases this⟩,rfl⟩
theorem aIC{C:ACode->Code->Prop}{W W':World}{g':G}{H':List AObj}(h:Step (G0 C W) [] W g' H' W' []){b:Nat}(hb:b<W.heap.size):W'.heap[b]? = W.heap[b]? := h.frame.2 b hb fun o ho=>by cases ho
theorem aNE{C:ACode->Code->Prop}{W W':World}{g':G}{H':List AObj}(h:Step (G0 C W) [] W g' H' W' [])(may:MemPlace->Prop):W.keptBut W' may:=by
 have e:=h.wf.whole.io;rw[h.le.io]at e;have e':(W.os,W.output)=(W'.os,W'.output):=e;refine⟨(congrArg Prod.fst e').symm,(congrArg Prod.snd e').symm,fun i hi => ?_⟩;rw[aIC h hi]
 split<;>simp_all
section
variable {H:Type}{enc:TypeId×Value->H}{P:Program}{W:World}{C:ACode->Code->Prop}
theorem aKw{t e:TypeId}{base:Nat}{v:Value}{d:DataW H}{p:List MemPlace}(ht:P.underlying t=some (.slice e))(he:P.underlying e=some (.int .i64))(hc:P.cellsOf e=1)
  (hval:Value.okWide P W .any base t v) (hd:DataW.Trod enc P W 0 (fun _=>true) true t v d p):
  ∃l:List Int,gD l/\VRel (G0 C W) (.sl false (l.map bD)) v /\
   ∀(W':World) (sp:Nat->Bool),(∀b,b<W.heap.size->W'.heap[b]? = W.heap[b]?)->(∀q∈p,sp q.block=true)->DataW.Trod enc P W' 0 sp true t v d p:=by
 simp only[Value.okWide,ht,Cell.okWide]at hval;obtain⟨fuel,hd⟩:=hd;have hform:v=.slice none 0 0∨∃a len cap,v=.slice (some a) len cap/\a.spot=none:=by
  unfold Cell.ok at hval;rw[ht]at hval
  split at hval<;>first | exact hval.elim | skip
  all_goals first | (rename_i h;cases h;done) | skip
  ·exact .inl rfl
  ·exact .inr ⟨_,_,_,rfl,hval.2.2.2.1⟩
 rcases open_ints ht he hc hd with⟨e1,e2⟩ | ⟨a,len,cap,zs,e1,_,hl,hm,hz,e2,hcell,hwf⟩
 ·have hv:v=.slice none 0 0:=by
   rcases hform with rfl | ⟨a,len,cap,rfl,_⟩
   ·rfl
   ·simp[Value.cells]at e1
  subst hv;cases e2;exact⟨[],(fun a ha=>by cases ha),.slNil _,fun W' sp _ _=>shut_slice_nil ht⟩
 ·have hv:v=.slice (some a) len cap/\a.spot=none:=by
   rcases hform with rfl | ⟨a',len',cap',rfl,hs⟩
   ·simp[Value.cells]at e1
   ·simp[Value.cells]at e1;obtain⟨rfl,rfl,rfl⟩:=e1;exact⟨rfl,hs⟩
  obtain⟨rfl,hs⟩:=hv;simp only[Prod.mk.injEq]at e2;obtain⟨rfl,rfl⟩:=e2;simp only[if_true]at hz;have hadd:∀i,a.add i=⟨a.block,a.off+i,none⟩:=fun i=>by
   have ea:a=⟨a.block,a.off,none⟩:=by cases a;simp at hs;subst hs;rfl
   rw[ea];exact Addr.add_lit _ _ _
  have hlt:0<zs.length->a.block<W.heap.size:=fun h0=>by
   have:=hcell 0 h0;rw[hadd]at this;exact World.block_lt_of_cell? (a:=⟨a.block,a.off+0,none⟩) W this
  refine⟨zs.take len,fun n hn => ?_, ?_,fun W' sp hW' hsp => ?_⟩
  ·have:=Go.bounds_i64 (hwf n (List.mem_of_mem_take hn));exact⟨this.1,this.2⟩
  ·have ea:a=⟨a.block,a.off,none⟩:=by cases a;simp at hs;subst hs;rfl
   have hlen:((zs.take len).map bD).length=len:=by simp;omega
   have key:VRel (G0 C W) (.sl false ((zs.take len).map bD)) (.slice (some ⟨a.block,a.off,none⟩) ((zs.take len).map bD).length cap):=by
    refine .sl false _ a.block a.off cap 1 (by omega) (fun h=>by cases h) (fun row hr => ?_) (fun row hr => ?_) (fun i j hi hj => ?_) fun i j row c x hr hcc hx => ?_
    ·obtain⟨n,_,rfl⟩:=List.mem_map.1 hr;rfl
    ·obtain⟨n,_,rfl⟩:=List.mem_map.1 hr;rfl
    ·have:j=0:=by omega
     subst this
     show (W.cell? ⟨a.block,a.off+i*1+0,none⟩).isSome
     have:=hcell i (by omega)
     rw[hadd]at this;simp only[Nat.mul_one,Nat.add_zero,this];rfl
    ·have hi:i<len:=by rw[<- hlen];exact (List.getElem?_eq_some_iff.1 hr).1
     have hj:j=0:=by
      obtain⟨n,_,rfl⟩:=List.mem_map.1 (List.mem_of_getElem? hr);have:=(List.getElem?_eq_some_iff.1 hcc).1;simp[bD]at this;exact this
     subst hj;have hx':W.cell? ⟨a.block,a.off+i*1+0,none⟩=some x:=hx;have hc2:=hcell i (by omega)
     rw[hadd]at hc2;simp only[Nat.mul_one,Nat.add_zero]at hx';rw[hc2]at hx';cases hx';rw[List.getElem?_map]at hr;have hz2:(zs.take len)[i]? = some (zs.getD i 0):=by
      rw[List.getElem?_take,if_pos hi,List.getElem?_eq_getElem (by omega)]
      simp[List.getD,show i<zs.length by omega]
     rw[hz2]at hr;simp only[Option.map_some,Option.some.injEq]at hr;subst hr;simp only[bD,List.getElem?_cons_zero,Option.some.injEq]at hcc;subst hcc;exact .int _ _
   rw[hlen,<- ea]at key;exact key
  ·refine⟨2,shut_ints 0 ht he hc (Nat.zero_le _) hl hm ?_ (fun i hi => ?_) hwf⟩
   ·by_cases h0:0<zs.length
    ·have:sp a.block=true:=hsp (.cell a.block (a.off+0)) (MemPlace.mem_row.2 ⟨0,h0,rfl⟩);rw[this,if_pos rfl,hz]
    ·split<;>omega
   ·have h1:=hcell i hi;rw[hadd]at h1 ⊢;exact (World.cell?_of_block (a:=⟨a.block,a.off+i,none⟩) (hW' a.block (hlt (by omega)))).trans h1
mutual
def aEW{H:Type}:DataW H->List Value
 |.lit l=>[l.toCell]
 |.agg ds=>aID ds
 |_=>[]
def aID{H:Type}:List (DataW H)->List Value
 | []=>[]
 |d::r=>aEW d++aID r
end
theorem aEX{α:Type}{f:α->Option (DataW H×List MemPlace)}{ch:α->List Value}:∀{L:List α} {xs:List (DataW H×List MemPlace)},L.mapM f=some xs->(∀x∈L,∀a,f x=some a->ch x=aEW a.1)->(L.map ch).flatten=aID (xs.map (·.1))
 | [],xs,h,_=>by
  simp at h;subst h;simp[aID]
 |x::L,xs,h,hall=>by
  rw[List.mapM_cons]at h;simp only[bind,Option.bind_eq_some_iff,pure,Option.some.injEq]at h;obtain⟨a,ha,asx',has,rfl⟩:=h;rw[List.map_cons,List.flatten_cons,List.map_cons,aID,aEX has (fun y hy=>hall y (by simp[hy])),hall x (by simp) a ha]
theorem aEY{base:Nat}{sp:Nat->Bool}{held:Bool}:∀(m:Nat) (t:TypeId),P.tiled m t=true->∀(n:Nat) (cs:List Value) (x:DataW H×List MemPlace),DataW.trod enc P W base sp held n t cs=some x->cs=aEW x.1
 |0,_,h=>by simp[Program.tiled]at h
 |m+1,t,ht=>by
  intro n cs x h;unfold Program.tiled at ht;cases n with
  |zero=>simp[DataW.trod]at h
  |succ n=>
   cases hu:P.underlying t with
   |none=>simp[hu]at ht
   |some kd=>
    cases kd
    case bool=>
     simp only[DataW.trod,hu]at h
     split at h<;>simp_all<;>(subst h;simp[aEW,Lit.toCell])
    case int q=>
     simp only[DataW.trod,hu]at h
     split at h<;>simp_all<;>(obtain⟨⟨rfl,_⟩,rfl⟩:=h;simp[aEW,Lit.toCell])
    case string=>
     simp only[DataW.trod,hu]at h
     split at h<;>simp_all<;>(obtain⟨_,rfl⟩:=h;simp[aEW,Lit.toCell])
    case array k e=>
     simp only[hu,Bool.and_eq_true,beq_iff_eq]at ht;simp only[DataW.trod,hu]at h
     split at h
     ·rename_i hl;obtain⟨asx,ha,rfl⟩:=Option.map_eq_some_iff.1 h
      show cs=aEW (.agg (asx.map (·.1)))
      rw[aEW,<- aEX (ch:=fun i=>(cs.drop (i*P.cellsOf e)).take (P.cellsOf e)) ha (fun i _ a hia=>aEY m e ht.2 n _ a hia),chunks_flatten _ k cs (by rw[hl,ht.1])]
     ·cases h
    case struct fs=>
     simp only[hu,Bool.and_eq_true,beq_iff_eq]at ht;simp only[DataW.trod,hu]at h
     split at h
     ·rename_i hl;obtain⟨asx,ha,rfl⟩:=Option.map_eq_some_iff.1 h
      show cs=aEW (.agg (asx.map (·.1)))
      rw[aEW,<- aEX (ch:=fun f:Field=>(cs.drop f.offset).take (P.cellsOf f.type)) ha (fun f hf a hfa=>aEY m f.type (Array.all_eq_true_iff_forall_mem.1 ht.2 f (Array.mem_toList_iff.1 hf)) n _ a hfa),fields_flatten cs _ 0 _ ht.1 hl];rfl
     ·cases h
    all_goals (simp[hu]at ht;done)
theorem aRZ{nm:String}{n:Nat}{row:List AV}{vs:List Value}{cs:Array Value}(hn:P.globalNamed nm=some n)(hv:W.var? P nm=some cs)(hcs:cs.toList=vs)(hr:aNN false vs=some row)(hst:row.all AV.still=true):
  VRel (G0 C W) (.ep row 0) (.pointer (some ⟨n,0,none⟩))/\∃cs t fz,(G0 C W).whole n=some (.cells cs t fz)/\cs.size=row.length:=by
 unfold World.var? at hv;rw[hn]at hv;simp only[Option.bind_some]at hv
 split at hv
 ·rename_i cs' t fz hheap;simp only[Option.some.injEq]at hv;subst hv;have hl:=zR hr (G0 C W);have hsz:cs'.size=row.length:=by rw[hl.1,<- hcs];simp
  have hcell:∀j,W.cell? ⟨n,j,none⟩=cs'[j]? := fun j=>by simp[World.cell?,hheap]
  refine⟨?_,cs',t,fz,hheap,hsz⟩;refine .ep row 0 n 0 hst (fun j hj => ?_) fun j a x ha hx => ?_
  ·show (W.cell? ⟨n,0+j,none⟩).isSome
   rw[Nat.zero_add,hcell,Array.getElem?_eq_getElem (by omega)]
   rfl
  ·have hx':W.cell? ⟨n,0+j,none⟩=some x:=hx;rw[Nat.zero_add,hcell]at hx';refine hl.2 j a x ha ?_;rw[<- hcs];simpa using hx'
 ·cases hv
end
end Go.AM
end
section
namespace Go.Proofs.YtfpndhocfmfgdaaGreatDoor
open Go Go.ChangeShapes Go.WideShapes Go.ChangeAt Go.WideMaps Go.WideElems Go.RowKit Go.AM
set_option maxRecDepth 100000
theorem own:ownKnob Tryz.prog.godebug=none:=by kernel_rfl
abbrev aFh:List (String×DataW Unit):=Rows.sourceDifferentRow.laid
theorem aGb:(aFh.all fun x=>x.2.handleName?.isNone)=true:=by kernel_rfl
theorem aPn(os:Os)(args:Array Value):laidMetH Tryz.prog aFh ((World.laidAll Tryz.prog os aFh).forCall (fun _ _=>0) ⟨#[],args,[]⟩).memory:=by
 rw[MakeChecks.laidMetH_plain _ _ _ aGb];exact laidMet_laidAll _ (by kernel_rfl) (by kernel_rfl)
theorem aNF{P:Program}{w:World}{nm:String}{d:DataW Unit}:∀{laid:List (String×DataW Unit)} {ps:List MemPlace} (i:Nat),DataW.LaidVars P w laid ps->laid[i]? = some (nm,d) ->
  ∃g t cs fuel p,P.globalNamed nm=some g/\(P.globals[g]?).map (·.type)=some t/\w.var? P nm=some cs/\DataW.trod (fun _=>()) P w 0 (fun _=>true) false fuel t cs.toList=some (d,p)
 | [],_,i,_,h=>by simp at h
 | (n,d')::r,ps,0,hl,h=>by
  obtain⟨g,t,cs,fuel,p,q,h1,h2,h3,h4,_,_⟩:=hl;simp only[List.getElem?_cons_zero,Option.some.injEq,Prod.mk.injEq]at h;obtain⟨rfl,rfl⟩:=h;exact⟨g,t,cs,fuel,p,h1,h2,h3,h4⟩
 | (n,d')::r,ps,i+1,hl,h=>by
  obtain⟨g,t,cs,fuel,p,q,_,_,_,_,h5,_⟩:=hl;exact aNF i h5 (by simpa using h)
abbrev CK:ACode->Code->Prop:=fun a c=>∃nl ty rs frz,a=mY Tryz.prog ⟨aAH.row,nl,ty,rs⟩ frz c
theorem aIE{W:World}(h:laidMetH Tryz.prog aFh W){nm:String}{d:DataW Unit}(i n t:Nat){row:List AV}(hi:aFh[i]? = some (nm,d))(hn:Tryz.prog.globalNamed nm=some n)(ht:(Tryz.prog.globals[n]?).map (·.type)=some t)
  (htl:Tryz.prog.tiled 9 t=true) (hr:aNN false (aEW d)=some row) (hst:row.all AV.still=true):
  VRel (G0 CK W) (.ep row 0) (.pointer (some ⟨n,0,none⟩))/\∃cs t fz,(G0 CK W).whole n=some (.cells cs t fz)/\cs.size=row.length:=by
 rw[MakeChecks.laidMetH_plain _ _ _ aGb]at h;obtain⟨ps,hl,_⟩:=h;obtain⟨g,t',cs,fuel,p,h1,h2,h3,h4⟩:=aNF i hl hi;obtain rfl:=Option.some.inj (hn.symm.trans h1);obtain rfl:=Option.some.inj (ht.symm.trans h2);exact aRZ hn h3 (aEY 9 _ htl fuel _ _ h4) hr hst
theorem aPo{W:World}(h:laidMetH Tryz.prog aFh W):bI Tryz.prog aAH (G0 CK W) where
 row:=fun n row hn=>by
  have hn:aUF n=some row:=hn;unfold aUF at hn
  split at hn
  ·cases hn;exact aIE h 9 0 198 rfl (by kernel_rfl) (by kernel_rfl) (by kernel_rfl) (by kernel_rfl) (by kernel_rfl)
  ·cases hn;exact aIE h 6 1 204 rfl (by kernel_rfl) (by kernel_rfl) (by kernel_rfl) (by kernel_rfl) (by kernel_rfl)
  ·cases hn;exact aIE h 7 2 278 rfl (by kernel_rfl) (by kernel_rfl) (by kernel_rfl) (by kernel_rfl) (by kernel_rfl)
  ·cases hn;exact aIE h 8 3 279 rfl (by kernel_rfl) (by kernel_rfl) (by kernel_rfl) (by kernel_rfl) (by kernel_rfl)
  ·cases hn;exact aIE h 2 8 351 rfl (by kernel_rfl) (by kernel_rfl) (by kernel_rfl) (by kernel_rfl) (by kernel_rfl)
  ·cases hn
 code:=fun a c=>Iff.rfl
end Go.Proofs.YtfpndhocfmfgdaaGreatDoor
end
section
namespace Go.Proofs.YtfpndhocfmfgdaaGreatDoor
open Go Go.ChangeMaps Go.ChangeShapes Go.WideShapes Go.ChangeAt Go.WideMaps Go.WideElems Go.RowKit Go.AM
set_option maxRecDepth 100000
theorem aIF{H:Type}{enc:TypeId×Value->H}{P:Program}{w:World}{base:Nat}{spare:Nat->Bool}{held:Bool}{t1 t2 t3 t4 t5:TypeId}{args:Array Value}{ds:List (DataW H)}{ps:List MemPlace}
  (h:DataW.TrodAll enc P w base spare held [t1,t2,t3,t4,t5] args.toList ds ps):
  ∃v1 v2 v3 v4 v5 d1 d2 d3 d4 d5 p1 p2 p3 p4 p5,args = #[v1,v2,v3,v4,v5]/\ds=[d1,d2,d3,d4,d5]/\ps=p1++(p2++(p3++(p4++p5))) /\
   DataW.Trod enc P w base spare held t1 v1 d1 p1/\DataW.Trod enc P w base spare held t2 v2 d2 p2/\DataW.Trod enc P w base spare held t3 v3 d3 p3 /\
   DataW.Trod enc P w base spare held t4 v4 d4 p4/\DataW.Trod enc P w base spare held t5 v5 d5 p5:=by
 obtain⟨v1,r1,d1,s1,p1,q1,e1,rfl,rfl,h1,h⟩:=trodAll_cons h;obtain⟨v2,r2,d2,s2,p2,q2,rfl,rfl,rfl,h2,h⟩:=trodAll_cons h;obtain⟨v3,r3,d3,s3,p3,q3,rfl,rfl,rfl,h3,h⟩:=trodAll_cons h;obtain⟨v4,r4,d4,s4,p4,q4,rfl,rfl,rfl,h4,h⟩:=trodAll_cons h;obtain⟨v5,r5,d5,s5,p5,q5,rfl,rfl,rfl,h5,h⟩:=trodAll_cons h;obtain⟨_,rfl,rfl⟩:=trodAll_nil h;exact⟨v1,v2,v3,v4,v5,d1,d2,d3,d4,d5,p1,p2,p3,p4,p5,by cases args;simp_all,rfl,by simp,h1,h2,h3,h4,h5⟩
theorem aLx{l m:List Int}(hl:gD l)(hm:gD m){a h b:Int}(ha:dN a)(hb:dN b)(g:G)(w:World)(xs:List Value)(hw:WF g [] w)(hg:bI Tryz.prog aAH g)
  (hx:fO g [.sl false (l.map bD),.sl false (m.map bD),vi a,vi h,vi b] xs):
  Calls Tryz.prog 3 xs.toArray w fun e w'=>e=.returned (.bool true)/\∃g',Step g [] w g' [] w' []:=by
 obtain⟨k,hkk⟩:=vL (aIB hl hm ha h hb []);obtain⟨_,hc⟩:=(aCU aWq k).1 3 _ [] _ _ _ hkk g w xs hw hg hx;refine hc.mono ?_;intro e w' he;cases e with
 |returned v=>
  obtain⟨g',h1,h2⟩:=he;cases h2;exact⟨rfl,g',h1⟩
 |_=>exact he.elim
theorem lifted(os:Os)(started:os.Started)(H:Type)(enc:TypeId×Value->H):
  ReturnsInHanded {} Tryz.checked os 3 .any (fun w args=>(Rows.sourceDifferentSpec.pre enc Tryz.prog Tryz.f3 [] false w args/\laidMetH Tryz.prog aFh w)/\sizedMet enc Tryz.prog Tryz.f3 (OpenSpec.ofChange Rows.sourceDifferentSpec) false w args)
   (Rows.sourceDifferentSpec.post enc Tryz.prog Tryz.f3 false true false false):=by
 refine returnsInHanded_of_change_and (C:=Tryz.checked) (X:=fun w _=>laidMetH Tryz.prog aFh w) (fun _ _ _ hh h=>h.of_heap hh) own started (by kernel_rfl) Tryz.func3
  (ChangeSpec.witness_shaped (enc:=enc) (C:=Tryz.checked) (os:=os) (X:=fun w _=>laidMetH Tryz.prog aFh w) false (World.laidAll Tryz.prog os aFh) #[.slice none 0 0,.slice none 0 0,.int .i64 0,.int .i64 0,.int .i64 0] 8 (World.laidAll_os _ _ _) (World.shaped_of_ZipB (by kernel_rfl) (by kernel_rfl)) (by kernel_rfl) (by kernel_rfl) (by kernel_rfl) (aPn os _)) ?_
 intro W base args ds gs before hval0 hW _ _ hL _;have hval:∀(j:Nat) t v,Tryz.f3.params[j]? = some t->args[j]? = some v->Value.okWide Tryz.prog W .any base t v:=hval0;have hW':=hW;obtain⟨p,q,hA0,hV,rfl,hfz,hnd⟩:=hW;have hA:DataW.TrodAll enc Tryz.prog W 0 (fun _=>true) true Tryz.f3.params.toList args.toList ds p:=hA0;rw[Tryz.params3]at hA hval;obtain⟨v1,v2,v3,v4,v5,d1,d2,d3,d4,d5,p1,p2,p3,p4,p5,rfl,rfl,rfl,h1,h2,h3,h4,h5⟩:=aIF hA;obtain⟨rfl,rfl⟩:=trodVars_none hV;obtain⟨l,hl,r1,k1⟩:=aKw (C:=CK) Tryz.underlying22 Tryz.underlying3 (by kernel_rfl) (hval 0 22 v1 rfl rfl) h1
 obtain⟨m,hm,r2,k2⟩:=aKw (C:=CK) Tryz.underlying22 Tryz.underlying3 (by kernel_rfl) (hval 1 22 v2 rfl rfl) h2
 obtain⟨n3,rfl,rfl,rfl,w3⟩:=open_int Tryz.underlying3 (hval 2 3 v3 rfl rfl) h3;obtain⟨n4,rfl,rfl,rfl,w4⟩:=open_int Tryz.underlying3 (hval 3 3 v4 rfl rfl) h4;obtain⟨n5,rfl,rfl,rfl,w5⟩:=open_int Tryz.underlying3 (hval 4 3 v5 rfl rfl) h5;clear hA0 hval0;have hx:fO (G0 CK W) [.sl false (l.map bD),.sl false (m.map bD),vi n3,vi n4,vi n5] [v1,v2,.int .i64 n3,.int .i64 n4,.int .i64 n5]:=by
  refine⟨rfl,fun i c x hc hy => ?_⟩
  match i,hc,hy with
  |0,hc,hy=>cases hc;cases hy;exact r1
  |1,hc,hy=>cases hc;cases hy;exact r2
  |2,hc,hy=>cases hc;cases hy;exact .int _ _
  |3,hc,hy=>cases hc;cases hy;exact .int _ _
  |4,hc,hy=>cases hc;cases hy;exact .int _ _
 have b3:=Go.bounds_i64 w3;have b5:=Go.bounds_i64 w5;refine (aLx hl hm ⟨b3.1,b3.2⟩ ⟨b5.1,b5.2⟩ (G0 CK W) W _ (wf0 CK W) (aPo hL) hx).mono fun e W' ⟨he,g',hst⟩ => ?_;subst he;refine⟨_,rfl,_,_,_,[],p1++(p2++([]++([]++[]))),[],hW', ?_, ?_,rfl,aNE hst _,fun hh=>by cases hh⟩
 ·exact trodAll_mk1 (shut_bool Tryz.underlying4 _)
 ·have hold:∀b,b<W.heap.size->W'.heap[b]? = W.heap[b]? := fun b hb=>aIC hst hb;have hlt:∀q∈(p1++(p2++([]++([]++[]))))++[],(fun b=>decide (b<W.heap.size)) q.block=true:=fun q hq=>by simpa using hW'.lt q hq
  rw[Tryz.params3];refine⟨p1,p2++([]++([]++([]++[]))),k1 W' _ hold (fun q hq=>hlt q (by simp[hq])),⟨p2,[]++([]++([]++[])),k2 W' _ hold (fun q hq=>hlt q (by simp[hq])),⟨[],[]++([]++[]),shut_int Tryz.underlying3 w3,⟨[],[]++[],shut_int Tryz.underlying3 w4,⟨[],[],shut_int Tryz.underlying3 w5,rfl,rfl⟩,rfl⟩,rfl⟩,rfl⟩,by simp⟩
end Go.Proofs.YtfpndhocfmfgdaaGreatDoor
end
