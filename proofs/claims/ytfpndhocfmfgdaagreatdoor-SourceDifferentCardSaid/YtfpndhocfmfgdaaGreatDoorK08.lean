/- Part 8: lemmas for the last text. -/
import Derived.Test.YtfpndhocfmfgdaaGreatDoorK05
import Derived.Test.YtfpndhocfmfgdaaGreatDoorK07
set_option linter.unusedVariables false
set_option linter.unusedSimpArgs false
section
namespace Go.AM
open Go
section
variable {P:Program}{glob:Glob}{g:G}{H:List AObj}{w w':World}{ρ:List AV}{a:Act}
variable {dst:Option Tmp}{type:TypeId}{pos:String}{after:Array Edge}{guard:Option (Nat×Bool)}
theorem aBb{k:Nat}:∀(parts:List (Nat×Operand)) (aps:List (Nat×AOpd)),
  parts.length=aps.length->∀(g:G) (H:List AObj),WF g H w->(∀(j:Nat) i X i' x,parts[j]? = some (i,X)->aps[j]? = some (i',x)->i'=i/\VRel g (x.ev ρ) (a.eval X)) ->
  ∀(rows:List (List AV)) (cells:Array Value),RowsRel g k rows cells.toList->rows.all (fun r=>r.all AV.still)=true->∀out H' l,nC ρ k H rows aps=some (out,H',l) ->
  ∃g' cells',Step g H w g' H' w l/\Instr.fill (fun i=>some (i*k,k)) cells (parts.map fun p=>(p.1,a.eval p.2))=some cells'/\RowsRel g' k out cells'.toList/\out.length=rows.length/\out.all (fun r=>r.all AV.still)=true
 | [],aps,hl,g,H,hw,_,rows,cells,hr,hst,out,H',l,h=>by
  cases aps with
  |nil=>
   simp only[nC,Option.some.injEq,Prod.mk.injEq]at h;obtain⟨rfl,rfl,rfl⟩:=h;exact⟨g,cells,.refl hw,rfl,hr,rfl,hst⟩
  |cons _ _=>simp at hl
 | (i,X)::parts,aps,hl,g,H,hw,hp,rows,cells,hr,hst,out,H',l,h=>by
  cases aps with
  |nil=>simp at hl
  |cons p aps=>
   obtain⟨i',x⟩:=p;simp only[nC]at h
   split at h
   ·rename_i v H1 l1 hfix
    split at h
    ·rename_i hc
     split at h
     ·rename_i rows' H'' l' hrest;simp only[Option.some.injEq,Prod.mk.injEq]at h;obtain⟨rfl,rfl,rfl⟩:=h;obtain⟨h1,h2⟩:=hp 0 i X i' x rfl rfl;subst h1;obtain⟨g1,hstep,hv0⟩:=qJ hw hfix h2;have hv:=hv0.cells (iL hc.2.2);have hlv:=hv.1;simp only[Array.length_toList]at hlv;have hr1:=hr.mono hstep.le;have hlen:=hr.len;simp only[Array.length_toList]at hlen;have hb:i'*k+k<=rows.length*k:=by
       have:(i'+1)*k<=rows.length*k:=Nat.mul_le_mul_right _ hc.2.1
       rwa [Nat.add_mul,Nat.one_mul]at this
      obtain⟨cells1,e1,e2⟩:=aBa (place:=fun i=>some (i*k,k)) (cells:=cells) (i:=i') (off:=i'*k) (v:=a.eval X) (rest:=parts.map fun p=>(p.1,a.eval p.2)) (by simp;omega) (by omega)
      have hr2:RowsRel g1 k (rows.set i' v.cells) cells1.toList:=by
       rw[e1];have:=hr1.set hc.2.1 hv hc.1;simpa using this
      have hst1:(rows.set i' v.cells).all (fun r=>r.all AV.still)=true:=by
       rw[List.all_eq_true]at hst ⊢;intro r hm;rcases List.mem_or_eq_of_mem_set hm with hm' | rfl
       ·exact hst r hm'
       ·exact hc.2.2
      obtain⟨g',cells',e3,e4,e5,e6,e7⟩:=aBb parts aps (by simpa using hl) g1 H1 hstep.wf
       (fun j i X o x h1 h2=>by obtain⟨a1,a2⟩:=hp (j+1) i X o x (by simpa using h1) (by simpa using h2);exact⟨a1,a2.mono hstep.le⟩) _ cells1 hr2 hst1 _ _ _ hrest
      exact⟨g',cells',hstep.trans e3,by simp only[List.map_cons];rw[e2];exact e4,e5,by rw[e6];simp,e7⟩
     ·cases h
    ·cases h
   ·cases h
theorem aW9{t e:TypeId}{k n:Nat}{parts:Array (Nat×Operand)}{zs:List AV}{aps:List (Nat×AOpd)}(ht:P.underlying t=some (.slice e))(hk:size? P e=some k)(hz:zeroCells? P glob e=some zs)(hp:aDF glob n parts.toList=some aps)
  (hzl:zs.length=k) (hn:n*k<=16777216) (hst:zs.all AV.still=true) {call:Nat->List AV->List AObj->Out} {site:Option Nat}
  {av:AV} {H':List AObj} {wr:List Nat} (h:evW call H ρ site (.bsl k (zs.map AV.strip1) n aps)=some (av,H',wr)) (hw:WF g H w) (hg:bI P glob g) (hs:aT g ρ a.tmps):
  yD P ⟨dst,.buildSlice t n parts,type,pos,after,guard⟩ a w fun v w'=>∃g',Step g H w g' H' w' wr/\VRel g' av v:=by
 simp only[evW]at h;obtain⟨it,z,hi,hzz,hzr⟩:=zeroCells?_spec hz;obtain⟨i',hi',hsz⟩:=size?_info hk;rw[hi]at hi';cases hi';obtain⟨h1,h2⟩:=aAx hp;have hz0:RowsRel g k (List.replicate n (zs.map AV.strip1)) (((Array.range (n*k)).map (z.cells[· % z.cells.size]!)).toList):=aDs (hzr g).strip1 (by simpa using hzl)
 have hz1:(List.replicate n (zs.map AV.strip1)).all (fun r=>r.all AV.still)=true:=by rw[List.all_eq_true];intro r hm;rw[(List.mem_replicate.1 hm).2];exact iM hst
 have hrun:∀cells,Instr.fill (fun i=>some (i*k,k)) ((Array.range (n*k)).map (z.cells[· % z.cells.size]!)) (parts.toList.map fun p=>(p.1,a.eval p.2))=some cells ->
   (execOp a.eval ⟨dst,.buildSlice t n parts,type,pos,after,guard⟩).run P w=.ok (.value (.slice (some ⟨w.heap.size,0,none⟩) n n)) (w.alloc (.cells cells e)):=fun cells e1=>by
  have hf:Instr.fill (fun i=>some (i*k,k)) ((Array.range (n*k)).map (z.cells[· % z.cells.size]!)) (parts.map fun p=>(p.1,a.eval p.2)).toList=some cells:=by rw[Array.toList_map];exact e1
  simp only[execOp,Sem.run_bind,aAf ht hi hsz hzz hn hf,Result.andThen_ok,Sem.run_pure]
 split at h
 ·rename_i id
  split at h
  ·rename_i rows hb
   split at h
   ·rename_i hid;cases h;obtain⟨cells,e1,e2,e3,e4⟩:=yB (g:=g) (a:=a) (ρ:=ρ) parts.toList aps h1 (fun j i X i' x e1 e2=>by
     obtain⟨ho,_,hx⟩:=h2 j i X i' x e1 e2;exact⟨ho,aJ hx hg hs⟩) _ _ hz0 (uB hz1) _ hb
    have hlen:rows.length=n:=by rw[e3];simp
    have hcl:=e2.len;have htake:cells.toList.take (rows.length*k)=cells.toList:=List.take_of_length_le (by omega)
    obtain⟨g',s1,s2⟩:=Step.newVec (w':=w.alloc (.cells cells e)) hw hid (c:=cells) (t:=e) rfl (k:=k) (cap:=n) (by rw[htake];exact e2) e4 (by omega) (by simpa [hlen]using hcl)
    rw[hlen]at s2;exact .inl ⟨_,_,hrun cells e1,g',s1,s2⟩
   ·cases h
  ·cases h
 ·split at h
  ·rename_i rows H1 wr1 hfr;cases h;obtain⟨g1,cells,hstep,e1,e2,e3,e4⟩:=aBb (a:=a) (ρ:=ρ) parts.toList aps h1 g H hw (fun j i X i' x e1 e2=>by
    obtain⟨ho,_,hx⟩:=h2 j i X i' x e1 e2;exact⟨ho,aJ hx hg hs⟩) _ _ hz0 hz1 _ _ _ hfr
   have hlen:rows.length=n:=by rw[e3];simp
   have hcl:=e2.len;have htake:cells.toList.take (rows.length*k)=cells.toList:=List.take_of_length_le (by omega)
   have hperm:=Step.allocPerm (w':=w.alloc (.cells cells e)) hstep.wf cells e (0,0) rfl;have hv:=VRel.sl_new (g:=g1) (f:=true) (cap:=n) (b:=w.heap.size) e4 (by omega) (fun _=>hlen.symm) (by rw[htake];exact e2.mono hperm.le)
   rw[hlen]at hv;refine .inl ⟨_,_,hrun cells e1,_,(hstep.trans hperm).weaken fun o ho=>by simpa using ho,hv⟩
  ·cases h
structure OwnRel(g:G)(H:List AObj)(n0:Nat)(w:World)(k:Nat)(rows:List (List AV))(b cap:Nat):Prop where
 hnew:n0<=b
 hlt:b<w.heap.size
 hcap:rows.length<=cap
 hsoft:aNH w b
 hrow:∀row∈rows,row.length=k
 hstill:rows.all (fun r=>r.all AV.still)=true
 hsome:∀j,j<cap*k->(w.cell? ⟨b,j,none⟩).isSome
 hrel:∀(i j:Nat) (row:List AV) c,rows[i]? = some row->row[j]? = some c->∃y,w.cell? ⟨b,i*k+j,none⟩=some y/\VRel g c y
 hpriv:∀j,g.perm b j=none
 hapart:∀o l x,Backed g H o l x->l.b≠b
 hwhole:g.whole b=none
def pD(g:G)(H:List AObj)(n0:Nat)(w:World)(av:AV)(v:Value):Prop:=
 match av with
 |.own k rows=>∃b cap,v=.slice (some ⟨b,0,none⟩) rows.length cap/\OwnRel g H n0 w k rows b cap
 |av=>VRel g av v
def jC(P:Program)(glob:Glob)(call:Nat->List AV->List AObj->Out):Prop:=
 ∀f args H av H' wr,call f args H=some (av,H',wr)->∀g w xs,WF g H w->bI P glob g->fO g args xs ->
  (∃F,P.funcs[f]? = some F/\(F.name == "runtime.NumGoroutine")=false/\F.body.isNone=false) /\
  Calls P f xs.toArray w fun e w'=>match e with
   |.returned v=>∃g',Step g H w g' H' w' wr/\pD g' H' w.heap.size w' av v
   |_=>False
def aLJ(P:Program)(glob:Glob)(call:Nat->List AV->List AObj->Out):Prop:=
 ∀o v as H av H' wr,call YF (.own 0 []::.yld o v::as) H=some (av,H',wr)->∀g w l xs,WF g H w->bI P glob g->VRel g (.yld o v) (.func (.yield l) #[] #[])->fO g as xs ->
  ∃r,w.heap[l]? = some (.loop r)/\r.params.size=xs.length /\
   RoundIn Fence.wide 0 P l r.fn ((r.params.zip xs.toArray).foldl (fun tmps (t,a)=>tmps.setIfInBounds t a) r.tmps) r.assign r.body w fun e w'=>match e with
    |.returned v=>∃g',Step g H w g' H' w' wr/\VRel g' av v
    |_=>False
def nY(P:Program)(glob:Glob)(call:Nat->List AV->List AObj->Out):Prop:=jC P glob call/\aLJ P glob call
theorem aAy:∀(rows:List (List AV)) {g:G} {H:List AObj},WF g H w->∀{rows':List (List AV)} {H':List AObj} {l:List Nat},aII H rows=some (rows',H',l) ->
  ∀(xss:List (List Value)),(rows.length=xss.length/\∀(i:Nat) r xs,rows[i]? = some r->xss[i]? = some xs->fO g r xs) ->
  ∃g',Step g H w g' H' w l/\rows'.length=xss.length/\∀(i:Nat) r xs,rows'[i]? = some r->xss[i]? = some xs->fO g' r xs
 | [],g,H,hw,rows',H',l,h,xss,hx=>by
  cases h;exact⟨g,.refl hw,hx.1,fun i r xs h=>by simp at h⟩
 |r::rs,g,H,hw,rows',H',l,h,xss,hx=>by
  cases xss with
  |nil=>have:=hx.1;simp at this
  |cons xs xss=>
   unfold aII at h
   split at h
   ·rename_i r' H1 l1 hf
    split at h
    ·rename_i rs' H2 l2 hr;cases h;have h0:=hx.2 0 r xs rfl rfl;obtain⟨g1,s1,v1⟩:=qJ hw hf (fO.agg (vs:=xs.toArray) (by simpa using h0))
     obtain⟨ys,e1,hl1⟩:=v1.agg_list;cases e1;have hl1':fO g1 r' xs:=by simpa using hl1
     obtain⟨g2,s2,hlen,hrel⟩:=aAy rs s1.wf hr xss ⟨by have:=hx.1;simpa using this,fun i r xs e1 e2=>(hx.2 (i+1) r xs (by simpa using e1) (by simpa using e2)).mono s1.le⟩
     refine⟨g2,s1.trans s2,by simpa using hlen,fun i r xs e1 e2 => ?_⟩
     cases i with
     |zero=>simp at e1 e2;subst e1;subst e2;exact hl1'.mono s2.le
     |succ i=>exact hrel i r xs (by simpa using e1) (by simpa using e2)
    ·cases h
   ·cases h
theorem aBc(hw:WF g H w){v v':AV}{H':List AObj}{l:List Nat}(h:xY H v=some (v',H',l)){x:Value}(hx:VRel g v x):
  ∃g',Step g H w g' H' w l/\VRel g' v' x:=by
 unfold xY at h
 split at h
 ·rename_i o ve n
  split at h
  ·rename_i v0 k rows ho
   split at h
   ·rename_i hc;obtain⟨rfl,hlen⟩:=hc
    split at h
    ·rename_i rows' H1 l1 hi
     split at h
     ·rename_i hc2
      split at h
      ·rename_i v2 H2 l2 hf;cases h;have hb:∃lc,Backed g H o lc (.vec v0 k rows):=by
        cases hx with
        |sr _ _ _ lc b cap hl hv hn hc0 hh=>
         have hst:lc.st=v0:=by
          have:=hw.st o _ lc ho hl;simp only[AObj.ver]at this;omega
         exact⟨lc,ho,rfl,hl,hst⟩
       obtain⟨lc,hb⟩:=hb;obtain⟨h0,hlk,hcap,hsoft,hk,hsome,hcell⟩:=hw.obj o lc _ hb;have hget:∀(i j:Nat),i<rows.length->j<k->∃y,w.cell? ⟨lc.b,i*k+j,none⟩=some y:=fun i j hi hj=>by
        have hrk:=hk rows[i] (List.getElem_mem hi);obtain⟨_,y,hy,_⟩:=hcell i j rows[i] (rows[i][j]'(by omega)) (by simp[hi]) (by simp)
        exact⟨y,hy⟩
       generalize hxs:((List.range rows.length).map fun i=>(List.range k).map fun j=>(w.cell? ⟨lc.b,i*k+j,none⟩).getD Go.undef)=xss;have hrel:rows.length=xss.length/\∀(i:Nat) r xs,rows[i]? = some r->xss[i]? = some xs->fO g r xs:=by
        subst hxs;refine⟨by simp,fun i r xs e1 e2 => ?_⟩
        have hi:i<rows.length:=(List.getElem?_eq_some_iff.1 e1).1;simp[hi]at e2;subst e2;refine⟨by simpa using hk r (List.mem_of_getElem? e1),fun j c y e3 e4 => ?_⟩
        have hj:j<r.length:=(List.getElem?_eq_some_iff.1 e3).1;rw[hk r (List.mem_of_getElem? e1)]at hj;simp[hj]at e4;obtain⟨_,z,hz,hr⟩:=hcell i j r c e1 e3;rw[hz]at e4;simp at e4;subst e4;exact hr
       obtain⟨g1,s1,hl1,hr1⟩:=aAy rows hw hi xss hrel;have hno:o∉l1:=by have:=hc2.1;simpa using this
       have hlt:o<H.length:=hw.lt o lc hb.loc;have hb1:Backed g1 H1 o lc (.vec v0 k rows):=⟨by rw[s1.same o hlt hno];exact ho,rfl,by rw[s1.keep o hlt hno];exact hb.loc,hb.st⟩
       have hx1:=hx.mono s1.le;have hlr:rows'.length=rows.length:=by rw[hl1,hrel.1]
       have s2:Step g1 H1 w g1 (H1.set o (.vec v0 k rows')) w [o]:=by
        refine Step.write (xs:=[]) (off:=0) s1.wf hb1 rfl rfl ⟨by rw[h0,hlr],hlk,by rw[hlr];exact hcap,hsoft,fun r hr => ?_,hsome,fun i j r c e1 e2 => ?_⟩
        ·obtain⟨i,hi,he⟩:=List.getElem_of_mem hr;have hix:i<xss.length:=by omega
         have:=(hr1 i r xss[i] (by rw[List.getElem?_eq_getElem hi,he]) (by simp[hix])).1
         rw[this];subst hxs;simp
        ·have hi:i<rows'.length:=(List.getElem?_eq_some_iff.1 e1).1;have hix:i<xss.length:=by omega
         have hl:=hr1 i r xss[i] e1 (by simp[hix])
         have hj:j<r.length:=(List.getElem?_eq_some_iff.1 e2).1;have hjx:j<xss[i].length:=by rw[<- hl.1];exact hj
         refine⟨List.all_eq_true.1 (List.all_eq_true.1 hc2.2 r (List.mem_of_getElem? e1)) c (List.mem_of_getElem? e2),xss[i][j], ?_,hl.2 j c _ e2 (by simp[hjx])⟩
         subst hxs;have hjk:j<k:=by simpa using hjx
         obtain⟨y,hy⟩:=hget i j (by omega) hjk
         show w.cell? _=_
         simp[hy]
       obtain⟨g3,s3,v3⟩:=qJ s2.wf hf hx1;exact⟨g3,s1.trans (s2.trans s3),v3⟩
      ·cases h
     ·cases h
    ·cases h
   ·cases h
  ·cases h
 ·exact qJ hw h hx
theorem aGk(hw:WF g H w){v:AV}{H':List AObj}{l:List Nat}(h:oQ H v=some (H',l)){x:Value}(hx:VRel g v x):
  ∃g',Step g H w g' H' w l:=by
 unfold oQ at h
 split at h
 ·cases h;exact⟨g,.refl hw⟩
 ·rename_i o ve n
  split at h
  ·rename_i v0 k rows ho
   split at h
   ·rename_i hc;obtain⟨rfl,hlen⟩:=hc
    split at h
    ·rename_i rows' H1 l1 hi
     split at h
     ·rename_i hc2;cases h;have hb:∃lc,Backed g H o lc (.vec v0 k rows):=by
       cases hx with
       |sr _ _ _ lc b cap hl hv hn hc0 hh=>
        have hst:lc.st=v0:=by
         have:=hw.st o _ lc ho hl;simp only[AObj.ver]at this;omega
        exact⟨lc,ho,rfl,hl,hst⟩
      obtain⟨lc,hb⟩:=hb;obtain⟨h0,hlk,hcap,hsoft,hk,hsome,hcell⟩:=hw.obj o lc _ hb;have hget:∀(i j:Nat),i<rows.length->j<k->∃y,w.cell? ⟨lc.b,i*k+j,none⟩=some y:=fun i j hi hj=>by
       have hrk:=hk rows[i] (List.getElem_mem hi);obtain⟨_,y,hy,_⟩:=hcell i j rows[i] (rows[i][j]'(by omega)) (by simp[hi]) (by simp)
       exact⟨y,hy⟩
      generalize hxs:((List.range rows.length).map fun i=>(List.range k).map fun j=>(w.cell? ⟨lc.b,i*k+j,none⟩).getD Go.undef)=xss;have hrel:rows.length=xss.length/\∀(i:Nat) r xs,rows[i]? = some r->xss[i]? = some xs->fO g r xs:=by
       subst hxs;refine⟨by simp,fun i r xs e1 e2 => ?_⟩
       have hi:i<rows.length:=(List.getElem?_eq_some_iff.1 e1).1;simp[hi]at e2;subst e2;refine⟨by simpa using hk r (List.mem_of_getElem? e1),fun j c y e3 e4 => ?_⟩
       have hj:j<r.length:=(List.getElem?_eq_some_iff.1 e3).1;rw[hk r (List.mem_of_getElem? e1)]at hj;simp[hj]at e4;obtain⟨_,z,hz,hr⟩:=hcell i j r c e1 e3;rw[hz]at e4;simp at e4;subst e4;exact hr
      obtain⟨g1,s1,hl1,hr1⟩:=aAy rows hw hi xss hrel;have hno:o∉l1:=by have:=hc2.1;simpa using this
      have hlt:o<H.length:=hw.lt o lc hb.loc;have hb1:Backed g1 H1 o lc (.vec v0 k rows):=⟨by rw[s1.same o hlt hno];exact ho,rfl,by rw[s1.keep o hlt hno];exact hb.loc,hb.st⟩
      have hx1:=hx.mono s1.le;have hlr:rows'.length=rows.length:=by rw[hl1,hrel.1]
      have s2:Step g1 H1 w g1 (H1.set o (.vec v0 k rows')) w [o]:=by
       refine Step.write (xs:=[]) (off:=0) s1.wf hb1 rfl rfl ⟨by rw[h0,hlr],hlk,by rw[hlr];exact hcap,hsoft,fun r hr => ?_,hsome,fun i j r c e1 e2 => ?_⟩
       ·obtain⟨i,hi,he⟩:=List.getElem_of_mem hr;have hix:i<xss.length:=by omega
        have:=(hr1 i r xss[i] (by rw[List.getElem?_eq_getElem hi,he]) (by simp[hix])).1
        rw[this];subst hxs;simp
       ·have hi:i<rows'.length:=(List.getElem?_eq_some_iff.1 e1).1;have hix:i<xss.length:=by omega
        have hl:=hr1 i r xss[i] e1 (by simp[hix])
        have hj:j<r.length:=(List.getElem?_eq_some_iff.1 e2).1;have hjx:j<xss[i].length:=by rw[<- hl.1];exact hj
        refine⟨List.all_eq_true.1 (List.all_eq_true.1 hc2.2 r (List.mem_of_getElem? e1)) c (List.mem_of_getElem? e2),xss[i][j], ?_,hl.2 j c _ e2 (by simp[hjx])⟩
        subst hxs;have hjk:j<k:=by simpa using hjx
        obtain⟨y,hy⟩:=hget i j (by omega) hjk
        show w.cell? _=_
        simp[hy]
      exact⟨g1,s1.trans s2⟩
     ·cases h
    ·cases h
   ·cases h
  ·cases h
 ·cases h
theorem aFq(hw:WF g H w){v v':AV}{H':List AObj}{l:List Nat}(h:aJI H v=some (v',H',l)){x:Value}(hx:VRel g v x):
  ∃g',Step g H w g' H' w l/\VRel g' v' x:=by
 unfold aJI at h
 split at h
 ·rename_i hf;cases h;exact qJ hw hf hx
 ·split at h
  ·split at h
   ·rename_i hf;cases h;obtain⟨ys,rfl,hl⟩:=hx.agg_list;obtain⟨y,hy⟩:∃y,ys.toList=[y]:=by
     have:=hl.1;simp only[List.length_cons,List.length_nil]at this;exact List.length_eq_one_iff.1 this.symm
    obtain⟨g',h1,h2⟩:=aBc hw hf (hl.2 0 _ y rfl (by rw[hy];rfl))
    refine⟨g',h1, ?_⟩;have:ys = #[y]:=by cases ys;simpa using hy
    subst this;refine VRel.agg _ _ rfl fun i a z e1 e2 => ?_
    match i with
    |0=>simp at e1 e2;subst e1;subst e2;exact h2
    |i+1=>simp at e1
   ·cases h
  ·exact aBc hw h hx
theorem aHh{n0:Nat}(hw:WF g H w){k:Nat}{rows:List (List AV)}{b cap:Nat}(h:OwnRel g H n0 w k rows b cap):
  ∃g',Step g H w g' H w []/\VRel g' (.sl false rows) (.slice (some ⟨b,0,none⟩) rows.length cap):=by
 have hle:g.le (g.addPerm b fun i=>w.cell? ⟨b,i,none⟩):=by
  refine⟨fun b' i y hy => ?_,fun o l hl=>⟨l,hl,Nat.le_refl _,fun _=>⟨Nat.le_refl _,fun _=>rfl⟩⟩,fun _ _ hx=>hx,rfl,rfl⟩
  by_cases e:b'=b
  ·subst e;rw[h.hpriv i]at hy;cases hy
  ·simp only[G.addPerm,e,if_false];exact hy
 have hbk:∀o l x,Backed (g.addPerm b fun i=>w.cell? ⟨b,i,none⟩) H o l x->Backed g H o l x:=fun o l x hb=>⟨hb.at_,hb.alive,hb.loc,hb.st⟩;refine⟨g.addPerm b fun i=>w.cell? ⟨b,i,none⟩,⟨hle,⟨fun b' i y hy => ?_,hw.lt,hw.blk,hw.st,fun o l x hb=>(hw.obj o l x (hbk _ _ _ hb)).keep hle rfl,fun o l x hb j => ?_,fun o o' l l' x x' hb hb'=>hw.inj o o' l l' x x' (hbk _ _ _ hb) (hbk _ _ _ hb'),
   hw.whole.keep rfl rfl ⟨rfl,rfl⟩ (fun _ _ _=>rfl) fun o l y hl=>.inr ⟨o,l,y,hbk _ _ _ hl,rfl⟩⟩,
  aBV.refl _ _ _,fun _ _ _=>rfl,Nat.le_refl _,fun _ l' hl=>.inr ⟨l',hl,rfl⟩,fun _ _ _=>rfl⟩, ?_⟩
 ·by_cases e:b'=b
  ·subst e;simpa only[G.addPerm,if_true]using hy
  ·simp only[G.addPerm,e,if_false]at hy;exact hw.perm b' i y hy
 ·have hne:=h.hapart o l x (hbk _ _ _ hb);simp only[G.addPerm,hne,if_false];exact hw.priv o l x (hbk _ _ _ hb) j
 ·refine .sl false rows b 0 cap k h.hcap (by simp) h.hrow (List.all_eq_true.1 h.hstill) (fun i j hi hj => ?_) fun i j row c x h1 h2 h3 => ?_
  ·have hrk:=h.hrow rows[i] (List.getElem_mem hi);obtain⟨y,hy,_⟩:=h.hrel i j rows[i] (rows[i][j]'(by omega)) (by simp[hi]) (by simp)
   simp only[G.addPerm,if_true,Nat.zero_add,hy];rfl
  ·obtain⟨y,hy,hr⟩:=h.hrel i j row c h1 h2;simp only[G.addPerm,if_true,Nat.zero_add,hy,Option.some.injEq]at h3;subst h3;exact hr.mono hle
theorem aFr{n0:Nat}(hw:WF g H w){k:Nat}{rows:List (List AV)}{b cap:Nat}(h:OwnRel g H n0 w k rows b cap){id:Nat}(hid:id<H.length):
  ∃g',g'.perm=g.perm/\g.le g'/\WF g' (make H id (.vec · k rows)) w/\(∀o,o≠id->g'.obj o=g.obj o)/\(∀l',g'.obj id=some l'->l'.b=b) /\
   VRel g' (.sr id (bG H id) rows.length) (.slice (some ⟨b,0,none⟩) rows.length cap):=by
 have hx:H[id]? = some H[id]:=by simp[hid]
 have hv:bG H id=H[id].ver+1:=by simp[bG,hid]
 generalize hl':(⟨b,bG H id,rows.length,k,cap⟩:Loc)=l';have hle:g.le (g.setObj id l'):=by
  refine⟨fun _ _ _ hx=>hx,fun o' l hl => ?_,fun _ _ hx=>hx,rfl,rfl⟩
  by_cases e:o'=id
  ·subst e;have:=hw.st o' _ l hx hl;exact⟨l',by simp[G.setObj],by rw[<- hl'];show l.st<=bG H o';omega,fun e=>by exfalso;rw[<- hl']at e;have:bG H o'=l.st:=e;omega⟩
  ·exact⟨l,by simp only[G.setObj,e,if_false];exact hl,Nat.le_refl _,fun _=>⟨Nat.le_refl _,fun _=>rfl⟩⟩
 have hbk:∀o' l x,o'≠id->Backed (g.setObj id l') (make H id (.vec · k rows)) o' l x->Backed g H o' l x:=fun o' l x hne hb=>
  ⟨by rw[<- getElem?_set_ne' H _ (Ne.symm hne)];exact hb.at_,hb.alive,by have:=hb.loc;simpa only[G.setObj,hne,if_false]using this,hb.st⟩
 have hself:∀l x,Backed (g.setObj id l') (make H id (.vec · k rows)) id l x->l=l'/\x=.vec (bG H id) k rows:=fun l x hb=>by
  have h1:=hb.at_;have h2:=hb.loc;simp[make,hid]at h1;simp[G.setObj]at h2;refine⟨h2.symm, ?_⟩;rw[<- h1,hv]
 refine⟨g.setObj id l',rfl,hle,⟨hw.perm,fun o' l hl => ?_,fun o' l hl => ?_,fun o' x l hx' hl => ?_,fun o' l x hb => ?_,fun o' l x hb j => ?_,fun o1 o2 l1 l2 x1 x2 hb1 hb2 e => ?_,
   ⟨fun b' x hx=>⟨(hw.whole.blocks b' x hx).1,fun o' l y hl=>by
    by_cases e:o'=id
    ·subst e;obtain⟨rfl,rfl⟩:=hself l y hl;rw[<- hl'];intro e2;have e3:b=b':=e2;have h0:=h.hwhole;have hx0:g.whole b'=some x:=hx;rw[e3,hx0]at h0;cases h0
    ·exact (hw.whole.blocks b' x hx).2 o' l y (hbk o' l y e hl)⟩,hw.whole.io⟩⟩,fun o hne=>by simp[G.setObj,hne],fun l2 hl2 => ?_, ?_⟩
 ·by_cases e:o'=id
  ·subst e;simpa [make]using hid
  ·simp only[G.setObj,e,if_false]at hl;simpa [make]using hw.lt o' l hl
 ·by_cases e:o'=id
  ·subst e;simp[G.setObj]at hl;subst hl;rw[<- hl'];exact h.hlt
  ·simp only[G.setObj,e,if_false]at hl;exact hw.blk o' l hl
 ·by_cases e:o'=id
  ·subst e;simp[G.setObj]at hl;simp[make,hid]at hx';subst hl;subst hx';rw[<- hl']
   show bG H o'<=H[o'].ver+1
   omega
  ·simp only[G.setObj,e,if_false]at hl;rw[make,getElem?_set_ne' H _ (Ne.symm e)]at hx';exact hw.st o' x l hx' hl
 ·by_cases e:o'=id
  ·subst e;obtain⟨rfl,rfl⟩:=hself l x hb;rw[<- hl'];refine⟨rfl,rfl,h.hcap,h.hsoft,h.hrow,h.hsome,fun i j row c h1 h2=>⟨aCG (List.all_eq_true.1 (List.all_eq_true.1 h.hstill row (List.mem_of_getElem? h1)) c (List.mem_of_getElem? h2)), ?_⟩⟩;obtain⟨y,hy,hr⟩:=h.hrel i j row c h1 h2;refine⟨y,hy, ?_⟩;rw[hl'];exact hr.mono hle
  ·exact (hw.obj o' l x (hbk o' l x e hb)).keep hle rfl
 ·by_cases e:o'=id
  ·subst e;obtain⟨rfl,rfl⟩:=hself l x hb;rw[<- hl'];exact h.hpriv j
  ·exact hw.priv o' l x (hbk o' l x e hb) j
 ·by_cases e1:o1=id
  ·by_cases e2:o2=id
   ·rw[e1,e2]
   ·subst e1;obtain⟨rfl,rfl⟩:=hself l1 x1 hb1;exact absurd (by rw[<- hl']at e;exact e.symm) (h.hapart o2 l2 x2 (hbk _ _ _ e2 hb2))
  ·by_cases e2:o2=id
   ·subst e2;obtain⟨rfl,rfl⟩:=hself l2 x2 hb2;exact absurd (by rw[<- hl']at e;exact e) (h.hapart o1 l1 x1 (hbk _ _ _ e1 hb1))
   ·exact hw.inj o1 o2 l1 l2 x1 x2 (hbk _ _ _ e1 hb1) (hbk _ _ _ e2 hb2) e
 ·simp[G.setObj]at hl2;rw[<- hl2,<- hl']
 ·subst hl';exact .sr id _ _ _ _ _ (by simp[G.setObj];rfl) (Nat.le_refl _) (fun _=>Nat.le_refl _) h.hcap fun _ _=>⟨rfl,rfl⟩
end
section
variable {P:Program}{glob:Glob}{g:G}{H:List AObj}{w w':World}{ρ:List AV}{a:Act}
variable {dst:Option Tmp}{type:TypeId}{pos:String}{after:Array Edge}{guard:Option (Nat×Bool)}
theorem aQa{t:TypeId}{call:Nat->List AV->List AObj->Out}{site:Option Nat}
  {av:AV} {H':List AObj} {wr:List Nat} (h:evW call H ρ site .mkmap=some (av,H',wr)) (hw:WF g H w):
  yD P ⟨dst,.makeMap t none,type,pos,after,guard⟩ a w fun v w'=>∃g',Step g H w g' H' w' wr/\VRel g' av v:=by
 simp only[evW]at h
 split at h
 ·rename_i id
  split at h
  ·rename_i hid;cases h;have e:(w.alloc (.map #[] 0)).heap=w.heap.push (.map #[] 0):=rfl;have hst:=Step.update (w':=w.alloc (.map #[] 0)) hw id (.map (bG H id) []) ⟨w.heap.size,bG H id,0,0,0⟩ hid (by rw[e];simp) (fun b hb _=>cB e hb) (by rw[e];simp) (.inl (Nat.le_refl _)) rfl rfl (fun l hl=>by
    have hx:H[id]? = some H[id]:=by simp[hid]
    have:=hw.st id _ l hx hl;have hv:bG H id=H[id].ver+1:=by simp[bG,hid]
    exact⟨by show l.st<=bG H id;omega,fun e=>by have e':bG H id=l.st:=e;omega⟩)
    fun hle=>⟨rfl,#[],0,by rw[e];simp,rfl,fun i k v e h=>by simp at h⟩
   refine .inl ⟨.map (some w.heap.size),w.alloc (.map #[] 0),by simp[execOp,Instr.makeMap,Result.andThen],_,hst, ?_⟩
   exact .mp id _ _ _ (by simp[G.setObj];rfl) (Nat.le_refl _) fun _ _=>rfl
  ·cases h
 ·cases h
theorem aWa{t kt et:TypeId}{K:IntKind}{M X V:Operand}{m k v:AOpd}(ht:P.underlying t=some (.map kt et))(hk:P.underlying kt=some (.int K))
  (hM:eO glob M=some m) (hX:eO glob X=some k) (hV:eO glob V=some v) {call:Nat->List AV->List AObj->Out} {site:Option Nat}
  {av:AV} {H':List AObj} {wr:List Nat} (h:evW call H ρ site (.ins m k v)=some (av,H',wr)) (hw:WF g H w) (hg:bI P glob g) (hs:aT g ρ a.tmps):
  yD P ⟨dst,.insert t M X V,type,pos,after,guard⟩ a w fun v w'=>∃g',Step g H w g' H' w' wr/\VRel g' av v:=by
 have hm:=aJ hM hg hs;have hx:=aJ hX hg hs;have hv:=(aJ hV hg hs).strip;simp only[evW]at h
 split at h
 ·rename_i kk o ver e1;rw[e1]at hm
  split at h
  ·rename_i v' es ho
   split at h
   ·rename_i hc;obtain⟨hver,hkey,hstill⟩:=hc;obtain⟨l,entries,clock,hb,hmv,hheap,hrel,hlen⟩:=aDO hw ho hver hm;have hck:∀b,(Instr.checkKey b 10000 kt (a.eval X)).run P w=.ok () w:=fun b=>oS hk b 9999 (a.eval X);have step:∀(es':List (AV×AV)) (xs':Array MapEntry) (clock':Nat),aQ6 g es' xs'.toList ->
      ∃g',Step g H w g' (H.set o (.map ver es')) { w with heap:=w.heap.setIfInBounds l.b (.map xs' clock') } [o]:=fun es' xs' clock' hr=>by
     have hlt:=hw.blk o l hb.loc;have hoth:∀b,b≠l.b->(w.heap.setIfInBounds l.b (.map xs' clock'))[b]? = w.heap[b]? := fun b hne=>by simp[Ne.symm hne]
     refine⟨_,Step.update hw o (.map ver es') l (hw.lt o l hb.loc) (by simp) (fun b _ hne=>hoth b fun e=>hne l _ hb e.symm) (by simpa using hlt) (.inr ⟨l,_,hb,rfl⟩) hb.st rfl (fun l2 hl2 => ?_)
      fun hle=>⟨hlen,xs',clock',by simp[hlt],by simpa using hr.1,fun i k v e h1 h2 => ?_⟩⟩
     ·have:l2=l:=by have:=hb.loc;rw[hl2]at this;exact Option.some.inj this
      subst this;exact⟨Nat.le_refl _,fun _=>⟨Nat.le_refl _,fun _=>rfl⟩⟩
     ·have:=hr.2 i k v e h1 (by simpa using h2)
      exact⟨this.1.mono hle,this.2.mono hle⟩
    split at h
    ·rename_i j x hf;obtain⟨j',e',k',n,h1,h2,h3,h4,h5⟩:=hU (K:=K) hx es entries.toList 0 _ hrel hf;have hj:entries[j']? = some e':=by simpa using h2
     simp only[Nat.zero_add]at h1;subst h1;simp only[Option.some.injEq,Prod.mk.injEq]at h;obtain⟨rfl,rfl,rfl⟩:=h;have hxe:a.eval X=.int k' n:=by rw[h4]at hx;cases hh:a.eval X<;>rw[hh]at hx<;>cases hx;rfl
     have hke:e'.key=.int k' n:=by
      have:=(hrel.2 j _ _ e' h3 h2).1;cases hh:e'.key<;>rw[hh]at this<;>cases this;rfl
     have hfk:=MapKept.run_findKey (w:=w) hk h5;have hst:(Instr.keyThatStays (.int k' n) (.int k' n)).run P w=.ok (.int k' n) w:=by simp[Instr.keyThatStays,Instr.sameBits]
     have hrun:(Instr.mapUpdate t (a.eval M) (a.eval X) (a.eval V)).run P w=.ok () { w with heap:=w.heap.setIfInBounds l.b (.map (entries.modify j fun e=>{ e with key:=.int k' n,val:=a.eval V }) clock) }:=by
      rw[hxe]at hfk hck;simp[Instr.mapUpdate,run_underlying ht,hmv,hxe,MapKept.run_getObj_map hheap,hck,hfk,hj,hke,hst,MapKept.run_setObj_map _ hheap,Result.andThen]
     obtain⟨g',hs'⟩:=step (es.set j (k.ev ρ,(v.ev ρ).strip)) (entries.modify j fun e=>{ e with key:=.int k' n,val:=a.eval V }) clock ⟨by simpa using hrel.1,fun i k2 v2 e2 h6 h7=>by
      have h7':(entries.modify j fun e=>{ e with key:=.int k' n,val:=a.eval V })[i]? = some e2:=by rw[<- Array.getElem?_toList];exact h7
      rw[Array.getElem?_modify]at h7'
      by_cases e:j=i
      ·subst e;have hlt:j<es.length:=(List.getElem?_eq_some_iff.1 h3).1;simp only[List.getElem?_set,if_true,hlt]at h6;rw[if_pos rfl,hj]at h7';simp only[Option.map_some,Option.some.injEq]at h7';subst h7';simp only[Option.some.injEq,Prod.mk.injEq]at h6;obtain⟨rfl,rfl⟩:=h6;exact⟨by rw[<- hxe];exact hx,hv⟩
      ·rw[if_neg e]at h7';rw[getElem?_set_ne' _ _ e]at h6;exact hrel.2 i k2 v2 e2 h6 (by simpa using h7')⟩
     exact .inr (.inl ⟨_,by simp[execOp,hrun],g',hs',.undef _⟩)
    ·rename_i hf;have h5:=hU (K:=K) hx es entries.toList 0 _ hrel hf;simp only[Option.some.injEq,Prod.mk.injEq]at h;obtain⟨rfl,rfl,rfl⟩:=h;have hfk:=MapKept.run_findKey (w:=w) hk h5;have hrun:(Instr.mapUpdate t (a.eval M) (a.eval X) (a.eval V)).run P w=.ok () { w with heap:=w.heap.setIfInBounds l.b (.map (entries.push { key:=a.eval X,val:=a.eval V,born:=clock }) (clock+1)) }:=by
      simp[Instr.mapUpdate,run_underlying ht,hmv,MapKept.run_getObj_map hheap,hck,hfk,MapKept.run_setObj_map _ hheap,Result.andThen]
     obtain⟨g',hs'⟩:=step (es++[(k.ev ρ,(v.ev ρ).strip)]) (entries.push { key:=a.eval X,val:=a.eval V,born:=clock }) (clock+1) ⟨by simpa using hrel.1,fun i k2 v2 e2 h6 h7=>by
      have h7':(entries.toList++[{ key:=a.eval X,val:=a.eval V,born:=clock }])[i]? = some e2:=by simpa using h7
      by_cases e:i<es.length
      ·rw[List.getElem?_append_left e]at h6;rw[List.getElem?_append_left (by rw[<- hrel.1];exact e)]at h7'
       exact hrel.2 i k2 v2 e2 h6 h7'
      ·rw[List.getElem?_append_right (by omega)]at h6
       rw[List.getElem?_append_right (by rw[<- hrel.1];omega),<- hrel.1]at h7'
       cases hd:i - es.length with
       |zero=>
        rw[hd]at h6 h7';simp at h6 h7';obtain⟨rfl,rfl⟩:=h6;subst h7';exact⟨hx,hv⟩
       |succ d=>rw[hd]at h6;simp at h6⟩
     exact .inr (.inl ⟨_,by simp[execOp,hrun],g',hs',.undef _⟩)
    ·cases h
   ·cases h
  ·cases h
 ·cases h
end
section
variable {P:Program}{glob:Glob}{g:G}{H:List AObj}{w w':World}{ρ:List AV}{a:Act}
variable {dst:Option Tmp}{type:TypeId}{pos:String}{after:Array Edge}{guard:Option (Nat×Bool)}
theorem VRel.atom{g g':G}{v:AV}{x:Value}(h:VRel g v x)(ha:v.atom=true):VRel g' v x:=by
 cases h<;>first | (simp[AV.atom]at ha;done) | exact .bool _ | exact .int _ _ | exact .str _ | exact .nilFn | exact .nilPtr | exact .nilIfc | exact .nilSl
theorem VRel.atomic{g g':G}{v:AV}{x:Value}(h:VRel g v x)(ha:v.atomic=true):VRel g' v x:=by
 have lists:∀{cs:List AV} {xs:List Value},fO g cs xs->cs.all AV.atom=true->fO g' cs xs:=fun hl hc=>
  ⟨hl.1,fun i c y h1 h2=>(hl.2 i c y h1 h2).atom (List.all_eq_true.1 hc c (List.mem_of_getElem? h1))⟩
 unfold AV.atomic at ha
 split at ha
 ·obtain⟨vs,rfl,hl⟩:=h.agg_list;exact (lists hl ha).agg
 ·obtain⟨vs,rfl,hl⟩:=h.tup_list;have:=lists hl ha;exact .tup _ vs (by simpa using this.1) fun i c y h1 h2=>this.2 i c y h1 (by simpa using h2)
 ·exact h.atom ha
theorem fO.append{as bs:List AV}{xs ys:List Value}(h1:fO g as xs)(h2:fO g bs ys):fO g (as++bs) (xs++ys):=by
 refine⟨by simp[h1.1,h2.1],fun i c y hc hy => ?_⟩
 rw[List.getElem?_append]at hc hy;have:=h1.1
 split at hc
 ·rename_i hi;rw[if_pos (by omega)]at hy
  exact h1.2 i c y hc hy
 ·rename_i hi;rw[if_neg (by omega)]at hy
  exact h2.2 _ c y hc (by rw[this];exact hy)
theorem fO.strip{as:List AV}{xs:List Value}(h:fO g as xs):fO g (as.map AV.strip) xs:=by
 refine⟨by simpa using h.1,fun i a x ha hx => ?_⟩
 rw[List.getElem?_map]at ha;cases hq:as[i]? with
 |none=>simp[hq]at ha
 |some b=>simp[hq]at ha;subst ha;exact (h.2 i b x hq hx).strip
theorem pW{c:Bool}{o id:Nat}{wr:List Nat}(h:o∈wr):o∈(if c=true then wr else id::wr):=by
 cases c
 ·exact List.mem_cons_of_mem _ h
 ·exact h
theorem aLK(hw:WF g H w){g1 g2:G}{H1 H2:List AObj}(h1:g1.io=(w.os,w.output))(h2:Step g1 H1 w g2 H2 w' []):Step g H w g H w' []:=by
 have hall:∀b,b<w.heap.size->w'.heap[b]? = w.heap[b]? := fun b hb=>h2.frame.2 b hb fun o ho=>by simp at ho
 have hio:w'.os=w.os/\w'.output=w.output:=by
  have:=h2.wf.whole.io;rw[h2.le.io,h1]at this;exact⟨(congrArg Prod.fst this).symm,(congrArg Prod.snd this).symm⟩
 refine⟨G.le.refl g,⟨fun b i x hx => ?_,hw.lt,fun o l hl=>Nat.lt_of_lt_of_le (hw.blk o l hl) h2.frame.1,hw.st,fun o l x hb => ?_,hw.priv,hw.inj,hw.whole.keep rfl rfl hio (fun b hb _=>hall b hb) fun o l y hl=>.inr ⟨o,l,y,hl,rfl⟩⟩,
  ⟨h2.frame.1,fun b hb _=>hall b hb⟩,fun _ _ _=>rfl,Nat.le_refl _,fun _ l' hl=>.inr ⟨l',hl,rfl⟩,fun _ _ _=>rfl⟩
 ·rw[cell_of_heap (hall b (hw.perm_lt hx))];exact hw.perm b i x hx
 ·exact (hw.obj o l x hb).keep (G.le.refl g) (hall l.b (hw.blk o l hb.loc))
theorem aBX{o:Oper}{fid:Nat}{first caps args:List AV}{vf vx vc:List Value}(hlf:fO g first vf)(hrx:fO g args vx)(hlc:fO g caps vc){call:Nat->List AV->List AObj->Out}(hcall:nY P glob call){site:Option Nat}
  {av:AV} {H':List AObj} {wr:List Nat} (h:cY call H site (.fn fid first caps) args=some (av,H',wr)) (hw:WF g H w) (hg:bI P glob g)
  (hrun0:∀Fn,P.funcs[fid]? = some Fn->(Fn.name == "runtime.NumGoroutine")=false->Fn.body.isNone=false->(execOp a.eval o).run P w=.ok (.enter fid (vf++vx++vc).toArray) w):
  yD P o a w fun v w'=>∃g',Step g H w g' H' w' wr/\VRel g' av v:=by
 simp only[cY]at h
 split at h
 ·cases h
 rename_i args' lent hlend
 split at h
 ·cases h
 rename_i v H2 wr2 hc;have hargs:fO g (first++args++caps) (vf++vx++vc):=(hlf.append hrx).append hlc
 obtain⟨l1,l2⟩:=pH hw hlend hargs;obtain⟨g1,hstep1,hlent⟩:=kN lent g H hw fun o ho=>.inl (l1 o ho);have hargs1:=(l2 g1 hlent).strip;obtain⟨⟨Fn,hfn,hname,hbody⟩,hcalls⟩:=hcall.1 fid _ _ v H2 wr2 hc g1 w _ hstep1.wf (hg.mono hstep1.le) hargs1;have hrun:=hrun0 Fn hfn hname hbody;refine .inr (.inr (.inl ⟨fid,_,w,hrun,hcalls.mono fun e w' he => ?_⟩));cases e with
 |panicked c=>exact he
 |outgrown=>exact he
 |returned rv=>
  obtain⟨g2,hstep2,hret⟩:=he
  split at h
  ·rename_i hemp;have hl0:lent=[]:=by simpa using hemp
   subst hl0;have hstep:=hstep1.trans hstep2;simp only[List.nil_append]at hstep
   split at h
   ·rename_i k rows;obtain⟨b,cap,rfl,hown⟩:=hret
    split at h
    ·rename_i id
     split at h
     ·rename_i hid;cases h;obtain⟨g3,hp,hle,hwf,hoth,hself,hv⟩:=aFr hstep.wf hown hid;refine⟨g3,⟨hstep.le.trans hle,hwf, ?_,fun o ho hn => ?_,by simpa [make]using hstep.len,fun o l' hl' => ?_,fun o ho hn => ?_⟩,hv⟩
      ·refine hstep.frame.weaken fun o ho => ?_
       split
       ·exact ho
       ·exact List.mem_cons_of_mem _ ho
      ·have hne:o≠id:=fun e=>by
        subst e
        split at hn
        ·rename_i hc;exact hn (by simpa using hc)
        ·simp at hn
       have hn':o∉wr2:=fun hm=>hn (pW hm);rw[make,getElem?_set_ne' _ _ (Ne.symm hne)];exact hstep.same o ho hn'
      ·by_cases e:o=id
       ·subst e;rw[hself l' hl'];exact .inl hown.hnew
       ·rw[hoth o e]at hl';exact hstep.track o l' hl'
      ·have hne:o≠id:=fun e=>by
        subst e
        split at hn
        ·rename_i hc;exact hn (by simpa using hc)
        ·simp at hn
       have hn':o∉wr2:=fun hm=>hn (pW hm);rw[hoth o hne];exact hstep.keep o ho hn'
     ·cases h
    ·cases h;obtain⟨g3,hs3,hv⟩:=aHh hstep.wf hown;exact⟨g3,(hstep.trans hs3).weaken fun o ho=>by simpa using ho,hv⟩
   ·cases h;rename_i hno;have:pD g2 H' w.heap.size w' av rv=VRel g2 av rv:=by
     cases av<;>first | rfl | exact absurd rfl (hno _ _)
    rw[this]at hret;exact⟨g2,hstep,hret⟩
  ·split at h
   ·rename_i hcond;cases h;simp only[Bool.and_eq_true]at hcond;obtain⟨⟨hwr,_⟩,hat⟩:=hcond;have hwr0:wr2=[]:=by simpa using hwr
    subst hwr0;have:pD g2 H2 w.heap.size w' av rv=VRel g2 av rv:=by
     cases av<;>first | rfl | (simp[AV.atomic,AV.atom]at hat)
    rw[this]at hret;exact⟨g,aLK hw (hstep1.le.io.trans hw.whole.io) hstep2,hret.atomic hat⟩
   ·cases h
theorem aKF{o:Oper}{fid:Nat}{first caps args:List AV}{vf vx vc:List Value}(hlf:fO g first vf)(hrx:fO g args vx)(hlc:fO g caps vc){call:Nat->List AV->List AObj->Out}(hcall:nY P glob call){site:Option Nat}
  {av:AV} {H':List AObj} {wr:List Nat} (h:hD call H site (.fn fid first caps) args=some (av,H',wr)) (hw:WF g H w) (hg:bI P glob g)
  (hrun0:∀Fn,P.funcs[fid]? = some Fn->(Fn.name == "runtime.NumGoroutine")=false->Fn.body.isNone=false->(execOp a.eval o).run P w=.ok (.enter fid (vf++vx++vc).toArray) w):
  yD P o a w fun v w'=>∃g',Step g H w g' H' w' wr/\VRel g' av v:=by
 simp only[hD]at h
 split at h
 ·cases h
 rename_i v H2 wr2 hc;have hargs:fO g (first++args++caps) (vf++vx++vc):=(hlf.append hrx).append hlc
 obtain⟨⟨Fn,hfn,hname,hbody⟩,hcalls⟩:=hcall.1 fid _ _ v H2 wr2 hc g w _ hw hg hargs;have hrun:=hrun0 Fn hfn hname hbody;refine .inr (.inr (.inl ⟨fid,_,w,hrun,hcalls.mono fun e w' he => ?_⟩));cases e with
 |panicked c=>exact he
 |outgrown=>exact he
 |returned rv=>
  obtain⟨g2,hstep,hret⟩:=he
  split at h
  ·rename_i k rows;obtain⟨b,cap,rfl,hown⟩:=hret
   split at h
   ·rename_i id
    split at h
    ·rename_i hid;cases h;obtain⟨g3,hp,hle,hwf,hoth,hself,hv⟩:=aFr hstep.wf hown hid;refine⟨g3,⟨hstep.le.trans hle,hwf, ?_,fun o ho hn => ?_,by simpa [make]using hstep.len,fun o l' hl' => ?_,fun o ho hn => ?_⟩,hv⟩
     ·refine hstep.frame.weaken fun o ho => ?_
      split
      ·exact ho
      ·exact List.mem_cons_of_mem _ ho
     ·have hne:o≠id:=fun e=>by
       subst e
       split at hn
       ·rename_i hc;exact hn (by simpa using hc)
       ·simp at hn
      have hn':o∉wr2:=fun hm=>hn (pW hm);rw[make,getElem?_set_ne' _ _ (Ne.symm hne)];exact hstep.same o ho hn'
     ·by_cases e:o=id
      ·subst e;rw[hself l' hl'];exact .inl hown.hnew
      ·rw[hoth o e]at hl';exact hstep.track o l' hl'
     ·have hne:o≠id:=fun e=>by
       subst e
       split at hn
       ·rename_i hc;exact hn (by simpa using hc)
       ·simp at hn
      have hn':o∉wr2:=fun hm=>hn (pW hm);rw[hoth o hne];exact hstep.keep o ho hn'
    ·cases h
   ·cases h;obtain⟨g3,hs3,hv⟩:=aHh hstep.wf hown;exact⟨g3,(hstep.trans hs3).weaken fun o ho=>by simpa using ho,hv⟩
  ·cases h;rename_i hno;have:pD g2 H' w.heap.size w' av rv=VRel g2 av rv:=by
    cases av<;>first | rfl | exact absurd rfl (hno _ _)
   rw[this]at hret;exact⟨g2,hstep,hret⟩
theorem aQb{ty:TypeId}{ts:Array TypeId}{F:Operand}{X:Array Operand}{f:AOpd}{xs:List AOpd}(hF:eO glob F=some f)(hX:rU glob X.toList=some xs){call:Nat->List AV->List AObj->Out}(hcall:nY P glob call){site:Option Nat}
  {av:AV} {H':List AObj} {wr:List Nat} (h:evW call H ρ site (.callr f xs)=some (av,H',wr)) (hw:WF g H w) (hg:bI P glob g) (hs:aT g ρ a.tmps):
  yD P ⟨dst,.call { callee:=.value F,args:=X,argTypes:=ts },ty,pos,after,guard⟩ a w fun v w'=>∃g',Step g H w g' H' w' wr/\VRel g' av v:=by
 have hrf:=aJ hF hg hs;have hrx:=lS hX hg hs;simp only[evW]at h;generalize hfv:f.ev ρ=fv at h hrf;cases fv with
 |fn fid first caps=>
  obtain⟨vf,vc,ef,hlf,hlc⟩:=hrf.fn_inv;refine aKF hlf hrx hlc hcall h hw hg fun Fn hfn hname hbody => ?_;have harr:(vf++X.map a.eval++vc)=(vf.toList++X.toList.map a.eval++vc.toList).toArray:=by
   apply Array.ext';simp
  have hn:¬(Fn.name = "runtime.NumGoroutine"):=by simpa using hname
  have hb:¬(Fn.body=none):=fun e=>by rw[e]at hbody;simp at hbody
  rw[<- harr];simp[execOp,resolve,ef,Deferred.ofValue,invoke,callFunc,hfn,hn,hb]
 |_=>simp[hD]at h
theorem aQc{ty:TypeId}{ts:Array TypeId}{F:Operand}{X:Array Operand}{f:AOpd}{xs:List AOpd}(hF:eO glob F=some f)(hX:rU glob X.toList=some xs){call:Nat->List AV->List AObj->Out}(hcall:nY P glob call){site:Option Nat}
  {av:AV} {H':List AObj} {wr:List Nat} (h:evW call H ρ site (.callv f xs)=some (av,H',wr)) (hw:WF g H w) (hg:bI P glob g) (hs:aT g ρ a.tmps):
  yD P ⟨dst,.call { callee:=.value F,args:=X,argTypes:=ts },ty,pos,after,guard⟩ a w fun v w'=>∃g',Step g H w g' H' w' wr/\VRel g' av v:=by
 have hrf:=aJ hF hg hs;have hrx:=lS hX hg hs;simp only[evW]at h;generalize hfv:f.ev ρ=fv at h hrf;cases fv with
 |fn fid first caps=>
  obtain⟨vf,vc,ef,hlf,hlc⟩:=hrf.fn_inv;refine aBX hlf hrx hlc hcall h hw hg fun Fn hfn hname hbody => ?_;have harr:(vf++X.map a.eval++vc)=(vf.toList++X.toList.map a.eval++vc.toList).toArray:=by
   apply Array.ext';simp
  have hn:¬(Fn.name = "runtime.NumGoroutine"):=by simpa using hname
  have hb:¬(Fn.body=none):=fun e=>by rw[e]at hbody;simp at hbody
  rw[<- harr];simp[execOp,resolve,ef,Deferred.ofValue,invoke,callFunc,hfn,hn,hb]
 |yld oy vy=>
  simp only[cY]at h
  split at h
  ·cases h
  rename_i args' lent hlend
  split at h
  ·cases h
  rename_i b H2 wr2 hc
  split at h
  rotate_left
  ·cases h
  rename_i hcond;simp only[Bool.and_eq_true,List.isEmpty_iff]at hcond;obtain⟨hl0,hat⟩:=hcond;subst hl0;cases h;obtain⟨l1,l2⟩:=pH hw hlend hrx;obtain⟨g1,hstep1,hlent⟩:=kN [] g H hw fun o ho=>.inl (l1 o ho);have hargs1:=(l2 g1 hlent).strip;generalize hev:a.eval F=fx at hrf;cases hrf with
  |yld _ _ ly r hl hv hh=>
   obtain⟨rec,hheap,hsz,hround⟩:=hcall.2 oy vy _ _ _ _ _ hc g1 w r _ hstep1.wf (hg.mono hstep1.le) ((VRel.yld oy vy ly r hl hv hh).mono hstep1.le) hargs1;have hrun:=run_yield (P:=P) (args:=X.map a.eval) hheap (by simpa using hsz.symm)
   have harr:(X.toList.map a.eval).toArray=X.map a.eval:=by apply Array.ext';simp
   refine .inr (.inr (.inr ⟨r,_,_,_,_,w, ?_,hround.mono fun e w' he => ?_⟩))
   ·rw[harr];simp[execOp,resolve,hev,Deferred.ofValue,invoke,hrun]
   ·cases e with
    |panicked c=>exact he
    |outgrown=>exact he
    |returned rv=>
     obtain⟨g2,hstep2,hret⟩:=he;have hstep:=hstep1.trans hstep2;simp only[List.nil_append]at hstep;exact⟨g2,hstep,hret⟩
 |_=>simp[cY]at h
theorem aKG{m:String}{t:TypeId}{f:FuncId}(hm:aH5 P m t=some f)(n:Nat)(v:Value):(method (n+1) t v m).run P w=.ok (f,v) w:=by
 unfold aH5 at hm
 split at hm
 ·rename_i i e hi hu
  split at hm
  ·rename_i r hr
   split at hm
   ·rename_i hp
    split at hm
    ·rename_i f' hf;cases hm;have hp':r.path = #[]:=by simpa using hp
     simp[method,typeInfo,hi,hr,hp',follow,hf,receiverAt,run_underlying hu,Place.get]
    ·cases hm
   ·cases hm
  ·cases hm
 ·cases hm
theorem aSV{ty:TypeId}{ts:Array TypeId}{F:Operand}{m:String}{X:Array Operand}{f:AOpd}{xs:List AOpd}(hF:eO glob F=some f)(hX:rU glob X.toList=some xs){call:Nat->List AV->List AObj->Out}(hcall:nY P glob call){site:Option Nat}
  {av:AV} {H':List AObj} {wr:List Nat} (h:evW call H ρ site (.invk (aGg P m) f xs)=some (av,H',wr)) (hw:WF g H w) (hg:bI P glob g) (hs:aT g ρ a.tmps):
  yD P ⟨dst,.call { callee:=.invoke F m,args:=X,argTypes:=ts },ty,pos,after,guard⟩ a w fun v w'=>∃g',Step g H w g' H' w' wr/\VRel g' av v:=by
 have hrf:=aJ hF hg hs;have hrx:=lS hX hg hs;simp only[evW]at h;generalize hfv:f.ev ρ=fv at h hrf;cases fv with
 |ifc t v=>
  dsimp only at h
  split at h
  ·rename_i fid hl;generalize hex:a.eval F=ex at hrf;cases hrf with
   |ifc t v x hv hx=>
    refine aBX (vf:=[x]) (vc:=[]) ⟨rfl,fun i c y h1 h2 => ?_⟩ hrx ⟨rfl,fun i c y h1 h2=>by simp at h1⟩ hcall h hw hg fun Fn hfn hname hbody => ?_
    ·cases i with
     |zero=>simp at h1 h2;subst h1;subst h2;exact hx
     |succ i=>simp at h1
    ·have hn:¬(Fn.name = "runtime.NumGoroutine"):=by simpa using hname
     have hb:¬(Fn.body=none):=fun e=>by rw[e]at hbody;simp at hbody
     have h0:(#[Value.iface t x]++Array.map a.eval X)[0]? = some (.iface t x):=by simp[Array.getElem?_append]
     have harr:(#[x]++(Array.map a.eval X).extract 0 X.size)=([x]++X.toList.map a.eval++[]).toArray:=by
      apply Array.ext';simp;exact List.take_of_length_le (by simp)
     rw[<- harr];simp[execOp,resolve,invoke,callMethod,hex,h0,callFunc,hfn,hn,hb,Made.depth,aKG (aKx P hl) (P.types.size+99)]
  ·cases h
 |_=>simp at h
theorem aGl{d:TypeDesc}{α:Type}{x:Option α}{y:α}(h:(if (d matches .int _)then none else x)=some y):(∀k,d≠.int k)/\x=some y:=by
 cases d<;>first | (simp at h;done) | exact⟨fun k e=>(by cases e),by simpa using h⟩
theorem aHi{o:Oper}{op:AOp}(hc:cOp P glob o=some op){call:Nat->List AV->List AObj->Out}(hcall:nY P glob call){site:Option Nat}{av:AV}{H':List AObj}{wr:List Nat}(h:evW call H ρ site op=some (av,H',wr))(hw:WF g H w)(hg:bI P glob g)(hs:aT g ρ a.tmps):
  yD P o a w fun v w'=>∃g',Step g H w g' H' w' wr/\VRel g' av v:=by
 obtain⟨dst,o,type,pos,after,guard⟩:=o;unfold cOp at hc;dsimp only at hc
 split at hc
 ·obtain⟨x,hx,rfl⟩:=map_some hc;simp[evW]at h
 ·obtain⟨x,hx,rfl⟩:=map_some hc;simp[evW]at h
 ·split at hc
  ·cases hc;simp[evW]at h
  ·cases hc
 ·split at hc
  ·obtain⟨zs,hz,rfl⟩:=map_some hc;exact aNR hz h hw
  ·obtain⟨zs,hz,rfl⟩:=map_some hc;exact aQ8 hz h hw
 ·split at hc
  ·rename_i n x h1 h2
   split at hc
   ·cases hc;exact aW6 h2 h hw hg hs
   ·cases hc;exact aW5 h2 h hw hg hs
  ·cases hc
 ·repeat' split at hc
  all_goals first | (cases hc;done)|(obtain⟨x,hx,rfl⟩:=map_some hc;simp[evW]at h)
 ·split at hc
  ·rename_i e ht
   split at hc
   ·rename_i k zs ps h1 h2 h3
    split at hc
    ·rename_i hcond;cases hc;exact aW9 ht h1 h2 h3 hcond.2.1 hcond.2.2.1 hcond.2.2.2 h hw hg hs
    ·cases hc
   ·cases hc
  ·cases hc
 ·split at hc
  ·cases hc;simp[evW]at h
  ·cases hc
 ·split at hc
  ·rename_i n x v h1 h2 h3;cases hc;exact aQ7 h1 h2 h3 h hw hg hs
  ·cases hc
 ·obtain⟨x,hx,rfl⟩:=map_some hc;simp[evW]at h
 ·split at hc
  ·split at hc
   ·obtain⟨x,hx,rfl⟩:=map_some hc;simp[evW]at h
   ·obtain⟨x,hx,rfl⟩:=map_some hc;simp[evW]at h
   ·cases hc
  ·split at hc
   ·cases hc;simp[evW]at h
   ·cases hc
 ·obtain⟨x,hx,rfl⟩:=map_some hc;simp[evW]at h
 ·split at hc
  ·cases hc;simp[evW]at h
  ·cases hc
 ·split at hc
  ·cases hc;simp[evW]at h
  ·cases hc
 ·split at hc
  ·rename_i e ht
   split at hc
   ·rename_i i zs l c h1 h2 h3 h4
    split at hc
    ·rename_i hcond;cases hc;exact aW7 ht h1 h2 h3 h4 hcond.2.1 hcond.2.2 h hw hg hs
    ·cases hc
   ·cases hc
  ·cases hc
 ·repeat' split at hc
  all_goals first | (cases hc;done)|(cases hc;simp[evW]at h)
 ·repeat' split at hc
  all_goals first | (cases hc;done)|(cases hc;simp[evW]at h)
 ·repeat' split at hc
  all_goals first | (cases hc;done)|(cases hc;simp[evW]at h)
 ·repeat' split at hc
  all_goals first | (cases hc;done)|(cases hc;simp[evW]at h)
 ·repeat' split at hc
  all_goals first | (cases hc;done)|(cases hc;simp[evW]at h)
 ·obtain⟨x,hx,rfl⟩:=map_some hc;simp[evW]at h
 ·split at hc
  ·cases hc
  ·obtain⟨x,hx,rfl⟩:=map_some hc;simp[evW]at h
  ·cases hc
 ·cases hc;exact aQa h hw
 ·split at hc
  ·rename_i kt et ht
   split at hc
   ·rename_i K m k v hk h1 h2 h3;cases hc;exact aWa ht hk h1 h2 h3 h hw hg hs
   ·cases hc
  ·cases hc
 ·repeat' split at hc
  all_goals first | (cases hc;done)|(cases hc;simp[evW]at h)
 ·split at hc
  ·repeat' split at hc
   all_goals first | (cases hc;done)|(cases hc;simp[evW]at h)
  ·rename_i s x t u h1 h2;obtain⟨S,X,rfl,hS,hX⟩:=aHf h1;cases mE h2
   split at hc
   ·rename_i e d ht hu;obtain⟨hd,hc⟩:=aGl hc
    split at hc
    ·rename_i i hi
     split at hc
     ·rename_i z hz
      split at hc
      ·rename_i hcond
       split at hc
       ·cases hc;exact aSU ht hu hd hi hz hS hX hcond.2 h hw hg hs
       ·cases hc;exact aST ht hu hd hi hz hS hX hcond.2 h hw hg hs
      ·cases hc
     ·cases hc
    ·cases hc
   ·cases hc
  ·rename_i x y t u h1 h2;obtain⟨X,Y,rfl,hX,hY⟩:=aHf h1;cases mE h2
   split at hc
   ·rename_i e ht
    split at hc
    ·rename_i k hk
     split at hc
     ·cases hc;exact aW8 ht hk hX hY h hw hg hs
     ·cases hc
    ·cases hc
   ·cases hc
  ·cases hc;simp[evW]at h
  ·cases hc;simp[evW]at h
  ·cases hc
 ·split at hc
  ·rename_i f xs h1 h2;cases hc;exact aSV h1 h2 hcall h hw hg hs
  ·cases hc
 ·split at hc
  ·rename_i f xs h1 h2;cases hc
   split at h
   ·exact aQb h1 h2 hcall h hw hg hs
   ·exact aQc h1 h2 hcall h hw hg hs
  ·cases hc
 ·cases hc
end
end Go.AM
end
