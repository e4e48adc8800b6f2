/- Part 6: lemmas for the last text. -/
import Derived.Test.YtfpndhocfmfgdaaGreatDoorK05
import Derived.CallsIn
import Derived.OrdersIn
import Derived.TacticsIn
import Derived.LoopNIn
import Derived.RangeFuncRecord
set_option linter.unusedVariables false
set_option linter.unusedSimpArgs false
section
namespace Go.AM
open Go
section
variable {P:Program}{glob:Glob}{g:G}{H:List AObj}{w:World}{ρ:List AV}{a:Act}
variable {dst:Option Tmp}{type:TypeId}{pos:String}{after:Array Edge}{guard:Option (Nat×Bool)}
def yD(P:Program)(o:Oper)(a:Act)(w:World)(R:Value->World->Prop):Prop:=
 (∃v w',(execOp a.eval o).run P w=.ok (.value v) w'/\R v w')∨(∃w',(execOp a.eval o).run P w=.ok .skip w'/\R Go.undef w') ∨
 (∃f args w1,(execOp a.eval o).run P w=.ok (.enter f args) w1/\Calls P f args w1 fun e w'=>match e with | .returned v=>R v w' | _=>False) ∨
 (∃l f tmps assign body w1,(execOp a.eval o).run P w=.ok (.round l f tmps assign body) w1/\RoundIn Fence.wide 0 P l f tmps assign body w1 fun e w'=>match e with | .returned v=>R v w' | _=>False)
def fr(r:Option Nat):Fence:={ Fence.wide with round:=r }
theorem yD.nodefer{o:Oper}{R:Value->World->Prop}(h:yD P o a w R)(c:Call):o.op≠.defer c:=fun e=>by
 have hex:(execOp a.eval o).run P w=(Sem.run P (resolve a.eval c o.type) w).andThen fun d w'=>.ok (.defer d) w':=by
  obtain⟨dst,op,ty,pos,after,guard⟩:=o;simp only at e;subst e;simp only[execOp,Sem.run_bind,Sem.run_pure]
 rcases h with⟨v,w',hr,_⟩ | ⟨w',hr,_⟩ | ⟨f,args,w1,hr,_⟩ | ⟨l,f,t,b,c',w1,hr,_⟩ <;>
 ·rw[hex]at hr;cases hq:Sem.run P (resolve a.eval c o.type) w with
  |ok d w2=>rw[hq]at hr;simp[Result.andThen]at hr
  |halt x w2=>rw[hq]at hr;simp[Result.andThen]at hr
theorem yD.wp{o:Oper}{R:Value->World->Prop}(h:yD P o a w R){next:Act->World->Prop}{Q:Exit->Act->World->Prop}(hn:∀v w',R v w'->next (a.put o.dst v) w'):
  ∀{r:Option Nat},o.wpIn (fr r) 0 P a w next Q:=by
 intro r;have hnd:=h.nodefer;have hsem:o.semAt (fr r).round a.eval=execOp a.eval o:=by
  cases r with
  |none=>rfl
  |some l=>exact Oper.semAt_some l a.eval o hnd
 refine⟨fun _ _=>trivial, ?_⟩;rw[hsem];rcases h with⟨v,w',hr,hR⟩ | ⟨w',hr,hR⟩ | ⟨f,args,w1,hr,hR⟩ | ⟨l,f,t,b,c,w1,hr,hR⟩
 ·rw[hr];exact hn v w' hR
 ·rw[hr];exact hn _ w' hR
 ·rw[hr];refine⟨fun h=>(by simp[fr,Fence.wide]at h), ?_⟩
  have h1:CallsIn Fence.wide (0 - 1) P f args w1 _:=callsIn_wide.2 hR;refine CallsIn.mono (F:=fr r) h1 fun e w' he => ?_;cases e with
  |returned v=>exact hn v w' he
  |panicked c=>exact he.elim
  |outgrown=>exact he.elim
 ·rw[hr];refine⟨fun h=>(by simp[fr,Fence.wide]at h), ?_⟩
  refine RoundIn.mono (F:=fr r) hR fun e w' he => ?_;cases e with
  |returned v=>exact hn v w' he
  |panicked c=>exact he.elim
  |outgrown=>exact he.elim
theorem gW.does{o:Oper}{R:Value->World->Prop}(h:gW P o a w R):yD P o a w R:=.inl h
theorem mM(b:Nat):∀(vs:List Value) (o:Nat) (w:World),(w.setCells b o vs).heap.size=w.heap.size/\∀b',b'≠b->(w.setCells b o vs).heap[b']? = w.heap[b']?
 | [],_,_=>⟨rfl,fun _ _=>rfl⟩
 |v::r,o,w=>by
  obtain⟨h1,h2⟩:=mM b r (o+1) (w.setCell ⟨b,o,none⟩ v);refine⟨by rw[World.setCells,h1,World.size_setCell],fun b' hb => ?_⟩
  rw[World.setCells,h2 b' hb];simp[World.setCell,Array.getElem?_modify,Ne.symm hb]
theorem sI(b:Nat):∀(vs:List Value) (o:Nat) (w:World) (cs:Array Value) (t:TypeId) (fz:Nat×Nat),w.heap[b]? = some (.cells cs t fz)->∃cs',(w.setCells b o vs).heap[b]? = some (.cells cs' t fz)/\cs'.size=cs.size
 | [],_,_,cs,_,_,h=>⟨cs,h,rfl⟩
 |v::r,o,w,cs,t,fz,h=>by
  have h1:(w.setCell ⟨b,o,none⟩ v).heap[b]? = some (.cells (cs.setIfInBounds o v) t fz):=by
   simp[World.setCell,Array.getElem?_modify,h]
  obtain⟨cs',h2,h3⟩:=sI b r (o+1) _ _ t fz h1;exact⟨cs',h2,by rw[h3];simp⟩
theorem aKE{w:World}{b:Nat}{cs:Array Value}{t:TypeId}(h:w.heap[b]? = some (.cells cs t (0,0))):aNH w b:=fun j _=>by
 simp[World.frozen?,h]
theorem VRel.oneCell{v:AV}{x:Value}(h:VRel g v x)(hok:v.cellOk=true):x.oneCell'=true:=by
 cases h<;>first | rfl | (simp[AV.cellOk]at hok)
theorem fO.oneCell{vs:List AV}{xs:List Value}(h:fO g vs xs)(hok:vs.all AV.cellOk=true):∀x∈xs,x.oneCell'=true:=by
 intro x hx;obtain⟨i,hi⟩:=List.mem_iff_getElem?.1 hx;have hlt:i<vs.length:=by rw[h.1];exact (List.getElem?_eq_some_iff.1 hi).1
 exact (h.2 i vs[i] x (by simp[hlt]) hi).oneCell (List.all_eq_true.1 hok _ (List.getElem_mem hlt))
theorem uC(w:World)(a:Addr)(v:Value):(w.setCell a v).os=w.os/\(w.setCell a v).output=w.output:=by
 unfold World.setCell
 split<;>exact⟨rfl,rfl⟩
theorem qI(b:Nat):∀(vs:List Value) (off:Nat) (w:World),(w.setCells b off vs).os=w.os/\(w.setCells b off vs).output=w.output
 | [],_,_=>⟨rfl,rfl⟩
 |v::vs,off,w=>by
  have h1:=uC w ⟨b,off,none⟩ v;have h2:=qI b vs (off+1) (w.setCell ⟨b,off,none⟩ v);exact⟨h2.1.trans h1.1,h2.2.trans h1.2⟩
theorem Step.write(hw:WF g H w){o:Nat}{l:Loc}{x x':AObj}(hb:Backed g H o l x){off:Nat}{xs:List Value}
  (hver:x'.ver=x.ver) (hal:x'.alive=true)
  (hobj:aA8 g (w.setCells l.b off xs) l x'):Step g H w g (H.set o x') (w.setCells l.b off xs) [o]:=by
 obtain⟨h1,h2⟩:=mM l.b xs off w;have hg:g.setObj o l=g:=by
  cases g with
  |mk p ob wh io=>
   have:=hb.loc;simp only[G.setObj,G.mk.injEq,true_and,and_true];funext o'
   by_cases e:o'=o
   ·subst e;simpa using this.symm
   ·simp[e]
 have:=Step.update (w':=w.setCells l.b off xs) hw o x' l (hw.lt o l hb.loc) (by rw[h1];exact Nat.le_refl _)
  (fun b _ hne=>h2 b (Ne.symm (hne l x hb))) (by rw[h1];exact hw.blk o l hb.loc) (.inr ⟨l,x,hb,rfl⟩) (by rw[hver];exact hb.st) hal
  (fun l0 h0=>by rw[hb.loc]at h0;cases h0;exact⟨Nat.le_refl _,fun _=>⟨Nat.le_refl _,fun _=>rfl⟩⟩)
  (fun _=>by rw[hg];exact hobj) (qI _ _ _ _)
 rwa [hg]at this
theorem eV(hw:WF g H w){vs:List AV}{pv:AV}{H':List AObj}{wr:List Nat}(h:storeCells H vs pv=some (H',wr)){x:Value}(hx:VRel g pv x)
  {xs:List Value} (hl:fO g vs xs):
  ∃b off,x=.pointer (some ⟨b,off,none⟩)/\(∀j,j<xs.length->(w.cell? ⟨b,off+j,none⟩).isSome=true)/\(∀j,j<xs.length->w.frozen? ⟨b,off+j,none⟩=false) /\
   Step g H w g H' (w.setCells b off xs) wr:=by
 cases hx with
 |ptr o v off l ad hlo hv hh=>
  simp only[storeCells]at h
  split at h
  ·rename_i v' cells hH
   split at h
   ·rename_i hc;simp only[Option.some.injEq,Prod.mk.injEq]at h;obtain⟨rfl,rfl⟩:=h;obtain⟨rfl,hlen⟩:=hc;have hst:l.st=v':=by
     have:=hw.st o _ l hH hlo;simp only[AObj.ver]at this;omega
    have hb:Backed g H o l (.box v' cells):=⟨hH,rfl,hlo,hst⟩;obtain⟨h0,hsoft,hcell⟩:=hw.obj o l _ hb;have ha:=hh hst h0;subst ha;have hin:∀j,j<xs.length->(w.cell? ⟨l.b,off+j,none⟩).isSome=true:=fun j hj=>by
     have:=hl.1;obtain⟨y,hy,_⟩:=hcell (off+j) (cells[off+j]'(by omega)) (by simp)
     rw[hy];rfl
    refine⟨l.b,off,rfl,hin,fun j hj=>hsoft _ (hin j hj),Step.write hw hb rfl rfl ⟨h0,fun j hj => ?_,fun j c hc => ?_⟩⟩
    ·rw[World.frozen?_setCells];refine hsoft j ?_
     by_cases hr:off<=j/\j<off+xs.length
     ·have:=hin (j - off) (by omega)
      rwa [show off+(j - off)=j by omega]at this
     ·rwa [World.cell?_setCells_out l.b xs off w ⟨l.b,j,none⟩ (fun _ _=>by simp;omega)]at hj
    ·rw[vC _ _ _ hlen]at hc;have hlx:=hl.1
     by_cases hr:off<=j/\j<off+vs.length
     ·rw[if_pos hr]at hc;have:=World.cell?_setCells_in l.b xs off w hin (j - off) (by omega)
      rw[show off+(j - off)=j by omega]at this
      exact⟨_,this,hl.2 (j - off) c _ hc (by simp)⟩
     ·rw[if_neg hr]at hc;obtain⟨y,hy,hr'⟩:=hcell j c hc;exact⟨y,by rw[World.cell?_setCells_out l.b xs off w ⟨l.b,j,none⟩ (fun _ _=>by simp;omega)];exact hy,hr'⟩
   ·cases h
  ·rename_i v' ty cells hH
   split at h
   ·rename_i hc;simp only[Option.some.injEq,Prod.mk.injEq]at h;obtain⟨rfl,rfl⟩:=h;obtain⟨rfl,hlen⟩:=hc;have hst:l.st=v':=by
     have:=hw.st o _ l hH hlo;simp only[AObj.ver]at this;omega
    have hb:Backed g H o l (.tbox v' ty cells):=⟨hH,rfl,hlo,hst⟩;obtain⟨h0,⟨cs,hblk,hcs⟩,hcell⟩:=hw.obj o l _ hb;have hsoft:aNH w l.b:=aKE hblk;have ha:=hh hst h0;subst ha;have hin:∀j,j<xs.length->(w.cell? ⟨l.b,off+j,none⟩).isSome=true:=fun j hj=>by
     have:=hl.1;obtain⟨y,hy,_⟩:=hcell (off+j) (cells[off+j]'(by omega)) (by simp)
     rw[hy];rfl
    refine⟨l.b,off,rfl,hin,fun j hj=>hsoft _ (hin j hj),Step.write hw hb rfl rfl ⟨h0, ?_,fun j c hc => ?_⟩⟩
    ·obtain⟨cs',h1,h2⟩:=sI l.b xs off w cs ty (0,0) hblk;exact⟨cs',h1,by rw[h2,hcs,aAw _ _ _ hlen]⟩
    ·rw[vC _ _ _ hlen]at hc;have hlx:=hl.1
     by_cases hr:off<=j/\j<off+vs.length
     ·rw[if_pos hr]at hc;have:=World.cell?_setCells_in l.b xs off w hin (j - off) (by omega)
      rw[show off+(j - off)=j by omega]at this
      exact⟨_,this,hl.2 (j - off) c _ hc (by simp)⟩
     ·rw[if_neg hr]at hc;obtain⟨y,hy,hr'⟩:=hcell j c hc;exact⟨y,by rw[World.cell?_setCells_out l.b xs off w ⟨l.b,j,none⟩ (fun _ _=>by simp;omega)];exact hy,hr'⟩
   ·cases h
  ·cases h
 |vp o v n k1 i off l ad hlo hv hn hh=>
  simp only[storeCells]at h
  split at h
  ·rename_i v' k rows hH
   split at h
   ·rename_i hc;obtain⟨rfl,hlen,rfl⟩:=hc
    split at h
    ·rename_i row hrow
     split at h
     ·rename_i hcc;simp only[Option.some.injEq,Prod.mk.injEq]at h;obtain⟨rfl,rfl⟩:=h;have hst:l.st=v':=by
       have:=hw.st o _ l hH hlo;simp only[AObj.ver]at this;omega
      have hb:Backed g H o l (.vec v' k rows):=⟨hH,rfl,hlo,hst⟩;obtain⟨h0,hlk,hcap,hsoft,hk,hsome,hcell⟩:=hw.obj o l _ hb;have ha:=hh hst (by omega)
      subst ha;have hls:=hl.strip1;have hlx:=hls.1;simp only[List.length_map]at hlx;have hi:i<rows.length:=(List.getElem?_eq_some_iff.1 hrow).1;have hrk:=hk row (List.mem_of_getElem? hrow);have hin:∀j,j<xs.length->(w.cell? ⟨l.b,i*k+off+j,none⟩).isSome=true:=fun j hj=>by
       rw[Nat.add_assoc];obtain⟨_,y,hy,_⟩:=hcell i (off+j) row (row[off+j]'(by omega)) hrow (by simp)
       rw[hy];rfl
      refine⟨l.b,i*k+off,rfl,hin,fun j hj=>hsoft _ (hin j hj),Step.write hw hb rfl rfl ⟨by simpa using h0,hlk,by simpa using hcap,fun j hj => ?_,fun r hr => ?_,fun j hj => ?_,fun i' j r c h1 h2 => ?_⟩⟩
      ·rw[World.frozen?_setCells];refine hsoft j ?_
       by_cases hr:i*k+off<=j/\j<i*k+off+xs.length
       ·have:=hin (j - (i*k+off)) (by omega)
        rwa [show i*k+off+(j - (i*k+off))=j by omega]at this
       ·rwa [World.cell?_setCells_out l.b xs (i*k+off) w ⟨l.b,j,none⟩ (fun _ _=>by simp;omega)]at hj
      ·rcases List.mem_or_eq_of_mem_set hr with hr' | rfl
       ·exact hk r hr'
       ·rw[aAw _ _ _ (by simpa using hcc.1)];exact hrk
      ·by_cases hr:i*k+off<=j/\j<i*k+off+xs.length
       ·have:=World.cell?_setCells_in l.b xs (i*k+off) w hin (j - (i*k+off)) (by omega)
        rw[show i*k+off+(j - (i*k+off))=j by omega]at this
        rw[this];rfl
       ·rw[World.cell?_setCells_out l.b xs (i*k+off) w ⟨l.b,j,none⟩ (fun _ _=>by simp;omega)]
        exact hsome j hj
      ·by_cases e:i'=i
       ·subst e;simp[hi]at h1;subst h1;rw[vC _ _ _ (by simpa using hcc.1)]at h2
        simp only[List.length_map]at h2
        by_cases hr:off<=j/\j<off+vs.length
        ·rw[if_pos hr]at h2;have:=World.cell?_setCells_in l.b xs (i'*k+off) w hin (j - off) (by omega)
         rw[show i'*k+off+(j - off)=i'*k+j by omega]at this
         exact⟨List.all_eq_true.1 hcc.2 c (List.mem_of_getElem? h2),_,this,hls.2 (j - off) c _ h2 (by simp)⟩
        ·rw[if_neg hr]at h2;obtain⟨hs,y,hy,hr'⟩:=hcell i' j row c hrow h2;exact⟨hs,y,by rw[World.cell?_setCells_out l.b xs (i'*k+off) w ⟨l.b,i'*k+j,none⟩ (fun _ _=>by simp;omega)];exact hy,hr'⟩
       ·rw[getElem?_set_ne' _ _ (Ne.symm e)]at h1;obtain⟨hs,y,hy,hr'⟩:=hcell i' j r c h1 h2;refine⟨hs,y, ?_,hr'⟩;rw[World.cell?_setCells_out l.b xs (i*k+off) w ⟨l.b,i'*k+j,none⟩ (fun _ _ => ?_)]
        ·exact hy
        ·have hj:j<k:=by
          have:=(List.getElem?_eq_some_iff.1 h2).1;have:=hk r (List.mem_of_getElem? h1);omega
         by_cases hlt:i'*k+j<i*k+off
         ·exact .inl hlt
         ·by_cases hge:i*k+off+xs.length<=i'*k+j
          ·exact .inr hge
          ·exfalso;have hoff:i'*k+j - i*k<k:=by have:=hcc.1;omega
           exact e (aJK (j:=j) (j':=i'*k+j - i*k) hj hoff (by omega)).1
     ·cases h
    ·cases h
   ·cases h
  ·cases h
 |_=>simp[storeCells]at h
theorem aQ7{t:TypeId}{n:Nat}{X V:Operand}{x v:AOpd}(ht:size? P t=some n)(hx:eO glob X=some x)(hv:eO glob V=some v){call:Nat->List AV->List AObj->Out}{site:Option Nat}
  {av:AV} {H':List AObj} {wr:List Nat} (h:evW call H ρ site (.store n x v)=some (av,H',wr)) (hw:WF g H w) (hg:bI P glob g) (hs:aT g ρ a.tmps):
  yD P ⟨dst,.store t X V,type,pos,after,guard⟩ a w fun v w'=>∃g',Step g H w g' H' w' wr/\VRel g' av v:=by
 simp only[evW]at h
 split at h
 ·rename_i hc
  split at h
  ·rename_i H1 wr1 hst;cases h;have hl:=(aJ hv hg hs).cells hc.2;obtain⟨b,off,ex,hin,hfr,hstep⟩:=eV hw hst (aJ hx hg hs) hl;have hrun:=run_storeCells_cells (P:=P) b off (a.eval V).cells.toList 0 w (by simpa using hin) (by simpa using hfr) (hl.oneCell hc.2)
   have hsz:(a.eval V).cells.size=n:=by have:=hl.1;simp at this;omega
   refine .inr (.inl ⟨_, ?_,g,hstep,.undef _⟩);simp only[execOp,ex,Instr.storeAt,Sem.run_bind,Instr.sureAddr,Sem.run_pure,Result.andThen_ok,storeVar,fI ht,hsz,ne_eq,not_true_eq_false,if_false,hrun,Nat.add_zero]
  ·cases h
 ·cases h
end
section
variable {P:Program}{glob:Glob}{g:G}{H:List AObj}{w w':World}{ρ:List AV}{a:Act}
variable {dst:Option Tmp}{type:TypeId}{pos:String}{after:Array Edge}{guard:Option (Nat×Bool)}
theorem Step.newObj(hw:WF g H w){id:Nat}(hid:id<H.length){c:Array Value}{t:TypeId}(e:w'.heap=w.heap.push (.cells c t)){l':Loc}(hb:l'.b=w.heap.size)(hst:l'.st=bG H id)
  {x':AObj} (hver:x'.ver=bG H id) (hal:x'.alive=true) (hobj:g.le (g.setObj id l')->aA8 (g.setObj id l') w' l' x') (io:w'.os=w.os/\w'.output=w.output:=by exact⟨rfl,rfl⟩):
  Step g H w (g.setObj id l') (H.set id x') w' [id]:=by
 refine Step.update hw id x' l' hid (by rw[e];simp) (fun b hb' _=>cB e hb') (by rw[e,hb];simp) (.inl (by omega)) (by omega) hal (fun l hl => ?_) hobj io
 have hx:H[id]? = some H[id]:=by simp[hid]
 have:=hw.st id _ l hx hl;have hv:bG H id=H[id].ver+1:=by simp[bG,hid]
 omega
theorem jG{c:Array Value}{t:TypeId}(e:w'.heap=w.heap.push (.cells c t))(j:Nat):w'.cell? ⟨w.heap.size,j,none⟩=c[j]? := by
 simp[World.cell?,e]
theorem vD{c:Array Value}{t:TypeId}(e:w'.heap=w.heap.push (.cells c t)):aNH w' w.heap.size:=fun j _=>by
 simp[World.frozen?,e]
theorem Step.newBox(hw:WF g H w){id:Nat}(hid:id<H.length){c:Array Value}{t:TypeId}(e:w'.heap=w.heap.push (.cells c t)){cs:List AV}(hl:fO g cs c.toList)(io:w'.os=w.os/\w'.output=w.output:=by exact⟨rfl,rfl⟩):
  ∃g',Step g H w g' (make H id (.box · cs)) w' [id]/\VRel g' (.ptr id (bG H id) 0) (.pointer (some ⟨w.heap.size,0,none⟩)):=by
 refine⟨g.setObj id ⟨w.heap.size,bG H id,0,0,0⟩,Step.newObj hw hid e rfl rfl rfl rfl (fun hle=>⟨rfl,vD e,fun j a ha => ?_⟩) io, ?_⟩
 ·have hj:j<cs.length:=(List.getElem?_eq_some_iff.1 ha).1;have hlen:=hl.1;simp at hlen;rw[jG e];exact⟨c[j]'(by omega),by simp,(hl.2 j a _ ha (by simp)).mono hle⟩
 ·exact .ptr id _ 0 _ _ (by simp[G.setObj];rfl) (Nat.le_refl _) fun _ _=>rfl
theorem Step.newVec(hw:WF g H w){id:Nat}(hid:id<H.length){c:Array Value}{t:TypeId}(e:w'.heap=w.heap.push (.cells c t)){k cap:Nat}{rows:List (List AV)}
  (hr:RowsRel g k rows (c.toList.take (rows.length*k))) (hst:rows.all (fun r=>r.all AV.cellOk)=true) (hcap:rows.length<=cap) (hsz:c.size=cap*k) (io:w'.os=w.os/\w'.output=w.output:=by exact⟨rfl,rfl⟩):
  ∃g',Step g H w g' (make H id (.vec · k rows)) w' [id]/\VRel g' (.sr id (bG H id) rows.length) (.slice (some ⟨w.heap.size,0,none⟩) rows.length cap):=by
 refine⟨g.setObj id ⟨w.heap.size,bG H id,rows.length,k,cap⟩,Step.newObj hw hid e rfl rfl rfl rfl (fun hle=>⟨rfl,rfl,hcap,vD e,hr.row,fun j hj => ?_,fun i j row a h1 h2 => ?_⟩) io, ?_⟩
 ·rw[jG e];have:j<c.size:=by rw[hsz];exact hj
  simp[this]
 ·have hi:i<rows.length:=(List.getElem?_eq_some_iff.1 h1).1;have hj:j<row.length:=(List.getElem?_eq_some_iff.1 h2).1;have hjk:j<k:=by rw[<- hr.row row (List.mem_of_getElem? h1)];exact hj
  have hlt:=eC hi hjk;have hle':rows.length*k<=cap*k:=Nat.mul_le_mul_right _ hcap;have hs:=List.all_eq_true.1 (List.all_eq_true.1 hst row (List.mem_of_getElem? h1)) a (List.mem_of_getElem? h2);rw[jG e];refine⟨hs,c[i*k+j]'(by omega),by simp,(hr.rel i j row a _ h1 h2 ?_).mono hle⟩
  rw[List.getElem?_take,if_pos hlt];simp
 ·exact .sr id _ _ _ _ _ (by simp[G.setObj];rfl) (Nat.le_refl _) (fun _=>Nat.le_refl _) (by first | assumption | omega) fun _ _=>⟨rfl,rfl⟩
theorem Step.newTVec(hw:WF g H w){id:Nat}(hid:id<H.length){c:Array Value}{t:TypeId}(e:w'.heap=w.heap.push (.cells c t)){k cap:Nat}{rows:List (List AV)}
  (hr:RowsRel g k rows (c.toList.take (rows.length*k))) (hst:rows.all (fun r=>r.all AV.cellOk)=true) (hcap:rows.length<=cap) (hsz:c.size=cap*k) (io:w'.os=w.os/\w'.output=w.output:=by exact⟨rfl,rfl⟩):
  ∃g',Step g H w g' (make H id (.tvec · t k rows)) w' [id]/\VRel g' (.sr id (bG H id) rows.length) (.slice (some ⟨w.heap.size,0,none⟩) rows.length cap):=by
 refine⟨g.setObj id ⟨w.heap.size,bG H id,rows.length,k,cap⟩,Step.newObj hw hid e rfl rfl rfl rfl (fun hle=>⟨⟨rfl,rfl,hcap,vD e,hr.row,fun j hj => ?_,fun i j row a h1 h2 => ?_⟩,c,by rw[e];simp⟩) io, ?_⟩
 ·rw[jG e];have:j<c.size:=by rw[hsz];exact hj
  simp[this]
 ·have hi:i<rows.length:=(List.getElem?_eq_some_iff.1 h1).1;have hj:j<row.length:=(List.getElem?_eq_some_iff.1 h2).1;have hjk:j<k:=by rw[<- hr.row row (List.mem_of_getElem? h1)];exact hj
  have hlt:=eC hi hjk;have hle':rows.length*k<=cap*k:=Nat.mul_le_mul_right _ hcap;have hs:=List.all_eq_true.1 (List.all_eq_true.1 hst row (List.mem_of_getElem? h1)) a (List.mem_of_getElem? h2);rw[jG e];refine⟨hs,c[i*k+j]'(by omega),by simp,(hr.rel i j row a _ h1 h2 ?_).mono hle⟩
  rw[List.getElem?_take,if_pos hlt];simp
 ·exact .sr id _ _ _ _ _ (by simp[G.setObj];rfl) (Nat.le_refl _) (fun _=>Nat.le_refl _) (by first | assumption | omega) fun _ _=>⟨rfl,rfl⟩
theorem aQ8{t:TypeId}{zs:List AV}(hz:zeroCells? P glob t=some zs){call:Nat->List AV->List AObj->Out}{site:Option Nat}
  {av:AV} {H':List AObj} {wr:List Nat} (h:evW call H ρ site (.alloc zs)=some (av,H',wr)) (hw:WF g H w):
  yD P ⟨dst,.alloc t,type,pos,after,guard⟩ a w fun v w'=>∃g',Step g H w g' H' w' wr/\VRel g' av v:=by
 simp only[evW]at h
 split at h
 ·rename_i id
  split at h
  ·rename_i hid;cases h;obtain⟨it,z,hi,hzz,hzr⟩:=zeroCells?_spec hz;obtain⟨g',h1,h2⟩:=Step.newBox (w':=w.alloc (.cells z.cells t)) hw hid (c:=z.cells) (t:=t) rfl (hzr g);exact .inl ⟨.pointer (some ⟨w.heap.size,0,none⟩),w.alloc (.cells z.cells t),by simp[execOp,Instr.alloc,zeroValue,typeInfo,hi,hzz,newVar,newRow],g',h1,h2⟩
  ·cases h
 ·cases h
theorem aNR{t:TypeId}{zs:List AV}(hz:zeroCells? P glob t=some zs){call:Nat->List AV->List AObj->Out}{site:Option Nat}
  {av:AV} {H':List AObj} {wr:List Nat} (h:evW call H ρ site (.talloc t zs)=some (av,H',wr)) (hw:WF g H w):
  yD P ⟨dst,.alloc t,type,pos,after,guard⟩ a w fun v w'=>∃g',Step g H w g' H' w' wr/\VRel g' av v:=by
 simp only[evW]at h
 split at h
 ·rename_i id
  split at h
  ·rename_i hid;cases h;obtain⟨it,z,hi,hzz,hzr⟩:=zeroCells?_spec hz;have e:(w.alloc (.cells z.cells t)).heap=w.heap.push (.cells z.cells t):=rfl;have hl:=hzr g;have hs:=Step.newObj (w':=w.alloc (.cells z.cells t)) (l':=⟨w.heap.size,bG H id,0,0,0⟩) (x':=.tbox (bG H id) t zs) hw hid e rfl rfl rfl rfl (fun hle=>⟨rfl,⟨z.cells,by rw[e];simp,by simpa using hl.1.symm⟩,fun j a ha=>by
    have hj:j<zs.length:=(List.getElem?_eq_some_iff.1 ha).1;have hlen:=hl.1;simp at hlen;rw[jG e];exact⟨z.cells[j]'(by omega),by simp,(hl.2 j a _ ha (by simp)).mono hle⟩⟩)
   exact .inl ⟨.pointer (some ⟨w.heap.size,0,none⟩),w.alloc (.cells z.cells t),by simp[execOp,Instr.alloc,zeroValue,typeInfo,hi,hzz,newVar,newRow],_,hs,.ptr id _ 0 _ _ (by simp[G.setObj];rfl) (Nat.le_refl _) fun _ _=>rfl⟩
  ·cases h
 ·cases h
theorem aW5{t:TypeId}{n:Nat}{X:Operand}{x:AOpd}(hx:eO glob X=some x){call:Nat->List AV->List AObj->Out}{site:Option Nat}
  {av:AV} {H':List AObj} {wr:List Nat} (h:evW call H ρ site (.box n x)=some (av,H',wr)) (hw:WF g H w) (hg:bI P glob g) (hs:aT g ρ a.tmps):
  yD P ⟨dst,.box t X,type,pos,after,guard⟩ a w fun v w'=>∃g',Step g H w g' H' w' wr/\VRel g' av v:=by
 simp only[evW]at h
 split at h
 ·rename_i id
  split at h
  ·rename_i hc;cases h;have hl:=(aJ hx hg hs).cells hc.2.2;obtain⟨g',h1,h2⟩:=Step.newBox (w':=w.alloc (.cells (a.eval X).cells t)) hw hc.1 (c:=(a.eval X).cells) (t:=t) rfl hl;exact .inl ⟨.pointer (some ⟨w.heap.size,0,none⟩),w.alloc (.cells (a.eval X).cells t),by simp[execOp,Instr.box,newVar,newRow],g',h1,h2⟩
  ·cases h
 ·cases h
theorem aW6{t:TypeId}{n:Nat}{X:Operand}{x:AOpd}(hx:eO glob X=some x){call:Nat->List AV->List AObj->Out}{site:Option Nat}
  {av:AV} {H':List AObj} {wr:List Nat} (h:evW call H ρ site (.tbx t n x)=some (av,H',wr)) (hw:WF g H w) (hg:bI P glob g) (hs:aT g ρ a.tmps):
  yD P ⟨dst,.box t X,type,pos,after,guard⟩ a w fun v w'=>∃g',Step g H w g' H' w' wr/\VRel g' av v:=by
 simp only[evW]at h
 split at h
 ·rename_i id
  split at h
  ·rename_i hc;cases h;have hl:=(aJ hx hg hs).cells hc.2.2;have e:(w.alloc (.cells (a.eval X).cells t)).heap=w.heap.push (.cells (a.eval X).cells t):=rfl;have hs:=Step.newObj (w':=w.alloc (.cells (a.eval X).cells t)) (l':=⟨w.heap.size,bG H id,0,0,0⟩) (x':=.tbox (bG H id) t (x.ev ρ).cells) hw hc.1 e rfl rfl rfl rfl (fun hle=>⟨rfl,⟨(a.eval X).cells,by rw[e];simp,by simpa using hl.1.symm⟩,fun j c ha=>by
    have hj:j<(x.ev ρ).cells.length:=(List.getElem?_eq_some_iff.1 ha).1;have hlen:=hl.1;simp at hlen;rw[jG e];exact⟨(a.eval X).cells[j]'(by omega),by simp,(hl.2 j c _ ha (by simp)).mono hle⟩⟩)
   exact .inl ⟨.pointer (some ⟨w.heap.size,0,none⟩),w.alloc (.cells (a.eval X).cells t),by simp[execOp,Instr.box,newVar,newRow],_,hs,.ptr id _ 0 _ _ (by simp[G.setObj];rfl) (Nat.le_refl _) fun _ _=>rfl⟩
  ·cases h
 ·cases h
theorem aW7{t e:TypeId}{i:TypeInfo}{L C:Operand}{l c:AOpd}{zs:List AV}(ht:P.underlying t=some (.slice e))(hi:P.info? e=some i)(hz:zeroCells? P glob e=some zs)(hL:eO glob L=some l)(hC:eO glob C=some c)
  (hzl:zs.length=i.size) (hst:zs.all AV.still=true) {call:Nat->List AV->List AObj->Out} {site:Option Nat}
  {av:AV} {H':List AObj} {wr:List Nat} (h:evW call H ρ site (.mks i.size i.bytes zs l c)=some (av,H',wr)) (hw:WF g H w) (hg:bI P glob g) (hs:aT g ρ a.tmps):
  yD P ⟨dst,.makeSlice t L C,type,pos,after,guard⟩ a w fun v w'=>∃g',Step g H w g' H' w' wr/\VRel g' av v:=by
 simp only[evW]at h;have hrl:=aJ hL hg hs;have hrc:=aJ hC hg hs
 split at h
 ·rename_i k1 n k2 m e1 e2;rw[e1]at hrl;rw[e2]at hrc;have el:=hrl.int_inv;have ec:=hrc.int_inv
  split at h
  ·rename_i hcond;obtain⟨h0,rfl,hroom⟩:=hcond;obtain⟨it,z,hi',hzz,hzr⟩:=zeroCells?_spec hz;rw[hi]at hi';cases hi';obtain⟨n',rfl⟩:=Int.eq_ofNat_of_zero_le h0;simp only[bP,decide_eq_true_eq,Int.toNat_natCast]at hroom;have hb1:n'*i.bytes<=n'*(i.bytes+1):=Nat.mul_le_mul_left _ (by omega)
   have hb2:n'<=n'*(i.bytes+1):=Nat.le_mul_of_pos_right _ (by omega)
   have hwrap:IntKind.i64.wrap (n':Int)=(n':Int):=by
    unfold IntKind.wrap;simp only[IntKind.bits,IntKind.signed];have:((n':Int) % 2 ^ 64)=n':=Int.emod_eq_of_lt (by omega) (by omega)
    simp;omega
   have hcast:(i.bytes:Int)*(n':Int)<=281474976710656:=by
    have:((i.bytes*n':Nat):Int)=(i.bytes:Int)*(n':Int):=by simp
    rw[<- this,Nat.mul_comm];omega
   have hrun:(Instr.makeSlice t (.int k1 n') (.int k2 n')).run P w=.ok (.slice (some ⟨w.heap.size,0,none⟩) n' n') (w.alloc (.cells ((Array.range (n'*i.size)).map (z.cells[· % z.cells.size]!)) e)):=by
    have hn1:¬((n':Int)<0):=by omega
    have hn2:¬((i.bytes:Int)*(n':Int)>281474976710656):=by omega
    by_cases hz0:n'*i.size=0
    ·simp[Instr.makeSlice,run_underlying ht,asInt,asIntOf,typeInfo,hi,hwrap,hn1,hn2,sizeOf,hz0,newRow,Array.range_zero']
    ·simp[Instr.makeSlice,run_underlying ht,asInt,asIntOf,typeInfo,hi,hwrap,hn1,hn2,sizeOf,hz0,zeroValue,hzz,newRow]
   have hrow0:RowsRel g i.size (List.replicate n' (zs.map AV.strip1)) (((Array.range (n'*i.size)).map (z.cells[· % z.cells.size]!)).toList):=aDs (hzr g).strip1 (by simpa using hzl)
   have hst0:(List.replicate n' (zs.map AV.strip1)).all (fun r=>r.all AV.still)=true:=by
    rw[List.all_eq_true];intro r hm;rw[(List.mem_replicate.1 hm).2];exact iM hst
   have hlen0:(List.replicate n' (zs.map AV.strip1)).length=n':=by simp
   have htake:(((Array.range (n'*i.size)).map (z.cells[· % z.cells.size]!)).toList).take ((List.replicate n' (zs.map AV.strip1)).length*i.size)=((Array.range (n'*i.size)).map (z.cells[· % z.cells.size]!)).toList:=
    List.take_of_length_le (by simp)
   simp only[Int.toNat_natCast]at h
   split at h
   ·rename_i id
    split at h
    ·rename_i hid;cases h;obtain⟨g',h1,h2⟩:=Step.newVec (w':=w.alloc (.cells ((Array.range (n'*i.size)).map (z.cells[· % z.cells.size]!)) e)) hw hid (t:=e) rfl (k:=i.size) (cap:=n') (by rw[htake];exact hrow0) (uB hst0) (by omega) (by simp)
     rw[hlen0]at h2;exact .inl ⟨.slice (some ⟨w.heap.size,0,none⟩) n' n',_,by simp only[execOp,el,ec,Sem.run_bind,hrun,Result.andThen_ok,Sem.run_pure],g',h1,h2⟩
    ·cases h
   ·cases h;have hstep:=Step.allocPerm (w':=w.alloc (.cells ((Array.range (n'*i.size)).map (z.cells[· % z.cells.size]!)) e)) hw ((Array.range (n'*i.size)).map (z.cells[· % z.cells.size]!)) e (0,0) rfl;have hv:=VRel.sl_new (f:=true) (cap:=n') (b:=w.heap.size) hst0 (by omega) (fun _=>hlen0.symm) (by rw[htake];exact hrow0.mono hstep.le)
    rw[hlen0]at hv;exact .inl ⟨.slice (some ⟨w.heap.size,0,none⟩) n' n',_,by simp only[execOp,el,ec,Sem.run_bind,hrun,Result.andThen_ok,Sem.run_pure],_,hstep,hv⟩
  ·split at h
   ·rename_i id
    split at h
    ·rename_i hc;cases h;obtain⟨rfl,hpos,hroom,hid⟩:=hc;obtain⟨it,z,hi',hzz,hzr⟩:=zeroCells?_spec hz;rw[hi]at hi';cases hi';obtain⟨m',rfl⟩:=Int.eq_ofNat_of_zero_le (Int.le_of_lt hpos);simp only[bP,decide_eq_true_eq,Int.toNat_natCast]at hroom;have hb1:m'*i.bytes<=m'*(i.bytes+1):=Nat.mul_le_mul_left _ (by omega)
     have hb2:m'<=m'*(i.bytes+1):=Nat.le_mul_of_pos_right _ (by omega)
     have hwrap:IntKind.i64.wrap (m':Int)=(m':Int):=by
      unfold IntKind.wrap;simp only[IntKind.bits,IntKind.signed];have:((m':Int) % 2 ^ 64)=m':=Int.emod_eq_of_lt (by omega) (by omega)
      simp;omega
     have hwrap0:IntKind.i64.wrap 0=0:=by decide
     have hcast:(i.bytes:Int)*(m':Int)<=281474976710656:=by
      have:((i.bytes*m':Nat):Int)=(i.bytes:Int)*(m':Int):=by simp
      rw[<- this,Nat.mul_comm];omega
     have hrun:(Instr.makeSlice t (.int k1 0) (.int k2 m')).run P w=.ok (.slice (some ⟨w.heap.size,0,none⟩) 0 m') (w.alloc (.cells ((Array.range (m'*i.size)).map (z.cells[· % z.cells.size]!)) e)):=by
      have hn1:¬((m':Int)<0):=by omega
      have hn2:¬((i.bytes:Int)*(m':Int)>281474976710656):=by omega
      by_cases hz0:m'*i.size=0
      ·simp[Instr.makeSlice,run_underlying ht,asInt,asIntOf,typeInfo,hi,hwrap,hwrap0,hn1,hn2,sizeOf,hz0,newRow,Array.range_zero']
      ·simp[Instr.makeSlice,run_underlying ht,asInt,asIntOf,typeInfo,hi,hwrap,hwrap0,hn1,hn2,sizeOf,hz0,zeroValue,hzz,newRow]
     obtain⟨g',h1,h2⟩:=Step.newVec (w':=w.alloc (.cells ((Array.range (m'*i.size)).map (z.cells[· % z.cells.size]!)) e)) hw hid (t:=e) rfl (k:=i.size) (cap:=m') (rows:=[])
      ⟨by simp,fun r hr=>by simp at hr,fun i j r c x h=>by simp at h⟩ rfl (Nat.zero_le _) (by simp)
     exact .inl ⟨.slice (some ⟨w.heap.size,0,none⟩) 0 m',_,by simp only[execOp,el,ec,Sem.run_bind,hrun,Result.andThen_ok,Sem.run_pure],g',h1,h2⟩
    ·cases h
   ·cases h
 ·cases h
end
section
variable {P:Program}{glob:Glob}{g:G}{H:List AObj}{w w':World}{ρ:List AV}{a:Act}
theorem aLI(hw:WF g H w){o:Nat}{l:Loc}{v k:Nat}{rows:List (List AV)}(hb:Backed g H o l (.vec v k rows))(hstill:rows.all (fun r=>r.all AV.still)=true):
  VRel (g.addPerm l.b fun i=>w.cell? ⟨l.b,i,none⟩) (.sl false rows) (.slice (some ⟨l.b,0,none⟩) rows.length l.cap):=by
 obtain⟨h0,hlk,hcap,hsoft,hk,hsome,hcell⟩:=hw.obj o l _ hb;have hle:=(Step.gone hw hb).le;refine .sl false rows l.b 0 l.cap k hcap (by simp) hk (fun row hm => ?_) (fun i j hi hj => ?_) fun i j row c x h1 h2 h3 => ?_
 ·obtain⟨i,hi⟩:=List.mem_iff_getElem?.1 hm;rw[List.all_eq_true];intro c hc;exact List.all_eq_true.1 (List.all_eq_true.1 hstill row hm) c hc
 ·have hrk:=hk rows[i] (List.getElem_mem hi);obtain⟨_,y,hy,_⟩:=hcell i j rows[i] (rows[i][j]'(by omega)) (by simp[hi]) (by simp)
  simp only[G.addPerm,if_true,Nat.zero_add,hy];rfl
 ·obtain⟨_,y,hy,hr⟩:=hcell i j row c h1 h2;simp only[G.addPerm,if_true,Nat.zero_add,hy,Option.some.injEq]at h3;subst h3;exact hr.mono hle
structure Lent(g:G)(H:List AObj)(g':G)(l:List Nat):Prop where
 le:g.le g'
 vec:∀o lc v k rows,o∈l->Backed g H o lc (.vec v k rows)->rows.all (fun r=>r.all AV.still)=true->VRel g' (.sl false rows) (.slice (some ⟨lc.b,0,none⟩) rows.length lc.cap)
theorem Lent.sub{g':G}{l l':List Nat}(h:Lent g H g' l)(hs:∀o∈l',o∈l):Lent g H g' l':=⟨h.le,fun o lc v k rows ho=>h.vec o lc v k rows (hs o ho)⟩
theorem kN:∀(l:List Nat) (g:G) (H:List AObj),WF g H w->(∀o∈l,(∃lc x,Backed g H o lc x)∨∃v,H[o]? = some (.gone v)) ->
  ∃g',Step g H w g' (dL H l) w l/\Lent g H g' l
 | [],g,H,hw,_=>⟨g,.refl hw,G.le.refl g,fun o lc v k rows ho=>by simp at ho⟩
 |o::r,g,H,hw,ho=>by
  have hcase:(∃v,H[o]? = some (.gone v))∨∃lc x,Backed g H o lc x:=(ho o (by simp)).symm
  rcases hcase with⟨v,hv⟩ | ⟨lc,x,hb⟩
  ·have hlt:o<H.length:=(List.getElem?_eq_some_iff.1 hv).1;have hset:H.set o (.gone ((H[o]?).elim 0 AObj.ver))=H:=by
    apply List.ext_getElem?;intro i
    by_cases e:i=o
    ·subst e;have hg:H[i]=.gone v:=by have:=hv;simp[hlt]at this;exact this
     simp[hlt,hg,AObj.ver]
    ·rw[getElem?_set_ne' _ _ (Ne.symm e)]
   obtain⟨g',h1,h2⟩:=kN r g H hw fun o' hm=>ho o' (List.mem_cons_of_mem _ hm);refine⟨g', ?_,h2.le,fun o' lc v' k rows hm hb hst => ?_⟩
   ·simp only[dL,hset];exact h1.weaken fun o' hm=>List.mem_cons_of_mem _ hm
   ·rcases List.mem_cons.1 hm with rfl | hm
    ·have:=hb.at_;rw[hv]at this;cases this
    ·exact h2.vec o' lc v' k rows hm hb hst
  ·have hver:(H[o]?).elim 0 AObj.ver=x.ver:=by rw[hb.at_];rfl
   have h1:=Step.gone hw hb;have hlt:o<H.length:=hw.lt o lc hb.loc;have hback:∀o' lc' x',o'≠o->Backed g H o' lc' x'->Backed (g.addPerm lc.b fun i=>w.cell? ⟨lc.b,i,none⟩) (H.set o (.gone x.ver)) o' lc' x':=fun o' lc' x' hne hb'=>
    ⟨by rw[getElem?_set_ne' _ _ (Ne.symm hne)];exact hb'.at_,hb'.alive,hb'.loc,hb'.st⟩
   obtain⟨g',h2,h3⟩:=kN r _ _ h1.wf fun o' hm=>by
    by_cases e:o'=o
    ·subst e;exact .inr ⟨x.ver,by simp[hlt]⟩
    ·rcases ho o' (List.mem_cons_of_mem _ hm)with⟨lc',x',hb'⟩ | ⟨v,hv⟩
     ·exact .inl ⟨lc',x',hback o' lc' x' e hb'⟩
     ·exact .inr ⟨v,by rw[getElem?_set_ne' _ _ (Ne.symm e)];exact hv⟩
   refine⟨g', ?_,h1.le.trans h3.le,fun o' lc' v k rows hm hb' hst => ?_⟩
   ·simp only[dL,hver];exact h1.trans h2
   ·by_cases e:o'=o
    ·subst e;have hl:lc'=lc:=by have:=hb'.loc;rw[hb.loc]at this;exact (Option.some.inj this).symm
     subst hl;exact (aLI hw hb' hst).mono h3.le
    ·rcases List.mem_cons.1 hm with rfl | hm
     ·exact absurd rfl e
     ·exact h3.vec o' lc' v k rows hm (hback o' lc' _ e hb') hst
theorem aDP(hw:WF g H w){v v':AV}{l:List Nat}(h:aBT H v=some (v',l)){x:Value}(hx:VRel g v x):
  (∀o∈l,∃lc y,Backed g H o lc y)/\∀g',Lent g H g' l->VRel g' v' x:=by
 unfold aBT at h
 split at h
 ·rename_i o ve n
  split at h
  ·rename_i v0 k rows hH
   split at h
   ·rename_i hc;cases h;obtain⟨rfl,hlen,hstill⟩:=hc;cases hx with
    |sr o v n lc b cap hl hv hn hc0 hh=>
     have hst:lc.st=v0:=by
      have:=hw.st o _ lc hH hl;simp only[AObj.ver]at this;omega
     have hb:Backed g H o lc (.vec v0 k rows):=⟨hH,rfl,hl,hst⟩;obtain⟨h0,_⟩:=hw.obj o lc _ hb;obtain⟨rfl,rfl⟩:=hh hst (by omega)
     refine⟨fun o' ho => ?_,fun g' hl' => ?_⟩
     ·simp only[List.mem_singleton]at ho;subst ho;exact⟨lc,_,hb⟩
     ·rw[<- hlen];exact hl'.vec o lc v0 k rows (by simp) hb hstill
   ·cases h
  ·cases h
 ·cases h
 ·cases h
 ·cases h
 ·cases h
 ·cases h;exact⟨fun o ho=>by simp at ho,fun g' hl=>hx.mono hl.le⟩
theorem aDQ(hw:WF g H w):∀{vs vs':List AV} {l:List Nat},aGc H vs=some (vs',l)->∀{xs:List Value},fO g vs xs ->
  (∀o∈l,∃lc y,Backed g H o lc y)/\∀g',Lent g H g' l->fO g' vs' xs
 | [],vs',l,h,xs,hx=>by
  simp only[aGc,Option.some.injEq,Prod.mk.injEq]at h;obtain⟨rfl,rfl⟩:=h;exact⟨fun o ho=>by simp at ho,fun g' hl=>hx.mono hl.le⟩
 |v::r,vs',l,h,xs,hx=>by
  unfold aGc at h
  split at h
  ·cases h
  ·rename_i v1 l1 h1
   split at h
   ·cases h
   ·rename_i r1 l2 h2;cases h;cases xs with
    |nil=>have:=hx.1;simp at this
    |cons x xs=>
     obtain⟨a1,a2⟩:=aDP hw h1 (hx.2 0 v x rfl rfl);obtain⟨b1,b2⟩:=aDQ hw h2 (xs:=xs) ⟨by have:=hx.1;simpa using this,fun i c y hc hy=>hx.2 (i+1) c y (by simpa using hc) (by simpa using hy)⟩
     refine⟨fun o ho => ?_,fun g' hl => ?_⟩
     ·rcases List.mem_append.1 ho with h | h
      ·exact a1 o h
      ·exact b1 o h
     ·have c1:=a2 g' (hl.sub fun o ho=>List.mem_append_left _ ho);have c2:=b2 g' (hl.sub fun o ho=>List.mem_append_right _ ho);refine⟨by simp[c2.1],fun i c y hc hy => ?_⟩
      cases i with
      |zero=>simp at hc hy;subst hc;subst hy;exact c1
      |succ i=>exact c2.2 i c y (by simpa using hc) (by simpa using hy)
theorem aFp(hw:WF g H w){v v':AV}{l:List Nat}(h:lend H v=some (v',l)){x:Value}(hx:VRel g v x):
  (∀o∈l,∃lc y,Backed g H o lc y)/\∀g',Lent g H g' l->VRel g' v' x:=by
 unfold lend at h
 split at h
 ·split at h
  ·rename_i cs' l' hl;cases h;obtain⟨vs,rfl,hr⟩:=hx.agg_list;obtain⟨a1,a2⟩:=aDQ hw hl hr;exact⟨a1,fun g' hg=>(a2 g' hg).agg⟩
  ·cases h
 ·cases h
 ·exact aDP hw h hx
theorem pH(hw:WF g H w):∀{vs vs':List AV} {l:List Nat},jP H vs=some (vs',l)->∀{xs:List Value},fO g vs xs ->
  (∀o∈l,∃lc y,Backed g H o lc y)/\∀g',Lent g H g' l->fO g' vs' xs
 | [],vs',l,h,xs,hx=>by
  simp only[jP,Option.some.injEq,Prod.mk.injEq]at h;obtain⟨rfl,rfl⟩:=h;exact⟨fun o ho=>by simp at ho,fun g' hl=>hx.mono hl.le⟩
 |v::r,vs',l,h,xs,hx=>by
  unfold jP at h
  split at h
  ·cases h
  ·rename_i v1 l1 h1
   split at h
   ·cases h
   ·rename_i r1 l2 h2;cases h;cases xs with
    |nil=>have:=hx.1;simp at this
    |cons x xs=>
     obtain⟨a1,a2⟩:=aFp hw h1 (hx.2 0 v x rfl rfl);obtain⟨b1,b2⟩:=pH hw h2 (xs:=xs) ⟨by have:=hx.1;simpa using this,fun i c y hc hy=>hx.2 (i+1) c y (by simpa using hc) (by simpa using hy)⟩
     refine⟨fun o ho => ?_,fun g' hl => ?_⟩
     ·rcases List.mem_append.1 ho with h | h
      ·exact a1 o h
      ·exact b1 o h
     ·have c1:=a2 g' (hl.sub fun o ho=>List.mem_append_left _ ho);have c2:=b2 g' (hl.sub fun o ho=>List.mem_append_right _ ho);refine⟨by simp[c2.1],fun i c y hc hy => ?_⟩
      cases i with
      |zero=>simp at hc hy;subst hc;subst hy;exact c1
      |succ i=>exact c2.2 i c y (by simpa using hc) (by simpa using hy)
theorem qJ(hw:WF g H w){v v':AV}{H':List AObj}{l:List Nat}(h:fix H v=some (v',H',l)){x:Value}(hx:VRel g v x):
  ∃g',Step g H w g' H' w l/\VRel g' v' x:=by
 unfold fix at h
 split at h
 ·rename_i v1 l1 hl;cases h;obtain⟨a1,a2⟩:=aFp hw hl hx;obtain⟨g',h1,h2⟩:=kN l g H hw fun o ho=>.inl (a1 o ho);exact⟨g',h1,(a2 g' h2).strip⟩
 ·cases h
end
section
variable {P:Program}{glob:Glob}{g:G}{H:List AObj}{w w':World}{ρ:List AV}{a:Act}
variable {dst:Option Tmp}{type:TypeId}{pos:String}{after:Array Edge}{guard:Option (Nat×Bool)}
structure News(P:Program)(w:World)(k:Nat)(x:Value)(n:Nat)(news:List Value):Prop where
 len:∀w2,(Builtin.lenOf x).run P w2=.ok n w2
 cells:∀w2:World,w2.heap=w.heap->(Builtin.firstCells k n x).run P w2=.ok news.toArray w2
 size:news.length=n*k
theorem gA(hw:WF g H w){k:Nat}{v:AV}{new:List (List AV)}(h:cU H v=some new)(hh:cH k new=true){x:Value}(hx:VRel g v x):
  ∃news,News P w k x new.length news/\RowsRel g k new news/\new.all (fun r=>r.all AV.cellOk)=true:=by
 have viaRows:∀v,eH H v=some new->VRel g v x->∃news,News P w k x new.length news/\RowsRel g k new news/\new.all (fun r=>r.all AV.cellOk)=true:=by
  intro v h hx;rcases yC hw h hx with⟨rfl,cap,rfl⟩ | ⟨b,off,cap,k',cells,rfl,hcap,hrr,hst,hcell⟩
  ·exact⟨[],⟨fun _=>rfl,fun _ _=>rfl,by simp⟩,⟨by simp,fun r hr=>by simp at hr,fun i j r c x h=>by simp at h⟩,rfl⟩
  ·have hk:=aFm hh hrr.row;have hlen:cells.length=new.length*k:=by
    cases new with
    |nil=>have:=hrr.len;simpa using this
    |cons r rs=>have h1:=hrr.row r (by simp);have h2:=hk r (by simp);have:=hrr.len;rw[this];congr 1;omega
   refine⟨cells,⟨fun _=>rfl,fun w2 e => ?_,hlen⟩,⟨hlen,hk,fun i j row c y h1 h2 h3 => ?_⟩,List.all_eq_true.2 fun r hr=>hst r hr⟩
   ·have:=run_loadCells_list (P:=P) w2 ⟨b,off,none⟩ cells (fun j v hv=>by rw[fP];simp only[World.cell?,e];exact hcell j v hv)
    simp only[Builtin.firstCells];rw[<- hlen];exact this
   ·have hkk:k'=k:=by rw[<- hrr.row row (List.mem_of_getElem? h1)];exact hk row (List.mem_of_getElem? h1)
    exact hrr.rel i j row c y h1 h2 (by rw[hkk];exact h3)
 unfold cU at h
 split at h
 ·rename_i l;cases h;obtain⟨s,rfl,hs⟩:=hx.str_inv;have hl:(aG l).length=s.size:=by rw[rY hs];simp[aG]
  have hk:l≠[]->k=1:=fun hne=>by
   cases l with
   |nil=>exact absurd rfl hne
   |cons b r=>simp[aG,cH]at hh;omega
  rw[hl];have harr:(Array.map (fun b:UInt8=>Value.int IntKind.u8 (b.toNat:Int)) s.data).extract 0 s.size=Array.map (fun b:UInt8=>Value.int IntKind.u8 (b.toNat:Int)) s.data:=by
   have hsz:s.size=(Array.map (fun b:UInt8=>Value.int IntKind.u8 (b.toNat:Int)) s.data).size:=by rw[Array.size_map];rfl
   rw[hsz,Array.extract_size]
  have hnews:((s.extract 0 s.size).data.map fun b=>Value.int .u8 b.toNat)=((l.map fun b=>Value.int .u8 b.toNat)).toArray:=by
   apply Array.ext';rw[Array.toList_map,aDI hs];have:(l.take s.size).drop 0=l:=by rw[List.drop_zero,List.take_of_length_le (by rw[rY hs];exact Nat.le_refl _)]
   rw[this]
  refine⟨l.map fun b=>Value.int .u8 b.toNat,⟨fun _=>rfl,fun w2 _ => ?_, ?_⟩,⟨?_, ?_, ?_⟩, ?_⟩
  ·simp only[Builtin.firstCells,hnews,Sem.run_pure]
  ·by_cases hne:l=[]
   ·subst hne;have:=rY hs;simp at this;simp[this]
   ·rw[hk hne,rY hs];simp
  ·by_cases hne:l=[]
   ·subst hne;simp[aG]
   ·rw[hk hne];simp[aG]
  ·intro row hm;have hne:l≠[]:=fun e=>by subst e;simp[aG]at hm
   rw[hk hne];simp only[aG,List.mem_map]at hm;obtain⟨b,_,rfl⟩:=hm;rfl
  ·intro i j row c y h1 h2 h3;simp only[aG,List.getElem?_map]at h1;cases hb:l[i]? with
   |none=>simp[hb]at h1
   |some b=>
    have hne:l≠[]:=fun e=>by subst e;simp at hb
    simp[hb]at h1;subst h1;cases j with
    |succ j=>simp at h2
    |zero=>
     simp at h2;subst h2;rw[hk hne]at h3;simp only[Nat.mul_one,Nat.add_zero,List.getElem?_map,hb,Option.map_some,Option.some.injEq]at h3;subst h3;exact .int _ _
  ·simp[aG,AV.cellOk]
 ·exact viaRows _ h hx
section
variable {t u e ty:TypeId}{i:TypeInfo}{z:Value}{d:TypeDesc}
theorem eI(ht:P.underlying t=some (.slice e))(hu:P.underlying u=some d)(hd:∀k,d≠.int k)(hi:P.info? e=some i){base:Option Addr}{sLen sCap n:Nat}{x:Value}{news:List Value}{w':World}
  (hn:News P w i.size x n news) (hroom:sLen+n<=sCap)
  (hst:(match base with | some a=>Go.storeCells (a.add (sLen*i.size)) news | none=>(pure ():Sem Unit)).run P w=.ok () w'):
  (Builtin.append_ #[t,u] ty #[.slice base sLen sCap,x]).run P w=.ok (.slice base (sLen+n) sCap) w':=by
 cases base with
 |none=>
  simp only[Sem.run_pure,Result.ok.injEq,true_and]at hst;subst hst;simp[Builtin.append_,run_underlying ht,run_underlying hu,sizeOf,typeInfo,hi,hn.len,hroom,hn.cells w rfl]
 |some a=>
  simp only at hst;simp[Builtin.append_,run_underlying ht,run_underlying hu,sizeOf,typeInfo,hi,hn.len,hroom,hn.cells w rfl,hst]
theorem gN(ht:P.underlying t=some (.slice e))(hu:P.underlying u=some d)(hd:∀k,d≠.int k)(hi:P.info? e=some i)(hz:i.zero=some z){base:Option Addr}{sLen sCap n:Nat}{x:Value}{news olds:List Value}
  (hn:News P w i.size x n news) (ho:∀w2:World,w2.heap=w.heap->(Builtin.firstCells i.size sLen (.slice base sLen sCap)).run P w2=.ok olds.toArray w2)
  (hroom:sCap<sLen+n) (hfit:(sLen+n)*(i.bytes+1)<=1099511627776):
  (Builtin.append_ #[t,u] ty #[.slice base sLen sCap,x]).run P w =
   .ok (.slice (some ⟨w.heap.size,0,none⟩) (sLen+n) (grownCap w (sLen+n) sCap e)) (w.drew.alloc (.cells (olds.toArray++(news.toArray++Builtin.zeroCells z.cells (grownCap w (sLen+n) sCap e - (sLen+n)))) e)):=by
 have hn':¬(sLen+n<=sCap):=by omega
 have hb1:(sLen+n)*i.bytes<=(sLen+n)*(i.bytes+1):=Nat.mul_le_mul_left _ (by omega)
 have hb2:sLen+n<=(sLen+n)*(i.bytes+1):=Nat.le_mul_of_pos_right _ (by omega)
 have h63':¬(9223372036854775807<((sLen:Int)+(n:Int))):=by omega
 have h48:=growslice_fits (need:=sLen+n) (old:=sCap) (bytes:=i.bytes) (by omega) (by omega)
 have h48':¬(281474976710656<Builtin.nextslicecap (sLen+n) sCap*i.bytes):=by omega
 have hf:=hn.cells w.drew rfl;have hfo:=ho w.drew rfl;simp[Builtin.append_,run_underlying ht,run_underlying hu,sizeOf,typeInfo,zeroValue,hi,hz,hn.len,hn',h63',h48',Question.forced,hf,hfo,newRow,grownCap]
end
theorem RowsRel.append{k:Nat}{r1 r2:List (List AV)}{c1 c2:List Value}(h1:RowsRel g k r1 c1)(h2:RowsRel g k r2 c2):RowsRel g k (r1++r2) (c1++c2):=by
 refine⟨by simp[h1.len,h2.len,Nat.add_mul],fun row hm => ?_,fun i j row c x e1 e2 e3 => ?_⟩
 ·rcases List.mem_append.1 hm with h | h
  ·exact h1.row row h
  ·exact h2.row row h
 ·rw[List.getElem?_append]at e1;have hl:=h1.len
  split at e1
  ·rename_i hi;have hj:j<k:=by rw[<- h1.row row (List.mem_of_getElem? e1)];exact (List.getElem?_eq_some_iff.1 e2).1
   have:=eC hi hj;rw[List.getElem?_append,if_pos (by omega)]at e3
   exact h1.rel i j row c x e1 e2 e3
  ·rename_i hi;have hge:r1.length*k<=i*k:=Nat.mul_le_mul_right _ (by omega)
   rw[List.getElem?_append,if_neg (by omega)]at e3
   refine h2.rel (i - r1.length) j row c x e1 e2 ?_;rw[Nat.sub_mul,show i*k - r1.length*k+j=i*k+j - c1.length by omega]
   exact e3
end
end Go.AM
end
