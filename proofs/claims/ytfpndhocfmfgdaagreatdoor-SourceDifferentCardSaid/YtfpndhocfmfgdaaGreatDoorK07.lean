/- Part 7: lemmas for the last text. -/
import Derived.Test.YtfpndhocfmfgdaaGreatDoorK06
set_option linter.unusedVariables false
set_option linter.unusedSimpArgs false
section
namespace Go.AM
open Go
section
variable {P:Program}{glob:Glob}{g:G}{H:List AObj}{w w':World}{ρ:List AV}{a:Act}
variable {dst:Option Tmp}{type:TypeId}{pos:String}{after:Array Edge}{guard:Option (Nat×Bool)}
theorem RowsRel.oneCell{k:Nat}{rows:List (List AV)}{cells:List Value}(h:RowsRel g k rows cells)(hst:rows.all (fun r=>r.all AV.cellOk)=true):∀x∈cells,x.oneCell'=true:=by
 intro x hx;obtain⟨n,hn⟩:=List.mem_iff_getElem?.1 hx;have hlt:n<cells.length:=(List.getElem?_eq_some_iff.1 hn).1;rw[h.len]at hlt;have hk0:0<k:=by
  rcases Nat.eq_zero_or_pos k with e | e
  ·subst e;simp at hlt
  ·exact e
 have hi:n / k<rows.length:=by rw[Nat.div_lt_iff_lt_mul hk0];exact hlt
 have hm:n % k<k:=Nat.mod_lt _ hk0;have hrk:=h.row rows[n / k] (List.getElem_mem hi);have e:n / k*k+n % k=n:=by rw[Nat.mul_comm];exact Nat.div_add_mod n k
 have hv:=h.rel (n / k) (n % k) rows[n / k] (rows[n / k][n % k]'(by omega)) x (by simp[hi]) (by simp[hrk,hm]) (by rw[e];exact hn)
 exact hv.oneCell (List.all_eq_true.1 (List.all_eq_true.1 hst _ (List.getElem_mem hi)) _ (List.getElem_mem _))
theorem aST{t u e ty:TypeId}{i:TypeInfo}{z:Value}{d:TypeDesc}{S X:Operand}{s x:AOpd}(ht:P.underlying t=some (.slice e))(hu:P.underlying u=some d)(hd:∀k,d≠.int k)(hi:P.info? e=some i)(hz:i.zero=some z)
  (hS:eO glob S=some s) (hX:eO glob X=some x) (hzs:z.cells.size=i.size) {call:Nat->List AV->List AObj->Out} {site:Option Nat}
  {av:AV} {H':List AObj} {wr:List Nat} (h:evW call H ρ site (.app i.size i.bytes s x)=some (av,H',wr)) (hw:WF g H w) (hg:bI P glob g) (hs:aT g ρ a.tmps):
  yD P ⟨dst,.call { callee:=.builtin .append,args := #[S,X],argTypes := #[t,u] },ty,pos,after,guard⟩ a w fun v w'=>∃g',Step g H w g' H' w' wr/\VRel g' av v:=by
 have hrs:=aJ hS hg hs;have hrx:=aJ hX hg hs;have fin:∀v w',(Builtin.append_ #[t,u] ty #[a.eval S,a.eval X]).run P w=.ok v w'->(∃g',Step g H w g' H' w' wr/\VRel g' av v) ->
   yD P ⟨dst,.call { callee:=.builtin .append,args := #[S,X],argTypes := #[t,u] },ty,pos,after,guard⟩ a w fun v w'=>∃g',Step g H w g' H' w' wr/\VRel g' av v:=fun v w' hr hR=>
  .inl ⟨v,w',by simp[execOp,resolve,invoke,builtin,hr],hR⟩
 simp only[evW,fH]at h
 split at h
 ·cases h
 rename_i new hnew
 split at h
 ·cases h
 rename_i hhead;have hhead':cH i.size new=true:=by simpa using hhead
 obtain⟨news,hN,hrr,hstill⟩:=gA (P:=P) hw hnew hhead' hrx;generalize s.ev ρ=sv at h hrs
 split at h
 ·split at h
  ·rename_i hemp;cases h;have hn0:new=[]:=by simpa using hemp
   subst hn0;have hnews:news=[]:=List.eq_nil_of_length_eq_zero (by have:=hN.size;simpa using this)
   subst hnews;generalize hsv:a.eval S=sval at hrs;cases hrs;refine fin _ w ?_ ⟨g,.refl hw,.nilSl⟩;rw[hsv];exact eI ht hu hd hi hN (by simp) (by simp)
  ·rename_i hemp
   split at h
   ·rename_i hroom;simp only[bP,decide_eq_true_eq]at hroom
    split at h
    ·rename_i id
     split at h
     ·rename_i hid;cases h;have hpos:0<new.length:=by
       cases new with
       |nil=>simp at hemp
       |cons _ _=>simp
      generalize hsv:a.eval S=sval at hrs;cases hrs;have hrun:=gN (w:=w) (P:=P) (ty:=ty) ht hu hd hi hz (base:=none) (sLen:=0) (sCap:=0) (olds:=[]) hN (fun _ _=>rfl) (by omega) (by simpa using hroom)
      have hcap:=grownCap_ge w (0+new.length) 0 e;obtain⟨g',h1,h2⟩:=Step.newVec (w':=w.drew.alloc (.cells (([]:List Value).toArray++(news.toArray++Builtin.zeroCells z.cells (grownCap w (0+new.length) 0 e - (0+new.length)))) e)) hw hid (t:=e) rfl
       (k:=i.size) (cap:=grownCap w (0+new.length) 0 e) (rows:=new)
       (by
        have:((([]:List Value).toArray++(news.toArray++Builtin.zeroCells z.cells (grownCap w (0+new.length) 0 e - (0+new.length)))).toList).take (new.length*i.size)=news:=by
         simp only[Array.toList_append,List.nil_append];rw[<- hrr.len];exact List.take_left
        rw[this];exact hrr)
       hstill (by omega)
       (by
        have h2:=hrr.len;simp only[Array.size_append,List.size_toArray,size_zeroCells,hzs,h2,List.length_nil,<- Nat.add_mul,Nat.zero_add];rw[Nat.zero_add]at hcap;congr 1;omega)
      rw[Nat.zero_add]at hrun h1 h2;exact .inl ⟨_,_,by simp[execOp,resolve,invoke,builtin,hsv,hrun],g',h1,h2⟩
     ·cases h
    ·cases h
   ·cases h
 ·rename_i full rows
  split at h
  ·rename_i hemp;cases h;have hn0:new=[]:=by simpa using hemp
   subst hn0;have hnews:news=[]:=List.eq_nil_of_length_eq_zero (by have:=hN.size;simpa using this)
   subst hnews;rcases hrs.sl_inv with⟨er,es⟩ | ⟨b,off,cap,k,es,hcap,_⟩
   ·refine fin _ w ?_ ⟨g,.refl hw,es ▸ hrs⟩;rw[es];exact eI ht hu hd hi hN (by simp) (by simp)
   ·refine fin _ w ?_ ⟨g,.refl hw,es ▸ hrs⟩;rw[es];exact eI ht hu hd hi hN (by simpa using hcap) (by simp[Go.storeCells])
  ·rename_i hemp
   split at h
   ·rename_i hc;simp only[Bool.and_eq_true]at hc;obtain⟨⟨hfu,hhr⟩,hroom⟩:=hc;simp only[bP,decide_eq_true_eq]at hroom
    split at h
    ·rename_i id
     split at h
     ·rename_i hid;cases h;have hpos:0<new.length:=by
       cases new with
       |nil=>simp at hemp
       |cons _ _=>simp
      have key:∀(base:Option Addr) (sCap:Nat) (olds:List Value),a.eval S=.slice base rows.length sCap->sCap=rows.length->RowsRel g i.size rows olds->rows.all (fun r=>r.all AV.cellOk)=true ->
        (∀w2:World,w2.heap=w.heap->(Builtin.firstCells i.size rows.length (.slice base rows.length sCap)).run P w2=.ok olds.toArray w2) ->
        yD P ⟨dst,.call { callee:=.builtin .append,args := #[S,X],argTypes := #[t,u] },ty,pos,after,guard⟩ a w fun v w'=>∃g',Step g H w g' (make H id (.vec · i.size (rows++new))) w' [id]/\VRel g' (.sr id (bG H id) (rows.length+new.length)) v:=by
       intro base sCap olds es hsc hro hst ho;have hrun:=gN (ty:=ty) ht hu hd hi hz hN ho (by omega) hroom
       have hcap:=grownCap_ge w (rows.length+new.length) sCap e;have hall:=hro.append hrr;have hlen:(rows++new).length=rows.length+new.length:=by simp
       have hll:=hall.len;obtain⟨g',h1,h2⟩:=Step.newVec (w':=w.drew.alloc (.cells (olds.toArray++(news.toArray++Builtin.zeroCells z.cells (grownCap w (rows.length+new.length) sCap e - (rows.length+new.length)))) e)) hw hid (t:=e) rfl
        (k:=i.size) (cap:=grownCap w (rows.length+new.length) sCap e) (rows:=rows++new)
        (by
         have:(olds.toArray++(news.toArray++Builtin.zeroCells z.cells (grownCap w (rows.length+new.length) sCap e - (rows.length+new.length)))).toList.take ((rows++new).length*i.size)=olds++news:=by
          simp only[Array.toList_append,<- List.append_assoc];rw[<- hll];exact List.take_left
         rw[this];exact hall)
        (by rw[List.all_append,hst,hstill];rfl) (by omega)
        (by
         have h1:=hro.len;have h2:=hrr.len;simp only[Array.size_append,List.size_toArray,size_zeroCells,hzs,h1,h2,<- Nat.add_mul];congr 1;omega)
       rw[hlen]at h2;exact .inl ⟨_,_,by simp[execOp,resolve,invoke,builtin,es,hrun],g',h1,h2⟩
      rcases hrs.sl_inv with⟨er,es⟩ | ⟨b,off,cap,k,es,hcap,hfull,hk,hst,hp,hrel⟩
      ·subst er;exact key none 0 [] es rfl ⟨by simp,fun r hr=>by simp at hr,fun i j r c x h=>by simp at h⟩ rfl (fun _ _=>rfl)
      ·obtain⟨news',hN',hrr',hst'⟩:=gA (P:=P) (v:=.sl full rows) hw rfl hhr (es ▸ hrs);exact key _ cap news' es (hfull hfu) hrr' hst' hN'.cells
     ·cases h
    ·cases h
   ·cases h
 ·rename_i o v n
  split at h
  ·rename_i v' k' rows hH
   split at h
   ·rename_i hc;obtain⟨rfl,hlen,rfl,hroom⟩:=hc;simp only[bP,decide_eq_true_eq]at hroom;generalize hsv:a.eval S=sval at hrs;cases hrs with
    |sr o v n l b cap hl hv hn hc0 hh=>
     have hst:l.st=v':=by
      have:=hw.st o _ l hH hl;simp only[AObj.ver]at this;omega
     have hb:Backed g H o l (.vec v' i.size rows):=⟨hH,rfl,hl,hst⟩;obtain⟨h0,hlk,hcap,hsoft,hk,hsome,hcell⟩:=hw.obj o l _ hb;obtain⟨rfl,rfl⟩:=hh hst (by omega)
     split at h
     ·rename_i hemp;cases h;have hn0:new=[]:=by simpa using hemp
      subst hn0;have hnews:news=[]:=List.eq_nil_of_length_eq_zero (by have:=hN.size;simpa using this)
      subst hnews;refine fin (.slice (some ⟨l.b,0,none⟩) n l.cap) w ?_ ⟨g,.refl hw,.sr o v' n l _ _ hl hv hn hc0 hh⟩;rw[hsv];exact eI ht hu hd hi hN (by simp;omega) (by simp[Go.storeCells])
     ·rename_i hemp;cases h;have hpos:0<new.length:=by
       cases new with
       |nil=>simp at hemp
       |cons _ _=>simp
      have hhr:cH i.size rows=true:=by
       cases rows with
       |nil=>rfl
       |cons r rs=>simpa [cH]using hk r (by simp)
      have hsr:VRel g (.sr o v' rows.length) (.slice (some ⟨l.b,0,none⟩) rows.length l.cap):=by rw[hlen];exact .sr o v' n l _ _ hl hv hn hc0 hh
      obtain⟨olds,hO,hro,hrst⟩:=gA (P:=P) (v:=.sr o v' rows.length) hw (by simp[cU,eH,hH]) hhr hsr
      have hall:=hro.append hrr;have hallst:(rows++new).all (fun r=>r.all AV.cellOk)=true:=by rw[List.all_append,hrst,hstill];rfl
      have hlen2:(rows++new).length=n+new.length:=by simp;omega
      by_cases hfit:n+new.length<=l.cap
      ·
       have hbig:(n+new.length)*i.size<=l.cap*i.size:=Nat.mul_le_mul_right _ hfit;rw[Nat.add_mul]at hbig;have hnl:=hrr.len;have hol:=hro.len;rw[hlen]at hol;have hin:∀j,j<news.length->(w.cell? ⟨l.b,n*i.size+j,none⟩).isSome=true:=fun j hj=>hsome _ (by omega)
       obtain⟨hs1,hs2⟩:=mM l.b news (n*i.size) w;have hone:∀y∈news,y.oneCell'=true:=hrr.oneCell hstill;have hst0:=run_storeCells_cells (P:=P) l.b (n*i.size) news 0 w (by simpa using hin) (by intro j hj;exact hsoft _ (by simpa using hin j hj)) hone
       refine fin (.slice (some ⟨l.b,0,none⟩) (n+new.length) l.cap) (w.setCells l.b (n*i.size) news) ?_
        ⟨g.setObj o { l with len:=n+new.length },Step.update hw o _ _ (hw.lt o l hl) (by rw[hs1];exact Nat.le_refl _) (fun b _ hne=>hs2 b (Ne.symm (hne l _ hb))) (by rw[hs1];exact hw.blk o l hl)
         (.inr ⟨l,_,hb,rfl⟩) hst rfl (fun l0 hl0=>by rw[hl]at hl0;cases hl0;exact⟨Nat.le_refl _,fun _=>⟨by show l.len<=n+new.length;omega,fun e=>by exfalso;have:n+new.length=l.len:=e;omega⟩⟩)
         (fun hle=>⟨hlen2.symm,hlk,by rw[hlen2];exact hfit,fun j hj => ?_,hall.row,fun j hj => ?_,fun i' j row c h1 h2 => ?_⟩) (qI _ _ _ _),
         .sr o v' _ { l with len:=n+new.length } _ _ (by simp[G.setObj]) (by show v'<=l.st;omega) (fun _=>Nat.le_refl _) (by show n+new.length<=l.cap;omega) fun _ _=>⟨rfl,rfl⟩⟩
       ·rw[hsv];exact eI ht hu hd hi hN hfit (by simp only[fP,Nat.zero_add];simpa using hst0)
       ·show (w.setCells l.b (n*i.size) news).frozen? _=false
        rw[World.frozen?_setCells];refine hsoft j ?_
        by_cases hr:n*i.size<=j/\j<n*i.size+news.length
        ·have:=hin (j - n*i.size) (by omega)
         rwa [show n*i.size+(j - n*i.size)=j by omega]at this
        ·have hj':((w.setCells l.b (n*i.size) news).cell? ⟨l.b,j,none⟩).isSome=true:=hj
         rwa [World.cell?_setCells_out l.b news (n*i.size) w ⟨l.b,j,none⟩ (fun _ _=>by simp;omega)]at hj'
       ·show ((w.setCells l.b (n*i.size) news).cell? ⟨l.b,j,none⟩).isSome=true
        by_cases hr:n*i.size<=j/\j<n*i.size+news.length
        ·have:=World.cell?_setCells_in l.b news (n*i.size) w hin (j - n*i.size) (by omega)
         rw[show n*i.size+(j - n*i.size)=j by omega]at this
         rw[this];rfl
        ·rw[World.cell?_setCells_out l.b news (n*i.size) w ⟨l.b,j,none⟩ (fun _ _=>by simp;omega)]
         exact hsome j hj
       ·have hi':i'<(rows++new).length:=(List.getElem?_eq_some_iff.1 h1).1;have hjk:j<i.size:=by rw[<- hall.row row (List.mem_of_getElem? h1)];exact (List.getElem?_eq_some_iff.1 h2).1
        have hlt:=eC hi' hjk;rw[hlen2,Nat.add_mul]at hlt;have hs:=List.all_eq_true.1 (List.all_eq_true.1 hallst row (List.mem_of_getElem? h1)) c (List.mem_of_getElem? h2);refine⟨hs, ?_⟩
        show ∃x,(w.setCells l.b (n*i.size) news).cell? ⟨l.b,i'*i.size+j,none⟩=some x/\_
        rw[List.getElem?_append]at h1
        split at h1
        ·rename_i hi2;have hlt2:=eC hi2 hjk;rw[hlen]at hlt2;rw[World.cell?_setCells_out l.b news (n*i.size) w ⟨l.b,i'*i.size+j,none⟩ (fun _ _=>by simp;omega)]
         obtain⟨_,y,hy,hr⟩:=hcell i' j row c h1 h2;exact⟨y,hy,hr.mono hle⟩
        ·rename_i hi2;have hge:rows.length*i.size<=i'*i.size:=Nat.mul_le_mul_right _ (by omega)
         rw[hlen]at hge;have hjn:i'*i.size+j - n*i.size<news.length:=by omega
         have:=World.cell?_setCells_in l.b news (n*i.size) w hin (i'*i.size+j - n*i.size) hjn;rw[show n*i.size+(i'*i.size+j - n*i.size)=i'*i.size+j by omega]at this
         refine⟨_,this,(hrr.rel (i' - rows.length) j row c _ h1 h2 ?_).mono hle⟩;rw[Nat.sub_mul,hlen,show i'*i.size - n*i.size+j=i'*i.size+j - n*i.size by omega]
         simp[hjn]
      ·
       have hrun:=gN (w:=w) (P:=P) (ty:=ty) ht hu hd hi hz (sLen:=n) (sCap:=l.cap) (base:=some ⟨l.b,0,none⟩) (olds:=olds) hN (by intro w2 e;have:=hO.cells w2 e;simpa [Builtin.firstCells,hlen]using this) (by omega) hroom
       have hcap':=grownCap_ge w (n+new.length) l.cap e;have hll:=hall.len;generalize hW:w.drew.alloc (.cells (olds.toArray++(news.toArray++Builtin.zeroCells z.cells (grownCap w (n+new.length) l.cap e - (n+new.length)))) e)=W at hrun;have hWh:W.heap=w.heap.push (.cells (olds.toArray++(news.toArray++Builtin.zeroCells z.cells (grownCap w (n+new.length) l.cap e - (n+new.length)))) e):=by rw[<- hW];rfl
       have hWio:W.os=w.os/\W.output=w.output:=by rw[<- hW];exact⟨rfl,rfl⟩
       have htake:(olds.toArray++(news.toArray++Builtin.zeroCells z.cells (grownCap w (n+new.length) l.cap e - (n+new.length)))).toList.take ((rows++new).length*i.size)=olds++news:=by
        simp only[Array.toList_append,<- List.append_assoc];rw[<- hll];exact List.take_left
       have hsz:(olds.toArray++(news.toArray++Builtin.zeroCells z.cells (grownCap w (n+new.length) l.cap e - (n+new.length)))).size=grownCap w (n+new.length) l.cap e*i.size:=by
        have h1:=hro.len;have h2:=hrr.len;rw[hlen]at h1;simp only[Array.size_append,List.size_toArray,size_zeroCells,hzs,h1,h2,<- Nat.add_mul];congr 1;omega
       generalize hcs:(olds.toArray++(news.toArray++Builtin.zeroCells z.cells (grownCap w (n+new.length) l.cap e - (n+new.length))))=C at hWh htake hsz;refine fin (.slice (some ⟨w.heap.size,0,none⟩) (n+new.length) (grownCap w (n+new.length) l.cap e)) W (by rw[hsv];exact hrun)
        ⟨g.setObj o ⟨w.heap.size,v',n+new.length,i.size,grownCap w (n+new.length) l.cap e⟩,Step.update hw o _ _ (hw.lt o l hl) (by rw[hWh];simp) (fun b hb' _=>cB hWh hb') (by rw[hWh];simp)
         (.inl (Nat.le_refl _)) rfl rfl (fun l0 hl0=>by rw[hl]at hl0;cases hl0;exact⟨by show l.st<=v';omega,fun _=>⟨by show l.len<=n+new.length;omega,fun e=>by exfalso;have:n+new.length=l.len:=e;omega⟩⟩)
         (fun hle=>⟨hlen2.symm,rfl,by rw[hlen2];exact hcap',vD hWh,hall.row,fun j hj => ?_,fun i' j row c h1 h2 => ?_⟩) hWio,
         .sr o v' _ _ _ _ (by simp[G.setObj];rfl) (Nat.le_refl _) (fun _=>Nat.le_refl _) (by show n+new.length<=_;omega) fun _ _=>⟨rfl,rfl⟩⟩
       ·rw[jG hWh];have:j<C.size:=by rw[hsz];exact hj
        simp[this]
       ·have hi':i'<(rows++new).length:=(List.getElem?_eq_some_iff.1 h1).1;have hjk:j<i.size:=by rw[<- hall.row row (List.mem_of_getElem? h1)];exact (List.getElem?_eq_some_iff.1 h2).1
        have hlt:=eC hi' hjk;have hs:=List.all_eq_true.1 (List.all_eq_true.1 hallst row (List.mem_of_getElem? h1)) c (List.mem_of_getElem? h2);have hl2:i'*i.size+j<(olds++news).length:=by rw[hll];exact hlt
        refine⟨hs,(olds++news)[i'*i.size+j], ?_,(hall.rel i' j row c _ h1 h2 (by simp)).mono hle⟩
        rw[jG hWh];have:C.toList[i'*i.size+j]? = some ((olds++news)[i'*i.size+j]):=by
         have h3:(C.toList.take ((rows++new).length*i.size))[i'*i.size+j]? = (olds++news)[i'*i.size+j]? := by rw[htake]
         rw[List.getElem?_take,if_pos hlt]at h3;rw[h3];exact List.getElem?_eq_getElem hl2
        simpa using this
   ·cases h
  ·cases h
 ·rename_i o v n hh0
  split at h
  ·rename_i v' k' rows hH
   split at h
   ·rename_i hc;cases h;obtain⟨rfl,hlen,rfl,hle0,hroom⟩:=hc;simp only[bP,decide_eq_true_eq]at hroom;generalize hsv:a.eval S=sval at hrs;cases hrs with
    |srw o v n hi l b cap hl hv hn hhi hh=>
     have hst:l.st=v':=by
      have:=hw.st o _ l hH hl;simp only[AObj.ver]at this;omega
     have hb:Backed g H o l (.vec v' i.size rows):=⟨hH,rfl,hl,hst⟩;obtain⟨h0,hlk,hcap,hsoft,hk,hsome,hcell⟩:=hw.obj o l _ hb;obtain⟨rfl,rfl⟩:=hh hst (by omega)
     have hhr:cH i.size (rows.take hh0)=true:=by
      cases hrw:rows.take hh0 with
      |nil=>rfl
      |cons r rs=>simpa [cH]using hk r (List.mem_of_mem_take (by rw[hrw];simp))
     have hsr:VRel g (.srw o v' n hh0) (.slice (some ⟨l.b,0,none⟩) hh0 l.cap):=.srw o v' n hh0 l _ _ hl hv hn hhi (fun _ _=>⟨rfl,rfl⟩);obtain⟨olds,hO,hro,hrst⟩:=gA (P:=P) (v:=.srw o v' n hh0) hw (by simp[cU,eH,hH,hlen,hle0]) hhr hsr
     have hall:=hro.append hrr;have hallst:(rows.take hh0++new).all (fun r=>r.all AV.cellOk)=true:=by rw[List.all_append,hrst,hstill];rfl
     have hlt:(rows.take hh0).length=hh0:=by rw[List.length_take];omega
     have hlen2:(rows.take hh0++new).length=hh0+new.length:=by rw[List.length_append,hlt]
     have hgle:∀l':Loc,l'.st=v'+1->∀l0,g.obj o=some l0->l0.st<=l'.st/\(l'.st=l0.st->l0.len<=l'.len/\(l'.len=l0.len->l'=l0)):=fun l' e l0 hl0=>by
      rw[hl]at hl0;cases hl0;exact⟨by omega,fun e2=>by omega⟩
     by_cases hfit:hh0+new.length<=l.cap
     ·
      have hbig:(hh0+new.length)*i.size<=l.cap*i.size:=Nat.mul_le_mul_right _ hfit;rw[Nat.add_mul]at hbig;have hnl:=hrr.len;have hol:=hro.len;rw[hlt]at hol;have hin:∀j,j<news.length->(w.cell? ⟨l.b,hh0*i.size+j,none⟩).isSome=true:=fun j hj=>hsome _ (by omega)
      obtain⟨hs1,hs2⟩:=mM l.b news (hh0*i.size) w;have hone:∀y∈news,y.oneCell'=true:=hrr.oneCell hstill;have hst0:=run_storeCells_cells (P:=P) l.b (hh0*i.size) news 0 w (by simpa using hin) (by intro j hj;exact hsoft _ (by simpa using hin j hj)) hone
      refine fin (.slice (some ⟨l.b,0,none⟩) (hh0+new.length) l.cap) (w.setCells l.b (hh0*i.size) news) ?_
       ⟨g.setObj o { l with len:=hh0+new.length,st:=v'+1 },Step.update hw o _ _ (hw.lt o l hl) (by rw[hs1];exact Nat.le_refl _) (fun b _ hne=>hs2 b (Ne.symm (hne l _ hb))) (by rw[hs1];exact hw.blk o l hl)
        (.inr ⟨l,_,hb,rfl⟩) rfl rfl (hgle _ rfl)
        (fun hle=>⟨hlen2.symm,hlk,by rw[hlen2];exact hfit,fun j hj => ?_,hall.row,fun j hj => ?_,fun i' j row c h1 h2 => ?_⟩) (qI _ _ _ _),
        .sr o (v'+1) _ { l with len:=hh0+new.length,st:=v'+1 } _ _ (by simp[G.setObj]) (Nat.le_refl _) (fun _=>Nat.le_refl _) (by show hh0+new.length<=l.cap;omega) fun _ _=>⟨rfl,rfl⟩⟩
      ·rw[hsv];exact eI ht hu hd hi hN hfit (by simp only[fP,Nat.zero_add];simpa using hst0)
      ·show (w.setCells l.b (hh0*i.size) news).frozen? _=false
       rw[World.frozen?_setCells];refine hsoft j ?_
       by_cases hr:hh0*i.size<=j/\j<hh0*i.size+news.length
       ·have:=hin (j - hh0*i.size) (by omega)
        rwa [show hh0*i.size+(j - hh0*i.size)=j by omega]at this
       ·have hj':((w.setCells l.b (hh0*i.size) news).cell? ⟨l.b,j,none⟩).isSome=true:=hj
        rwa [World.cell?_setCells_out l.b news (hh0*i.size) w ⟨l.b,j,none⟩ (fun _ _=>by simp;omega)]at hj'
      ·show ((w.setCells l.b (hh0*i.size) news).cell? ⟨l.b,j,none⟩).isSome=true
       by_cases hr:hh0*i.size<=j/\j<hh0*i.size+news.length
       ·have:=World.cell?_setCells_in l.b news (hh0*i.size) w hin (j - hh0*i.size) (by omega)
        rw[show hh0*i.size+(j - hh0*i.size)=j by omega]at this
        rw[this];rfl
       ·rw[World.cell?_setCells_out l.b news (hh0*i.size) w ⟨l.b,j,none⟩ (fun _ _=>by simp;omega)]
        exact hsome j hj
      ·have hi':i'<(rows.take hh0++new).length:=(List.getElem?_eq_some_iff.1 h1).1;have hjk:j<i.size:=by rw[<- hall.row row (List.mem_of_getElem? h1)];exact (List.getElem?_eq_some_iff.1 h2).1
       have hlt3:=eC hi' hjk;rw[hlen2,Nat.add_mul]at hlt3;have hs:=List.all_eq_true.1 (List.all_eq_true.1 hallst row (List.mem_of_getElem? h1)) c (List.mem_of_getElem? h2);refine⟨hs, ?_⟩
       show ∃x,(w.setCells l.b (hh0*i.size) news).cell? ⟨l.b,i'*i.size+j,none⟩=some x/\_
       rw[List.getElem?_append]at h1
       split at h1
       ·rename_i hi2;have hlt2:=eC hi2 hjk;rw[hlt]at hlt2 hi2;rw[World.cell?_setCells_out l.b news (hh0*i.size) w ⟨l.b,i'*i.size+j,none⟩ (fun _ _=>by simp;omega)]
        rw[List.getElem?_take,if_pos hi2]at h1;obtain⟨_,y,hy,hr⟩:=hcell i' j row c h1 h2;exact⟨y,hy,hr.mono hle⟩
       ·rename_i hi2;have hge:(rows.take hh0).length*i.size<=i'*i.size:=Nat.mul_le_mul_right _ (by omega)
        rw[hlt]at hge;have hjn:i'*i.size+j - hh0*i.size<news.length:=by omega
        have:=World.cell?_setCells_in l.b news (hh0*i.size) w hin (i'*i.size+j - hh0*i.size) hjn;rw[show hh0*i.size+(i'*i.size+j - hh0*i.size)=i'*i.size+j by omega]at this
        refine⟨_,this,(hrr.rel (i' - (rows.take hh0).length) j row c _ h1 h2 ?_).mono hle⟩;rw[Nat.sub_mul,hlt,show i'*i.size - hh0*i.size+j=i'*i.size+j - hh0*i.size by omega]
        simp[hjn]
     ·
      have hrun:=gN (w:=w) (P:=P) (ty:=ty) ht hu hd hi hz (sLen:=hh0) (sCap:=l.cap) (base:=some ⟨l.b,0,none⟩) (olds:=olds) hN
       (by intro w2 e;have:=hO.cells w2 e;simpa [Builtin.firstCells,hlt]using this) (by omega) hroom
      have hcap':=grownCap_ge w (hh0+new.length) l.cap e;have hll:=hall.len;generalize hW:w.drew.alloc (.cells (olds.toArray++(news.toArray++Builtin.zeroCells z.cells (grownCap w (hh0+new.length) l.cap e - (hh0+new.length)))) e)=W at hrun;have hWh:W.heap=w.heap.push (.cells (olds.toArray++(news.toArray++Builtin.zeroCells z.cells (grownCap w (hh0+new.length) l.cap e - (hh0+new.length)))) e):=by rw[<- hW];rfl
      have hWio:W.os=w.os/\W.output=w.output:=by rw[<- hW];exact⟨rfl,rfl⟩
      have htake:(olds.toArray++(news.toArray++Builtin.zeroCells z.cells (grownCap w (hh0+new.length) l.cap e - (hh0+new.length)))).toList.take ((rows.take hh0++new).length*i.size)=olds++news:=by
       simp only[Array.toList_append,<- List.append_assoc];rw[<- hll];exact List.take_left
      have hsz:(olds.toArray++(news.toArray++Builtin.zeroCells z.cells (grownCap w (hh0+new.length) l.cap e - (hh0+new.length)))).size=grownCap w (hh0+new.length) l.cap e*i.size:=by
       have h1:=hro.len;have h2:=hrr.len;rw[hlt]at h1;simp only[Array.size_append,List.size_toArray,size_zeroCells,hzs,h1,h2,<- Nat.add_mul];congr 1;omega
      generalize hcs:(olds.toArray++(news.toArray++Builtin.zeroCells z.cells (grownCap w (hh0+new.length) l.cap e - (hh0+new.length))))=C at hWh htake hsz;refine fin (.slice (some ⟨w.heap.size,0,none⟩) (hh0+new.length) (grownCap w (hh0+new.length) l.cap e)) W (by rw[hsv];exact hrun)
       ⟨g.setObj o ⟨w.heap.size,v'+1,hh0+new.length,i.size,grownCap w (hh0+new.length) l.cap e⟩,Step.update hw o _ _ (hw.lt o l hl) (by rw[hWh];simp) (fun b hb' _=>cB hWh hb') (by rw[hWh];simp)
        (.inl (Nat.le_refl _)) rfl rfl (hgle _ rfl)
        (fun hle=>⟨hlen2.symm,rfl,by rw[hlen2];exact hcap',vD hWh,hall.row,fun j hj => ?_,fun i' j row c h1 h2 => ?_⟩) hWio,
        .sr o (v'+1) _ _ _ _ (by simp[G.setObj];rfl) (Nat.le_refl _) (fun _=>Nat.le_refl _) (by show hh0+new.length<=_;omega) fun _ _=>⟨rfl,rfl⟩⟩
      ·rw[jG hWh];have:j<C.size:=by rw[hsz];exact hj
       simp[this]
      ·have hi':i'<(rows.take hh0++new).length:=(List.getElem?_eq_some_iff.1 h1).1;have hjk:j<i.size:=by rw[<- hall.row row (List.mem_of_getElem? h1)];exact (List.getElem?_eq_some_iff.1 h2).1
       have hlt3:=eC hi' hjk;have hs:=List.all_eq_true.1 (List.all_eq_true.1 hallst row (List.mem_of_getElem? h1)) c (List.mem_of_getElem? h2);have hl2:i'*i.size+j<(olds++news).length:=by rw[hll];exact hlt3
       refine⟨hs,(olds++news)[i'*i.size+j], ?_,(hall.rel i' j row c _ h1 h2 (by simp)).mono hle⟩
       rw[jG hWh];have:C.toList[i'*i.size+j]? = some ((olds++news)[i'*i.size+j]):=by
        have h3:(C.toList.take ((rows.take hh0++new).length*i.size))[i'*i.size+j]? = (olds++news)[i'*i.size+j]? := by rw[htake]
        rw[List.getElem?_take,if_pos hlt3]at h3;rw[h3];exact List.getElem?_eq_getElem hl2
       simpa using this
   ·cases h
  ·cases h
 ·cases h
theorem aSU{t u e ty:TypeId}{i:TypeInfo}{z:Value}{d:TypeDesc}{S X:Operand}{s x:AOpd}(ht:P.underlying t=some (.slice e))(hu:P.underlying u=some d)(hd:∀k,d≠.int k)(hi:P.info? e=some i)(hz:i.zero=some z)
  (hS:eO glob S=some s) (hX:eO glob X=some x) (hzs:z.cells.size=i.size) {call:Nat->List AV->List AObj->Out} {site:Option Nat}
  {av:AV} {H':List AObj} {wr:List Nat} (h:evW call H ρ site (.tapp e i.size i.bytes s x)=some (av,H',wr)) (hw:WF g H w) (hg:bI P glob g) (hs:aT g ρ a.tmps):
  yD P ⟨dst,.call { callee:=.builtin .append,args := #[S,X],argTypes := #[t,u] },ty,pos,after,guard⟩ a w fun v w'=>∃g',Step g H w g' H' w' wr/\VRel g' av v:=by
 have hrs:=aJ hS hg hs;have hrx:=aJ hX hg hs;have fin:∀v w',(Builtin.append_ #[t,u] ty #[a.eval S,a.eval X]).run P w=.ok v w'->(∃g',Step g H w g' H' w' wr/\VRel g' av v) ->
   yD P ⟨dst,.call { callee:=.builtin .append,args := #[S,X],argTypes := #[t,u] },ty,pos,after,guard⟩ a w fun v w'=>∃g',Step g H w g' H' w' wr/\VRel g' av v:=fun v w' hr hR=>
  .inl ⟨v,w',by simp[execOp,resolve,invoke,builtin,hr],hR⟩
 simp only[evW,tX]at h
 split at h
 ·cases h
 rename_i new hnew
 split at h
 ·cases h
 rename_i hhead;have hhead':cH i.size new=true:=by simpa using hhead
 obtain⟨news,hN,hrr,hstill⟩:=gA (P:=P) hw hnew hhead' hrx;generalize s.ev ρ=sv at h hrs
 split at h
 ·split at h
  ·rename_i hemp;cases h;have hn0:new=[]:=by simpa using hemp
   subst hn0;have hnews:news=[]:=List.eq_nil_of_length_eq_zero (by have:=hN.size;simpa using this)
   subst hnews;generalize hsv:a.eval S=sval at hrs;cases hrs;refine fin _ w ?_ ⟨g,.refl hw,.nilSl⟩;rw[hsv];exact eI ht hu hd hi hN (by simp) (by simp)
  ·rename_i hemp
   split at h
   ·rename_i hroom;simp only[bP,decide_eq_true_eq]at hroom
    split at h
    ·rename_i id
     split at h
     ·rename_i hid;cases h;have hpos:0<new.length:=by
       cases new with
       |nil=>simp at hemp
       |cons _ _=>simp
      generalize hsv:a.eval S=sval at hrs;cases hrs;have hrun:=gN (w:=w) (P:=P) (ty:=ty) ht hu hd hi hz (base:=none) (sLen:=0) (sCap:=0) (olds:=[]) hN (fun _ _=>rfl) (by omega) (by simpa using hroom)
      have hcap:=grownCap_ge w (0+new.length) 0 e;obtain⟨g',h1,h2⟩:=Step.newTVec (w':=w.drew.alloc (.cells (([]:List Value).toArray++(news.toArray++Builtin.zeroCells z.cells (grownCap w (0+new.length) 0 e - (0+new.length)))) e)) hw hid (t:=e) rfl
       (k:=i.size) (cap:=grownCap w (0+new.length) 0 e) (rows:=new)
       (by
        have:((([]:List Value).toArray++(news.toArray++Builtin.zeroCells z.cells (grownCap w (0+new.length) 0 e - (0+new.length)))).toList).take (new.length*i.size)=news:=by
         simp only[Array.toList_append,List.nil_append];rw[<- hrr.len];exact List.take_left
        rw[this];exact hrr)
       hstill (by omega)
       (by
        have h2:=hrr.len;simp only[Array.size_append,List.size_toArray,size_zeroCells,hzs,h2,List.length_nil,<- Nat.add_mul,Nat.zero_add];rw[Nat.zero_add]at hcap;congr 1;omega)
      rw[Nat.zero_add]at hrun h1 h2;exact .inl ⟨_,_,by simp[execOp,resolve,invoke,builtin,hsv,hrun],g',h1,h2⟩
     ·cases h
    ·cases h
   ·cases h
 ·rename_i o v n
  split at h
  ·rename_i v' ty' k' rows hH
   split at h
   ·rename_i hc;obtain⟨rfl,hlen,rfl,hty,hroom⟩:=hc;subst ty';simp only[bP,decide_eq_true_eq]at hroom;generalize hsv:a.eval S=sval at hrs;cases hrs with
    |sr o v n l b cap hl hv hn hc0 hh=>
     have hst:l.st=v':=by
      have:=hw.st o _ l hH hl;simp only[AObj.ver]at this;omega
     have hb:Backed g H o l (.tvec v' e i.size rows):=⟨hH,rfl,hl,hst⟩;obtain⟨⟨h0,hlk,hcap,hsoft,hk,hsome,hcell⟩,cs0,hblk⟩:=hw.obj o l _ hb;obtain⟨rfl,rfl⟩:=hh hst (by omega)
     split at h
     ·rename_i hemp;cases h;have hn0:new=[]:=by simpa using hemp
      subst hn0;have hnews:news=[]:=List.eq_nil_of_length_eq_zero (by have:=hN.size;simpa using this)
      subst hnews;refine fin (.slice (some ⟨l.b,0,none⟩) n l.cap) w ?_ ⟨g,.refl hw,.sr o v' n l _ _ hl hv hn hc0 hh⟩;rw[hsv];exact eI ht hu hd hi hN (by simp;omega) (by simp[Go.storeCells])
     ·rename_i hemp;cases h;have hpos:0<new.length:=by
       cases new with
       |nil=>simp at hemp
       |cons _ _=>simp
      have hhr:cH i.size rows=true:=by
       cases rows with
       |nil=>rfl
       |cons r rs=>simpa [cH]using hk r (by simp)
      have hsr:VRel g (.sr o v' rows.length) (.slice (some ⟨l.b,0,none⟩) rows.length l.cap):=by rw[hlen];exact .sr o v' n l _ _ hl hv hn hc0 hh
      obtain⟨olds,hO,hro,hrst⟩:=gA (P:=P) (v:=.sr o v' rows.length) hw (by simp[cU,eH,hH]) hhr hsr
      have hall:=hro.append hrr;have hallst:(rows++new).all (fun r=>r.all AV.cellOk)=true:=by rw[List.all_append,hrst,hstill];rfl
      have hlen2:(rows++new).length=n+new.length:=by simp;omega
      by_cases hfit:n+new.length<=l.cap
      ·
       have hbig:(n+new.length)*i.size<=l.cap*i.size:=Nat.mul_le_mul_right _ hfit;rw[Nat.add_mul]at hbig;have hnl:=hrr.len;have hol:=hro.len;rw[hlen]at hol;have hin:∀j,j<news.length->(w.cell? ⟨l.b,n*i.size+j,none⟩).isSome=true:=fun j hj=>hsome _ (by omega)
       obtain⟨hs1,hs2⟩:=mM l.b news (n*i.size) w;have hone:∀y∈news,y.oneCell'=true:=hrr.oneCell hstill;have hst0:=run_storeCells_cells (P:=P) l.b (n*i.size) news 0 w (by simpa using hin) (by intro j hj;exact hsoft _ (by simpa using hin j hj)) hone
       refine fin (.slice (some ⟨l.b,0,none⟩) (n+new.length) l.cap) (w.setCells l.b (n*i.size) news) ?_
        ⟨g.setObj o { l with len:=n+new.length },Step.update hw o _ _ (hw.lt o l hl) (by rw[hs1];exact Nat.le_refl _) (fun b _ hne=>hs2 b (Ne.symm (hne l _ hb))) (by rw[hs1];exact hw.blk o l hl)
         (.inr ⟨l,_,hb,rfl⟩) hst rfl (fun l0 hl0=>by rw[hl]at hl0;cases hl0;exact⟨Nat.le_refl _,fun _=>⟨by show l.len<=n+new.length;omega,fun e=>by exfalso;have:n+new.length=l.len:=e;omega⟩⟩)
         (fun hle=>⟨⟨hlen2.symm,hlk,by rw[hlen2];exact hfit,fun j hj => ?_,hall.row,fun j hj => ?_,fun i' j row c h1 h2 => ?_⟩,let ⟨cs',q,_⟩:=sI l.b news (n*i.size) w cs0 _ (0,0) hblk;⟨cs',q⟩⟩) (qI _ _ _ _),
         .sr o v' _ { l with len:=n+new.length } _ _ (by simp[G.setObj]) (by show v'<=l.st;omega) (fun _=>Nat.le_refl _) (by show n+new.length<=l.cap;omega) fun _ _=>⟨rfl,rfl⟩⟩
       ·rw[hsv];exact eI ht hu hd hi hN hfit (by simp only[fP,Nat.zero_add];simpa using hst0)
       ·show (w.setCells l.b (n*i.size) news).frozen? _=false
        rw[World.frozen?_setCells];refine hsoft j ?_
        by_cases hr:n*i.size<=j/\j<n*i.size+news.length
        ·have:=hin (j - n*i.size) (by omega)
         rwa [show n*i.size+(j - n*i.size)=j by omega]at this
        ·have hj':((w.setCells l.b (n*i.size) news).cell? ⟨l.b,j,none⟩).isSome=true:=hj
         rwa [World.cell?_setCells_out l.b news (n*i.size) w ⟨l.b,j,none⟩ (fun _ _=>by simp;omega)]at hj'
       ·show ((w.setCells l.b (n*i.size) news).cell? ⟨l.b,j,none⟩).isSome=true
        by_cases hr:n*i.size<=j/\j<n*i.size+news.length
        ·have:=World.cell?_setCells_in l.b news (n*i.size) w hin (j - n*i.size) (by omega)
         rw[show n*i.size+(j - n*i.size)=j by omega]at this
         rw[this];rfl
        ·rw[World.cell?_setCells_out l.b news (n*i.size) w ⟨l.b,j,none⟩ (fun _ _=>by simp;omega)]
         exact hsome j hj
       ·have hi':i'<(rows++new).length:=(List.getElem?_eq_some_iff.1 h1).1;have hjk:j<i.size:=by rw[<- hall.row row (List.mem_of_getElem? h1)];exact (List.getElem?_eq_some_iff.1 h2).1
        have hlt:=eC hi' hjk;rw[hlen2,Nat.add_mul]at hlt;have hs:=List.all_eq_true.1 (List.all_eq_true.1 hallst row (List.mem_of_getElem? h1)) c (List.mem_of_getElem? h2);refine⟨hs, ?_⟩
        show ∃x,(w.setCells l.b (n*i.size) news).cell? ⟨l.b,i'*i.size+j,none⟩=some x/\_
        rw[List.getElem?_append]at h1
        split at h1
        ·rename_i hi2;have hlt2:=eC hi2 hjk;rw[hlen]at hlt2;rw[World.cell?_setCells_out l.b news (n*i.size) w ⟨l.b,i'*i.size+j,none⟩ (fun _ _=>by simp;omega)]
         obtain⟨_,y,hy,hr⟩:=hcell i' j row c h1 h2;exact⟨y,hy,hr.mono hle⟩
        ·rename_i hi2;have hge:rows.length*i.size<=i'*i.size:=Nat.mul_le_mul_right _ (by omega)
         rw[hlen]at hge;have hjn:i'*i.size+j - n*i.size<news.length:=by omega
         have:=World.cell?_setCells_in l.b news (n*i.size) w hin (i'*i.size+j - n*i.size) hjn;rw[show n*i.size+(i'*i.size+j - n*i.size)=i'*i.size+j by omega]at this
         refine⟨_,this,(hrr.rel (i' - rows.length) j row c _ h1 h2 ?_).mono hle⟩;rw[Nat.sub_mul,hlen,show i'*i.size - n*i.size+j=i'*i.size+j - n*i.size by omega]
         simp[hjn]
      ·
       have hrun:=gN (w:=w) (P:=P) (ty:=ty) ht hu hd hi hz (sLen:=n) (sCap:=l.cap) (base:=some ⟨l.b,0,none⟩) (olds:=olds) hN (by intro w2 e;have:=hO.cells w2 e;simpa [Builtin.firstCells,hlen]using this) (by omega) hroom
       have hcap':=grownCap_ge w (n+new.length) l.cap e;have hll:=hall.len;generalize hW:w.drew.alloc (.cells (olds.toArray++(news.toArray++Builtin.zeroCells z.cells (grownCap w (n+new.length) l.cap e - (n+new.length)))) e)=W at hrun;have hWh:W.heap=w.heap.push (.cells (olds.toArray++(news.toArray++Builtin.zeroCells z.cells (grownCap w (n+new.length) l.cap e - (n+new.length)))) e):=by rw[<- hW];rfl
       have hWio:W.os=w.os/\W.output=w.output:=by rw[<- hW];exact⟨rfl,rfl⟩
       have htake:(olds.toArray++(news.toArray++Builtin.zeroCells z.cells (grownCap w (n+new.length) l.cap e - (n+new.length)))).toList.take ((rows++new).length*i.size)=olds++news:=by
        simp only[Array.toList_append,<- List.append_assoc];rw[<- hll];exact List.take_left
       have hsz:(olds.toArray++(news.toArray++Builtin.zeroCells z.cells (grownCap w (n+new.length) l.cap e - (n+new.length)))).size=grownCap w (n+new.length) l.cap e*i.size:=by
        have h1:=hro.len;have h2:=hrr.len;rw[hlen]at h1;simp only[Array.size_append,List.size_toArray,size_zeroCells,hzs,h1,h2,<- Nat.add_mul];congr 1;omega
       generalize hcs:(olds.toArray++(news.toArray++Builtin.zeroCells z.cells (grownCap w (n+new.length) l.cap e - (n+new.length))))=C at hWh htake hsz;refine fin (.slice (some ⟨w.heap.size,0,none⟩) (n+new.length) (grownCap w (n+new.length) l.cap e)) W (by rw[hsv];exact hrun)
        ⟨g.setObj o ⟨w.heap.size,v',n+new.length,i.size,grownCap w (n+new.length) l.cap e⟩,Step.update hw o _ _ (hw.lt o l hl) (by rw[hWh];simp) (fun b hb' _=>cB hWh hb') (by rw[hWh];simp)
         (.inl (Nat.le_refl _)) rfl rfl (fun l0 hl0=>by rw[hl]at hl0;cases hl0;exact⟨by show l.st<=v';omega,fun _=>⟨by show l.len<=n+new.length;omega,fun e=>by exfalso;have:n+new.length=l.len:=e;omega⟩⟩)
         (fun hle=>⟨⟨hlen2.symm,rfl,by rw[hlen2];exact hcap',vD hWh,hall.row,fun j hj => ?_,fun i' j row c h1 h2 => ?_⟩,C,by rw[hWh];simp⟩) hWio,
         .sr o v' _ _ _ _ (by simp[G.setObj];rfl) (Nat.le_refl _) (fun _=>Nat.le_refl _) (by show n+new.length<=_;omega) fun _ _=>⟨rfl,rfl⟩⟩
       ·rw[jG hWh];have:j<C.size:=by rw[hsz];exact hj
        simp[this]
       ·have hi':i'<(rows++new).length:=(List.getElem?_eq_some_iff.1 h1).1;have hjk:j<i.size:=by rw[<- hall.row row (List.mem_of_getElem? h1)];exact (List.getElem?_eq_some_iff.1 h2).1
        have hlt:=eC hi' hjk;have hs:=List.all_eq_true.1 (List.all_eq_true.1 hallst row (List.mem_of_getElem? h1)) c (List.mem_of_getElem? h2);have hl2:i'*i.size+j<(olds++news).length:=by rw[hll];exact hlt
        refine⟨hs,(olds++news)[i'*i.size+j], ?_,(hall.rel i' j row c _ h1 h2 (by simp)).mono hle⟩
        rw[jG hWh];have:C.toList[i'*i.size+j]? = some ((olds++news)[i'*i.size+j]):=by
         have h3:(C.toList.take ((rows++new).length*i.size))[i'*i.size+j]? = (olds++news)[i'*i.size+j]? := by rw[htake]
         rw[List.getElem?_take,if_pos hlt]at h3;rw[h3];exact List.getElem?_eq_getElem hl2
        simpa using this
   ·cases h
  ·cases h
 ·cases h
theorem aQ9{α:Type}{l m:List α}{a:Nat}(h:a+m.length<=l.length)(i:Nat):(l.take a++m++l.drop (a+m.length))[i]? = if a<=i/\i<a+m.length then m[i - a]? else l[i]? := by
 have ha:(l.take a).length=a:=by simp;omega
 by_cases h1:i<a
 ·rw[if_neg (by omega),List.append_assoc,List.getElem?_append_left (by omega),List.getElem?_take,if_pos h1]
 ·rw[List.append_assoc,List.getElem?_append_right (by omega),ha]
  by_cases h2:i<a+m.length
  ·rw[if_pos ⟨by omega,h2⟩,List.getElem?_append_left (by omega)]
  ·rw[if_neg (by omega),List.getElem?_append_right (by omega),List.getElem?_drop]
   congr 1;omega
theorem aW8{t u e ty:TypeId}{k:Nat}{X Y:Operand}{x y:AOpd}(ht:P.underlying t=some (.slice e))(hsz:size? P e=some k)
  (hX:eO glob X=some x) (hY:eO glob Y=some y) {call:Nat->List AV->List AObj->Out} {site:Option Nat}
  {av:AV} {H':List AObj} {wr:List Nat} (h:evW call H ρ site (.cpy k x y)=some (av,H',wr)) (hw:WF g H w) (hg:bI P glob g) (hs:aT g ρ a.tmps):
  yD P ⟨dst,.call { callee:=.builtin .copy,args := #[X,Y],argTypes := #[t,u] },ty,pos,after,guard⟩ a w fun v w'=>∃g',Step g H w g' H' w' wr/\VRel g' av v:=by
 have hrx:=aJ hX hg hs;have hry:=aJ hY hg hs;have fin:∀v w',(Builtin.copy_ #[t,u] ty #[a.eval X,a.eval Y]).run P w=.ok v w'->(∃g',Step g H w g' H' w' wr/\VRel g' av v) ->
   yD P ⟨dst,.call { callee:=.builtin .copy,args := #[X,Y],argTypes := #[t,u] },ty,pos,after,guard⟩ a w fun v w'=>∃g',Step g H w g' H' w' wr/\VRel g' av v:=fun v w' hr hR=>
  .inl ⟨v,w',by simp[execOp,resolve,invoke,builtin,hr],hR⟩
 simp only[evW]at h
 split at h
 ·rename_i o v n k' lo hxe;rw[hxe]at hrx
  split at h
  ·rename_i v' k2 rows hH
   split at h
   ·rename_i new hnew;generalize hsv:a.eval X=sval at hrx;cases hrx with
    |srv o v n k' lo l b cap hl hv hn hlo hh=>
     by_cases hemp:new.isEmpty=true
     ·rw[if_pos hemp]at h;cases h;have hn0:new=[]:=by simpa using hemp
      subst hn0;obtain⟨news,hN,hrr,hstill⟩:=gA (P:=P) (k:=k) hw hnew rfl hry;have hnews:news=[]:=List.eq_nil_of_length_eq_zero (by have:=hN.size;simpa using this)
      subst hnews;refine fin (.int .i64 0) w ?_ ⟨g,.refl hw,.int _ _⟩;have hc:=hN.cells w rfl;have hm:Nat.min 0 (n - lo)=0:=Nat.zero_min _;rw[hsv];simp only[List.length_nil]at hN hc;simp[Builtin.copy_,run_underlying ht,hN.len,fI hsz,hm,hc,Go.storeCells,goInt]
     ·rw[if_neg hemp]at h
      split at h
      ·rename_i hc;cases h;obtain⟨rfl,hlen,rfl,rfl,hhead,hfit⟩:=hc;obtain⟨news,hN,hrr,hstill⟩:=gA (P:=P) hw hnew hhead hry;have hpos:0<new.length:=by
        cases new with
        |nil=>simp at hemp
        |cons _ _=>simp
       have hst:l.st=v':=by
        have:=hw.st o _ l hH hl;simp only[AObj.ver]at this;omega
       have hb:Backed g H o l (.vec v' k' rows):=⟨hH,rfl,hl,hst⟩;obtain⟨h0,hlk,hcap,hsoft,hk,hsome,hcell⟩:=hw.obj o l _ hb;obtain⟨off,rfl,hoff,_⟩:=hh hst (by omega)
       obtain rfl:=hoff (by omega)
       have hnl:=hrr.len;have hmul:lo*k'+new.length*k'<=rows.length*k':=by rw[<- Nat.add_mul];exact Nat.mul_le_mul_right _ (by omega)
       have hmul2:rows.length*k'<=l.cap*k':=Nat.mul_le_mul_right _ hcap;have hin:∀j,j<news.length->(w.cell? ⟨l.b,lo*k'+j,none⟩).isSome=true:=fun j hj=>hsome _ (by omega)
       have hone:∀y∈news,y.oneCell'=true:=hrr.oneCell hstill;have hst0:=run_storeCells_cells (P:=P) l.b (lo*k') news 0 w (by simpa using hin) (by intro j hj;exact hsoft _ (by simpa using hin j hj)) hone
       refine fin (.int .i64 new.length) (w.setCells l.b (lo*k') news) ?_ ⟨g,Step.write hw hb rfl rfl ⟨?_,hlk, ?_,fun j hj => ?_,fun r hr => ?_,fun j hj => ?_,fun i' j r c h1 h2 => ?_⟩,.int _ _⟩
       ·have hm:Nat.min new.length (n - lo)=new.length:=Nat.min_eq_left (by omega)
        have hc:=hN.cells w rfl;rw[hsv];simp only[Nat.add_zero]at hst0;simp[Builtin.copy_,run_underlying ht,hN.len,fI hsz,hm,hc,goInt,hst0]
       ·simp;omega
       ·simp;omega
       ·rw[World.frozen?_setCells];refine hsoft j ?_
        by_cases hr:lo*k'<=j/\j<lo*k'+news.length
        ·have:=hin (j - lo*k') (by omega)
         rwa [show lo*k'+(j - lo*k')=j by omega]at this
        ·rwa [World.cell?_setCells_out l.b news (lo*k') w ⟨l.b,j,none⟩ (fun _ _=>by simp;omega)]at hj
       ·rcases List.mem_append.1 hr with hr | hr
        ·rcases List.mem_append.1 hr with hr | hr
         ·exact hk r (List.mem_of_mem_take hr)
         ·exact hrr.row r hr
        ·exact hk r (List.mem_of_mem_drop hr)
       ·by_cases hr:lo*k'<=j/\j<lo*k'+news.length
        ·have:=World.cell?_setCells_in l.b news (lo*k') w hin (j - lo*k') (by omega)
         rw[show lo*k'+(j - lo*k')=j by omega]at this
         rw[this];rfl
        ·rw[World.cell?_setCells_out l.b news (lo*k') w ⟨l.b,j,none⟩ (fun _ _=>by simp;omega)]
         exact hsome j hj
       ·rw[aQ9 (by omega)]at h1
        split at h1
        ·rename_i hi;have hjk:j<k':=by rw[<- hrr.row r (List.mem_of_getElem? h1)];exact (List.getElem?_eq_some_iff.1 h2).1
         have hs:=List.all_eq_true.1 (List.all_eq_true.1 hstill r (List.mem_of_getElem? h1)) c (List.mem_of_getElem? h2);have hlt:=eC (show i' - lo<new.length by omega) hjk
         have hsub:(i' - lo)*k'=i'*k' - lo*k':=Nat.sub_mul _ _ _;have hge:lo*k'<=i'*k':=Nat.mul_le_mul_right _ hi.1;have:=World.cell?_setCells_in l.b news (lo*k') w hin ((i' - lo)*k'+j) (by omega)
         rw[show lo*k'+((i' - lo)*k'+j)=i'*k'+j by omega]at this
         exact⟨hs,_,this,hrr.rel (i' - lo) j r c _ h1 h2 (by simp)⟩
        ·rename_i hi;obtain⟨hs,y,hy,hr⟩:=hcell i' j r c h1 h2;have hjk:j<k':=by rw[<- hk r (List.mem_of_getElem? h1)];exact (List.getElem?_eq_some_iff.1 h2).1
         refine⟨hs,y, ?_,hr⟩;rw[World.cell?_setCells_out l.b news (lo*k') w ⟨l.b,i'*k'+j,none⟩ (fun _ _ => ?_)]
         ·exact hy
         ·by_cases hlt:i'<lo
          ·have:=eC hlt hjk;left;simp;omega
          ·have:(lo+new.length)*k'<=i'*k':=Nat.mul_le_mul_right _ (by omega)
           rw[Nat.add_mul]at this;right;simp;omega
      ·cases h
   ·cases h
  ·cases h
 ·cases h
end
end Go.AM
end
