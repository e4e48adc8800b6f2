/- Part 2: lemmas for the last text. -/
import Derived.Test.YtdljbhnhogpopaaGreatDoorK01
set_option linter.defProp false
set_option linter.unusedVariables false
set_option linter.unusedSimpArgs false
open Array renaming toList_append -> EK, size_append -> FP, length_toList -> DI, range -> CV, ext' -> JD, map -> JO, getD_eq_getD_getElem? -> CR, getElem?_eq_getElem -> CM, all_eq_true_iff_forall_mem -> JH
open Bool renaming and_eq_true -> AI, false_eq_true -> BX, or_eq_true -> EA, not_eq_true' -> KB, true_and -> BR, false_ne_true -> ED, rec -> MM, true -> Pa, false -> Po
open Function renaming comp_def -> MG
open Go renaming Program -> CU, World -> BL, TypeId -> BP, Value -> BE, TypeDesc -> Hk, Operand -> CA, grownCap_ge -> IG, size_zeroCells -> HF, run_storeCells_cells -> GH, run_underlying -> BH, storeCells -> IB, Oper -> HP, undef -> EE, Deferred -> HU
open Go.Builtin renaming append_ -> DA, zeroCells -> CD, firstCells -> DY, copy_ -> KJ
open Go.Code renaming region -> PJ
open Go.Deferred renaming ofValue -> JF
open Go.Instr renaming fill -> FZ, keyThatStays -> MR, mapUpdate -> IH
open Go.MapKept renaming run_findKey -> LY, run_getObj_map -> FH, run_setObj_map -> LD
open Go.Region renaming wanted -> OJ, binds -> LZ, ready -> HO
open Go.Result renaming andThen_ok -> BJ, andThen -> DL
open Go.Sem renaming run_bind -> BS
open Go.World renaming frozen?_setCells -> EI, cell?_setCells_out -> BV, cell?_setCells_in -> CQ
open List renaming mem_iff_getElem? -> CO, getElem?_eq_some_iff -> AH, getElem_mem -> AS, all_eq_true -> AO, eq_nil_of_length_eq_zero -> DP, nil_append -> CW, take_left -> GU, size_toArray -> FT, length_nil -> AZ, append_assoc -> CJ, all_append -> IL, mem_of_getElem? -> AN, getElem?_append -> DG, getElem?_take -> CF, getElem?_eq_getElem -> AP, mem_of_mem_take -> FA, length_append -> BA, getElem?_append_left -> BM, getElem?_append_right -> BU, mem_append -> AY, replicate -> AX, take_of_length_le -> CH, range -> GZ, getElem_of_mem -> MQ, length_cons -> AW, length_eq_one_iff -> FQ, getElem?_set -> FB, getElem?_map -> BN, mem_cons_of_mem -> BZ, isEmpty_iff -> NU, mem_cons -> BD, contains_iff_mem -> EH, mem_flatMap -> IM, flatMap_cons -> HW, map -> DR, map_map -> PA, mem_singleton -> CG, getElem?_cons_zero -> BG, getElem?_zipIdx -> ML, getElem?_eq_none -> CY, findIdx?_eq_some_iff_getElem -> GW, mem_filter -> OK, range' -> FM, length_set -> CP, zipIdx_cons -> NX, filter_cons -> JV, all_cons -> ES, rec -> IU
open Nat renaming add_mul -> CS, zero_add -> BC, mul_le_mul_right -> BO, le_refl -> AQ, sub_mul -> IW, add_zero -> DU, lt_of_lt_of_le -> FU, le_trans -> HX, le_total -> PI, exists_eq_add_of_le -> GN, lt_trichotomy -> NV, zero_le -> FF, le_max_left -> GJ, le_max_right -> GC, beq -> EY, beq_eq -> NJ
open Option renaming map_some -> DE, getD_some -> EN, bind_some -> FG, ne_none_iff_exists' -> Ca, elim_some -> HC, some -> N1, none -> N2
open Option.some renaming injEq -> AG, inj -> DZ
open Prod renaming fst -> EM
open Prod.mk renaming injEq -> BK
open Bool renaming not_true -> BT
section
namespace Go.AM
open Go
section
variable {P:CU}{ab:cu}{g:G}{H:LO}{w w':BL}{ρ:LA}{a:Act}
variable {dst:Option Tmp}{type:BP}{pos:String}{after:Array Edge}{guard:Option (Nat×Bool)}
def bz.js{k:Nat}{rows:List LA}{cells:List BE}(h:bz g k rows cells)(bd:rows.all (λr=>r.all AV.ak)=Pa):∀x∈cells,x.oneCell'=true:=by
 intro x hx;obtain⟨n,hn⟩:=CO.1 hx;have hlt:n<cells.length:=(AH.1 hn).1;rw[h.len]at hlt;have Rj:0<k:=by
  rcases Nat.eq_zero_or_pos k with e | e
  ·subst e;simp at hlt
  exact e
 have hi:n / k<rows.length:=by rw[Nat.div_lt_iff_lt_mul Rj];exact hlt
 have hm:n % k<k:=Nat.mod_lt _ Rj;have yg:=h.row rows[n / k] (AS hi);have e:n / k*k+n % k=n:=by rw[Nat.mul_comm];exact Nat.div_add_mod n k
 have hv:=h.rel (n / k) (n % k) rows[n / k] (rows[n / k][n % k]'omT) x (by simp[hi]) (by simp[yg,hm]) (by rw[e];exact hn);exact hv.js (AO.1 (AO.1 bd _ (AS hi)) _ (AS _))
def aWB{t u e ty:BP}{i:TypeInfo}{z:BE}{d:Hk}{S X:CA}{s x:aa}(ht:P.underlying t=N1 (.slice e))(hu:P.underlying u=N1 d)(hd:∀k,d≠.int k)(hi:P.info? e=N1 i)(hz:i.zero=N1 z) (hS:fA ab S=N1 s) (hX:fA ab X=N1 x) (su:z.cells.size=i.size) {call:Nat->LA->LO->Out} {site:Option Nat} {av:AV} {H':LO} {wr:LN} (h:evW call H ρ site (.app i.size i.bytes s x)=N1 (av,H',wr)) (hw:WF g H w) (hg:bM P ab g) (hs:aX g ρ a.tmps):aA8 P ⟨dst,.call { callee:=.builtin .append,args := #[S,X],argTypes := #[t,u] },ty,pos,after,guard⟩ a w λv w'=>∃g',Step g H w g' H' w' wr/\ai g' av v:=by
 have sy:=aQ hS hg hs;have hrx:=aQ hX hg hs;have fin:∀v w',(DA #[t,u] ty #[a.eval S,a.eval X]).run P w=.ok v w'->(∃g',Step g H w g' H' w' wr/\ai g' av v) ->
   aA8 P ⟨dst,.call { callee:=.builtin .append,args := #[S,X],argTypes := #[t,u] },ty,pos,after,guard⟩ a w λv w'=>∃g',Step g H w g' H' w' wr/\ai g' av v:=λv w' hr hR=>.inl ⟨v,w',by simp[execOp,resolve,invoke,builtin,hr],hR⟩
 simp only[evW,eX]at h;split at h
 ·cases h
 rename_i new ki;split at h
 ·cases h
 rename_i nq;have xi:dF i.size new=true:=by simpa using nq
 obtain⟨news,hN,hrr,dq⟩:=gN (P:=P) hw ki xi hrx;generalize s.ev ρ=sv at h sy;split at h
 ·split at h
  ·rename_i ja;cases h;have gq:new=[]:=by simpa using ja
   subst gq;have lh:news=[]:=DP (by have:=hN.size;simpa using this);subst lh;generalize th:a.eval S=sval at sy;cases sy;refine fin _ w ?_ ⟨g,.refl hw,.ar⟩;rw[th];exact eY ht hu hd hi hN siT siT
  rename_i ja;split at h
  ·rename_i ed;simp only[bP,decide_eq_true_eq]at ed;split at h
   ·rename_i id;split at h
    ·rename_i hid;cases h;have kj:0<new.length:=by
      cases new with
      |nil=>simp at ja
      |cons _ _=>simp
     generalize th:a.eval S=sval at sy;cases sy;have cl:=iC (w:=w) (P:=P) (ty:=ty) ht hu hd hi hz (base:=N2) (sLen:=0) (sCap:=0) (dt:=[]) hN (λ_ _=>rfl) omT (by simpa using ed);have cm:=IG w (0+new.length) 0 e;obtain⟨g',h1,h2⟩:=Step.Py (w':=w.drew.alloc (.cells (([]:List BE).toArray++(news.toArray++CD z.cells (grownCap w (0+new.length) 0 e - (0+new.length)))) e)) hw hid (t:=e) rfl
      (k:=i.size) (cap:=grownCap w (0+new.length) 0 e) (rows:=new)
      (by
       have:((([]:List BE).toArray++(news.toArray++CD z.cells (grownCap w (0+new.length) 0 e - (0+new.length)))).toList).take (new.length*i.size)=news:=by simp only[EK,CW];rw[<- hrr.len];exact GU
       rw[this];exact hrr)
      dq omT
      (by
       have h2:=hrr.len;simp only[FP,FT,HF,su,h2,AZ,<- CS,BC];rw[BC]at cm;congr 1;omega)
     rw[BC]at cl h1 h2;exact .inl ⟨_,_,by simp[execOp,resolve,invoke,builtin,th,cl],g',h1,h2⟩
    cases h
   cases h
  cases h
 ·rename_i full rows;split at h
  ·rename_i ja;cases h;have gq:new=[]:=by simpa using ja
   subst gq;have lh:news=[]:=DP (by have:=hN.size;simpa using this);subst lh;rcases sy.ov with⟨er,es⟩ | ⟨b,off,cap,k,es,cm,_⟩
   ·refine fin _ w ?_ ⟨g,.refl hw,es ▸ sy⟩;rw[es];exact eY ht hu hd hi hN siT siT
   refine fin _ w ?_ ⟨g,.refl hw,es ▸ sy⟩;rw[es];exact eY ht hu hd hi hN (by simpa using cm) (by simp[IB])
  rename_i ja;split at h
  ·rename_i hc;simp only[AI]at hc;obtain⟨⟨Dh,O3⟩,ed⟩:=hc;simp only[bP,decide_eq_true_eq]at ed;split at h
   ·rename_i id;split at h
    ·rename_i hid;cases h;have kj:0<new.length:=by
      cases new with
      |nil=>simp at ja
      |cons _ _=>simp
     have key:∀(base:Option Addr) (sCap:Nat) (dt:List BE),a.eval S=.slice base rows.length sCap->sCap=rows.length->bz g i.size rows dt->rows.all (λr=>r.all AV.ak)=Pa ->
       (∀w2:BL,w2.heap=w.heap->(DY i.size rows.length (.slice base rows.length sCap)).run P w2=.ok dt.toArray w2) ->
       aA8 P ⟨dst,.call { callee:=.builtin .append,args := #[S,X],argTypes := #[t,u] },ty,pos,after,guard⟩ a w λv w'=>∃g',Step g H w g' (make H id (.vec · i.size (rows++new))) w' [id]/\ai g' (.sr id (bH H id) (rows.length+new.length)) v:=by
      intro base sCap dt es Nz il bd ho;have cl:=iC (ty:=ty) ht hu hd hi hz hN ho omT ed;have cm:=IG w (rows.length+new.length) sCap e;have da:=il.append hrr;have ax:(rows++new).length=rows.length+new.length:=siT;have ym:=da.len;obtain⟨g',h1,h2⟩:=Step.Py (w':=w.drew.alloc (.cells (dt.toArray++(news.toArray++CD z.cells (grownCap w (rows.length+new.length) sCap e - (rows.length+new.length)))) e)) hw hid (t:=e) rfl
       (k:=i.size) (cap:=grownCap w (rows.length+new.length) sCap e) (rows:=rows++new)
       (by
        have:(dt.toArray++(news.toArray++CD z.cells (grownCap w (rows.length+new.length) sCap e - (rows.length+new.length)))).toList.take ((rows++new).length*i.size)=dt++news:=by simp only[EK,<- CJ];rw[<- ym];exact GU
        rw[this];exact da)
       (by rw[IL,bd,dq];rfl) omT
       (by
        have h1:=il.len;have h2:=hrr.len;simp only[FP,FT,HF,su,h1,h2,<- CS];congr 1;omega)
      rw[ax]at h2;exact .inl ⟨_,_,by simp[execOp,resolve,invoke,builtin,es,cl],g',h1,h2⟩
     rcases sy.ov with⟨er,es⟩ | ⟨b,off,cap,k,es,cm,jo,hk,bd,hp,dj⟩
     ·subst er;exact key N2 0 [] es rfl ⟨siT,λr hr=>by simp at hr,λi j r c x h=>by simp at h⟩ rfl (λ_ _=>rfl)
     obtain⟨news',Dv,Dw,Dx⟩:=gN (P:=P) (v:=.sl full rows) hw rfl O3 (es ▸ sy);exact key _ cap news' es (jo Dh) Dw Dx Dv.cells
    cases h
   cases h
  cases h
 ·rename_i o v n;split at h
  ·rename_i v' k' rows hH;split at h
   ·rename_i hc;obtain⟨rfl,ax,rfl,ed⟩:=hc;simp only[bP,decide_eq_true_eq]at ed;generalize th:a.eval S=sval at sy;cases sy with
    |sr o v n l b cap hl hv hn jg hh=>
     have bd:l.st=v':=by have:=hw.st o _ l hH hl;simp only[ah.ver]at this;omega
     have hb:au g H o l (.vec v' i.size rows):=⟨hH,rfl,hl,bd⟩;obtain⟨h0,ow,cm,dr,hk,eh,bc⟩:=hw.obj o l _ hb;obtain⟨rfl,rfl⟩:=hh bd omT;split at h
     ·rename_i ja;cases h;have gq:new=[]:=by simpa using ja
      subst gq;have lh:news=[]:=DP (by have:=hN.size;simpa using this);subst lh;refine fin (.slice (N1 ⟨l.b,0,N2⟩) n l.cap) w ?_ ⟨g,.refl hw,.sr o v' n l _ _ hl hv hn jg hh⟩;rw[th];exact eY ht hu hd hi hN soT (by simp[IB])
     rename_i ja;cases h;have kj:0<new.length:=by
      cases new with
      |nil=>simp at ja
      |cons _ _=>simp
     have O3:dF i.size rows=true:=by
      cases rows with
      |nil=>rfl
      |cons r rs=>simpa [dF]using hk r siT
     have J9:ai g (.sr o v' rows.length) (.slice (N1 ⟨l.b,0,N2⟩) rows.length l.cap):=by rw[ax];exact .sr o v' n l _ _ hl hv hn jg hh
     obtain⟨dt,hO,il,s9⟩:=gN (P:=P) (v:=.sr o v' rows.length) hw (by simp[cG,dO,hH]) O3 J9;have da:=il.append hrr;have mf:(rows++new).all (λr=>r.all AV.ak)=true:=by rw[IL,s9,dq];rfl
     have gz:(rows++new).length=n+new.length:=soT;by_cases pc:n+new.length<=l.cap
     ·
      have Rk:(n+new.length)*i.size<=l.cap*i.size:=BO _ pc;rw[CS]at Rk;have O4:=hrr.len;have K1:=il.len;rw[ax]at K1;have iv:∀j,j<news.length->(w.cell? ⟨l.b,n*i.size+j,N2⟩).isSome=true:=λj hj=>eh _ omT;obtain⟨lq,nu⟩:=lE l.b news (n*i.size) w;have ud:∀y∈news,y.oneCell'=true:=hrr.js dq;have Pt:=GH (P:=P) l.b (n*i.size) news 0 w (by simpa using iv) (by intro j hj;exact dr _ (by simpa using iv j hj)) ud;refine fin (.slice (N1 ⟨l.b,0,N2⟩) (n+new.length) l.cap) (w.setCells l.b (n*i.size) news) ?_ ⟨g.setObj o { l with len:=n+new.length },Step.update hw o _ _ (hw.lt o l hl) (by rw[lq];exact AQ _) (λb _ bl=>nu b (Ne.symm (bl l _ hb))) (by rw[lq];exact hw.blk o l hl)
        (.inr ⟨l,_,hb,rfl⟩) bd rfl (λl0 sz=>by rw[hl]at sz;cases sz;exact⟨AQ _,λ_=>⟨by show l.len<=n+new.length;omega,λe=>by exfalso;have:n+new.length=l.len:=e;omega⟩⟩)
        (λhle=>⟨gz.symm,ow,by rw[gz];exact pc,λj hj=>?_,da.row,λj hj=>?_,λi' j row c h1 h2=>?_⟩) (nY _ _ _ _),.sr o v' _ { l with len:=n+new.length } _ _ (by simp[G.setObj]) (by show v'<=l.st;omega) (λ_=>AQ _) (by show n+new.length<=l.cap;omega) λ_ _=>⟨rfl,rfl⟩⟩
      ·rw[th];exact eY ht hu hd hi hN pc (by simp only[fZ,BC];simpa using Pt)
      ·show (w.setCells l.b (n*i.size) news).frozen? _=Po;rw[EI];refine dr j ?_;by_cases hr:n*i.size<=j/\j<n*i.size+news.length
       ·have:=iv (j - n*i.size) omT
        rwa [show n*i.size+(j - n*i.size)=j by omega]at this
       have tt:((w.setCells l.b (n*i.size) news).cell? ⟨l.b,j,N2⟩).isSome=true:=hj
       rwa [BV l.b news (n*i.size) w ⟨l.b,j,N2⟩ (λ_ _=>soT)]at tt
      ·show ((w.setCells l.b (n*i.size) news).cell? ⟨l.b,j,N2⟩).isSome=Pa;by_cases hr:n*i.size<=j/\j<n*i.size+news.length
       ·have:=CQ l.b news (n*i.size) w iv (j - n*i.size) omT;rw[show n*i.size+(j - n*i.size)=j by omega]at this;rw[this];rfl
       rw[BV l.b news (n*i.size) w ⟨l.b,j,N2⟩ (λ_ _=>soT)];exact eh j hj
      have nr:i'<(rows++new).length:=(AH.1 h1).1;have nh:j<i.size:=by rw[<- da.row row (AN h1)];exact (AH.1 h2).1
      have hlt:=eV nr nh;rw[gz,CS]at hlt;have hs:=AO.1 (AO.1 mf row (AN h1)) c (AN h2);refine⟨hs, ?_⟩;show ∃x,(w.setCells l.b (n*i.size) news).cell? ⟨l.b,i'*i.size+j,N2⟩=N1 x/\_;rw[DG]at h1;split at h1
      ·rename_i sw;have cr:=eV sw nh;rw[ax]at cr;rw[BV l.b news (n*i.size) w ⟨l.b,i'*i.size+j,N2⟩ (λ_ _=>soT)];obtain⟨_,y,hy,hr⟩:=bc i' j row c h1 h2;exact⟨y,hy,hr.mono hle⟩
      rename_i sw;have nj:rows.length*i.size<=i'*i.size:=BO _ omT;rw[ax]at nj;have K2:i'*i.size+j - n*i.size<news.length:=omT;have:=CQ l.b news (n*i.size) w iv (i'*i.size+j - n*i.size) K2;rw[show n*i.size+(i'*i.size+j - n*i.size)=i'*i.size+j by omega]at this;refine⟨_,this,(hrr.rel (i' - rows.length) j row c _ h1 h2 ?_).mono hle⟩;rw[IW,ax,show i'*i.size - n*i.size+j=i'*i.size+j - n*i.size by omega];simp[K2]
     ·
      have cl:=iC (w:=w) (P:=P) (ty:=ty) ht hu hd hi hz (sLen:=n) (sCap:=l.cap) (base:=N1 ⟨l.b,0,N2⟩) (dt:=dt) hN (by intro w2 e;have:=hO.cells w2 e;simpa [DY,ax]using this) omT ed;have vk:=IG w (n+new.length) l.cap e;have ym:=da.len;generalize hW:w.drew.alloc (.cells (dt.toArray++(news.toArray++CD z.cells (grownCap w (n+new.length) l.cap e - (n+new.length)))) e)=W at cl;have rf:W.heap=w.heap.push (.cells (dt.toArray++(news.toArray++CD z.cells (grownCap w (n+new.length) l.cap e - (n+new.length)))) e):=by rw[<- hW];rfl
      have u5:W.os=w.os/\W.output=w.output:=by rw[<- hW];exact⟨rfl,rfl⟩
      have gm:(dt.toArray++(news.toArray++CD z.cells (grownCap w (n+new.length) l.cap e - (n+new.length)))).toList.take ((rows++new).length*i.size)=dt++news:=by simp only[EK,<- CJ];rw[<- ym];exact GU
      have gd:(dt.toArray++(news.toArray++CD z.cells (grownCap w (n+new.length) l.cap e - (n+new.length)))).size=grownCap w (n+new.length) l.cap e*i.size:=by have h1:=il.len;have h2:=hrr.len;rw[ax]at h1;simp only[FP,FT,HF,su,h1,h2,<- CS];congr 1;omega
      generalize ru:(dt.toArray++(news.toArray++CD z.cells (grownCap w (n+new.length) l.cap e - (n+new.length))))=C at rf gm gd;refine fin (.slice (N1 ⟨w.heap.size,0,N2⟩) (n+new.length) (grownCap w (n+new.length) l.cap e)) W (by rw[th];exact cl) ⟨g.setObj o ⟨w.heap.size,v',n+new.length,i.size,grownCap w (n+new.length) l.cap e⟩,Step.update hw o _ _ (hw.lt o l hl) (by rw[rf];simp) (λb du _=>cK rf du) (by rw[rf];simp)
        (.inl (AQ _)) rfl rfl (λl0 sz=>by rw[hl]at sz;cases sz;exact⟨by show l.st<=v';omega,λ_=>⟨by show l.len<=n+new.length;omega,λe=>by exfalso;have:n+new.length=l.len:=e;omega⟩⟩)
        (λhle=>⟨gz.symm,rfl,by rw[gz];exact vk,wV rf,da.row,λj hj=>?_,λi' j row c h1 h2=>?_⟩) u5,.sr o v' _ _ _ _ (by simp[G.setObj];rfl) (AQ _) (λ_=>AQ _) (by show n+new.length<=_;omega) λ_ _=>⟨rfl,rfl⟩⟩
      ·rw[kD rf];have:j<C.size:=by rw[gd];exact hj
       simp[this]
      have nr:i'<(rows++new).length:=(AH.1 h1).1;have nh:j<i.size:=by rw[<- da.row row (AN h1)];exact (AH.1 h2).1
      have hlt:=eV nr nh;have hs:=AO.1 (AO.1 mf row (AN h1)) c (AN h2);have iq:i'*i.size+j<(dt++news).length:=by rw[ym];exact hlt
      refine⟨hs,(dt++news)[i'*i.size+j], ?_,(da.rel i' j row c _ h1 h2 siT).mono hle⟩;rw[kD rf];have:C.toList[i'*i.size+j]? = N1 ((dt++news)[i'*i.size+j]):=by
       have h3:(C.toList.take ((rows++new).length*i.size))[i'*i.size+j]? = (dt++news)[i'*i.size+j]? := by rw[gm]
       rw[CF,Zy hlt]at h3;rw[h3];exact AP iq
      simpa using this
   cases h
  cases h
 ·rename_i o v n ft;split at h
  ·rename_i v' k' rows hH;split at h
   ·rename_i hc;cases h;obtain⟨rfl,ax,rfl,Dy,ed⟩:=hc;simp only[bP,decide_eq_true_eq]at ed;generalize th:a.eval S=sval at sy;cases sy with
    |srw o v n hi l b cap hl hv hn tf hh=>
     have bd:l.st=v':=by have:=hw.st o _ l hH hl;simp only[ah.ver]at this;omega
     have hb:au g H o l (.vec v' i.size rows):=⟨hH,rfl,hl,bd⟩;obtain⟨h0,ow,cm,dr,hk,eh,bc⟩:=hw.obj o l _ hb;obtain⟨rfl,rfl⟩:=hh bd omT;have O3:dF i.size (rows.take ft)=true:=by
      cases Ta:rows.take ft with
      |nil=>rfl
      |cons r rs=>simpa [dF]using hk r (FA (by rw[Ta];simp))
     have J9:ai g (.srw o v' n ft) (.slice (N1 ⟨l.b,0,N2⟩) ft l.cap):=.srw o v' n ft l _ _ hl hv hn tf (λ_ _=>⟨rfl,rfl⟩);obtain⟨dt,hO,il,s9⟩:=gN (P:=P) (v:=.srw o v' n ft) hw (by simp[cG,dO,hH,ax,Dy]) O3 J9;have da:=il.append hrr;have mf:(rows.take ft++new).all (λr=>r.all AV.ak)=true:=by rw[IL,s9,dq];rfl
     have hlt:(rows.take ft).length=ft:=by rw[List.length_take];omega
     have gz:(rows.take ft++new).length=ft+new.length:=by rw[BA,hlt]
     have Tf:∀l':Loc,l'.st=v'+1->∀l0,g.obj o=N1 l0->l0.st<=l'.st/\(l'.st=l0.st->l0.len<=l'.len/\(l'.len=l0.len->l'=l0)):=λl' e l0 sz=>by
      rw[hl]at sz;cases sz;exact⟨omT,λe2=>omT⟩
     by_cases pc:ft+new.length<=l.cap
     ·
      have Rk:(ft+new.length)*i.size<=l.cap*i.size:=BO _ pc;rw[CS]at Rk;have O4:=hrr.len;have K1:=il.len;rw[hlt]at K1;have iv:∀j,j<news.length->(w.cell? ⟨l.b,ft*i.size+j,N2⟩).isSome=true:=λj hj=>eh _ omT;obtain⟨lq,nu⟩:=lE l.b news (ft*i.size) w;have ud:∀y∈news,y.oneCell'=true:=hrr.js dq;have Pt:=GH (P:=P) l.b (ft*i.size) news 0 w (by simpa using iv) (by intro j hj;exact dr _ (by simpa using iv j hj)) ud;refine fin (.slice (N1 ⟨l.b,0,N2⟩) (ft+new.length) l.cap) (w.setCells l.b (ft*i.size) news) ?_ ⟨g.setObj o { l with len:=ft+new.length,st:=v'+1 },Step.update hw o _ _ (hw.lt o l hl) (by rw[lq];exact AQ _) (λb _ bl=>nu b (Ne.symm (bl l _ hb))) (by rw[lq];exact hw.blk o l hl)
        (.inr ⟨l,_,hb,rfl⟩) rfl rfl (Tf _ rfl)
        (λhle=>⟨gz.symm,ow,by rw[gz];exact pc,λj hj=>?_,da.row,λj hj=>?_,λi' j row c h1 h2=>?_⟩) (nY _ _ _ _),.sr o (v'+1) _ { l with len:=ft+new.length,st:=v'+1 } _ _ (by simp[G.setObj]) (AQ _) (λ_=>AQ _) (by show ft+new.length<=l.cap;omega) λ_ _=>⟨rfl,rfl⟩⟩
      ·rw[th];exact eY ht hu hd hi hN pc (by simp only[fZ,BC];simpa using Pt)
      ·show (w.setCells l.b (ft*i.size) news).frozen? _=Po;rw[EI];refine dr j ?_;by_cases hr:ft*i.size<=j/\j<ft*i.size+news.length
       ·have:=iv (j - ft*i.size) omT
        rwa [show ft*i.size+(j - ft*i.size)=j by omega]at this
       have tt:((w.setCells l.b (ft*i.size) news).cell? ⟨l.b,j,N2⟩).isSome=true:=hj
       rwa [BV l.b news (ft*i.size) w ⟨l.b,j,N2⟩ (λ_ _=>soT)]at tt
      ·show ((w.setCells l.b (ft*i.size) news).cell? ⟨l.b,j,N2⟩).isSome=Pa;by_cases hr:ft*i.size<=j/\j<ft*i.size+news.length
       ·have:=CQ l.b news (ft*i.size) w iv (j - ft*i.size) omT;rw[show ft*i.size+(j - ft*i.size)=j by omega]at this;rw[this];rfl
       rw[BV l.b news (ft*i.size) w ⟨l.b,j,N2⟩ (λ_ _=>soT)];exact eh j hj
      have nr:i'<(rows.take ft++new).length:=(AH.1 h1).1;have nh:j<i.size:=by rw[<- da.row row (AN h1)];exact (AH.1 h2).1
      have Ql:=eV nr nh;rw[gz,CS]at Ql;have hs:=AO.1 (AO.1 mf row (AN h1)) c (AN h2);refine⟨hs, ?_⟩;show ∃x,(w.setCells l.b (ft*i.size) news).cell? ⟨l.b,i'*i.size+j,N2⟩=N1 x/\_;rw[DG]at h1;split at h1
      ·rename_i sw;have cr:=eV sw nh;rw[hlt]at cr sw;rw[BV l.b news (ft*i.size) w ⟨l.b,i'*i.size+j,N2⟩ (λ_ _=>soT)];rw[CF,Zy sw]at h1;obtain⟨_,y,hy,hr⟩:=bc i' j row c h1 h2;exact⟨y,hy,hr.mono hle⟩
      rename_i sw;have nj:(rows.take ft).length*i.size<=i'*i.size:=BO _ omT;rw[hlt]at nj;have K2:i'*i.size+j - ft*i.size<news.length:=omT;have:=CQ l.b news (ft*i.size) w iv (i'*i.size+j - ft*i.size) K2;rw[show ft*i.size+(i'*i.size+j - ft*i.size)=i'*i.size+j by omega]at this;refine⟨_,this,(hrr.rel (i' - (rows.take ft).length) j row c _ h1 h2 ?_).mono hle⟩;rw[IW,hlt,show i'*i.size - ft*i.size+j=i'*i.size+j - ft*i.size by omega];simp[K2]
     ·
      have cl:=iC (w:=w) (P:=P) (ty:=ty) ht hu hd hi hz (sLen:=ft) (sCap:=l.cap) (base:=N1 ⟨l.b,0,N2⟩) (dt:=dt) hN
       (by intro w2 e;have:=hO.cells w2 e;simpa [DY,hlt]using this) omT ed
      have vk:=IG w (ft+new.length) l.cap e;have ym:=da.len;generalize hW:w.drew.alloc (.cells (dt.toArray++(news.toArray++CD z.cells (grownCap w (ft+new.length) l.cap e - (ft+new.length)))) e)=W at cl;have rf:W.heap=w.heap.push (.cells (dt.toArray++(news.toArray++CD z.cells (grownCap w (ft+new.length) l.cap e - (ft+new.length)))) e):=by rw[<- hW];rfl
      have u5:W.os=w.os/\W.output=w.output:=by rw[<- hW];exact⟨rfl,rfl⟩
      have gm:(dt.toArray++(news.toArray++CD z.cells (grownCap w (ft+new.length) l.cap e - (ft+new.length)))).toList.take ((rows.take ft++new).length*i.size)=dt++news:=by simp only[EK,<- CJ];rw[<- ym];exact GU
      have gd:(dt.toArray++(news.toArray++CD z.cells (grownCap w (ft+new.length) l.cap e - (ft+new.length)))).size=grownCap w (ft+new.length) l.cap e*i.size:=by have h1:=il.len;have h2:=hrr.len;rw[hlt]at h1;simp only[FP,FT,HF,su,h1,h2,<- CS];congr 1;omega
      generalize ru:(dt.toArray++(news.toArray++CD z.cells (grownCap w (ft+new.length) l.cap e - (ft+new.length))))=C at rf gm gd;refine fin (.slice (N1 ⟨w.heap.size,0,N2⟩) (ft+new.length) (grownCap w (ft+new.length) l.cap e)) W (by rw[th];exact cl) ⟨g.setObj o ⟨w.heap.size,v'+1,ft+new.length,i.size,grownCap w (ft+new.length) l.cap e⟩,Step.update hw o _ _ (hw.lt o l hl) (by rw[rf];simp) (λb du _=>cK rf du) (by rw[rf];simp)
        (.inl (AQ _)) rfl rfl (Tf _ rfl)
        (λhle=>⟨gz.symm,rfl,by rw[gz];exact vk,wV rf,da.row,λj hj=>?_,λi' j row c h1 h2=>?_⟩) u5,.sr o (v'+1) _ _ _ _ (by simp[G.setObj];rfl) (AQ _) (λ_=>AQ _) (by show ft+new.length<=_;omega) λ_ _=>⟨rfl,rfl⟩⟩
      ·rw[kD rf];have:j<C.size:=by rw[gd];exact hj
       simp[this]
      have nr:i'<(rows.take ft++new).length:=(AH.1 h1).1;have nh:j<i.size:=by rw[<- da.row row (AN h1)];exact (AH.1 h2).1
      have Ql:=eV nr nh;have hs:=AO.1 (AO.1 mf row (AN h1)) c (AN h2);have iq:i'*i.size+j<(dt++news).length:=by rw[ym];exact Ql
      refine⟨hs,(dt++news)[i'*i.size+j], ?_,(da.rel i' j row c _ h1 h2 siT).mono hle⟩;rw[kD rf];have:C.toList[i'*i.size+j]? = N1 ((dt++news)[i'*i.size+j]):=by
       have h3:(C.toList.take ((rows.take ft++new).length*i.size))[i'*i.size+j]? = (dt++news)[i'*i.size+j]? := by rw[gm]
       rw[CF,Zy Ql]at h3;rw[h3];exact AP iq
      simpa using this
   cases h
  cases h
 cases h
def aWC{t u e ty:BP}{i:TypeInfo}{z:BE}{d:Hk}{S X:CA}{s x:aa}(ht:P.underlying t=N1 (.slice e))(hu:P.underlying u=N1 d)(hd:∀k,d≠.int k)(hi:P.info? e=N1 i)(hz:i.zero=N1 z) (hS:fA ab S=N1 s) (hX:fA ab X=N1 x) (su:z.cells.size=i.size) {call:Nat->LA->LO->Out} {site:Option Nat} {av:AV} {H':LO} {wr:LN} (h:evW call H ρ site (.ni e i.size i.bytes s x)=N1 (av,H',wr)) (hw:WF g H w) (hg:bM P ab g) (hs:aX g ρ a.tmps):aA8 P ⟨dst,.call { callee:=.builtin .append,args := #[S,X],argTypes := #[t,u] },ty,pos,after,guard⟩ a w λv w'=>∃g',Step g H w g' H' w' wr/\ai g' av v:=by
 have sy:=aQ hS hg hs;have hrx:=aQ hX hg hs;have fin:∀v w',(DA #[t,u] ty #[a.eval S,a.eval X]).run P w=.ok v w'->(∃g',Step g H w g' H' w' wr/\ai g' av v) ->
   aA8 P ⟨dst,.call { callee:=.builtin .append,args := #[S,X],argTypes := #[t,u] },ty,pos,after,guard⟩ a w λv w'=>∃g',Step g H w g' H' w' wr/\ai g' av v:=λv w' hr hR=>.inl ⟨v,w',by simp[execOp,resolve,invoke,builtin,hr],hR⟩
 simp only[evW,vB]at h;split at h
 ·cases h
 rename_i new ki;split at h
 ·cases h
 rename_i nq;have xi:dF i.size new=true:=by simpa using nq
 obtain⟨news,hN,hrr,dq⟩:=gN (P:=P) hw ki xi hrx;generalize s.ev ρ=sv at h sy;split at h
 ·split at h
  ·rename_i ja;cases h;have gq:new=[]:=by simpa using ja
   subst gq;have lh:news=[]:=DP (by have:=hN.size;simpa using this);subst lh;generalize th:a.eval S=sval at sy;cases sy;refine fin _ w ?_ ⟨g,.refl hw,.ar⟩;rw[th];exact eY ht hu hd hi hN siT siT
  rename_i ja;split at h
  ·rename_i ed;simp only[bP,decide_eq_true_eq]at ed;split at h
   ·rename_i id;split at h
    ·rename_i hid;cases h;have kj:0<new.length:=by
      cases new with
      |nil=>simp at ja
      |cons _ _=>simp
     generalize th:a.eval S=sval at sy;cases sy;have cl:=iC (w:=w) (P:=P) (ty:=ty) ht hu hd hi hz (base:=N2) (sLen:=0) (sCap:=0) (dt:=[]) hN (λ_ _=>rfl) omT (by simpa using ed);have cm:=IG w (0+new.length) 0 e;obtain⟨g',h1,h2⟩:=Step.yk (w':=w.drew.alloc (.cells (([]:List BE).toArray++(news.toArray++CD z.cells (grownCap w (0+new.length) 0 e - (0+new.length)))) e)) hw hid (t:=e) rfl
      (k:=i.size) (cap:=grownCap w (0+new.length) 0 e) (rows:=new)
      (by
       have:((([]:List BE).toArray++(news.toArray++CD z.cells (grownCap w (0+new.length) 0 e - (0+new.length)))).toList).take (new.length*i.size)=news:=by simp only[EK,CW];rw[<- hrr.len];exact GU
       rw[this];exact hrr)
      dq omT
      (by
       have h2:=hrr.len;simp only[FP,FT,HF,su,h2,AZ,<- CS,BC];rw[BC]at cm;congr 1;omega)
     rw[BC]at cl h1 h2;exact .inl ⟨_,_,by simp[execOp,resolve,invoke,builtin,th,cl],g',h1,h2⟩
    cases h
   cases h
  cases h
 ·rename_i o v n;split at h
  ·rename_i v' ty' k' rows hH;split at h
   ·rename_i hc;obtain⟨rfl,ax,rfl,Oa,ed⟩:=hc;subst ty';simp only[bP,decide_eq_true_eq]at ed;generalize th:a.eval S=sval at sy;cases sy with
    |sr o v n l b cap hl hv hn jg hh=>
     have bd:l.st=v':=by have:=hw.st o _ l hH hl;simp only[ah.ver]at this;omega
     have hb:au g H o l (.gl v' e i.size rows):=⟨hH,rfl,hl,bd⟩;obtain⟨⟨h0,ow,cm,dr,hk,eh,bc⟩,cs0,ld⟩:=hw.obj o l _ hb;obtain⟨rfl,rfl⟩:=hh bd omT;split at h
     ·rename_i ja;cases h;have gq:new=[]:=by simpa using ja
      subst gq;have lh:news=[]:=DP (by have:=hN.size;simpa using this);subst lh;refine fin (.slice (N1 ⟨l.b,0,N2⟩) n l.cap) w ?_ ⟨g,.refl hw,.sr o v' n l _ _ hl hv hn jg hh⟩;rw[th];exact eY ht hu hd hi hN soT (by simp[IB])
     rename_i ja;cases h;have kj:0<new.length:=by
      cases new with
      |nil=>simp at ja
      |cons _ _=>simp
     have O3:dF i.size rows=true:=by
      cases rows with
      |nil=>rfl
      |cons r rs=>simpa [dF]using hk r siT
     have J9:ai g (.sr o v' rows.length) (.slice (N1 ⟨l.b,0,N2⟩) rows.length l.cap):=by rw[ax];exact .sr o v' n l _ _ hl hv hn jg hh
     obtain⟨dt,hO,il,s9⟩:=gN (P:=P) (v:=.sr o v' rows.length) hw (by simp[cG,dO,hH]) O3 J9;have da:=il.append hrr;have mf:(rows++new).all (λr=>r.all AV.ak)=true:=by rw[IL,s9,dq];rfl
     have gz:(rows++new).length=n+new.length:=soT;by_cases pc:n+new.length<=l.cap
     ·
      have Rk:(n+new.length)*i.size<=l.cap*i.size:=BO _ pc;rw[CS]at Rk;have O4:=hrr.len;have K1:=il.len;rw[ax]at K1;have iv:∀j,j<news.length->(w.cell? ⟨l.b,n*i.size+j,N2⟩).isSome=true:=λj hj=>eh _ omT;obtain⟨lq,nu⟩:=lE l.b news (n*i.size) w;have ud:∀y∈news,y.oneCell'=true:=hrr.js dq;have Pt:=GH (P:=P) l.b (n*i.size) news 0 w (by simpa using iv) (by intro j hj;exact dr _ (by simpa using iv j hj)) ud;refine fin (.slice (N1 ⟨l.b,0,N2⟩) (n+new.length) l.cap) (w.setCells l.b (n*i.size) news) ?_ ⟨g.setObj o { l with len:=n+new.length },Step.update hw o _ _ (hw.lt o l hl) (by rw[lq];exact AQ _) (λb _ bl=>nu b (Ne.symm (bl l _ hb))) (by rw[lq];exact hw.blk o l hl)
        (.inr ⟨l,_,hb,rfl⟩) bd rfl (λl0 sz=>by rw[hl]at sz;cases sz;exact⟨AQ _,λ_=>⟨by show l.len<=n+new.length;omega,λe=>by exfalso;have:n+new.length=l.len:=e;omega⟩⟩)
        (λhle=>⟨⟨gz.symm,ow,by rw[gz];exact pc,λj hj=>?_,da.row,λj hj=>?_,λi' j row c h1 h2=>?_⟩,let ⟨cs',q,_⟩:=tO l.b news (n*i.size) w cs0 _ (0,0) ld;⟨cs',q⟩⟩) (nY _ _ _ _),.sr o v' _ { l with len:=n+new.length } _ _ (by simp[G.setObj]) (by show v'<=l.st;omega) (λ_=>AQ _) (by show n+new.length<=l.cap;omega) λ_ _=>⟨rfl,rfl⟩⟩
      ·rw[th];exact eY ht hu hd hi hN pc (by simp only[fZ,BC];simpa using Pt)
      ·show (w.setCells l.b (n*i.size) news).frozen? _=Po;rw[EI];refine dr j ?_;by_cases hr:n*i.size<=j/\j<n*i.size+news.length
       ·have:=iv (j - n*i.size) omT
        rwa [show n*i.size+(j - n*i.size)=j by omega]at this
       have tt:((w.setCells l.b (n*i.size) news).cell? ⟨l.b,j,N2⟩).isSome=true:=hj
       rwa [BV l.b news (n*i.size) w ⟨l.b,j,N2⟩ (λ_ _=>soT)]at tt
      ·show ((w.setCells l.b (n*i.size) news).cell? ⟨l.b,j,N2⟩).isSome=Pa;by_cases hr:n*i.size<=j/\j<n*i.size+news.length
       ·have:=CQ l.b news (n*i.size) w iv (j - n*i.size) omT;rw[show n*i.size+(j - n*i.size)=j by omega]at this;rw[this];rfl
       rw[BV l.b news (n*i.size) w ⟨l.b,j,N2⟩ (λ_ _=>soT)];exact eh j hj
      have nr:i'<(rows++new).length:=(AH.1 h1).1;have nh:j<i.size:=by rw[<- da.row row (AN h1)];exact (AH.1 h2).1
      have hlt:=eV nr nh;rw[gz,CS]at hlt;have hs:=AO.1 (AO.1 mf row (AN h1)) c (AN h2);refine⟨hs, ?_⟩;show ∃x,(w.setCells l.b (n*i.size) news).cell? ⟨l.b,i'*i.size+j,N2⟩=N1 x/\_;rw[DG]at h1;split at h1
      ·rename_i sw;have cr:=eV sw nh;rw[ax]at cr;rw[BV l.b news (n*i.size) w ⟨l.b,i'*i.size+j,N2⟩ (λ_ _=>soT)];obtain⟨_,y,hy,hr⟩:=bc i' j row c h1 h2;exact⟨y,hy,hr.mono hle⟩
      rename_i sw;have nj:rows.length*i.size<=i'*i.size:=BO _ omT;rw[ax]at nj;have K2:i'*i.size+j - n*i.size<news.length:=omT;have:=CQ l.b news (n*i.size) w iv (i'*i.size+j - n*i.size) K2;rw[show n*i.size+(i'*i.size+j - n*i.size)=i'*i.size+j by omega]at this;refine⟨_,this,(hrr.rel (i' - rows.length) j row c _ h1 h2 ?_).mono hle⟩;rw[IW,ax,show i'*i.size - n*i.size+j=i'*i.size+j - n*i.size by omega];simp[K2]
     ·
      have cl:=iC (w:=w) (P:=P) (ty:=ty) ht hu hd hi hz (sLen:=n) (sCap:=l.cap) (base:=N1 ⟨l.b,0,N2⟩) (dt:=dt) hN (by intro w2 e;have:=hO.cells w2 e;simpa [DY,ax]using this) omT ed;have vk:=IG w (n+new.length) l.cap e;have ym:=da.len;generalize hW:w.drew.alloc (.cells (dt.toArray++(news.toArray++CD z.cells (grownCap w (n+new.length) l.cap e - (n+new.length)))) e)=W at cl;have rf:W.heap=w.heap.push (.cells (dt.toArray++(news.toArray++CD z.cells (grownCap w (n+new.length) l.cap e - (n+new.length)))) e):=by rw[<- hW];rfl
      have u5:W.os=w.os/\W.output=w.output:=by rw[<- hW];exact⟨rfl,rfl⟩
      have gm:(dt.toArray++(news.toArray++CD z.cells (grownCap w (n+new.length) l.cap e - (n+new.length)))).toList.take ((rows++new).length*i.size)=dt++news:=by simp only[EK,<- CJ];rw[<- ym];exact GU
      have gd:(dt.toArray++(news.toArray++CD z.cells (grownCap w (n+new.length) l.cap e - (n+new.length)))).size=grownCap w (n+new.length) l.cap e*i.size:=by have h1:=il.len;have h2:=hrr.len;rw[ax]at h1;simp only[FP,FT,HF,su,h1,h2,<- CS];congr 1;omega
      generalize ru:(dt.toArray++(news.toArray++CD z.cells (grownCap w (n+new.length) l.cap e - (n+new.length))))=C at rf gm gd;refine fin (.slice (N1 ⟨w.heap.size,0,N2⟩) (n+new.length) (grownCap w (n+new.length) l.cap e)) W (by rw[th];exact cl) ⟨g.setObj o ⟨w.heap.size,v',n+new.length,i.size,grownCap w (n+new.length) l.cap e⟩,Step.update hw o _ _ (hw.lt o l hl) (by rw[rf];simp) (λb du _=>cK rf du) (by rw[rf];simp)
        (.inl (AQ _)) rfl rfl (λl0 sz=>by rw[hl]at sz;cases sz;exact⟨by show l.st<=v';omega,λ_=>⟨by show l.len<=n+new.length;omega,λe=>by exfalso;have:n+new.length=l.len:=e;omega⟩⟩)
        (λhle=>⟨⟨gz.symm,rfl,by rw[gz];exact vk,wV rf,da.row,λj hj=>?_,λi' j row c h1 h2=>?_⟩,C,by rw[rf];simp⟩) u5,.sr o v' _ _ _ _ (by simp[G.setObj];rfl) (AQ _) (λ_=>AQ _) (by show n+new.length<=_;omega) λ_ _=>⟨rfl,rfl⟩⟩
      ·rw[kD rf];have:j<C.size:=by rw[gd];exact hj
       simp[this]
      have nr:i'<(rows++new).length:=(AH.1 h1).1;have nh:j<i.size:=by rw[<- da.row row (AN h1)];exact (AH.1 h2).1
      have hlt:=eV nr nh;have hs:=AO.1 (AO.1 mf row (AN h1)) c (AN h2);have iq:i'*i.size+j<(dt++news).length:=by rw[ym];exact hlt
      refine⟨hs,(dt++news)[i'*i.size+j], ?_,(da.rel i' j row c _ h1 h2 siT).mono hle⟩;rw[kD rf];have:C.toList[i'*i.size+j]? = N1 ((dt++news)[i'*i.size+j]):=by
       have h3:(C.toList.take ((rows++new).length*i.size))[i'*i.size+j]? = (dt++news)[i'*i.size+j]? := by rw[gm]
       rw[CF,Zy hlt]at h3;rw[h3];exact AP iq
      simpa using this
   cases h
  cases h
 cases h
def aTv{α:Type}{l m:List α}{a:Nat}(h:a+m.length<=l.length)(i:Nat):(l.take a++m++l.drop (a+m.length))[i]? = if a<=i/\i<a+m.length then m[i - a]? else l[i]? := by
 have ha:(l.take a).length=a:=soT;by_cases h1:i<a
 ·rw[Zx omT,CJ,BM omT,CF,Zy h1]
 rw[CJ,BU omT,ha];by_cases h2:i<a+m.length
 ·rw[Zy ⟨omT,h2⟩,BM omT]
 rw[Zx omT,BU omT,List.getElem?_drop];congr 1;omega
def bA0{t u e ty:BP}{k:Nat}{X Y:CA}{x y:aa}(ht:P.underlying t=N1 (.slice e))(gd:size? P e=N1 k) (hX:fA ab X=N1 x) (hY:fA ab Y=N1 y) {call:Nat->LA->LO->Out} {site:Option Nat} {av:AV} {H':LO} {wr:LN} (h:evW call H ρ site (.cpy k x y)=N1 (av,H',wr)) (hw:WF g H w) (hg:bM P ab g) (hs:aX g ρ a.tmps):aA8 P ⟨dst,.call { callee:=.builtin .copy,args := #[X,Y],argTypes := #[t,u] },ty,pos,after,guard⟩ a w λv w'=>∃g',Step g H w g' H' w' wr/\ai g' av v:=by
 have hrx:=aQ hX hg hs;have Hs:=aQ hY hg hs;have fin:∀v w',(KJ #[t,u] ty #[a.eval X,a.eval Y]).run P w=.ok v w'->(∃g',Step g H w g' H' w' wr/\ai g' av v) ->
   aA8 P ⟨dst,.call { callee:=.builtin .copy,args := #[X,Y],argTypes := #[t,u] },ty,pos,after,guard⟩ a w λv w'=>∃g',Step g H w g' H' w' wr/\ai g' av v:=λv w' hr hR=>.inl ⟨v,w',by simp[execOp,resolve,invoke,builtin,hr],hR⟩
 simp only[evW]at h;split at h
 ·rename_i o v n k' lo O5;rw[O5]at hrx;split at h
  ·rename_i v' k2 rows hH;split at h
   ·rename_i new ki;generalize th:a.eval X=sval at hrx;cases hrx with
    |srv o v n k' lo l b cap hl hv hn gr hh=>
     by_cases ja:new.isEmpty=Pa
     ·rw[Zy ja]at h;cases h;have gq:new=[]:=by simpa using ja
      subst gq;obtain⟨news,hN,hrr,dq⟩:=gN (P:=P) (k:=k) hw ki rfl Hs;have lh:news=[]:=DP (by have:=hN.size;simpa using this);subst lh;refine fin (.int .i64 0) w ?_ ⟨g,.refl hw,.int _ _⟩;have hc:=hN.cells w rfl;have hm:Nat.min 0 (n - lo)=0:=Nat.zero_min _;rw[th];simp only[AZ]at hN hc;simp[KJ,BH ht,hN.len,fV gd,hm,hc,IB,goInt]
     rw[Zx ja]at h;split at h
     ·rename_i hc;cases h;obtain⟨rfl,ax,rfl,rfl,nq,pc⟩:=hc;obtain⟨news,hN,hrr,dq⟩:=gN (P:=P) hw ki nq Hs;have kj:0<new.length:=by
       cases new with
       |nil=>simp at ja
       |cons _ _=>simp
      have bd:l.st=v':=by have:=hw.st o _ l hH hl;simp only[ah.ver]at this;omega
      have hb:au g H o l (.vec v' k' rows):=⟨hH,rfl,hl,bd⟩;obtain⟨h0,ow,cm,dr,hk,eh,bc⟩:=hw.obj o l _ hb;obtain⟨off,rfl,zd,_⟩:=hh bd omT;obtain rfl:=zd omT;have O4:=hrr.len;have Y0:lo*k'+new.length*k'<=rows.length*k':=by rw[<- CS];exact BO _ omT
      have u6:rows.length*k'<=l.cap*k':=BO _ cm;have iv:∀j,j<news.length->(w.cell? ⟨l.b,lo*k'+j,N2⟩).isSome=true:=λj hj=>eh _ omT;have ud:∀y∈news,y.oneCell'=true:=hrr.js dq;have Pt:=GH (P:=P) l.b (lo*k') news 0 w (by simpa using iv) (by intro j hj;exact dr _ (by simpa using iv j hj)) ud;refine fin (.int .i64 new.length) (w.setCells l.b (lo*k') news) ?_ ⟨g,Step.write hw hb rfl rfl ⟨?_,ow, ?_,λj hj=>?_,λr hr=>?_,λj hj=>?_,λi' j r c h1 h2=>?_⟩,.int _ _⟩
      ·have hm:Nat.min new.length (n - lo)=new.length:=Nat.min_eq_left omT;have hc:=hN.cells w rfl;rw[th];simp only[DU]at Pt;simp[KJ,BH ht,hN.len,fV gd,hm,hc,goInt,Pt]
      ·simp;omega
      ·simp;omega
      ·rw[EI];refine dr j ?_;by_cases hr:lo*k'<=j/\j<lo*k'+news.length
       ·have:=iv (j - lo*k') omT
        rwa [show lo*k'+(j - lo*k')=j by omega]at this
       rwa [BV l.b news (lo*k') w ⟨l.b,j,N2⟩ (λ_ _=>soT)]at hj
      ·rcases AY.1 hr with hr | hr
       ·rcases AY.1 hr with hr | hr
        ·exact hk r (FA hr)
        exact hrr.row r hr
       exact hk r (List.mem_of_mem_drop hr)
      ·by_cases hr:lo*k'<=j/\j<lo*k'+news.length
       ·have:=CQ l.b news (lo*k') w iv (j - lo*k') omT;rw[show lo*k'+(j - lo*k')=j by omega]at this;rw[this];rfl
       rw[BV l.b news (lo*k') w ⟨l.b,j,N2⟩ (λ_ _=>soT)];exact eh j hj
      rw[aTv omT]at h1;split at h1
      ·rename_i hi;have nh:j<k':=by rw[<- hrr.row r (AN h1)];exact (AH.1 h2).1
       have hs:=AO.1 (AO.1 dq r (AN h1)) c (AN h2);have hlt:=eV (show i' - lo<new.length by omega) nh;have Kb:(i' - lo)*k'=i'*k' - lo*k':=IW _ _ _;have nj:lo*k'<=i'*k':=BO _ hi.1;have:=CQ l.b news (lo*k') w iv ((i' - lo)*k'+j) omT;rw[show lo*k'+((i' - lo)*k'+j)=i'*k'+j by omega]at this;exact⟨hs,_,this,hrr.rel (i' - lo) j r c _ h1 h2 siT⟩
      rename_i hi;obtain⟨hs,y,hy,hr⟩:=bc i' j r c h1 h2;have nh:j<k':=by rw[<- hk r (AN h1)];exact (AH.1 h2).1
      refine⟨hs,y, ?_,hr⟩;rw[BV l.b news (lo*k') w ⟨l.b,i'*k'+j,N2⟩ (λ_ _=>?_)]
      ·exact hy
      by_cases hlt:i'<lo
      ·have:=eV hlt nh;left;simp;omega
      have:(lo+new.length)*k'<=i'*k':=BO _ omT;rw[CS]at this;right;simp;omega
     cases h
   cases h
  cases h
 cases h
end
section
variable {P:CU}{ab:cu}{g:G}{H:LO}{w w':BL}{ρ:LA}{a:Act}
variable {dst:Option Tmp}{type:BP}{pos:String}{after:Array Edge}{guard:Option (Nat×Bool)}
def aCS{k:Nat}:∀(parts:List (Nat×CA)) (aps:List (Nat×aa)),parts.length=aps.length->∀(g:G) (H:LO),WF g H w->(∀(j:Nat) i X i' x,parts[j]? = N1 (i,X)->aps[j]? = N1 (i',x)->i'=i/\ai g (x.ev ρ) (a.eval X)) ->∀(rows:List LA) (cells:Array BE),bz g k rows cells.toList->rows.all (λr=>r.all AV.still)=Pa->∀out H' l,nW ρ k H rows aps=N1 (out,H',l) ->∃g' dh,Step g H w g' H' w l/\FZ (λi=>N1 (i*k,k)) cells (parts.map λp=>(p.1,a.eval p.2))=N1 dh/\bz g' k out dh.toList/\out.length=rows.length/\out.all (λr=>r.all AV.still)=Pa
 | [],aps,hl,g,H,hw,_,rows,cells,hr,bd,out,H',l,h=>by
  cases aps with
  |nil=>simp only[nW,AG,BK]at h;obtain⟨rfl,rfl,rfl⟩:=h;exact⟨g,cells,.refl hw,rfl,hr,rfl,bd⟩
  |cons _ _=>simp at hl
 | (i,X)::parts,aps,hl,g,H,hw,hp,rows,cells,hr,bd,out,H',l,h=>by
  cases aps with
  |nil=>simp at hl
  |cons p aps=>
   obtain⟨i',x⟩:=p;simp only[nW]at h;split at h
   ·rename_i v H1 l1 Dz;split at h
    ·rename_i hc;split at h
     ·rename_i bt H'' l' mz;simp only[AG,BK]at h;obtain⟨rfl,rfl,rfl⟩:=h;obtain⟨h1,h2⟩:=hp 0 i X i' x rfl rfl;subst h1;obtain⟨g1,bn,Kc⟩:=qO hw Dz h2;have hv:=Kc.cells (jM hc.2.2);have E4:=hv.1;simp only[DI]at E4;have gj:=hr.mono bn.le;have ax:=hr.len;simp only[DI]at ax;have hb:i'*k+k<=rows.length*k:=by
       have:(i'+1)*k<=rows.length*k:=BO _ hc.2.1
       rwa [CS,Nat.one_mul]at this
      obtain⟨cells1,e1,e2⟩:=aCR (place:=λi=>N1 (i*k,k)) (cells:=cells) (i:=i') (off:=i'*k) (v:=a.eval X) (rest:=parts.map λp=>(p.1,a.eval p.2)) soT omT;have nv:bz g1 k (rows.set i' v.cells) cells1.toList:=by rw[e1];have:=gj.set hc.2.1 hv hc.1;simpa using this
      have q7:(rows.set i' v.cells).all (λr=>r.all AV.still)=true:=by
       rw[AO]at bd ⊢;intro r hm;rcases List.mem_or_eq_of_mem_set hm with oq | rfl
       ·exact bd r oq
       exact hc.2.2
      obtain⟨g',dh,e3,e4,e5,e6,e7⟩:=aCS parts aps (by simpa using hl) g1 H1 bn.wf
       (λj i X o x h1 h2=>by obtain⟨a1,a2⟩:=hp (j+1) i X o x (by simpa using h1) (by simpa using h2);exact⟨a1,a2.mono bn.le⟩) _ cells1 nv q7 _ _ _ mz
      exact⟨g',dh,bn.trans e3,by simp only[List.map_cons];rw[e2];exact e4,e5,by rw[e6];simp,e7⟩
     cases h
    cases h
   cases h
def bA1{t e:BP}{k n:Nat}{parts:Array (Nat×CA)}{zs:LA}{aps:List (Nat×aa)}(ht:P.underlying t=N1 (.slice e))(hk:size? P e=N1 k)(hz:zeroCells? P ab e=N1 zs)(hp:aFK ab n parts.toList=N1 aps) (O1:zs.length=k) (hn:n*k<=16777216) (bd:zs.all AV.still=Pa) {call:Nat->LA->LO->Out} {site:Option Nat} {av:AV} {H':LO} {wr:LN} (h:evW call H ρ site (.bsl k (zs.map AV.aj) n aps)=N1 (av,H',wr)) (hw:WF g H w) (hg:bM P ab g) (hs:aX g ρ a.tmps):aA8 P ⟨dst,.buildSlice t n parts,type,pos,after,guard⟩ a w λv w'=>∃g',Step g H w g' H' w' wr/\ai g' av v:=by
 simp only[evW]at h;obtain⟨it,z,hi,tq,ub⟩:=zeroCells?_spec hz;obtain⟨i',nr,gd⟩:=size?_info hk;rw[hi]at nr;cases nr;obtain⟨h1,h2⟩:=aC8 hp;have me:bz g k (AX n (zs.map AV.aj)) (((CV (n*k)).map (z.cells[· % z.cells.size]!)).toList):=aFx (ub g).aj (by simpa using O1);have rr:(AX n (zs.map AV.aj)).all (λr=>r.all AV.still)=true:=by rw[AO];intro r hm;rw[(List.mem_replicate.1 hm).2];exact jN bd
 have cl:∀cells,FZ (λi=>N1 (i*k,k)) ((CV (n*k)).map (z.cells[· % z.cells.size]!)) (parts.toList.map λp=>(p.1,a.eval p.2))=N1 cells ->
   (execOp a.eval ⟨dst,.buildSlice t n parts,type,pos,after,guard⟩).run P w=.ok (.value (.slice (N1 ⟨w.heap.size,0,N2⟩) n n)) (w.alloc (.cells cells e)):=λcells e1=>by
  have hf:FZ (λi=>N1 (i*k,k)) ((CV (n*k)).map (z.cells[· % z.cells.size]!)) (parts.map λp=>(p.1,a.eval p.2)).toList=N1 cells:=by rw[Array.toList_map];exact e1
  simp only[execOp,BS,aBF ht hi gd tq hn hf,BJ,Sem.run_pure]
 split at h
 ·rename_i id;split at h
  ·rename_i rows hb;split at h
   ·rename_i hid;cases h;obtain⟨cells,e1,e2,e3,e4⟩:=aA6 (g:=g) (a:=a) (ρ:=ρ) parts.toList aps h1 (λj i X i' x e1 e2=>by
     obtain⟨ho,_,hx⟩:=h2 j i X i' x e1 e2;exact⟨ho,aQ hx hg hs⟩) _ _ me (vF rr) _ hb
    have ax:rows.length=n:=by rw[e3];simp
    have kq:=e2.len;have gm:cells.toList.take (rows.length*k)=cells.toList:=CH omT;obtain⟨g',s1,s2⟩:=Step.Py (w':=w.alloc (.cells cells e)) hw hid (c:=cells) (t:=e) rfl (k:=k) (cap:=n) (by rw[gm];exact e2) e4 omT (by simpa [ax]using kq);rw[ax]at s2;exact .inl ⟨_,_,cl cells e1,g',s1,s2⟩
   cases h
  cases h
 split at h
 ·rename_i rows H1 dc Pw;cases h;obtain⟨g1,cells,bn,e1,e2,e3,e4⟩:=aCS (a:=a) (ρ:=ρ) parts.toList aps h1 g H hw (λj i X i' x e1 e2=>by
   obtain⟨ho,_,hx⟩:=h2 j i X i' x e1 e2;exact⟨ho,aQ hx hg hs⟩) _ _ me rr _ _ _ Pw
  have ax:rows.length=n:=by rw[e3];simp
  have kq:=e2.len;have gm:cells.toList.take (rows.length*k)=cells.toList:=CH omT;have Pv:=Step.ir (w':=w.alloc (.cells cells e)) bn.wf cells e (0,0) rfl;have hv:=ai.rp (g:=g1) (f:=Pa) (cap:=n) (b:=w.heap.size) e4 omT (λ_=>ax.symm) (by rw[gm];exact e2.mono Pv.le);rw[ax]at hv;refine .inl ⟨_,_,cl cells e1,_,(bn.trans Pv).weaken λo ho=>by simpa using ho,hv⟩
 cases h
structure xj(g:G)(H:LO)(n0:Nat)(w:BL)(k:Nat)(rows:List LA)(b cap:Nat):Prop where
 ki:n0<=b
 hlt:b<w.heap.size
 cm:rows.length<=cap
 dr:aQV w b
 cn:∀row∈rows,row.length=k
 dq:rows.all (λr=>r.all AV.still)=Pa
 eh:∀j,j<cap*k->(w.cell? ⟨b,j,N2⟩).isSome
 dj:∀(i j:Nat) (row:LA) c,rows[i]? = N1 row->row[j]? = N1 c->∃y,w.cell? ⟨b,i*k+j,N2⟩=N1 y/\ai g c y
 Qm:∀j,g.perm b j=N2
 pd:∀o l x,au g H o l x->l.b≠b
 u7:g.whole b=N2
def pN(g:G)(H:LO)(n0:Nat)(w:BL)(av:AV)(v:BE):Prop:=
 match av with
 |.own k rows=>∃b cap,v=.slice (N1 ⟨b,0,N2⟩) rows.length cap/\xj g H n0 w k rows b cap
 |av=>ai g av v
def gS(P:CU)(ab:cu)(call:Nat->LA->LO->Out):Prop:=
 ∀f args H av H' wr,call f args H=N1 (av,H',wr)->∀g w xs,WF g H w->bM P ab g->fU g args xs ->
  (∃F,P.funcs[f]? = N1 F/\(F.name == "runtime.NumGoroutine")=Po/\F.body.isNone=Po) /\
  Calls P f xs.toArray w λe w'=>match e with
   |.returned v=>∃g',Step g H w g' H' w' wr/\pN g' H' w.heap.size w' av v
   |_=>False
def aOS(P:CU)(ab:cu)(call:Nat->LA->LO->Out):Prop:=
 ∀o v Pq H av H' wr,call YF (.own 0 []::.yld o v::Pq) H=N1 (av,H',wr)->∀g w l xs,WF g H w->bM P ab g->ai g (.yld o v) (.func (.yield l) #[] #[])->fU g Pq xs ->
  ∃r,w.heap[l]? = N1 (.loop r)/\r.params.size=xs.length /\
   RoundIn Fence.wide 0 P l r.fn ((r.params.zip xs.toArray).foldl (λtmps (t,a)=>tmps.setIfInBounds t a) r.tmps) r.assign r.body w λe w'=>match e with
    |.returned v=>∃g',Step g H w g' H' w' wr/\ai g' av v
    |_=>False
def oT(P:CU)(ab:cu)(call:Nat->LA->LO->Out):Prop:=gS P ab call/\aOS P ab call
def aC9:∀(rows:List LA) {g:G} {H:LO},WF g H w->∀{bt:List LA} {H':LO} {l:LN},aLw H rows=N1 (bt,H',l) ->∀(xss:List (List BE)),(rows.length=xss.length/\∀(i:Nat) r xs,rows[i]? = N1 r->xss[i]? = N1 xs->fU g r xs) ->∃g',Step g H w g' H' w l/\bt.length=xss.length/\∀(i:Nat) r xs,bt[i]? = N1 r->xss[i]? = N1 xs->fU g' r xs
 | [],g,H,hw,bt,H',l,h,xss,hx=>by
  cases h;exact⟨g,.refl hw,hx.1,λi r xs h=>by simp at h⟩
 |r::rs,g,H,hw,bt,H',l,h,xss,hx=>by
  cases xss with
  |nil=>have:=hx.1;simp at this
  |cons xs xss=>
   unfold aLw at h;split at h
   ·rename_i r' H1 l1 hf;split at h
    ·rename_i rs' H2 l2 hr;cases h;have h0:=hx.2 0 r xs rfl rfl;obtain⟨g1,s1,v1⟩:=qO hw hf (fU.agg (vs:=xs.toArray) (by simpa using h0));obtain⟨ys,e1,qe⟩:=v1.fu;cases e1;have O6:fU g1 r' xs:=by simpa using qe
     obtain⟨g2,s2,ax,dj⟩:=aC9 rs s1.wf hr xss ⟨by have:=hx.1;simpa using this,λi r xs e1 e2=>(hx.2 (i+1) r xs (by simpa using e1) (by simpa using e2)).mono s1.le⟩;refine⟨g2,s1.trans s2,by simpa using ax,λi r xs e1 e2=>?_⟩;cases i with
     |zero=>simp at e1 e2;subst e1;subst e2;exact O6.mono s2.le
     |succ i=>exact dj i r xs (by simpa using e1) (by simpa using e2)
    cases h
   cases h
def aCT(hw:WF g H w){v v':AV}{H':LO}{l:LN}(h:aA3 H v=N1 (v',H',l)){x:BE}(hx:ai g v x):∃g',Step g H w g' H' w l/\ai g' v' x:=by
 unfold aA3 at h;split at h
 ·rename_i o ve n;split at h
  ·rename_i v0 k rows ho;split at h
   ·rename_i hc;obtain⟨rfl,ax⟩:=hc;split at h
    ·rename_i bt H1 l1 hi;split at h
     ·rename_i nc;split at h
      ·rename_i v2 H2 l2 hf;cases h;have hb:∃lc,au g H o lc (.vec v0 k rows):=by
        cases hx with
        |sr _ _ _ lc b cap hl hv hn jg hh=>
         have bd:lc.st=v0:=by have:=hw.st o _ lc ho hl;simp only[ah.ver]at this;omega
         exact⟨lc,ho,rfl,hl,bd⟩
       obtain⟨lc,hb⟩:=hb;obtain⟨h0,ow,cm,dr,hk,eh,bc⟩:=hw.obj o lc _ hb;have cj:∀(i j:Nat),i<rows.length->j<k->∃y,w.cell? ⟨lc.b,i*k+j,N2⟩=N1 y:=λi j hi hj=>by
        have yg:=hk rows[i] (AS hi);obtain⟨_,y,hy,_⟩:=bc i j rows[i] (rows[i][j]'omT) (by simp[hi]) siT;exact⟨y,hy⟩
       generalize re:((GZ rows.length).map λi=>(GZ k).map λj=>(w.cell? ⟨lc.b,i*k+j,N2⟩).getD EE)=xss;have dj:rows.length=xss.length/\∀(i:Nat) r xs,rows[i]? = N1 r->xss[i]? = N1 xs->fU g r xs:=by subst re;refine⟨siT,λi r xs e1 e2=>?_⟩;have hi:i<rows.length:=(AH.1 e1).1;simp[hi]at e2;subst e2;refine⟨by simpa using hk r (AN e1),λj c y e3 e4=>?_⟩;have hj:j<r.length:=(AH.1 e3).1;rw[hk r (AN e1)]at hj;simp[hj]at e4;obtain⟨_,z,hz,hr⟩:=bc i j r c e1 e3;rw[hz]at e4;simp at e4;subst e4;exact hr
       obtain⟨g1,s1,qe,gj⟩:=aC9 rows hw hi xss dj;have tp:o∉l1:=by have:=nc.1;simpa using this
       have hlt:o<H.length:=hw.lt o lc hb.loc;have fo:au g1 H1 o lc (.vec v0 k rows):=⟨by rw[s1.same o hlt tp];exact ho,rfl,by rw[s1.aq o hlt tp];exact hb.loc,hb.st⟩;have lz:=hx.mono s1.le;have U8:bt.length=rows.length:=by rw[qe,dj.1]
       have s2:Step g1 H1 w g1 (H1.set o (.vec v0 k bt)) w [o]:=by
        refine Step.write (xs:=[]) (off:=0) s1.wf fo rfl rfl ⟨by rw[h0,U8],ow,by rw[U8];exact cm,dr,λr hr=>?_,eh,λi j r c e1 e2=>?_⟩
        ·obtain⟨i,hi,he⟩:=MQ hr;have l8:i<xss.length:=omT;have:=(gj i r xss[i] (by rw[AP hi,he]) (by simp[l8])).1;rw[this];subst re;simp
        have hi:i<bt.length:=(AH.1 e1).1;have l8:i<xss.length:=omT;have hl:=gj i r xss[i] e1 (by simp[l8]);have hj:j<r.length:=(AH.1 e2).1;have Y1:j<xss[i].length:=by rw[<- hl.1];exact hj
        refine⟨AO.1 (AO.1 nc.2 r (AN e1)) c (AN e2),xss[i][j], ?_,hl.2 j c _ e2 (by simp[Y1])⟩;subst re;have nh:j<k:=by simpa using Y1
        obtain⟨y,hy⟩:=cj i j omT nh;show w.cell? _=_;simp[hy]
       obtain⟨g3,s3,v3⟩:=qO s2.wf hf lz;exact⟨g3,s1.trans (s2.trans s3),v3⟩
      cases h
     cases h
    cases h
   cases h
  cases h
 exact qO hw h hx
def aIY(hw:WF g H w){v:AV}{H':LO}{l:LN}(h:pE H v=N1 (H',l)){x:BE}(hx:ai g v x):∃g',Step g H w g' H' w l:=by
 unfold pE at h;split at h
 ·cases h;exact⟨g,.refl hw⟩
 ·rename_i o ve n;split at h
  ·rename_i v0 k rows ho;split at h
   ·rename_i hc;obtain⟨rfl,ax⟩:=hc;split at h
    ·rename_i bt H1 l1 hi;split at h
     ·rename_i nc;cases h;have hb:∃lc,au g H o lc (.vec v0 k rows):=by
       cases hx with
       |sr _ _ _ lc b cap hl hv hn jg hh=>
        have bd:lc.st=v0:=by have:=hw.st o _ lc ho hl;simp only[ah.ver]at this;omega
        exact⟨lc,ho,rfl,hl,bd⟩
      obtain⟨lc,hb⟩:=hb;obtain⟨h0,ow,cm,dr,hk,eh,bc⟩:=hw.obj o lc _ hb;have cj:∀(i j:Nat),i<rows.length->j<k->∃y,w.cell? ⟨lc.b,i*k+j,N2⟩=N1 y:=λi j hi hj=>by
       have yg:=hk rows[i] (AS hi);obtain⟨_,y,hy,_⟩:=bc i j rows[i] (rows[i][j]'omT) (by simp[hi]) siT;exact⟨y,hy⟩
      generalize re:((GZ rows.length).map λi=>(GZ k).map λj=>(w.cell? ⟨lc.b,i*k+j,N2⟩).getD EE)=xss;have dj:rows.length=xss.length/\∀(i:Nat) r xs,rows[i]? = N1 r->xss[i]? = N1 xs->fU g r xs:=by subst re;refine⟨siT,λi r xs e1 e2=>?_⟩;have hi:i<rows.length:=(AH.1 e1).1;simp[hi]at e2;subst e2;refine⟨by simpa using hk r (AN e1),λj c y e3 e4=>?_⟩;have hj:j<r.length:=(AH.1 e3).1;rw[hk r (AN e1)]at hj;simp[hj]at e4;obtain⟨_,z,hz,hr⟩:=bc i j r c e1 e3;rw[hz]at e4;simp at e4;subst e4;exact hr
      obtain⟨g1,s1,qe,gj⟩:=aC9 rows hw hi xss dj;have tp:o∉l1:=by have:=nc.1;simpa using this
      have hlt:o<H.length:=hw.lt o lc hb.loc;have fo:au g1 H1 o lc (.vec v0 k rows):=⟨by rw[s1.same o hlt tp];exact ho,rfl,by rw[s1.aq o hlt tp];exact hb.loc,hb.st⟩;have lz:=hx.mono s1.le;have U8:bt.length=rows.length:=by rw[qe,dj.1]
      have s2:Step g1 H1 w g1 (H1.set o (.vec v0 k bt)) w [o]:=by
       refine Step.write (xs:=[]) (off:=0) s1.wf fo rfl rfl ⟨by rw[h0,U8],ow,by rw[U8];exact cm,dr,λr hr=>?_,eh,λi j r c e1 e2=>?_⟩
       ·obtain⟨i,hi,he⟩:=MQ hr;have l8:i<xss.length:=omT;have:=(gj i r xss[i] (by rw[AP hi,he]) (by simp[l8])).1;rw[this];subst re;simp
       have hi:i<bt.length:=(AH.1 e1).1;have l8:i<xss.length:=omT;have hl:=gj i r xss[i] e1 (by simp[l8]);have hj:j<r.length:=(AH.1 e2).1;have Y1:j<xss[i].length:=by rw[<- hl.1];exact hj
       refine⟨AO.1 (AO.1 nc.2 r (AN e1)) c (AN e2),xss[i][j], ?_,hl.2 j c _ e2 (by simp[Y1])⟩;subst re;have nh:j<k:=by simpa using Y1
       obtain⟨y,hy⟩:=cj i j omT nh;show w.cell? _=_;simp[hy]
      exact⟨g1,s1.trans s2⟩
     cases h
    cases h
   cases h
  cases h
 cases h
def aI1(hw:WF g H w){v v':AV}{H':LO}{l:LN}(h:aMD H v=N1 (v',H',l)){x:BE}(hx:ai g v x):∃g',Step g H w g' H' w l/\ai g' v' x:=by
 unfold aMD at h;split at h
 ·rename_i hf;cases h;exact qO hw hf hx
 split at h
 ·split at h
  ·rename_i hf;cases h;obtain⟨ys,rfl,hl⟩:=hx.fu;obtain⟨y,hy⟩:∃y,ys.toList=[y]:=by
    have:=hl.1;simp only[AW,AZ]at this;exact FQ.1 this.symm
   obtain⟨g',h1,h2⟩:=aCT hw hf (hl.2 0 _ y rfl (by rw[hy];rfl));refine⟨g',h1, ?_⟩;have:ys = #[y]:=by cases ys;simpa using hy
   subst this;refine ai.agg _ _ rfl λi a z e1 e2=>?_
   match i with
   |0=>simp at e1 e2;subst e1;subst e2;exact h2
   |i+1=>simp at e1
  cases h
 exact aCT hw h hx
def aJY{n0:Nat}(hw:WF g H w){k:Nat}{rows:List LA}{b cap:Nat}(h:xj g H n0 w k rows b cap):∃g',Step g H w g' H w []/\ai g' (.sl Po rows) (.slice (N1 ⟨b,0,N2⟩) rows.length cap):=by
 have hle:g.le (g.bh b λi=>w.cell? ⟨b,i,N2⟩):=by
  refine⟨λb' i y hy=>?_,λo l hl=>⟨l,hl,AQ _,λ_=>⟨AQ _,λ_=>rfl⟩⟩,λ_ _ hx=>hx,rfl,rfl⟩;by_cases e:b'=b
  ·subst e;rw[h.Qm i]at hy;cases hy
  simp only[G.bh,e,Zu];exact hy
 have dx:∀o l x,au (g.bh b λi=>w.cell? ⟨b,i,N2⟩) H o l x->au g H o l x:=λo l x hb=>⟨hb.Pr,hb.alive,hb.loc,hb.st⟩;refine⟨g.bh b λi=>w.cell? ⟨b,i,N2⟩,⟨hle,⟨λb' i y hy=>?_,hw.lt,hw.blk,hw.st,λo l x hb=>(hw.obj o l x (dx _ _ _ hb)).aq hle rfl,λo l x hb j=>?_,λo o' l l' x x' hb du=>hw.inj o o' l l' x x' (dx _ _ _ hb) (dx _ _ _ du),
   hw.whole.aq rfl rfl ⟨rfl,rfl⟩ (λ_ _ _=>rfl) λo l y hl=>.inr ⟨o,l,y,dx _ _ _ hl,rfl⟩⟩,
  aDS.refl _ _ _,λ_ _ _=>rfl,AQ _,λ_ l' hl=>.inr ⟨l',hl,rfl⟩,λ_ _ _=>rfl⟩, ?_⟩
 ·by_cases e:b'=b
  ·subst e;simpa only[G.bh,Zv]using hy
  simp only[G.bh,e,Zu]at hy;exact hw.perm b' i y hy
 ·have bl:=h.pd o l x (dx _ _ _ hb);simp only[G.bh,bl,Zu];exact hw.jh o l x (dx _ _ _ hb) j
 refine .sl Po rows b 0 cap k h.cm siT h.cn (AO.1 h.dq) (λi j hi hj=>?_) λi j row c x h1 h2 h3=>?_
 ·have yg:=h.cn rows[i] (AS hi);obtain⟨y,hy,_⟩:=h.dj i j rows[i] (rows[i][j]'omT) (by simp[hi]) siT;simp only[G.bh,Zv,BC,hy];rfl
 obtain⟨y,hy,hr⟩:=h.dj i j row c h1 h2;simp only[G.bh,Zv,BC,hy,AG]at h3;subst h3;exact hr.mono hle
def aI2{n0:Nat}(hw:WF g H w){k:Nat}{rows:List LA}{b cap:Nat}(h:xj g H n0 w k rows b cap){id:Nat}(hid:id<H.length):∃g',g'.perm=g.perm/\g.le g'/\WF g' (make H id (.vec · k rows)) w/\(∀o,o≠id->g'.obj o=g.obj o)/\(∀l',g'.obj id=N1 l'->l'.b=b) /\ ai g' (.sr id (bH H id) rows.length) (.slice (N1 ⟨b,0,N2⟩) rows.length cap):=by
 have hx:H[id]? = N1 H[id]:=by simp[hid]
 have hv:bH H id=H[id].ver+1:=by simp[bH,hid]
 generalize kg:(⟨b,bH H id,rows.length,k,cap⟩:Loc)=l';have hle:g.le (g.setObj id l'):=by
  refine⟨λ_ _ _ hx=>hx,λo' l hl=>?_,λ_ _ hx=>hx,rfl,rfl⟩;by_cases e:o'=id
  ·subst e;have:=hw.st o' _ l hx hl;exact⟨l',by simp[G.setObj],by rw[<- kg];show l.st<=bH H o';omega,λe=>by exfalso;rw[<- kg]at e;have:bH H o'=l.st:=e;omega⟩
  exact⟨l,by simp only[G.setObj,e,Zu];exact hl,AQ _,λ_=>⟨AQ _,λ_=>rfl⟩⟩
 have dx:∀o' l x,o'≠id->au (g.setObj id l') (make H id (.vec · k rows)) o' l x->au g H o' l x:=λo' l x bl hb=>⟨by rw[<- getElem?_set_ne' H _ (Ne.symm bl)];exact hb.Pr,hb.alive,by have:=hb.loc;simpa only[G.setObj,bl,Zu]using this,hb.st⟩;have gy:∀l x,au (g.setObj id l') (make H id (.vec · k rows)) id l x->l=l'/\x=.vec (bH H id) k rows:=λl x hb=>by
  have h1:=hb.Pr;have h2:=hb.loc;simp[make,hid]at h1;simp[G.setObj]at h2;refine⟨h2.symm, ?_⟩;rw[<- h1,hv]
 refine⟨g.setObj id l',rfl,hle,⟨hw.perm,λo' l hl=>?_,λo' l hl=>?_,λo' x l Qy hl=>?_,λo' l x hb=>?_,λo' l x hb j=>?_,λo1 o2 l1 l2 x1 x2 fo dp e=>?_,⟨λb' x hx=>⟨(hw.whole.blocks b' x hx).1,λo' l y hl=>by
    by_cases e:o'=id
    ·subst e;obtain⟨rfl,rfl⟩:=gy l y hl;rw[<- kg];intro e2;have e3:b=b':=e2;have h0:=h.u7;have jr:g.whole b'=N1 x:=hx;rw[e3,jr]at h0;cases h0
    exact (hw.whole.blocks b' x hx).2 o' l y (dx o' l y e hl)⟩,hw.whole.io⟩⟩,λo bl=>by simp[G.setObj,bl],λl2 iq=>?_, ?_⟩
 ·by_cases e:o'=id
  ·subst e;simpa [make]using hid
  simp only[G.setObj,e,Zu]at hl;simpa [make]using hw.lt o' l hl
 ·by_cases e:o'=id
  ·subst e;simp[G.setObj]at hl;subst hl;rw[<- kg];exact h.hlt
  simp only[G.setObj,e,Zu]at hl;exact hw.blk o' l hl
 ·by_cases e:o'=id
  ·subst e;simp[G.setObj]at hl;simp[make,hid]at Qy;subst hl;subst Qy;rw[<- kg];show bH H o'<=H[o'].ver+1;omega
  simp only[G.setObj,e,Zu]at hl;rw[make,getElem?_set_ne' H _ (Ne.symm e)]at Qy;exact hw.st o' x l Qy hl
 ·by_cases e:o'=id
  ·subst e;obtain⟨rfl,rfl⟩:=gy l x hb;rw[<- kg];refine⟨rfl,rfl,h.cm,h.dr,h.cn,h.eh,λi j row c h1 h2=>⟨aEG (AO.1 (AO.1 h.dq row (AN h1)) c (AN h2)), ?_⟩⟩;obtain⟨y,hy,hr⟩:=h.dj i j row c h1 h2;refine⟨y,hy, ?_⟩;rw[kg];exact hr.mono hle
  exact (hw.obj o' l x (dx o' l x e hb)).aq hle rfl
 ·by_cases e:o'=id
  ·subst e;obtain⟨rfl,rfl⟩:=gy l x hb;rw[<- kg];exact h.Qm j
  exact hw.jh o' l x (dx o' l x e hb) j
 ·by_cases e1:o1=id
  ·by_cases e2:o2=id
   ·rw[e1,e2]
   subst e1;obtain⟨rfl,rfl⟩:=gy l1 x1 fo;exact Zw (by rw[<- kg]at e;exact e.symm) (h.pd o2 l2 x2 (dx _ _ _ e2 dp))
  by_cases e2:o2=id
  ·subst e2;obtain⟨rfl,rfl⟩:=gy l2 x2 dp;exact Zw (by rw[<- kg]at e;exact e) (h.pd o1 l1 x1 (dx _ _ _ e1 fo))
  exact hw.inj o1 o2 l1 l2 x1 x2 (dx _ _ _ e1 fo) (dx _ _ _ e2 dp) e
 ·simp[G.setObj]at iq;rw[<- iq,<- kg]
 subst kg;exact .sr id _ _ _ _ _ (by simp[G.setObj];rfl) (AQ _) (λ_=>AQ _) h.cm λ_ _=>⟨rfl,rfl⟩
end
section
variable {P:CU}{ab:cu}{g:G}{H:LO}{w w':BL}{ρ:LA}{a:Act}
variable {dst:Option Tmp}{type:BP}{pos:String}{after:Array Edge}{guard:Option (Nat×Bool)}
def aTw{t:BP}{call:Nat->LA->LO->Out}{site:Option Nat} {av:AV} {H':LO} {wr:LN} (h:evW call H ρ site .jn=N1 (av,H',wr)) (hw:WF g H w):aA8 P ⟨dst,.makeMap t N2,type,pos,after,guard⟩ a w λv w'=>∃g',Step g H w g' H' w' wr/\ai g' av v:=by
 simp only[evW]at h;split at h
 ·rename_i id;split at h
  ·rename_i hid;cases h;have e:(w.alloc (.map #[] 0)).heap=w.heap.push (.map #[] 0):=rfl;have bd:=Step.update (w':=w.alloc (.map #[] 0)) hw id (.map (bH H id) []) ⟨w.heap.size,bH H id,0,0,0⟩ hid (by rw[e];simp) (λb hb _=>cK e hb) (by rw[e];simp) (.inl (AQ _)) rfl rfl (λl hl=>by
    have hx:H[id]? = N1 H[id]:=by simp[hid]
    have:=hw.st id _ l hx hl;have hv:bH H id=H[id].ver+1:=by simp[bH,hid]
    exact⟨by show l.st<=bH H id;omega,λe=>by have e':bH H id=l.st:=e;omega⟩)
    λhle=>⟨rfl,#[],0,by rw[e];simp,rfl,λi k v e h=>by simp at h⟩
   refine .inl ⟨.map (N1 w.heap.size),w.alloc (.map #[] 0),by simp[execOp,Instr.makeMap,DL],_,bd, ?_⟩;exact .mp id _ _ _ (by simp[G.setObj];rfl) (AQ _) λ_ _=>rfl
  cases h
 cases h
def bA2{t kt et:BP}{K:IntKind}{M X V:CA}{m k v:aa}(ht:P.underlying t=N1 (.map kt et))(hk:P.underlying kt=N1 (.int K)) (hM:fA ab M=N1 m) (hX:fA ab X=N1 k) (hV:fA ab V=N1 v) {call:Nat->LA->LO->Out} {site:Option Nat} {av:AV} {H':LO} {wr:LN} (h:evW call H ρ site (.ins m k v)=N1 (av,H',wr)) (hw:WF g H w) (hg:bM P ab g) (hs:aX g ρ a.tmps):aA8 P ⟨dst,.insert t M X V,type,pos,after,guard⟩ a w λv w'=>∃g',Step g H w g' H' w' wr/\ai g' av v:=by
 have hm:=aQ hM hg hs;have hx:=aQ hX hg hs;have hv:=(aQ hV hg hs).strip;simp only[evW]at h;split at h
 ·rename_i kk o ver e1;rw[e1]at hm;split at h
  ·rename_i v' es ho;split at h
   ·rename_i hc;obtain⟨nn,Y2,dq⟩:=hc;obtain⟨l,entries,clock,hb,J8,pe,dj,ax⟩:=aFT hw ho nn hm;have E8:∀b,(Instr.checkKey b 10000 kt (a.eval X)).run P w=.ok () w:=λb=>pG hk b 9999 (a.eval X);have step:∀(es':List (AV×AV)) (xs':Array MapEntry) (clock':Nat),aTs g es' xs'.toList ->
      ∃g',Step g H w g' (H.set o (.map ver es')) { w with heap:=w.heap.setIfInBounds l.b (.map xs' clock') } [o]:=λes' xs' clock' hr=>by
     have hlt:=hw.blk o l hb.loc;have uj:∀b,b≠l.b->(w.heap.setIfInBounds l.b (.map xs' clock'))[b]? = w.heap[b]? := λb bl=>by simp[Ne.symm bl]
     refine⟨_,Step.update hw o (.map ver es') l (hw.lt o l hb.loc) siT (λb _ bl=>uj b λe=>bl l _ hb e.symm) (by simpa using hlt) (.inr ⟨l,_,hb,rfl⟩) hb.st rfl (λl2 iq=>?_)
      λhle=>⟨ax,xs',clock',by simp[hlt],by simpa using hr.1,λi k v e h1 h2=>?_⟩⟩
     ·have:l2=l:=by have:=hb.loc;rw[iq]at this;exact DZ this
      subst this;exact⟨AQ _,λ_=>⟨AQ _,λ_=>rfl⟩⟩
     have:=hr.2 i k v e h1 (by simpa using h2);exact⟨this.1.mono hle,this.2.mono hle⟩
    split at h
    ·rename_i j x hf;obtain⟨j',e',k',n,h1,h2,h3,h4,h5⟩:=iQ (K:=K) hx es entries.toList 0 _ dj hf;have hj:entries[j']? = N1 e':=by simpa using h2
     simp only[BC]at h1;subst h1;simp only[AG,BK]at h;obtain⟨rfl,rfl,rfl⟩:=h;have O5:a.eval X=.int k' n:=by rw[h4]at hx;cases hh:a.eval X<;>rw[hh]at hx<;>cases hx;rfl
     have Kd:e'.key=.int k' n:=by have:=(dj.2 j _ _ e' h3 h2).1;cases hh:e'.key<;>rw[hh]at this<;>cases this;rfl
     have qo:=LY (w:=w) hk h5;have bd:(MR (.int k' n) (.int k' n)).run P w=.ok (.int k' n) w:=by simp[MR,Instr.sameBits]
     have cl:(IH t (a.eval M) (a.eval X) (a.eval V)).run P w=.ok () { w with heap:=w.heap.setIfInBounds l.b (.map (entries.modify j λe=>{ e with key:=.int k' n,val:=a.eval V }) clock) }:=by rw[O5]at qo E8;simp[IH,BH ht,J8,O5,FH pe,E8,qo,hj,Kd,bd,LD _ pe,DL]
     obtain⟨g',ml⟩:=step (es.set j (k.ev ρ,(v.ev ρ).strip)) (entries.modify j λe=>{ e with key:=.int k' n,val:=a.eval V }) clock ⟨by simpa using dj.1,λi k2 v2 e2 h6 h7=>by
      have zf:(entries.modify j λe=>{ e with key:=.int k' n,val:=a.eval V })[i]? = N1 e2:=by rw[<- Array.getElem?_toList];exact h7
      rw[Array.getElem?_modify]at zf;by_cases e:j=i
      ·subst e;have hlt:j<es.length:=(AH.1 h3).1;simp only[FB,Zv,hlt]at h6;rw[Zy rfl,hj]at zf;simp only[DE,AG]at zf;subst zf;simp only[AG,BK]at h6;obtain⟨rfl,rfl⟩:=h6;exact⟨by rw[<- O5];exact hx,hv⟩
      rw[Zx e]at zf;rw[getElem?_set_ne' _ _ e]at h6;exact dj.2 i k2 v2 e2 h6 (by simpa using zf)⟩
     exact .inr (.inl ⟨_,by simp[execOp,cl],g',ml,.undef _⟩)
    ·rename_i hf;have h5:=iQ (K:=K) hx es entries.toList 0 _ dj hf;simp only[AG,BK]at h;obtain⟨rfl,rfl,rfl⟩:=h;have qo:=LY (w:=w) hk h5;have cl:(IH t (a.eval M) (a.eval X) (a.eval V)).run P w=.ok () { w with heap:=w.heap.setIfInBounds l.b (.map (entries.push { key:=a.eval X,val:=a.eval V,born:=clock }) (clock+1)) }:=by
      simp[IH,BH ht,J8,FH pe,E8,qo,LD _ pe,DL]
     obtain⟨g',ml⟩:=step (es++[(k.ev ρ,(v.ev ρ).strip)]) (entries.push { key:=a.eval X,val:=a.eval V,born:=clock }) (clock+1) ⟨by simpa using dj.1,λi k2 v2 e2 h6 h7=>by
      have zf:(entries.toList++[{ key:=a.eval X,val:=a.eval V,born:=clock }])[i]? = N1 e2:=by simpa using h7
      by_cases e:i<es.length
      ·rw[BM e]at h6;rw[BM (by rw[<- dj.1];exact e)]at zf;exact dj.2 i k2 v2 e2 h6 zf
      rw[BU omT]at h6;rw[BU (by rw[<- dj.1];omega),<- dj.1]at zf;cases hd:i - es.length with
      |zero=>rw[hd]at h6 zf;simp at h6 zf;obtain⟨rfl,rfl⟩:=h6;subst zf;exact⟨hx,hv⟩
      |succ d=>rw[hd]at h6;simp at h6⟩
     exact .inr (.inl ⟨_,by simp[execOp,cl],g',ml,.undef _⟩)
    cases h
   cases h
  cases h
 cases h
end
section
variable {P:CU}{ab:cu}{g:G}{H:LO}{w w':BL}{ρ:LA}{a:Act}
variable {dst:Option Tmp}{type:BP}{pos:String}{after:Array Edge}{guard:Option (Nat×Bool)}
def ai.atom{g g':G}{v:AV}{x:BE}(h:ai g v x)(ha:v.atom=Pa):ai g' v x:=by cases h<;>first | (simp[AV.atom]at ha;done) | exact .bool _ | exact .int _ _ | exact .str _ | exact .bx | exact .nilPtr | exact .bj | exact .ar
def ai.atomic{g g':G}{v:AV}{x:BE}(h:ai g v x)(ha:v.atomic=Pa):ai g' v x:=by
 have lists:∀{cs:LA} {xs:List BE},fU g cs xs->cs.all AV.atom=Pa->fU g' cs xs:=λhl hc=>⟨hl.1,λi c y h1 h2=>(hl.2 i c y h1 h2).atom (AO.1 hc c (AN h1))⟩;unfold AV.atomic at ha;split at ha
 ·obtain⟨vs,rfl,hl⟩:=h.fu;exact (lists hl ha).agg
 ·obtain⟨vs,rfl,hl⟩:=h.np;have:=lists hl ha;exact .tup _ vs (by simpa using this.1) λi c y h1 h2=>this.2 i c y h1 (by simpa using h2)
 exact h.atom ha
def fU.append{Pq bs:LA}{xs ys:List BE}(h1:fU g Pq xs)(h2:fU g bs ys):fU g (Pq++bs) (xs++ys):=by
 refine⟨by simp[h1.1,h2.1],λi c y hc hy=>?_⟩;rw[DG]at hc hy;have:=h1.1;split at hc
 ·rename_i hi;rw[Zy omT]at hy;exact h1.2 i c y hc hy
 rename_i hi;rw[Zx omT]at hy;exact h2.2 _ c y hc (by rw[this];exact hy)
def fU.strip{Pq:LA}{xs:List BE}(h:fU g Pq xs):fU g (Pq.map AV.strip) xs:=by
 refine⟨by simpa using h.1,λi a x ha hx=>?_⟩;rw[BN]at ha;cases hq:Pq[i]? with
 |none=>simp[hq]at ha
 |some b=>simp[hq]at ha;subst ha;exact (h.2 i b x hq hx).strip
def qE{c:Bool}{o id:Nat}{wr:LN}(h:o∈wr):o∈(if c=Pa then wr else id::wr):=by
 cases c
 ·exact BZ _ h
 exact h
def aJZ(hw:WF g H w){g1 g2:G}{H1 H2:LO}(h1:g1.io=(w.os,w.output))(h2:Step g1 H1 w g2 H2 w' []):Step g H w g H w' []:=by
 have da:∀b,b<w.heap.size->w'.heap[b]? = w.heap[b]? := λb hb=>h2.frame.2 b hb λo ho=>by simp at ho
 have kh:w'.os=w.os/\w'.output=w.output:=by have:=h2.wf.whole.io;rw[h2.le.io,h1]at this;exact⟨(congrArg EM this).symm,(congrArg Prod.snd this).symm⟩
 refine⟨G.le.refl g,⟨λb i x hx=>?_,hw.lt,λo l hl=>FU (hw.blk o l hl) h2.frame.1,hw.st,λo l x hb=>?_,hw.jh,hw.inj,hw.whole.aq rfl rfl kh (λb hb _=>da b hb) λo l y hl=>.inr ⟨o,l,y,hl,rfl⟩⟩,⟨h2.frame.1,λb hb _=>da b hb⟩,λ_ _ _=>rfl,AQ _,λ_ l' hl=>.inr ⟨l',hl,rfl⟩,λ_ _ _=>rfl⟩
 ·rw[cell_of_heap (da b (hw.ko hx))];exact hw.perm b i x hx
 exact (hw.obj o l x hb).aq (G.le.refl g) (da l.b (hw.blk o l hb.loc))
def aDV{o:HP}{fid:Nat}{first ay args:LA}{vf vx vc:List BE}(yo:fU g first vf)(hrx:fU g args vx)(hlc:fU g ay vc){call:Nat->LA->LO->Out}(az:oT P ab call){site:Option Nat} {av:AV} {H':LO} {wr:LN} (h:cX call H site (.fn fid first ay) args=N1 (av,H',wr)) (hw:WF g H w) (hg:bM P ab g) (u9:∀Fn,P.funcs[fid]? = N1 Fn->(Fn.name == "runtime.NumGoroutine")=Po->Fn.body.isNone=Po->(execOp a.eval o).run P w=.ok (.enter fid (vf++vx++vc).toArray) w):aA8 P o a w λv w'=>∃g',Step g H w g' H' w' wr/\ai g' av v:=by
 simp only[cX]at h;split at h
 ·cases h
 rename_i args' lent vn;split at h
 ·cases h
 rename_i v H2 en hc;have hargs:fU g (first++args++ay) (vf++vx++vc):=(yo.append hrx).append hlc;obtain⟨l1,l2⟩:=pU hw vn hargs;obtain⟨g1,jj,vo⟩:=iR lent g H hw λo ho=>.inl (l1 o ho);have xk:=(l2 g1 vo).strip;obtain⟨⟨Fn,Qd,jq,gh⟩,kr⟩:=az.1 fid _ _ v H2 en hc g1 w _ jj.wf (hg.mono jj.le) xk;have cl:=u9 Fn Qd jq gh;refine .inr (.inr (.inl ⟨fid,_,w,cl,kr.mono λe w' he=>?_⟩));cases e with
 |panicked c=>exact he
 |outgrown=>exact he
 |returned rv=>
  obtain⟨g2,uk,Pz⟩:=he;split at h
  ·rename_i ja;have sz:lent=[]:=by simpa using ja
   subst sz;have bn:=jj.trans uk;simp only[CW]at bn;split at h
   ·rename_i k rows;obtain⟨b,cap,rfl,xl⟩:=Pz;split at h
    ·rename_i id;split at h
     ·rename_i hid;cases h;obtain⟨g3,hp,hle,U9,uj,gy,hv⟩:=aI2 bn.wf xl hid;refine⟨g3,⟨bn.le.trans hle,U9, ?_,λo ho hn=>?_,by simpa [make]using bn.len,λo l' kg=>?_,λo ho hn=>?_⟩,hv⟩
      ·refine bn.frame.weaken λo ho=>?_;split
       ·exact ho
       exact BZ _ ho
      ·have bl:o≠id:=λe=>by
        subst e;split at hn
        ·rename_i hc;exact hn (by simpa using hc)
        simp at hn
       have ze:o∉en:=λhm=>hn (qE hm);rw[make,getElem?_set_ne' _ _ (Ne.symm bl)];exact bn.same o ho ze
      ·by_cases e:o=id
       ·subst e;rw[gy l' kg];exact .inl xl.ki
       rw[uj o e]at kg;exact bn.mc o l' kg
      have bl:o≠id:=λe=>by
       subst e;split at hn
       ·rename_i hc;exact hn (by simpa using hc)
       simp at hn
      have ze:o∉en:=λhm=>hn (qE hm);rw[uj o bl];exact bn.aq o ho ze
     cases h
    cases h;obtain⟨g3,F1,hv⟩:=aJY bn.wf xl;exact⟨g3,(bn.trans F1).weaken λo ho=>by simpa using ho,hv⟩
   cases h;rename_i tp;have:pN g2 H' w.heap.size w' av rv=ai g2 av rv:=by cases av<;>first | rfl | exact Zw rfl (tp _ _)
   rw[this]at Pz;exact⟨g2,bn,Pz⟩
  split at h
  ·rename_i fj;cases h;simp only[AI]at fj;obtain⟨⟨ma,_⟩,jk⟩:=fj;have Ea:en=[]:=by simpa using ma
   subst Ea;have:pN g2 H2 w.heap.size w' av rv=ai g2 av rv:=by cases av<;>first | rfl | (simp[AV.atomic,AV.atom]at jk)
   rw[this]at Pz;exact⟨g,aJZ hw (jj.le.io.trans hw.whole.io) uk,Pz.atomic jk⟩
  cases h
def aNG{o:HP}{fid:Nat}{first ay args:LA}{vf vx vc:List BE}(yo:fU g first vf)(hrx:fU g args vx)(hlc:fU g ay vc){call:Nat->LA->LO->Out}(az:oT P ab call){site:Option Nat} {av:AV} {H':LO} {wr:LN} (h:iN call H site (.fn fid first ay) args=N1 (av,H',wr)) (hw:WF g H w) (hg:bM P ab g) (u9:∀Fn,P.funcs[fid]? = N1 Fn->(Fn.name == "runtime.NumGoroutine")=Po->Fn.body.isNone=Po->(execOp a.eval o).run P w=.ok (.enter fid (vf++vx++vc).toArray) w):aA8 P o a w λv w'=>∃g',Step g H w g' H' w' wr/\ai g' av v:=by
 simp only[iN]at h;split at h
 ·cases h
 rename_i v H2 en hc;have hargs:fU g (first++args++ay) (vf++vx++vc):=(yo.append hrx).append hlc;obtain⟨⟨Fn,Qd,jq,gh⟩,kr⟩:=az.1 fid _ _ v H2 en hc g w _ hw hg hargs;have cl:=u9 Fn Qd jq gh;refine .inr (.inr (.inl ⟨fid,_,w,cl,kr.mono λe w' he=>?_⟩));cases e with
 |panicked c=>exact he
 |outgrown=>exact he
 |returned rv=>
  obtain⟨g2,bn,Pz⟩:=he;split at h
  ·rename_i k rows;obtain⟨b,cap,rfl,xl⟩:=Pz;split at h
   ·rename_i id;split at h
    ·rename_i hid;cases h;obtain⟨g3,hp,hle,U9,uj,gy,hv⟩:=aI2 bn.wf xl hid;refine⟨g3,⟨bn.le.trans hle,U9, ?_,λo ho hn=>?_,by simpa [make]using bn.len,λo l' kg=>?_,λo ho hn=>?_⟩,hv⟩
     ·refine bn.frame.weaken λo ho=>?_;split
      ·exact ho
      exact BZ _ ho
     ·have bl:o≠id:=λe=>by
       subst e;split at hn
       ·rename_i hc;exact hn (by simpa using hc)
       simp at hn
      have ze:o∉en:=λhm=>hn (qE hm);rw[make,getElem?_set_ne' _ _ (Ne.symm bl)];exact bn.same o ho ze
     ·by_cases e:o=id
      ·subst e;rw[gy l' kg];exact .inl xl.ki
      rw[uj o e]at kg;exact bn.mc o l' kg
     have bl:o≠id:=λe=>by
      subst e;split at hn
      ·rename_i hc;exact hn (by simpa using hc)
      simp at hn
     have ze:o∉en:=λhm=>hn (qE hm);rw[uj o bl];exact bn.aq o ho ze
    cases h
   cases h;obtain⟨g3,F1,hv⟩:=aJY bn.wf xl;exact⟨g3,(bn.trans F1).weaken λo ho=>by simpa using ho,hv⟩
  cases h;rename_i tp;have:pN g2 H' w.heap.size w' av rv=ai g2 av rv:=by cases av<;>first | rfl | exact Zw rfl (tp _ _)
  rw[this]at Pz;exact⟨g2,bn,Pz⟩
def aTx{ty:BP}{ts:Array BP}{F:CA}{X:Array CA}{f:aa}{xs:List aa}(hF:fA ab F=N1 f)(hX:sB ab X.toList=N1 xs){call:Nat->LA->LO->Out}(az:oT P ab call){site:Option Nat} {av:AV} {H':LO} {wr:LN} (h:evW call H ρ site (.ee f xs)=N1 (av,H',wr)) (hw:WF g H w) (hg:bM P ab g) (hs:aX g ρ a.tmps):aA8 P ⟨dst,.call { callee:=.value F,args:=X,argTypes:=ts },ty,pos,after,guard⟩ a w λv w'=>∃g',Step g H w g' H' w' wr/\ai g' av v:=by
 have Rm:=aQ hF hg hs;have hrx:=mJ hX hg hs;simp only[evW]at h;generalize yp:f.ev ρ=fv at h Rm;cases fv with
 |fn fid first ay=>
  obtain⟨vf,vc,ef,yo,hlc⟩:=Rm.rm;refine aNG yo hrx hlc az h hw hg λFn Qd jq gh=>?_;have rq:(vf++X.map a.eval++vc)=(vf.toList++X.toList.map a.eval++vc.toList).toArray:=by apply JD;simp
  have hn:¬(Fn.name = "runtime.NumGoroutine"):=by simpa using jq
  have hb:¬(Fn.body=N2):=λe=>by rw[e]at gh;simp at gh
  rw[<- rq];simp[execOp,resolve,ef,JF,invoke,callFunc,Qd,hn,hb]
 |_=>simp[iN]at h
def aTy{ty:BP}{ts:Array BP}{F:CA}{X:Array CA}{f:aa}{xs:List aa}(hF:fA ab F=N1 f)(hX:sB ab X.toList=N1 xs){call:Nat->LA->LO->Out}(az:oT P ab call){site:Option Nat} {av:AV} {H':LO} {wr:LN} (h:evW call H ρ site (.dm f xs)=N1 (av,H',wr)) (hw:WF g H w) (hg:bM P ab g) (hs:aX g ρ a.tmps):aA8 P ⟨dst,.call { callee:=.value F,args:=X,argTypes:=ts },ty,pos,after,guard⟩ a w λv w'=>∃g',Step g H w g' H' w' wr/\ai g' av v:=by
 have Rm:=aQ hF hg hs;have hrx:=mJ hX hg hs;simp only[evW]at h;generalize yp:f.ev ρ=fv at h Rm;cases fv with
 |fn fid first ay=>
  obtain⟨vf,vc,ef,yo,hlc⟩:=Rm.rm;refine aDV yo hrx hlc az h hw hg λFn Qd jq gh=>?_;have rq:(vf++X.map a.eval++vc)=(vf.toList++X.toList.map a.eval++vc.toList).toArray:=by apply JD;simp
  have hn:¬(Fn.name = "runtime.NumGoroutine"):=by simpa using jq
  have hb:¬(Fn.body=N2):=λe=>by rw[e]at gh;simp at gh
  rw[<- rq];simp[execOp,resolve,ef,JF,invoke,callFunc,Qd,hn,hb]
 |yld oy vy=>
  simp only[cX]at h;split at h
  ·cases h
  rename_i args' lent vn;split at h
  ·cases h
  rename_i b H2 en hc;split at h;rotate_left
  ·cases h
  rename_i fj;simp only[AI,NU]at fj;obtain⟨sz,jk⟩:=fj;subst sz;cases h;obtain⟨l1,l2⟩:=pU hw vn hrx;obtain⟨g1,jj,vo⟩:=iR [] g H hw λo ho=>.inl (l1 o ho);have xk:=(l2 g1 vo).strip;generalize je:a.eval F=fx at Rm;cases Rm with
  |yld _ _ ly r hl hv hh=>
   obtain⟨rec,pe,gd,xm⟩:=az.2 oy vy _ _ _ _ _ hc g1 w r _ jj.wf (hg.mono jj.le) ((ai.yld oy vy ly r hl hv hh).mono jj.le) xk;have cl:=run_yield (P:=P) (args:=X.map a.eval) pe (by simpa using gd.symm);have rq:(X.toList.map a.eval).toArray=X.map a.eval:=by apply JD;simp
   refine .inr (.inr (.inr ⟨r,_,_,_,_,w, ?_,xm.mono λe w' he=>?_⟩))
   ·rw[rq];simp[execOp,resolve,je,JF,invoke,cl]
   cases e with
   |panicked c=>exact he
   |outgrown=>exact he
   |returned rv=>obtain⟨g2,uk,Pz⟩:=he;have bn:=jj.trans uk;simp only[CW]at bn;exact⟨g2,bn,Pz⟩
 |_=>simp[cX]at h
def aNH{m:String}{t:BP}{f:FuncId}(hm:aJL P m t=N1 f)(n:Nat)(v:BE):(method (n+1) t v m).run P w=.ok (f,v) w:=by
 unfold aJL at hm;split at hm
 ·rename_i i e hi hu;split at hm
  ·rename_i r hr;split at hm
   ·rename_i hp;split at hm
    ·rename_i f' hf;cases hm;have xn:r.path = #[]:=by simpa using hp
     simp[method,typeInfo,hi,hr,xn,follow,hf,receiverAt,BH hu,Place.get]
    cases hm
   cases hm
  cases hm
 cases hm
def aWD{ty:BP}{ts:Array BP}{F:CA}{m:String}{X:Array CA}{f:aa}{xs:List aa}(hF:fA ab F=N1 f)(hX:sB ab X.toList=N1 xs){call:Nat->LA->LO->Out}(az:oT P ab call){site:Option Nat} {av:AV} {H':LO} {wr:LN} (h:evW call H ρ site (.nb (aIU P m) f xs)=N1 (av,H',wr)) (hw:WF g H w) (hg:bM P ab g) (hs:aX g ρ a.tmps):aA8 P ⟨dst,.call { callee:=.invoke F m,args:=X,argTypes:=ts },ty,pos,after,guard⟩ a w λv w'=>∃g',Step g H w g' H' w' wr/\ai g' av v:=by
 have Rm:=aQ hF hg hs;have hrx:=mJ hX hg hs;simp only[evW]at h;generalize yp:f.ev ρ=fv at h Rm;cases fv with
 |ifc t v=>
  dsimp only at h;split at h
  ·rename_i fid hl;generalize mn:a.eval F=ex at Rm;cases Rm with
   |ifc t v x hv hx=>
    refine aDV (vf:=[x]) (vc:=[]) ⟨rfl,λi c y h1 h2=>?_⟩ hrx ⟨rfl,λi c y h1 h2=>by simp at h1⟩ az h hw hg λFn Qd jq gh=>?_
    ·cases i with
     |zero=>simp at h1 h2;subst h1;subst h2;exact hx
     |succ i=>simp at h1
    have hn:¬(Fn.name = "runtime.NumGoroutine"):=by simpa using jq
    have hb:¬(Fn.body=N2):=λe=>by rw[e]at gh;simp at gh
    have h0:(#[Value.iface t x]++JO a.eval X)[0]? = N1 (.iface t x):=by simp[Array.getElem?_append]
    have rq:(#[x]++(JO a.eval X).extract 0 X.size)=([x]++X.toList.map a.eval++[]).toArray:=by apply JD;simp;exact CH siT
    rw[<- rq];simp[execOp,resolve,invoke,callMethod,mn,h0,callFunc,Qd,hn,hb,Made.depth,aNH (aNy P hl) (P.types.size+99)]
  cases h
 |_=>simp at h
def aIZ{d:Hk}{α:Type}{x:Option α}{y:α}(h:(if (d matches .int _)then N2 else x)=N1 y):(∀k,d≠.int k)/\x=N1 y:=by cases d<;>first | (simp at h;done) | exact⟨λk e=>(by cases e),by simpa using h⟩
def aK0{o:HP}{op:df}(hc:cOp P ab o=N1 op){call:Nat->LA->LO->Out}(az:oT P ab call){site:Option Nat}{av:AV}{H':LO}{wr:LN}(h:evW call H ρ site op=N1 (av,H',wr))(hw:WF g H w)(hg:bM P ab g)(hs:aX g ρ a.tmps):aA8 P o a w λv w'=>∃g',Step g H w g' H' w' wr/\ai g' av v:=by
 obtain⟨dst,o,type,pos,after,guard⟩:=o;unfold cOp at hc;dsimp only at hc;split at hc
 ·obtain⟨x,hx,rfl⟩:=map_some hc;simp[evW]at h
 ·obtain⟨x,hx,rfl⟩:=map_some hc;simp[evW]at h
 ·split at hc
  ·cases hc;simp[evW]at h
  cases hc
 ·split at hc
  ·obtain⟨zs,hz,rfl⟩:=map_some hc;exact aR3 hz h hw
  obtain⟨zs,hz,rfl⟩:=map_some hc;exact aTu hz h hw
 ·split at hc
  ·rename_i n x h1 h2;split at hc
   ·cases hc;exact aZY h2 h hw hg hs
   cases hc;exact aZX h2 h hw hg hs
  cases hc
 ·repeat' split at hc
  all_goals first | (cases hc;done)|(obtain⟨x,hx,rfl⟩:=map_some hc;simp[evW]at h)
 ·split at hc
  ·rename_i e ht;split at hc
   ·rename_i k zs ps h1 h2 h3;split at hc
    ·rename_i fj;cases hc;exact bA1 ht h1 h2 h3 fj.2.1 fj.2.2.1 fj.2.2.2 h hw hg hs
    cases hc
   cases hc
  cases hc
 ·split at hc
  ·cases hc;simp[evW]at h
  cases hc
 ·split at hc
  ·rename_i n x v h1 h2 h3;cases hc;exact aTt h1 h2 h3 h hw hg hs
  cases hc
 ·obtain⟨x,hx,rfl⟩:=map_some hc;simp[evW]at h
 ·split at hc
  ·split at hc
   ·obtain⟨x,hx,rfl⟩:=map_some hc;simp[evW]at h
   ·obtain⟨x,hx,rfl⟩:=map_some hc;simp[evW]at h
   cases hc
  split at hc
  ·cases hc;simp[evW]at h
  cases hc
 ·obtain⟨x,hx,rfl⟩:=map_some hc;simp[evW]at h
 ·split at hc
  ·cases hc;simp[evW]at h
  cases hc
 ·split at hc
  ·cases hc;simp[evW]at h
  cases hc
 ·split at hc
  ·rename_i e ht;split at hc
   ·rename_i i zs l c h1 h2 h3 h4;split at hc
    ·rename_i fj;cases hc;exact aZZ ht h1 h2 h3 h4 fj.2.1 fj.2.2 h hw hg hs
    cases hc
   cases hc
  cases hc
 ·repeat' split at hc
  all_goals first | (cases hc;done)|(cases hc;simp[evW]at h)
 ·repeat' split at hc
  all_goals first | (cases hc;done)|(cases hc;simp[evW]at h)
 ·repeat' split at hc
  all_goals first | (cases hc;done)|(cases hc;simp[evW]at h)
 ·repeat' split at hc
  all_goals first | (cases hc;done)|(cases hc;simp[evW]at h)
 ·repeat' split at hc
  all_goals first | (cases hc;done)|(cases hc;simp[evW]at h)
 ·obtain⟨x,hx,rfl⟩:=map_some hc;simp[evW]at h
 ·split at hc
  ·cases hc
  ·obtain⟨x,hx,rfl⟩:=map_some hc;simp[evW]at h
  cases hc
 ·cases hc;exact aTw h hw
 ·split at hc
  ·rename_i kt et ht;split at hc
   ·rename_i K m k v hk h1 h2 h3;cases hc;exact bA2 ht hk h1 h2 h3 h hw hg hs
   cases hc
  cases hc
 ·repeat' split at hc
  all_goals first | (cases hc;done)|(cases hc;simp[evW]at h)
 ·split at hc
  ·repeat' split at hc
   all_goals first | (cases hc;done)|(cases hc;simp[evW]at h)
  ·rename_i s x t u h1 h2;obtain⟨S,X,rfl,hS,hX⟩:=aJW h1;cases mX h2;split at hc
   ·rename_i e d ht hu;obtain⟨hd,hc⟩:=aIZ hc;split at hc
    ·rename_i i hi;split at hc
     ·rename_i z hz;split at hc
      ·rename_i fj;split at hc
       ·cases hc;exact aWC ht hu hd hi hz hS hX fj.2 h hw hg hs
       cases hc;exact aWB ht hu hd hi hz hS hX fj.2 h hw hg hs
      cases hc
     cases hc
    cases hc
   cases hc
  ·rename_i x y t u h1 h2;obtain⟨X,Y,rfl,hX,hY⟩:=aJW h1;cases mX h2;split at hc
   ·rename_i e ht;split at hc
    ·rename_i k hk;split at hc
     ·cases hc;exact bA0 ht hk hX hY h hw hg hs
     cases hc
    cases hc
   cases hc
  ·cases hc;simp[evW]at h
  ·cases hc;simp[evW]at h
  cases hc
 ·split at hc
  ·rename_i f xs h1 h2;cases hc;exact aWD h1 h2 az h hw hg hs
  cases hc
 ·split at hc
  ·rename_i f xs h1 h2;cases hc;split at h
   ·exact aTx h1 h2 az h hw hg hs
   exact aTy h1 h2 az h hw hg hs
  cases hc
 cases hc
end
section
variable {P:CU}{ab:cu}{g:G}{H:LO}{w w':BL}{ρ:LA}{a:Act}
def aX.put{tmps:Array BE}(h:aX g ρ tmps){v:AV}{x:BE}(hv:ai g v x)(d:Nat):aX g (ρ.set d v) (tmps.setIfInBounds d x):=by
 refine⟨by simpa using h.1,λt=>?_⟩;by_cases e:t=d
 ·subst e;by_cases hlt:t<ρ.length
  ·have:t<tmps.size:=by have:=h.1;omega
   simp only[FB,hlt,Zv,EN,CR];simpa [this]using hv
  have h1:¬(t<tmps.size):=by have:=h.1;omega
  simp only[FB,hlt,Zu];simp;exact .undef _
 have h1:=h.2 t;rw[getElem?_set_ne' _ _ (Ne.symm e)];simpa [CR,Array.getElem?_setIfInBounds_ne (Ne.symm e)]using h1
def aX.bg(h:aX g ρ a.tmps){v:AV}{x:BE}(hv:ai g v x)(d:Option Tmp):aX g (bg ρ d v) (a.put d x).tmps:=by
 cases d with
 |none=>exact h
 |some d=>exact h.put hv d
def aDW(a:Act)(d:Option Tmp)(v:BE):(a.put d v).defers=a.defers:=by cases d<;>rfl
def aX.bool(h:aX g ρ a.tmps){t:Nat}{b:Bool}(hb:ρ[t]? = N1 (.bool b)):a.tmps[t]? = N1 (.bool b):=by
 have hlt:t<ρ.length:=(AH.1 hb).1;have rn:t<a.tmps.size:=by have:=h.1;omega
 have:=h.2 t;rw[hb]at this;simp only[EN]at this;have:=this.jx;simp[CR,rn]at this;simp[rn,this]
def aK1{all:Array HP}{o:HP}{ao:ae}(xg:ao.guard=aFL all.toList o.guard)(h:aX g ρ a.tmps)(hok:pF ρ ao=Pa):OJ o (yielded all a.tmps)=wanted ρ ao:=by
 unfold pF at hok;unfold Go.AM.wanted OJ;rw[xg]at hok ⊢;cases hq:o.guard with
 |none=>simp[aFL]
 |some jw=>
  obtain⟨j,want⟩:=jw;rw[hq]at hok;simp only[aFL]at hok ⊢;cases hd:(all.toList[j]?).bind (·.dst)with
  |none=>rw[hd]at hok;simp at hok
  |some t=>
   rw[hd]at hok;simp only at hok ⊢;have V0:(all[j]?).bind (·.dst)=N1 t:=by rw[<- hd];simp
   cases hb:ρ[t]? with
   |none=>rw[hb]at hok;simp at hok
   |some v=>
    rw[hb]at hok;cases v<;>try (simp at hok;done)
    ·rename_i b;have:=h.bool hb;simp only[yielded,V0,FG,this];cases b<;>cases want<;>rfl
    rename_i vs;cases vs with
    |cons _ _=>simp at hok
    |nil=>
     have hr:=h.2 t;have he:(ρ[t]?).getD .undef=.tup []:=by rw[hb];rfl
     rw[he]at hr;obtain⟨xs,hx,hl⟩:=ai.np hr;have gd:xs = #[]:=by have:=hl.1;apply Array.eq_empty_of_size_eq_zero;simpa using this.symm
     subst gd;simp only[yielded,V0,FG];rw[CR]at hx;cases hq:a.tmps[t]? with
     |none=>rfl
     |some y=>rw[hq]at hx;have C9:y=.tuple #[]:=hx;subst C9;rfl
structure vr(P:CU)(ab:cu)(all:Array HP)(o:HP)(ao:ae):Prop where
 dst:ao.dst=o.dst
 op:ao.op=(cOp P ab o).getD .bad
 guard:ao.guard=aFL all.toList o.guard
def cE(base:Nat):∀(l wr:LN),(∀o∈wr,o∈bE base wr l)/\∀o∈l,o<base->o∈bE base wr l
 | [],wr=>⟨λo h=>h,λo h=>by simp at h⟩
 |x::l,wr=>by
  unfold bE;split
  ·obtain⟨h1,h2⟩:=cE base l (x::wr);refine⟨λo h=>h1 o (BZ _ h),λo h hb=>?_⟩;rcases BD.1 h with rfl | h
   ·exact h1 o siT
   exact h2 o h hb
  rename_i hc;obtain⟨h1,h2⟩:=cE base l wr;refine⟨h1,λo h hb=>?_⟩;rcases BD.1 h with rfl | h
  ·simp only[not_and,Decidable.not_not,EH]at hc;exact h1 o (hc hb)
  exact h2 o h hb
def aNI{all:Array HP}{o:HP}{ao:ae}(hc:vr P ab all o ao){call:Nat->LA->LO->Out}(az:oT P ab call){c:Ctx}{av:AV}{H':LO}{wr:LN} (h:aOI call c Po H ρ ao=N1 (av,H',wr)) (hw:WF g H w) (hg:bM P ab g) (hs:aX g ρ a.tmps):aA8 P o a w λv w'=>∃g',Step g H w g' H' w' wr/\ai g' av v:=by
 unfold aOI at h;have Qx:∀op,ao.op=op->op≠.bad->cOp P ab o=N1 op:=λop e hb=>by
  rw[hc.op]at e;cases hq:cOp P ab o with
  |none=>rw[hq]at e;exact Zw e.symm hb
  |some op'=>rw[hq]at e;simp at e;rw[e]
 by_cases F2:ao.op=.bad
 ·rw[F2]at h;simp[isW,evR]at h
 have Ht:=Qx _ rfl F2;split at h
 ·exact aK0 Ht az h hw hg hs
 split at h
 ·rename_i v hv;cases h;exact (aJX Ht hv hw hg hs).Te
 cases h
def aA9(P:CU)(ab:cu)(base:Nat)(g:G)(H:LO)(w:BL)(d:List HU)(s':gp)(a':Act)(w':BL):Prop:=
 ∃g' W,Step g H w g' s'.H w' W/\(∀o∈W,o<base->o∈s'.wr)/\aX g' s'.ρ a'.tmps/\a'.defers=d/\bM P ab g'
def aA9.refl{base:Nat}{s:gp}(hw:WF g s.H w)(hs:aX g s.ρ a.tmps)(hg:bM P ab g):aA9 P ab base g s.H w a.defers s a w:=⟨g,[],.refl hw,λo h=>by simp at h,hs,rfl,hg⟩
def aJ0{call:Nat->LA->LO->Out}{c:Ctx}:∀(l:List ae) (s s':gp),jL call c l s=N1 s'->∀o∈s.wr,o∈s'.wr
 | [],s,s',h=>by simp only[jL,AG]at h;subst h;exact λo h=>h
 |o::l,s,s',h=>by
  unfold jL at h;split at h
  ·split at h
   ·split at h
    ·exact λx hx=>aJ0 l _ s' h x ((cE _ _ _).1 x hx)
    cases h
   exact λx hx=>aJ0 l _ s' h x hx
  cases h
def aCa{all:Array HP}{call:Nat->LA->LO->Out}(az:oT P ab call){c:Ctx}{Q:Exit->Act->BL->Prop}{r:Option Nat}:∀(l:List HP) (al:List ae),l.length=al.length->(∀(i:Nat) o ao,l[i]? = N1 o->al[i]? = N1 ao->vr P ab all o ao)->∀(s s':gp),jL call c al s=N1 s' ->∀(g:G) (a:Act) (w:BL),WF g s.H w->bM P ab g->aX g s.ρ a.tmps->(∀a' w',aA9 P ab c.base g s.H w a.defers s' a' w'->Q .normal a' w')->wpListIn (fr r) 0 P all Q l a w
 | [],al,hl,_,s,s',h,g,a,w,hw,hg,hs,hQ=>by
  cases al with
  |nil=>simp only[jL,AG]at h;subst h;exact hQ a w (.refl hw hs hg)
  |cons _ _=>simp at hl
 |o::l,al,hl,hc,s,s',h,g,a,w,hw,hg,hs,hQ=>by
  cases al with
  |nil=>simp at hl
  |cons ao al=>
   have jg:=hc 0 o ao rfl rfl;have mz:∀(i:Nat) o ao,l[i]? = N1 o->al[i]? = N1 ao->vr P ab all o ao:=λi o ao h1 h2=>hc (i+1) o ao (by simpa using h1) (by simpa using h2);unfold jL at h;split at h
   ·rename_i hok;have F3:=aK1 jg.guard hs hok;unfold wpListIn;split at h
    ·rename_i Eb;rw[F3,Zy Eb];split at h
     ·rename_i v H' wr je;refine (aNI jg az je hw hg hs).wp λx w1 ⟨g1,bn,hv⟩=>?_;have lq:aX g1 (bg s.ρ ao.dst v) (a.put o.dst x).tmps:=by rw[jg.dst];exact (hs.mono bn.le).bg hv o.dst
      refine aCa az l al (by simpa using hl) mz _ s' h g1 _ w1 bn.wf (hg.mono bn.le) lq λa' w' hr=>hQ a' w' ?_;obtain⟨g2,W,h1,h2,h3,h4,h5⟩:=hr;refine⟨g2,wr++W,bn.trans h1,λo' ho hb=>?_,h3,by rw[h4,aDW],h5⟩;rcases AY.1 ho with ho | ho
      ·exact aJ0 al _ s' h o' ((cE _ _ _).2 o' ho hb)
      exact h2 o' ho hb
     cases h
    rename_i Eb;rw[F3,Zx Eb];refine⟨λ_ _=>trivial, ?_⟩;have lq:aX g (bg s.ρ ao.dst (.tup [])) (a.put o.dst EE).tmps:=by rw[jg.dst];exact hs.bg (.skip g) o.dst
    refine aCa az l al (by simpa using hl) mz _ s' h g _ w hw hg lq λa' w' hr=>hQ a' w' ?_;obtain⟨g2,W,h1,h2,h3,h4,h5⟩:=hr;exact⟨g2,W,h1,h2,h3,by rw[h4,aDW],h5⟩
   cases h
def aCU(all:Array HP):∀(l:List HP) (pres:List LN),(aDQ P ab all.toList l pres).length=l.length /\ ∀(i:Nat) o ao,l[i]? = N1 o->(aDQ P ab all.toList l pres)[i]? = N1 ao->vr P ab all o ao
 | [],pres=>⟨rfl,λi o ao h=>by simp at h⟩
 |o::l,pres=>by
  obtain⟨h1,h2⟩:=aCU all l (pres++[aJM pres o]);refine⟨by simp[aDQ,h1],λi o' ao e1 e2=>?_⟩;cases i with
  |zero=>simp[aDQ]at e1 e2;subst e1;subst e2;exact⟨rfl,rfl,rfl⟩
  |succ i=>exact h2 i o' ao (by simpa using e1) (by simpa [aDQ]using e2)
def aFW{call:Nat->LA->LO->Out}{c:Ctx}:∀{l:List ae} {s:gp},jL call c (aTn Po l) s=jL call c l s
 | [],s=>rfl
 |o::r,s=>by
  have ih:∀s,jL call c (r.map λo=>⟨o.dst,o.op,o.guard,[]⟩) s=jL call c r s:=λs=>aFW (l:=r);show jL call c (⟨o.dst,o.op,o.guard,[]⟩::r.map λo=>⟨o.dst,o.op,o.guard,[]⟩) s=_;unfold jL;simp only[ih];rfl
def aK2{id:Nat}{ops:Array HP}{call:Nat->LA->LO->Out}(az:oT P ab call){c:Ctx}{s s':gp} (h:jL call c (aDQ P ab ops.toList ops.toList []) s=N1 s') {Q:Exit->Act->BL->Prop} (hw:WF g s.H w) (hg:bM P ab g) (hs:aX g s.ρ a.tmps) (hQ:∀a' w',aA9 P ab c.base g s.H w a.defers s' a' w'->Q .normal a' w') {r:Option Nat}:(PJ id ops Po).wpIn (fr r) 0 P Q a w:=by obtain⟨h1,h2⟩:=aCU (P:=P) (ab:=ab) ops ops.toList [];exact wpIn_region_list (aCa az ops.toList _ h1.symm h2 s s' h g a w hw hg hs hQ)
end
def aa.te{ρ ρ':LA}{x:aa}(h:∀t∈x.slot,ρ[t]? = ρ'[t]?):x.ev ρ=x.ev ρ':=by
 cases x with
 |tmp t=>simp only[aa.ev,h t (by simp[aa.slot])]
 |const v=>rfl
def aCV{ρ ρ':LA}{xs:List aa}(h:∀t∈xs.flatMap aa.slot,ρ[t]? = ρ'[t]?):xs.map (aa.ev ρ)=xs.map (aa.ev ρ'):=
 List.map_congr_left λx hx=>aa.te λt ht=>h t (IM.2 ⟨x,hx,ht⟩)
def aEJ{ρ ρ':LA}{x:Option aa}(h:∀t∈aFI x,ρ[t]? = ρ'[t]?):x.map (aa.ev ρ)=x.map (aa.ev ρ'):=by
 cases x with
 |none=>rfl
 |some x=>simp only[DE];rw[aa.te h]
def zB{ρ ρ':LA}:∀(ps:List (Nat×Nat×aa)) (cs:LA),(∀t∈ps.flatMap (λp=>p.2.2.slot),ρ[t]? = ρ'[t]?)->iA ρ cs ps=iA ρ' cs ps
 | [],cs,_=>rfl
 | (o,s,x)::ps,cs,h=>by
  have hx:x.ev ρ=x.ev ρ':=aa.te λt ht=>h t (by simp[ht]);simp only[iA,hx];split
  ·exact zB ps _ λt ht=>h t (by simp only[HW,AY];exact .inr ht)
  rfl
def aAa{ρ ρ':LA}{k:Nat}:∀(ps:List (Nat×aa)) (rows:List LA),(∀t∈ps.flatMap (λp=>p.2.slot),ρ[t]? = ρ'[t]?)->lW ρ k rows ps=lW ρ' k rows ps
 | [],rows,_=>rfl
 | (i,x)::ps,rows,h=>by
  have hx:x.ev ρ=x.ev ρ':=aa.te λt ht=>h t (by simp[ht]);simp only[lW,hx];split
  ·exact aAa ps _ λt ht=>h t (by simp only[HW,AY];exact .inr ht)
  rfl
def zC{ρ ρ':LA}{k:Nat}:∀(ps:List (Nat×aa)) (rows:List LA),(∀t∈ps.flatMap (λp=>p.2.slot),ρ[t]? = ρ'[t]?)->jW ρ k rows ps=jW ρ' k rows ps
 | [],rows,_=>rfl
 | (i,x)::ps,rows,h=>by
  have hx:x.ev ρ=x.ev ρ':=aa.te λt ht=>h t (by simp[ht]);simp only[jW,hx];split
  ·exact zC ps _ λt ht=>h t (by simp only[HW,AY];exact .inr ht)
  rfl
def aCW{ρ ρ':LA}{k:Nat}:∀(ps:List (Nat×aa)) (H:LO) (rows:List LA),(∀t∈ps.flatMap (λp=>p.2.slot),ρ[t]? = ρ'[t]?)->nW ρ k H rows ps=nW ρ' k H rows ps
 | [],H,rows,_=>rfl
 | (i,x)::ps,H,rows,h=>by
  have hx:x.ev ρ=x.ev ρ':=aa.te λt ht=>h t (by simp[ht]);simp only[nW,hx];split
  ·split
   ·rw[aCW ps _ _ λt ht=>h t (by simp only[HW,AY];exact .inr ht)]
   rfl
  rfl
def aOT{ρ ρ':LA}{H:LO}{op:df}(h:∀t∈op.bm,ρ[t]? = ρ'[t]?):evR H ρ op=evR H ρ' op:=by
 have e1:∀{x:aa},(∀t∈x.slot,t∈op.bm)->x.ev ρ=x.ev ρ':=λhx=>aa.te λt ht=>h t (hx t ht);have e2:∀{x:Option aa},(∀t∈aFI x,t∈op.bm)->x.map (aa.ev ρ)=x.map (aa.ev ρ'):=λhx=>aEJ λt ht=>h t (hx t ht);have e3:∀{xs:List aa},(∀t∈xs.flatMap aa.slot,t∈op.bm)->xs.map (aa.ev ρ)=xs.map (aa.ev ρ'):=λhx=>aCV λt ht=>h t (hx t ht);cases op with
 |bad=>rfl
 |mov x=>simp only[evR];rw[e1 λt ht=>ht]
 |pick c a b=>simp only[evR];rw[e1 (x:=c) λt ht=>by simp[df.bm,ht],e1 (x:=a) λt ht=>by simp[df.bm,ht],e1 (x:=b) λt ht=>by simp[df.bm,ht]]
 |alloc zs=>rfl
 |gv t zs=>rfl
 |box k x=>simp only[evR];rw[e1 λt ht=>ht]
 |build zs ps=>simp only[evR];rw[zB ps zs h]
 |bsl k zs n ps=>simp only[evR];rw[aAa ps _ h]
 |load k agg x=>simp only[evR];rw[e1 λt ht=>ht]
 |store k x v=>rfl
 |cz x=>simp only[evR];rw[e1 λt ht=>ht]
 |ky neg x=>simp only[evR];rw[e1 λt ht=>ht]
 |bin o ek x y=>simp only[evR];rw[e1 (x:=x) λt ht=>by simp[df.bm,ht],e1 (x:=y) λt ht=>by simp[df.bm,ht]]
 |un o x=>simp only[evR];rw[e1 λt ht=>ht]
 |conv c x=>simp only[evR];rw[e1 λt ht=>ht]
 |mkf f a b=>
  have ha:=e3 (xs:=a) λt ht=>by simp only[df.bm,AY];exact .inl ht
  have hb:=e3 (xs:=b) λt ht=>by simp only[df.bm,AY];exact .inr ht
  have Y3:a.map (λx=>(x.ev ρ).aj)=a.map (λx=>(x.ev ρ').aj):=by have:=congrArg (DR AV.aj) ha;simpa [PA,MG]using this
  have du:b.map (λx=>(x.ev ρ).aj)=b.map (λx=>(x.ev ρ').aj):=by have:=congrArg (DR AV.aj) hb;simpa [PA,MG]using this
  simp only[evR];rw[ha,hb,Y3,du]
 |mks k b zs l c=>simp only[evR];rw[e1 (x:=l) λt ht=>by simp[df.bm,ht],e1 (x:=c) λt ht=>by simp[df.bm,ht]]
 |fm x lo hi=>simp only[evR];rw[e1 (x:=x) λt ht=>by simp[df.bm,ht],e2 (x:=lo) λt ht=>by simp[df.bm,ht],e2 (x:=hi) λt ht=>by simp[df.bm,ht]]
 |gw k x lo hi mx=>simp only[evR];rw[e1 (x:=x) λt ht=>by simp[df.bm,ht],e2 (x:=lo) λt ht=>by simp[df.bm,ht],e2 (x:=hi) λt ht=>by simp[df.bm,ht],e2 (x:=mx) λt ht=>by simp[df.bm,ht]]
 |view k x lo=>simp only[evR];rw[e1 (x:=x) λt ht=>by simp[df.bm,ht],aEJ (x:=lo) λt ht=>h t (by simp[df.bm,ht])]
 |na n k x lo hi mx=>simp only[evR];rw[e1 (x:=x) λt ht=>by simp[df.bm,ht],e2 (x:=lo) λt ht=>by simp[df.bm,ht],e2 (x:=hi) λt ht=>by simp[df.bm,ht],e2 (x:=mx) λt ht=>by simp[df.bm,ht]]
 |fa o x=>simp only[evR];rw[e1 λt ht=>ht]
 |fld o k agg x=>simp only[evR];rw[e1 λt ht=>ht]
 |iaV x i k=>simp only[evR];rw[e1 (x:=x) λt ht=>by simp[df.bm,ht],e1 (x:=i) λt ht=>by simp[df.bm,ht]]
 |iaA n k x i=>simp only[evR];rw[e1 (x:=x) λt ht=>by simp[df.bm,ht],e1 (x:=i) λt ht=>by simp[df.bm,ht]]
 |ixS x i=>simp only[evR];rw[e1 (x:=x) λt ht=>by simp[df.bm,ht],e1 (x:=i) λt ht=>by simp[df.bm,ht]]
 |ixA n k agg x i=>simp only[evR];rw[e1 (x:=x) λt ht=>by simp[df.bm,ht],e1 (x:=i) λt ht=>by simp[df.bm,ht]]
 |fg x=>simp only[evR];rw[e1 λt ht=>ht]
 |qk x=>simp only[evR];rw[e1 λt ht=>ht]
 |zb n=>rfl
 |mm mx xs=>simp only[evR];rw[e3 λt ht=>ht]
 |app k b s x=>rfl
 |ext i x=>simp only[evR];rw[e1 λt ht=>ht]
 |km i x=>simp only[evR];rw[e1 λt ht=>ht]
 |dm f xs=>rfl
 |ee f xs=>rfl
 |ni t k b s x=>rfl
 |tbx t k x=>rfl
 |cpy k x y=>rfl
 |nb t f xs=>rfl
 |jn=>rfl
 |ins m k v=>rfl
 |look z m k ok=>simp only[evR];rw[e1 (x:=m) λt ht=>by simp[df.bm,ht],e1 (x:=k) λt ht=>by simp[df.bm,ht]]
def aOU{call:Nat->LA->LO->Out}{ρ ρ':LA}{H:LO}{site:Option Nat}{op:df}(h:∀t∈op.bm,ρ[t]? = ρ'[t]?):evW call H ρ site op=evW call H ρ' site op:=by
 have e1:∀{x:aa},(∀t∈x.slot,t∈op.bm)->x.ev ρ=x.ev ρ':=λhx=>aa.te λt ht=>h t (hx t ht);have e3:∀{xs:List aa},(∀t∈xs.flatMap aa.slot,t∈op.bm)->xs.map (aa.ev ρ)=xs.map (aa.ev ρ'):=λhx=>aCV λt ht=>h t (hx t ht);cases op with
 |box k x=>simp only[evW];rw[e1 λt ht=>ht]
 |tbx t k x=>simp only[evW];rw[e1 λt ht=>ht]
 |bsl k zs n ps=>simp only[evW];rw[aCW ps _ _ h,zC ps _ h]
 |store k x v=>simp only[evW];rw[e1 (x:=x) λt ht=>by simp[df.bm,ht],e1 (x:=v) λt ht=>by simp[df.bm,ht]]
 |mks k b zs l c=>simp only[evW];rw[e1 (x:=l) λt ht=>by simp[df.bm,ht],e1 (x:=c) λt ht=>by simp[df.bm,ht]]
 |cpy k x y=>simp only[evW];rw[e1 (x:=x) λt ht=>by simp[df.bm,ht],e1 (x:=y) λt ht=>by simp[df.bm,ht]]
 |ni t k b s x=>simp only[evW];rw[e1 (x:=s) λt ht=>by simp[df.bm,ht],e1 (x:=x) λt ht=>by simp[df.bm,ht]]
 |app k b s x=>simp only[evW];rw[e1 (x:=s) λt ht=>by simp[df.bm,ht],e1 (x:=x) λt ht=>by simp[df.bm,ht]]
 |dm f xs=>simp only[evW];rw[e1 (x:=f) λt ht=>by simp[df.bm,ht],e3 (xs:=xs) λt ht=>by simp only[df.bm,AY];exact .inr ht]
 |ee f xs=>simp only[evW];rw[e1 (x:=f) λt ht=>by simp[df.bm,ht],e3 (xs:=xs) λt ht=>by simp only[df.bm,AY];exact .inr ht]
 |nb tb f xs=>simp only[evW];rw[e1 (x:=f) λt ht=>by simp[df.bm,ht],e3 (xs:=xs) λt ht=>by simp only[df.bm,AY];exact .inr ht]
 |ins m k v=>simp only[evW];rw[e1 (x:=m) λt ht=>by simp[df.bm,ht],e1 (x:=k) λt ht=>by simp[df.bm,ht],e1 (x:=v) λt ht=>by simp[df.bm,ht]]
 |_=>rfl
def aNJ{ρ ρ':LA}{op:df}(h:∀t∈op.bm,ρ[t]? = ρ'[t]?):aIR ρ op=aIR ρ' op:=by
 cases op with
 |load k agg x=>simp only[aIR];rw[aa.te h]
 |conv c x=>cases c<;>simp only[aIR];rw[aa.te h]
 |look z m k ok=>simp only[aIR];rw[aa.te λt ht=>h t (by simp[df.bm,ht])]
 |view k x lo=>simp only[aIR];rw[aa.te λt ht=>h t (by simp[df.bm,ht])]
 |_=>rfl
def aK3{ρ ρ':LA}{o:ae}(h:∀t∈o.names,ρ[t]? = ρ'[t]?):wanted ρ o=wanted ρ' o/\pF ρ o=pF ρ' o:=by
 unfold wanted pF;cases hg:o.guard with
 |none=>exact⟨rfl,rfl⟩
 |some tw=>
  obtain⟨t,want⟩:=tw;cases t with
  |none=>exact⟨rfl,rfl⟩
  |some t=>have:ρ[t]? = ρ'[t]? := h t (by simp[ae.names,hg]);simp only[this,and_self]
def AV.F4:AV->LN
 |.ptr o _ _=>[o]
 |.vp o _ _ _ _ _=>[o]
 |_=>[]
def aOV(ρ:LA)(k:Nat)(agg:Bool)(x:aa):aIR ρ (.load k agg x)=(x.ev ρ).F4:=by simp only[aIR];cases x.ev ρ<;>rfl
def aHu{H H':LO}{k:Nat}{v:AV}(h:∀o∈v.F4,H[o]? = H'[o]?):bC H k v=bC H' k v:=by
 cases v<;>simp only[bC]
 ·rw[h _ (by simp[AV.F4])]
 rw[h _ (by simp[AV.F4])]
def aR4{ρ:LA}{H H':LO}{op:df}(h:∀o∈aIR ρ op,H[o]? = H'[o]?):evR H ρ op=evR H' ρ op:=by
 cases op with
 |load k agg x=>simp only[evR];rw[aHu λo ho=>h o (by rw[aOV];exact ho)]
 |conv c x=>
  simp only[evR];cases c with
  |b2s=>
   have:dO H (x.ev ρ)=dO H' (x.ev ρ):=by
    have h':∀o v n,x.ev ρ=.sr o v n->H[o]? = H'[o]? := λo v n e=>h o (by simp[aIR,e]);have zc:∀o v n k lo,x.ev ρ=.srv o v n k lo->H[o]? = H'[o]? := λo v n k lo e=>h o (by simp[aIR,e]);have D9:∀o v n k,x.ev ρ=.srw o v n k->H[o]? = H'[o]? := λo v n k e=>h o (by simp[aIR,e]);revert h' zc D9;cases x.ev ρ<;>intro h' zc D9<;>simp only[dO]
    ·rw[h' _ _ _ rfl]
    ·rw[zc _ _ _ _ _ rfl]
    rw[D9 _ _ _ _ rfl]
   cases hx:x.ev ρ<;>rw[hx]at this<;>simp only[pT,this]
  |_=>cases x.ev ρ<;>rfl
 |look z m k ok=>
  simp only[evR];have h':∀o v,m.ev ρ=.mp o v->H[o]? = H'[o]? := λo v e=>h o (by simp[aIR,e]);revert h';cases m.ev ρ<;>intro h'<;>simp only
  rw[h' _ _ rfl]
 |view k x lo=>
  simp only[evR];have h':∀o v n,x.ev ρ=.sr o v n->H[o]? = H'[o]? := λo v n e=>h o (by simp[aIR,e]);revert h';cases x.ev ρ<;>intro h'<;>simp only
  rw[h' _ _ _ rfl]
 |_=>rfl
def Fr(H H':LO)(wr:LN):Prop:=H.length<=H'.length/\∀o,o<H.length->o∉wr->H'[o]? = H[o]?
def Fr.refl(H:LO)(wr:LN):Fr H H wr:=⟨AQ _,λ_ _ _=>rfl⟩
def Fr.trans{H H1 H2:LO}{a b:LN}(h:Fr H H1 a)(h':Fr H1 H2 b):Fr H H2 (a++b):=⟨HX h.1 h'.1,λo ho hn=>by
  simp only[AY,not_or]at hn;rw[h'.2 o (FU ho h.1) hn.2,h.2 o ho hn.1]⟩
def Fr.weaken{H H':LO}{a b:LN}(h:Fr H H' a)(hs:∀o∈a,o∈b):Fr H H' b:=⟨h.1,λo ho hn=>h.2 o ho λhm=>hn (hs o hm)⟩
def Fr.set(H:LO)(o:Nat)(x:ah):Fr H (H.set o x) [o]:=⟨siT,λo' _ hn=>getElem?_set_ne' _ _ (λe=>hn (by simp[e]))⟩
def aDX:∀(l:LN) (H:LO),Fr H (dL H l) l
 | [],H=>.refl H _
 |o::l,H=>by
  have:=(Fr.set H o (.gone ((H[o]?).elim 0 ah.ver))).trans (aDX l _);exact this
def aFX{H H':LO}{v v':AV}{l:LN}(h:fix H v=N1 (v',H',l)):Fr H H' l:=by
 unfold fix at h;split at h
 ·cases h;exact aDX _ _
 cases h
def aJ1:∀(rows:List LA) {H H':LO} {bt:List LA} {l:LN},aLw H rows=N1 (bt,H',l)->Fr H H' l
 | [],H,H',bt,l,h=>by cases h;exact .refl _ _
 |r::rs,H,H',bt,l,h=>by
  unfold aLw at h;split at h
  ·rename_i r' H1 l1 hf;split at h
   ·rename_i rs' H2 l2 hr;cases h;exact (aFX hf).trans (aJ1 rs hr)
   cases h
  cases h
def aI3{H H':LO}{v v':AV}{l:LN}(h:aA3 H v=N1 (v',H',l)):Fr H H' l:=by
 unfold aA3 at h;split at h
 ·split at h
  ·split at h
   ·split at h
    ·rename_i hi;split at h
     ·split at h
      ·rename_i hf;cases h;exact (aJ1 _ hi).trans ((Fr.set _ _ _).trans (aFX hf))
      cases h
     cases h
    cases h
   cases h
  cases h
 exact aFX h
def aNK{H H':LO}{v:AV}{l:LN}(h:pE H v=N1 (H',l)):Fr H H' l:=by
 unfold pE at h;split at h
 ·cases h;exact .refl _ _
 ·split at h
  ·split at h
   ·split at h
    ·rename_i hi;split at h
     ·cases h;exact (aJ1 _ hi).trans (Fr.set _ _ _)
     cases h
    cases h
   cases h
  cases h
 cases h
def aOW{H H':LO}{v v':AV}{l:LN}(h:aMD H v=N1 (v',H',l)):Fr H H' l:=by
 unfold aMD at h;split at h
 ·rename_i hf;cases h;exact aFX hf
 split at h
 ·split at h
  ·rename_i hf;cases h;exact aI3 hf
  cases h
 exact aI3 h
def aI4{ρ:LA}{k:Nat}:∀(ps:List (Nat×aa)) (H:LO) (rows out:List LA) (H':LO) (l:LN),nW ρ k H rows ps=N1 (out,H',l)->Fr H H' l
 | [],H,rows,out,H',l,h=>by simp only[nW,AG,BK]at h;obtain⟨_,rfl,rfl⟩:=h;exact .refl _ _
 | (i,x)::ps,H,rows,out,H',l,h=>by
  simp only[nW]at h;split at h
  ·rename_i hf;split at h
   ·split at h
    ·rename_i hr;simp only[AG,BK]at h;obtain⟨_,rfl,rfl⟩:=h;exact (aFX hf).trans (aI4 ps _ _ _ _ _ hr)
    cases h
   cases h
  cases h
def sQ(call:Nat->LA->LO->Out):Prop:=∀f args H v H' wr,call f args H=N1 (v,H',wr)->Fr H H' wr
def aCX{H H':LO}{vs:LA}{p:AV}{wr:LN}(h:storeCells H vs p=N1 (H',wr)):Fr H H' wr:=by
 unfold storeCells at h;split at h
 ·split at h
  ·split at h
   ·cases h;exact Fr.set _ _ _
   cases h
  ·split at h
   ·cases h;exact Fr.set _ _ _
   cases h
  cases h
 ·split at h
  ·split at h
   ·split at h
    ·split at h
     ·cases h;exact Fr.set _ _ _
     cases h
    cases h
   cases h
  cases h
 cases h
def aR5{H H':LO}{site:Option Nat}{k b:Nat}{s x v:AV}{wr:LN}(h:eX H site k b s x=N1 (v,H',wr)):Fr H H' wr:=by
 unfold eX at h;split at h
 ·cases h
 split at h
 ·cases h
 split at h
 ·split at h
  ·cases h;exact .refl _ _
  split at h
  ·split at h
   ·split at h
    ·cases h;exact Fr.set _ _ _
    cases h
   cases h
  cases h
 ·split at h
  ·cases h;exact .refl _ _
  split at h
  ·split at h
   ·split at h
    ·cases h;exact Fr.set _ _ _
    cases h
   cases h
  cases h
 ·split at h
  ·split at h
   ·split at h
    ·cases h;exact .refl _ _
    cases h;exact Fr.set _ _ _
   cases h
  cases h
 ·split at h
  ·split at h
   ·cases h;exact Fr.set _ _ _
   cases h
  cases h
 cases h
def aOX{H H':LO}{site:Option Nat}{ty k b:Nat}{s x v:AV}{wr:LN}(h:vB H site ty k b s x=N1 (v,H',wr)):Fr H H' wr:=by
 unfold vB at h;split at h
 ·cases h
 split at h
 ·cases h
 split at h
 ·split at h
  ·cases h;exact .refl _ _
  split at h
  ·split at h
   ·split at h
    ·cases h;exact Fr.set _ _ _
    cases h
   cases h
  cases h
 ·split at h
  ·split at h
   ·split at h
    ·cases h;exact .refl _ _
    cases h;exact Fr.set _ _ _
   cases h
  cases h
 cases h
def aI5{call:Nat->LA->LO->Out}(hc:sQ call){H H':LO}{site:Option Nat}{f v:AV}{args:LA}{wr:LN}(h:cX call H site f args=N1 (v,H',wr)):Fr H H' wr:=by
 unfold cX at h;split at h
 ·split at h
  ·cases h
  rename_i args' lent hl;split at h
  ·cases h
  rename_i v1 H1 dc az;have h1:=hc _ _ _ _ _ _ az;split at h
  ·rename_i he;have:lent=[]:=by simpa using he
   subst this;have h2:Fr H H1 dc:=h1;split at h
   ·split at h
    ·split at h
     ·cases h;refine (h2.trans (Fr.set _ _ _)).weaken λo ho=>?_;rcases AY.1 ho with ho | ho
      ·exact qE ho
      simp only[CG]at ho;subst ho;split
      ·rename_i F5;simpa using F5
      simp
     cases h
    cases h;exact h2
   cases h;exact h2
  split at h
  ·cases h;exact .refl _ _
  cases h
 ·split at h
  ·cases h
  rename_i args' lent hl;split at h
  ·cases h
  rename_i v1 H1 dc az;have h1:=hc _ _ _ _ _ _ az;split at h
  ·rename_i he;simp only[AI,NU]at he;have:lent=[]:=he.1;subst this;cases h;exact h1
  cases h
 cases h
def aNL{call:Nat->LA->LO->Out}(hc:sQ call){H H':LO}{site:Option Nat}{f v:AV}{args:LA}{wr:LN}(h:iN call H site f args=N1 (v,H',wr)):Fr H H' wr:=by
 unfold iN at h;split at h
 ·split at h
  ·cases h
  rename_i v1 H1 dc az;have h2:=hc _ _ _ _ _ _ az;split at h
  ·split at h
   ·split at h
    ·cases h;refine (h2.trans (Fr.set _ _ _)).weaken λo ho=>?_;rcases AY.1 ho with ho | ho
     ·exact qE ho
     simp only[CG]at ho;subst ho;split
     ·rename_i F5;simpa using F5
     simp
    cases h
   cases h;exact h2
  cases h;exact h2
 cases h
def aSL{call:Nat->LA->LO->Out}(hc:sQ call){H H':LO}{ρ:LA}{site:Option Nat}{op:df}{v:AV}{wr:LN}(h:evW call H ρ site op=N1 (v,H',wr)):Fr H H' wr:=by
 unfold evW at h;split at h
 ·split at h
  ·split at h
   ·cases h;exact Fr.set _ _ _
   cases h
  cases h
 ·split at h
  ·split at h
   ·cases h;exact Fr.set _ _ _
   cases h
  cases h
 ·split at h
  ·split at h
   ·cases h;exact Fr.set _ _ _
   cases h
  cases h
 ·split at h
  ·split at h
   ·cases h;exact Fr.set _ _ _
   cases h
  cases h
 ·split at h
  ·split at h
   ·rename_i hs;cases h;exact aCX hs
   cases h
  cases h
 ·split at h
  ·split at h
   ·split at h
    ·cases h;exact Fr.set _ _ _
    cases h
   cases h
  split at h
  ·rename_i hf;cases h;exact aI4 _ _ _ _ _ _ hf
  cases h
 ·split at h
  ·split at h
   ·split at h
    ·split at h
     ·cases h;exact Fr.set _ _ _
     cases h
    cases h;exact .refl _ _
   split at h
   ·split at h
    ·cases h;exact Fr.set _ _ _
    cases h
   cases h
  cases h
 ·exact aR5 h
 ·exact aOX h
 ·exact aI5 hc h
 ·exact aNL hc h
 ·split at h
  ·split at h
   ·exact aI5 hc h
   cases h
  cases h
 ·split at h
  ·split at h
   ·split at h
    ·split at h
     ·cases h;exact .refl _ _
     split at h
     ·cases h;exact Fr.set _ _ _
     cases h
    cases h
   cases h
  cases h
 ·split at h
  ·split at h
   ·cases h;exact Fr.set _ _ _
   cases h
  cases h
 ·split at h
  ·split at h
   ·split at h
    ·split at h
     ·cases h;exact Fr.set _ _ _
     ·cases h;exact Fr.set _ _ _
     cases h
    cases h
   cases h
  cases h
 cases h
def aTz{call:Nat->LA->LO->Out}(hc:sQ call){c:Ctx}{d:Bool}{H H':LO}{ρ:LA}{o:ae}{v:AV}{wr:LN}(h:aOI call c d H ρ o=N1 (v,H',wr)):Fr H H' wr:=by
 unfold aOI at h;split at h
 ·exact aSL hc h
 split at h
 ·cases h;exact .refl _ _
 cases h
def aJ2{call:Nat->LA->LO->Out}(hc:sQ call){c:Ctx}{H H':LO}{ρ:LA}{o:ae}{v:AV}{rd:LN}{wr:Option LN}(h:aFJ call c H ρ o=N1 (v,H',rd,wr)):Fr H H' (wr.getD [])/\(wr=N2->H'=H)/\H'.length=H.length:=by
 unfold aFJ at h;split at h
 ·cases h;exact⟨.refl _ _,λ_=>rfl,rfl⟩
 split at h
 ·split at h
  ·rename_i hw;split at h
   ·rename_i ax;cases h;exact⟨aSL hc hw,λe=>(by cases e),ax⟩
   cases h
  cases h
 split at h
 ·cases h;exact⟨.refl _ _,λ_=>rfl,rfl⟩
 cases h
def FrB(base:Nat)(s s':gp):Prop:=s.H.length<=s'.H.length/\(∀o∈s.wr,o∈s'.wr)/\∀o,o<s.H.length->o<base->o∉s'.wr->s'.H[o]? = s.H[o]?
def FrB.refl(base:Nat)(s:gp):FrB base s s:=⟨AQ _,λ_ h=>h,λ_ _ _ _=>rfl⟩
def FrB.trans{base:Nat}{s s1 s2:gp}(h:FrB base s s1)(h':FrB base s1 s2):FrB base s s2:=⟨HX h.1 h'.1,λo ho=>h'.2.1 o (h.2.1 o ho),λo ho hb hn=>by
  rw[h'.2.2 o (FU ho h.1) hb hn,h.2.2 o ho hb λhm=>hn (h'.2.1 o hm)]⟩
def FrB.of{base:Nat}{s:gp}{H':LO}{ρ:LA}{wr:LN}(h:Fr s.H H' wr):FrB base s ⟨ρ,H',bE base s.wr wr⟩:=⟨h.1,(cE base wr s.wr).1,λo ho hb hn=>h.2 o ho λhm=>hn ((cE base wr s.wr).2 o hm hb)⟩
def aJ3{call:Nat->LA->LO->Out}(hc:sQ call){c:Ctx}:∀(l:List ae) (s s':gp),jL call c l s=N1 s'->FrB c.base s s'
 | [],s,s',h=>by simp only[jL,AG]at h;subst h;exact .refl _ _
 |o::l,s,s',h=>by
  unfold jL at h;split at h
  ·split at h
   ·split at h
    ·rename_i je;exact (FrB.of (aTz hc je)).trans (aJ3 hc l _ s' h)
    cases h
   have:=aJ3 hc l _ s' h;exact this
  cases h
def aFY{call:Nat->LA->LO->Out}(hc:sQ call){c:Ctx}:∀(l:List ae) (i:Nat) (s s':gp) (log:Log),nT call c i l s=N1 (s',log)->FrB c.base s s'
 | [],i,s,s',log,h=>by simp only[nT,AG,BK]at h;obtain⟨rfl,_⟩:=h;exact .refl _ _
 |o::l,i,s,s',log,h=>by
  unfold nT at h;split at h
  ·split at h
   ·split at h
    ·rename_i je;split at h
     ·rename_i mz;cases h;exact (FrB.of (aJ2 hc je).1).trans (aFY hc l _ _ _ _ mz)
     cases h
    cases h
   have:=aFY hc l _ _ s' log h;exact this
  cases h
def aLB{c:Ctx}{d:Option Nat}{id:Nat}(h:c.site d=N1 id):c.base<=id:=by
 unfold Ctx.site at h;split at h
 ·cases h
 obtain⟨i,_,rfl⟩:=map_some h;omega
def wW{c:Ctx}:∀(l:List ae) (H H':LO),cS c H l=N1 H'->H.length=H'.length/\∀o,o<c.base->H'[o]? = H[o]?
 | [],H,H',h=>by simp only[cS,AG]at h;subst h;exact⟨rfl,λ_ _=>rfl⟩
 |o::l,H,H',h=>by
  unfold cS at h;split at h
  ·rename_i id hid;split at h
   ·obtain⟨h1,h2⟩:=wW l _ H' h;refine⟨by rw[<- h1];simp[make],λo' z7=>?_⟩;rw[h2 o' z7,make,getElem?_set_ne' _ _ (by have:=aLB hid;omega)]
   cases h
  exact wW l H H' h
def aLC{call:Nat->LA->LO->Out}(hc:sQ call){c:Ctx}{d:Bool}{l:List ae}{s s':gp}(h:iO call c d l s=N1 s'):FrB c.base s s':=by
 unfold iO at h;split at h
 ·split at h
  ·rename_i H0 hp;split at h
   ·rename_i s1 log je;split at h
    ·cases h;obtain⟨h1,h2⟩:=wW _ _ _ hp;have h3:=aFY hc _ _ _ _ _ je;refine⟨?_,h3.2.1,λo ho hb hn=>?_⟩
     ·rw[h1];exact h3.1
     have:=h3.2.2 o (by rw[<- h1];exact ho) hb hn;rw[this];exact h2 o hb
    cases h
   cases h
  cases h
 split at h
 ·cases h
 exact aJ3 hc l s s' h
def sR{c:Ctx}:∀(ts:List (Nat×Nat)) (s s':gp),nX c s ts=N1 s'->FrB c.base s s'
 | [],s,s',h=>by simp only[nX,AG]at h;subst h;exact .refl _ _
 | (0,t)::ts,s,s',h=>by
  unfold nX at h;split at h
  ·rename_i hf;exact (FrB.of (aOW hf)).trans (sR ts _ s' h)
  cases h
 | (k+1,t)::ts,s,s',h=>by
  unfold nX at h;split at h
  ·exact sR ts _ s' h
  split at h
  ·rename_i hk;exact (FrB.of (aNK hk)).trans (sR ts _ s' h)
  split at h
  ·split at h
   ·rename_i hf;split at h
    ·rename_i bd;exact (FrB.of ((aOW hf).trans (aCX bd))).trans (sR ts _ s' h)
    cases h
   cases h
  cases h
structure Rec where
 v:AV
 want:Bool
 rd:LN
 wr:Option LN
 H2:LO
def uZ(p:Nat->Bool):Nat->List (ae×Rec)->LA->LA
 |_,[],ρ=>ρ
 |k,(o,r)::l,ρ=>uZ p (k+1) l (if p k then bg ρ o.dst r.v else ρ)
def cW(H:LO):List (ae×Rec)->Nat->LO
 | [],_=>H
 |_::_,0=>H
 |x::l,m+1=>cW x.2.H2 l m
structure yq(call:Nat->LA->LO->Out)(c:Ctx)(ρ:LA)(H:LO)(o:ae)(r:Rec):Prop where
 guard:pF ρ o=Pa
 want:r.want=wanted ρ o
 yes:r.want=Pa->aFJ call c H ρ o=N1 (r.v,r.H2,r.rd,r.wr)
 no:r.want=Po->r.v=.tup []/\r.H2=H/\r.rd=[]/\r.wr=N2
def aFe:Nat->List (ae×Rec)->Log
 |_,[]=>[]
 |i,(_,r)::l=>if r.want then (i,r.rd,r.wr)::aFe (i+1) l else aFe (i+1) l
def aDY(p:Nat->Bool):∀(l:List (ae×Rec)) (n:Nat) (ρ:LA),uZ p (n+1) l ρ=uZ (λj=>p (j+1)) n l ρ
 | [],_,_=>rfl
 | (o,r)::l,n,ρ=>by simp only[uZ];exact aDY p l (n+1) _
def aMG(p q:Nat->Bool):∀(l:List (ae×Rec)) (n:Nat) (ρ:LA),(∀k,n<=k->k<n+l.length->p k=q k)->uZ p n l ρ=uZ q n l ρ
 | [],_,_,_=>rfl
 | (o,r)::l,n,ρ,h=>by
  simp only[uZ];rw[h n (AQ _) siT];exact aMG p q l (n+1) _ λk h1 h2=>h k omT soT
def fH(ρ:LA)(d:Option Nat)(v:AV):(bg ρ d v).length=ρ.length:=by cases d<;>simp[bg]
def aFZ(ρ:LA)(d:Option Nat)(v:AV)(t:Nat)(h:d≠N1 t):(bg ρ d v)[t]? = ρ[t]? := by
 cases d with
 |none=>rfl
 |some d=>exact getElem?_set_ne' _ _ (λe=>h (by rw[e]))
def aK4(ρ ρ':LA)(d:Option Nat)(v:AV)(t:Nat)(hl:ρ.length=ρ'.length)(h:ρ[t]? = ρ'[t]?):(bg ρ d v)[t]? = (bg ρ' d v)[t]? := by
 cases d with
 |none=>exact h
 |some d=>simp only[bg,FB,hl,h]
def aFy(p:Nat->Bool):∀(l:List (ae×Rec)) (n:Nat) (ρ:LA),(uZ p n l ρ).length=ρ.length
 | [],_,_=>rfl
 | (o,r)::l,n,ρ=>by
  simp only[uZ];rw[aFy p l];split
  ·exact fH _ _ _
  rfl
def aCY(p q:Nat->Bool)(t:Nat):∀(l:List (ae×Rec)) (n:Nat) (ρ ρ':LA),ρ.length=ρ'.length->ρ[t]? = ρ'[t]? ->(∀(k:Nat) o r,l[k]? = N1 (o,r)->o.dst=N1 t->p (n+k)=q (n+k))->(uZ p n l ρ)[t]? = (uZ q n l ρ')[t]?
 | [],_,ρ,ρ',_,h,_=>h
 | (o,r)::l,n,ρ,ρ',hl,h,hk=>by
  simp only[uZ];refine aCY p q t l (n+1) _ _ ?_ ?_ λk o' r' h1 h2=>?_
  ·split<;>split<;>simp[fH,hl]
  ·by_cases e:o.dst=N1 t
   ·have:=hk 0 o r rfl e;simp only[DU]at this;rw[this];split
    ·exact aK4 _ _ _ _ _ hl h
    exact h
   have e1:∀(b:Bool) (ρ:LA),(if b=Pa then bg ρ o.dst r.v else ρ)[t]? = ρ[t]? := λb ρ=>by
    split
    ·exact aFZ _ _ _ _ e
    rfl
   rw[e1,e1,h]
  have:=hk (k+1) o' r' (by simpa using h1) h2
  rwa [show n+(k+1)=n+1+k by omega]at this
def aR6(p:Nat->Bool)(i:Nat):∀(l:List (ae×Rec)) (n:Nat) (ρ ρ':LA) (o:ae) (r:Rec),l[i]? = N1 (o,r)->ρ.length=ρ'.length->p (n+i)=Po ->(∀(k:Nat) o' r',l[k]? = N1 (o',r')->i<k->∀t,o.dst=N1 t->o'.dst=N1 t->p (n+k)=Po)->∀(t:Nat),ρ[t]? = ρ'[t]? ->(uZ (λj=>p j || j==n+i) n l ρ)[t]? = (bg (uZ p n l ρ') o.dst r.v)[t]? := by
 intro l n ρ ρ' o r hi hl hp hk t ht;by_cases e:o.dst=N1 t
 ·
  have ax:(uZ p n l ρ').length=ρ'.length:=aFy _ _ _ _;rw[e];simp only[bg,FB,Zv,ax];have sc:∀(l:List (ae×Rec)) (n:Nat) (ρ:LA),uZ (λ_=>Po) n l ρ=ρ:=by
   intro l
   induction l with
   |nil=>intro n ρ;rfl
   |cons x l ih=>intro n ρ;obtain⟨a,b⟩:=x;simp only[uZ,BX,Zu];exact ih _ _
  have key:∀(q:Nat->Bool) (l:List (ae×Rec)) (n:Nat) (i:Nat) (ρ:LA),l[i]? = N1 (o,r)->q (n+i)=Pa->(∀(k:Nat) o' r',l[k]? = N1 (o',r')->i<k->o'.dst=N1 t->q (n+k)=Po) ->
    (uZ q n l ρ)[t]? = if t<ρ.length then N1 r.v else none:=by
   intro q l
   induction l with
   |nil=>intro n i ρ h;simp at h
   |cons x l ih=>
    intro n i ρ h hq z8;obtain⟨o1,r1⟩:=x;cases i with
    |zero=>
     simp only[BG,AG,BK]at h;obtain⟨h1,h2⟩:=h;simp only[DU]at hq;simp only[uZ,hq,Zv];have:=aCY q (λ_=>Po) t l (n+1) (bg ρ o1.dst r1.v) (bg ρ o1.dst r1.v) rfl rfl λk o' r' h3 h4=>by
      have h5:=z8 (k+1) o' r' (by simpa using h3) omT h4
      rwa [show n+(k+1)=n+1+k by omega]at h5
     rw[this,sc,h1,h2,e];simp[bg,FB]
    |succ i=>
     simp only[uZ];rw[ih (n+1) i _ (by simpa using h) (by rw[show n+1+i=n+(i+1)by omega];exact hq) λk o' r' h1 h2 h3=>by
      have:=z8 (k+1) o' r' (by simpa using h1) omT h3;rwa [show n+(k+1)=n+1+k by omega]at this]
     split<;>simp[fH]
  rw[key (λj=>p j || j==n+i) l n i ρ hi siT λk o' r' h1 h2 h3=>by
   have h4:¬(k=i):=omT;simp[hk k o' r' h1 h2 t e h3,h4],hl]
 rw[aFZ _ _ _ _ e];refine aCY _ _ t l n ρ ρ' hl ht λk o' r' h1 h2=>?_;have:k≠i:=λek=>by subst ek;rw[hi]at h1;cases h1;exact e h2
 simp[this]
def aEK{call:Nat->LA->LO->Out}{c:Ctx}:∀(al:List ae) (i:Nat) (s s':gp) (log:Log),nT call c i al s=N1 (s',log) ->∃tr:List (ae×Rec),tr.map (·.1)=al/\log=aFe i tr/\s'.ρ=uZ (λ_=>Pa) 0 tr s.ρ/\s'.H=cW s.H tr tr.length /\ (∀(k:Nat) o r,tr[k]? = N1 (o,r)->yq call c (uZ (λj=>decide (j<k)) 0 tr s.ρ) (cW s.H tr k) o r/\cW s.H tr (k+1)=r.H2/\∀x∈r.wr.getD [],x<c.base->x∈s'.wr) /\ (∀x∈s.wr,x∈s'.wr)
 | [],i,s,s',log,h=>by
  simp only[nT,AG,BK]at h;obtain⟨rfl,rfl⟩:=h;exact⟨[],rfl,rfl,rfl,rfl,λk o r h=>by simp at h,λ_ h=>h⟩
 |o::al,i,s,s',log,h=>by
  have step:∀(r:Rec) (s1:gp) (log1:Log),yq call c s.ρ s.H o r->s1.ρ=bg s.ρ o.dst r.v->s1.H=r.H2->(∀x∈s.wr,x∈s1.wr)->(∀x∈r.wr.getD [],x<c.base->x∈s1.wr) ->
    nT call c (i+1) al s1=N1 (s',log1)->log=(if r.want then (i,r.rd,r.wr)::log1 else log1) ->
    ∃tr:List (ae×Rec),tr.map (·.1)=o::al/\log=aFe i tr/\s'.ρ=uZ (λ_=>Pa) 0 tr s.ρ/\s'.H=cW s.H tr tr.length /\
     (∀(k:Nat) o r,tr[k]? = N1 (o,r)->yq call c (uZ (λj=>decide (j<k)) 0 tr s.ρ) (cW s.H tr k) o r/\cW s.H tr (k+1)=r.H2/\∀x∈r.wr.getD [],x<c.base->x∈s'.wr) /\
     (∀x∈s.wr,x∈s'.wr):=by
   intro r s1 log1 hr hρ hH hw gn mz zg;obtain⟨tr,h1,h2,h3,h4,h5,h6⟩:=aEK al (i+1) s1 s' log1 mz;refine⟨(o,r)::tr,by simp[h1],by rw[zg,h2];simp only[aFe], ?_, ?_,λk o' r' hk=>?_,λx hx=>h6 x (hw x hx)⟩
   ·simp only[uZ,Zv];rw[aDY,<- hρ];exact h3
   ·simp only[AW,cW];rw[<- hH];exact h4
   cases k with
   |zero=>
    simp only[BG,AG,BK]at hk;obtain⟨rfl,rfl⟩:=hk;have sc:∀(l:List (ae×Rec)) (n:Nat) (ρ:LA),uZ (λj=>decide (j<0)) n l ρ=ρ:=by
     intro l
     induction l with
     |nil=>intro n ρ;rfl
     |cons x l ih=>intro n ρ;obtain⟨a,b⟩:=x;simp only[uZ,Nat.not_lt_zero,decide_false,BX,Zu];exact ih _ _
    rw[sc];refine⟨hr, ?_,λx hx hb=>h6 x (gn x hx hb)⟩;simp only[cW];cases tr<;>rfl
   |succ k=>
    have xe:tr[k]? = N1 (o',r'):=by simpa using hk
    obtain⟨a1,a2,a3⟩:=h5 k o' r' xe;refine⟨?_, ?_,a3⟩
    ·have e1:uZ (λj=>decide (j<k+1)) 0 ((o,r)::tr) s.ρ=uZ (λj=>decide (j<k)) 0 tr s1.ρ:=by
      simp only[uZ];rw[aDY,hρ];simp
     have e2:cW s.H ((o,r)::tr) (k+1)=cW s1.H tr k:=by simp only[cW];rw[<- hH]
     rw[e1,e2];exact a1
    simp only[cW];rw[<- hH];exact a2
  unfold nT at h;split at h
  ·rename_i hg;split at h
   ·rename_i hw;split at h
    ·rename_i v H' rd wr je;split at h
     ·rename_i s2 log2 mz;cases h;exact step ⟨v,Pa,rd,wr,H'⟩ _ log2 ⟨hg,hw.symm,λ_=>je,λe=>(by cases e)⟩ rfl rfl (λx hx=>(cE _ _ _).1 x hx) (λx hx hb=>(cE _ _ _).2 x hx hb) mz rfl
     cases h
    cases h
   rename_i hw;exact step ⟨.tup [],Po,[],N2,s.H⟩ ⟨bg s.ρ o.dst (.tup []),s.H,s.wr⟩ log ⟨hg,(by simpa using hw),λe=>(by cases e),λ_=>⟨rfl,rfl,rfl,rfl⟩⟩ rfl rfl (λx hx=>hx) (λx hx=>by simp at hx) h rfl
  cases h
def aK5:∀(tr:List (ae×Rec)) (i k:Nat) (o:ae) (r:Rec),tr[k]? = N1 (o,r)->r.want=Pa->(i+k,r.rd,r.wr)∈aFe i tr
 | [],i,k,o,r,h,_=>by simp at h
 | (o1,r1)::tr,i,k,o,r,h,hw=>by
  cases k with
  |zero=>simp only[BG,AG,BK]at h;obtain⟨rfl,rfl⟩:=h;simp[aFe,hw]
  |succ k=>
   have:=aK5 tr (i+1) k o r (by simpa using h) hw;rw[show i+1+k=i+(k+1)by omega]at this;simp only[aFe];split
   ·exact BZ _ this
   exact this
def bBq(pre:LN)(i:Nat)(r r':Rec):Prop:=
 i∈pre∨(match r.wr,r'.wr with
  |some _,N1 _=>False
  |some ws,N2=>∀x∈r'.rd,x∉ws
  |none,N1 ws=>∀x∈r.rd,x∉ws
  |none,N2=>True)
def aG0{a b:LN}(h:dG a b=Pa):∀x∈a,x∉b:=by intro x hx hb;have:=AO.1 h x hx;simp[hb]at this
def aI6(pre:Nat->LN):∀(tr:List (ae×Rec)) (n:Nat),eH pre (aFe n tr)=Pa->∀(i j:Nat) o r o' r',i<j->tr[i]? = N1 (o,r)->tr[j]? = N1 (o',r')->r.want=Pa->r'.want=Pa ->bBq (pre (n+j)) (n+i) r r'
 | [],n,h,i,j,o,r,o',r',Y4,hi,hj,hw,tv=>by simp at hi
 | (o1,r1)::tr,n,h,i,j,o,r,o',r',Y4,hi,hj,hw,tv=>by
  cases i with
  |zero=>
   simp only[BG,AG,BK]at hi;obtain⟨rfl,rfl⟩:=hi;cases j with
   |zero=>omega
   |succ j=>
    have hm:=aK5 tr (n+1) j o' r' (by simpa using hj) tv;simp only[aFe,hw,Zv,eH,AI]at h;have:=AO.1 h.1 _ hm;rw[show n+1+j=n+(j+1)by omega]at this;simp only[EA,EH]at this;rcases this with this | this
    ·exact .inl this
    refine .inr ?_;cases hq:r1.wr with
    |none=>
     cases Qq:r'.wr with
     |none=>trivial
     |some ws=>rw[hq,Qq]at this;exact aG0 this
    |some ws=>
     cases Qq:r'.wr with
     |none=>rw[hq,Qq]at this;exact aG0 this
     |some ws'=>rw[hq,Qq]at this;simp at this
  |succ i=>
   cases j with
   |zero=>omega
   |succ j=>
    have h':eH pre (aFe (n+1) tr)=true:=by
     simp only[aFe]at h;split at h
     ·simp only[eH,AI]at h;exact h.2
     exact h
    have:=aI6 pre tr (n+1) h' i j o r o' r' omT (by simpa using hi) (by simpa using hj) hw tv
    rwa [show n+1+j=n+(j+1)by omega,show n+1+i=n+(i+1)by omega]at this
def aK6:∀(tr:List (ae×Rec)) (H:LO) (m m':Nat),m<=tr.length->m'<=tr.length ->(∀(k:Nat) o r,tr[k]? = N1 (o,r)->r.wr=N2->r.H2=cW H tr k)->(∀(k:Nat) o r,tr[k]? = N1 (o,r)->r.wr≠N2->(k<m↔k<m'))->cW H tr m=cW H tr m':=by
 intro tr H m m' hm oq hR hW;have next:∀(tr:List (ae×Rec)) (H:LO) (k:Nat) o r,tr[k]? = N1 (o,r)->cW H tr (k+1)=r.H2:=by
  intro tr
  induction tr with
  |nil=>intro H k o r h;simp at h
  |cons x tr ih=>
   intro H k o r h;cases k with
   |zero=>simp only[BG,AG]at h;subst h;simp only[cW];cases tr<;>rfl
   |succ k=>simp only[cW];exact ih _ k o r (by simpa using h)
 have walk:∀(d a:Nat),a+d<=tr.length->(∀(k:Nat) o r,tr[k]? = N1 (o,r)->r.wr≠N2->¬(a<=k/\k<a+d))->cW H tr (a+d)=cW H tr a:=by
  intro d
  induction d with
  |zero=>intro a _ _;rfl
  |succ d ih=>
   intro a hd hn;have hlt:a+d<tr.length:=omT;have hk:tr[a+d]? = N1 (tr[a+d].1,tr[a+d].2):=by simp[hlt]
   rw[show a+(d+1)=a+d+1 by omega,next tr H (a+d) _ _ hk,hR (a+d) _ _ hk ?_]
   ·exact ih a omT λk o r h1 h2 h3=>hn k o r h1 h2 ⟨h3.1,omT⟩
   cases hq:tr[a+d].2.wr with
   |none=>rfl
   |some w=>exact Zw ⟨omT,omT⟩ (hn (a+d) _ _ hk (by rw[hq];simp))
 rcases PI m m' with h | h
 ·obtain⟨d,rfl⟩:=GN h;exact (walk d m oq λk o r h1 h2 h3=>by have:=hW k o r h1 h2;omega).symm
 obtain⟨d,rfl⟩:=GN h;exact walk d m' hm λk o r h1 h2 h3=>by have:=hW k o r h1 h2;omega
section
variable {P:CU}{ab:cu}
def aMH(all:List HP):∀(l:List HP) (pres:List LN) (i:Nat) o,l[i]? = N1 o ->∃ao,(aDQ P ab all l pres)[i]? = N1 ao/\ao.pre=aJM (pres++((aDQ P ab all l pres).take i).map ae.pre) o
 | [],pres,i,o,h=>by simp at h
 |o1::l,pres,i,o,h=>by
  cases i with
  |zero=>simp at h;subst h;exact⟨_,rfl,by simp[aDQ]⟩
  |succ i=>obtain⟨ao,h1,h2⟩:=aMH all l (pres++[aJM pres o1]) i o (by simpa using h);refine⟨ao,by simpa [aDQ]using h1, ?_⟩;rw[h2];simp[aDQ]
structure K3(ops:Array HP)(al:List ae):Prop where
 len:al.length=ops.size
 back:∀(k:Nat) ao,al[k]? = N1 ao->∀x∈ao.pre,x<k
 of:∀(k:Nat) o ao,ops[k]? = N1 o->al[k]? = N1 ao->∀e∈o.after,LZ .any e=Pa->e.on∈ao.pre
 to:∀(k:Nat) o ao,ops[k]? = N1 o->al[k]? = N1 ao->∀x∈ao.pre,∃e∈o.after,LZ .any e=Pa/\(x=e.on∨∃ao',al[e.on]? = N1 ao'/\x∈ao'.pre)
 ord:∀(i j:Nat) o p,i≠j->al[i]? = N1 o->al[j]? = N1 p->∀t,p.dst=N1 t->t∈o.names->(if i<j then i∈p.pre else j∈o.pre)
def aR7{ops:Array HP}(hd:aOK (aDQ P ab ops.toList ops.toList [])=Pa):K3 ops (aDQ P ab ops.toList ops.toList []):=by
 have ax:(aDQ P ab ops.toList ops.toList []).length=ops.size:=by rw[(aCU ops ops.toList []).1];simp
 have da:∀(k:Nat) ao,(aDQ P ab ops.toList ops.toList [])[k]? = N1 ao->ao.pre.all (λx=>decide (x<k))=Pa /\
   ((aDQ P ab ops.toList ops.toList []).zipIdx.all λ(p,j)=>k==j || aLx k ao j p)=true:=λk ao h=>by
  have hm:(ao,k)∈(aDQ P ab ops.toList ops.toList []).zipIdx:=by rw[CO];exact⟨k,by simp[ML,h]⟩
  have:=AO.1 hd _ hm;simpa only[AI]using this
 have sd:∀(k:Nat) o ao,ops[k]? = N1 o->(aDQ P ab ops.toList ops.toList [])[k]? = N1 ao->ao.pre=aJM (((aDQ P ab ops.toList ops.toList []).take k).map ae.pre) o:=λk o ao h1 h2=>by
  obtain⟨ao',h3,h4⟩:=aMH (P:=P) (ab:=ab) ops.toList ops.toList [] k o (by simpa using h1);rw[h2]at h3;cases h3;simpa using h4
 refine⟨ax,λk ao h x hx=>?_,λk o ao h1 h2 e he hb=>?_,λk o ao h1 h2 x hx=>?_,λi j o p bl h1 h2 t ht hn=>?_⟩
 ·simpa using AO.1 (da k ao h).1 x hx
 ·rw[sd k o ao h1 h2];unfold aJM;rw[aIW,IM];exact⟨e,by simpa using he,by simp[hb]⟩
 ·rw[sd k o ao h1 h2]at hx;unfold aJM at hx;rw[aIW,IM]at hx;obtain⟨e,he,hx⟩:=hx;split at hx
  ·rename_i hb;refine⟨e,by simpa using he,hb, ?_⟩;rcases BD.1 hx with rfl | hx
   ·exact .inl rfl
   refine .inr ?_;rw[BN,CF]at hx;split at hx
   ·cases hq:(aDQ P ab ops.toList ops.toList [])[e.on]? with
    |none=>rw[hq]at hx;simp at hx
    |some ao'=>rw[hq]at hx;exact⟨ao',rfl,by simpa using hx⟩
   simp at hx
  simp at hx
 have hm:(p,j)∈(aDQ P ab ops.toList ops.toList []).zipIdx:=by rw[CO];exact⟨j,by simp[ML,h2]⟩
 have:=AO.1 (da i o h1).2 _ hm;simp only[aLx,ht,EA,beq_iff_eq,bl,false_or,KB]at this;rcases this with h | h
 ·have:¬(t∈o.names):=by simpa using h
  exact Zw hn this
 split
 ·rename_i hlt;rw[Zy hlt]at h;simpa using h
 rename_i hlt;rw[Zx hlt]at h;simpa using h
def cnt:Nat->(Nat->Bool)->Nat
 |0,_=>0
 |k+1,p=>cnt k p+(if p k then 0 else 1)
def aK7{p q:Nat->Bool}:∀(n:Nat),(∀k,k<n->p k=q k)->cnt n p=cnt n q
 |0,_=>rfl
 |n+1,h=>by simp only[cnt];rw[aK7 n λk hk=>h k omT,h n omT]
def aOY{p q:Nat->Bool}{i:Nat}:∀(n:Nat),i<n->p i=Po->q i=Pa->(∀k,k≠i->q k=p k)->cnt n q+1=cnt n p
 |0,h,_,_,_=>by omega
 |n+1,h,hp,hq,hr=>by
  simp only[cnt];by_cases e:i=n
  ·subst e;rw[aK7 (p:=q) (q:=p) i λk hk=>hr k omT];simp[hp,hq]
  have:=aOY n omT hp hq hr;rw[hr n (Ne.symm e)];omega
def aMI{p:Nat->Bool}:∀(n:Nat),cnt n p=0->∀k,k<n->p k=Pa
 |0,_,k,hk=>by omega
 |n+1,h,k,hk=>by
  simp only[cnt]at h;by_cases e:k=n
  ·subst e;cases hp:p k with
   |true=>rfl
   |false=>simp[hp]at h
  exact aMI n omT k omT
def aSM{p:Nat->Bool}:∀(n:Nat),cnt n p<=n
 |0=>AQ _
 |n+1=>by simp only[cnt];have:=aSM (p:=p) n;split<;>omega
end
section
variable {P:CU}{ab:cu}{ops:Array HP}{call:Nat->LA->LO->Out}{c:Ctx}{tr:List (ae×Rec)}{ρ0:LA}{H0:LO}{ba:LN}
structure Env(P:CU)(ab:cu)(ops:Array HP)(call:Nat->LA->LO->Out)(c:Ctx)(tr:List (ae×Rec))(ρ0:LA)(H0:LO)(ba:LN):Prop where
 az:oT P ab call
 fr:sQ call
 pre:K3 ops (tr.map (·.1))
 comp:∀(i:Nat) o ao r,ops[i]? = N1 o->tr[i]? = N1 (ao,r)->vr P ab ops o ao
 ok:∀(k:Nat) o r,tr[k]? = N1 (o,r)->yq call c (uZ (λj=>decide (j<k)) 0 tr ρ0) (cW H0 tr k) o r
 next:∀(k:Nat) o r,tr[k]? = N1 (o,r)->cW H0 tr (k+1)=r.H2
 wrs:∀(k:Nat) o r,tr[k]? = N1 (o,r)->∀x∈r.wr.getD [],x<c.base->x∈ba
 pair:∀(i j:Nat) o r o' r',i<j->tr[i]? = N1 (o,r)->tr[j]? = N1 (o',r')->r.want=Pa->r'.want=Pa->bBq o'.pre i r r'
 pf:∀(k:Nat) o r zs id,tr[k]? = N1 (o,r)->o.op=.alloc zs->c.site o.dst=N1 id->o.guard=N2/\o.pre=[]/\id<H0.length/\∃v,H0[id]? = N1 (.box v zs)
def zD{k:Nat}{o:ae}{r:Rec}(h:tr[k]? = N1 (o,r)):(tr.map (·.1))[k]? = N1 o:=by simp[h]
def Env.quiet(E:Env P ab ops call c tr ρ0 H0 ba){k:Nat}{o:ae}{r:Rec}(h:tr[k]? = N1 (o,r))(hn:r.wr=N2):r.H2=cW H0 tr k:=by
 have hr:=E.ok k o r h;cases hw:r.want with
 |false=>exact (hr.no hw).2.1
 |true=>exact (aJ2 E.fr (hr.yes hw)).2.1 hn
def Env.qg(E:Env P ab ops call c tr ρ0 H0 ba){k:Nat}{o:ae}{r:Rec}(h:tr[k]? = N1 (o,r))(hn:r.wr≠N2):r.want=true:=by
 have hr:=E.ok k o r h;cases hw:r.want with
 |false=>exact Zw (hr.no hw).2.2.2 hn
 |true=>rfl
def Env.step(E:Env P ab ops call c tr ρ0 H0 ba){k:Nat}{o:ae}{r:Rec}(h:tr[k]? = N1 (o,r)):r.H2.length=(cW H0 tr k).length/\∀x,x∉r.wr.getD []->r.H2[x]? = (cW H0 tr k)[x]? := by
 have hr:=E.ok k o r h;cases hw:r.want with
 |false=>rw[(hr.no hw).2.1];exact⟨rfl,λ_ _=>rfl⟩
 |true=>
  obtain⟨h1,_,h3⟩:=aJ2 E.fr (hr.yes hw);refine⟨h3,λx hx=>?_⟩;by_cases hlt:x<(cW H0 tr k).length
  ·exact h1.2 x hlt hx
  rw[CY omT,CY omT]
def Env.len(E:Env P ab ops call c tr ρ0 H0 ba):∀m,m<=tr.length->(cW H0 tr m).length=H0.length
 |0,_=>by cases tr<;>rfl
 |m+1,h=>by
  have hk:tr[m]? = N1 (tr[m].1,tr[m].2):=AP omT;rw[E.next m _ _ hk,(E.step hk).1];exact E.len m omT
def Env.read(E:Env P ab ops call c tr ρ0 H0 ba){x m m':Nat}(hm:m<=tr.length)(oq:m'<=tr.length) (h:∀(k:Nat) o r,tr[k]? = N1 (o,r)->r.wr≠N2->(k<m↔k<m')∨x∉r.wr.getD []):(cW H0 tr m)[x]? = (cW H0 tr m')[x]? := by
 have walk:∀(d a:Nat),a+d<=tr.length->(∀(k:Nat) o r,tr[k]? = N1 (o,r)->r.wr≠N2->a<=k->k<a+d->x∉r.wr.getD [])->(cW H0 tr (a+d))[x]? = (cW H0 tr a)[x]? := by
  intro d
  induction d with
  |zero=>intro a _ _;rfl
  |succ d ih=>
   intro a hd hn;have hk:tr[a+d]? = N1 (tr[a+d].1,tr[a+d].2):=AP omT;rw[show a+(d+1)=a+d+1 by omega,E.next (a+d) _ _ hk];have:x∉tr[a+d].2.wr.getD []:=by
    cases hq:tr[a+d].2.wr with
    |none=>simp
    |some w=>have:=hn (a+d) _ _ hk (by rw[hq];simp) omT omT;rwa [hq]at this
   rw[(E.step hk).2 x this];exact ih a omT λk o r h1 h2 h3 h4=>hn k o r h1 h2 h3 omT
 rcases PI m m' with hle | hle
 ·obtain⟨d,rfl⟩:=GN hle;exact (walk d m oq λk o r h1 h2 h3 h4=>(h k o r h1 h2).elim (λh5=>omT) id).symm
 obtain⟨d,rfl⟩:=GN hle;exact walk d m' hm λk o r h1 h2 h3 h4=>(h k o r h1 h2).elim (λh5=>omT) id
structure Inv(P:CU)(ab:cu)(c:Ctx)(tr:List (ae×Rec))(ρ0:LA)(H0:LO)(ba:LN)(g0:G)(w0:BL)(d:List HU)(L:Nat->Bool)(g:G)(a:Act)(w:BL):Prop where
 closed:∀(k:Nat) o r,tr[k]? = N1 (o,r)->L k=Pa->∀x∈o.pre,L x=Pa
 pos:∃m,m<=tr.length/\(∀(k:Nat) o r,tr[k]? = N1 (o,r)->r.wr≠N2->(L k=Pa↔k<m))/\∃W,Step g0 H0 w0 g (cW H0 tr m) w W/\∀o∈W,o<c.base->o∈ba
 bm:aX g (uZ L 0 tr ρ0) a.tmps
 defers:a.defers=d
 ab:bM P ab g
 unb:∀(k:Nat) o r zs id,tr[k]? = N1 (o,r)->o.op=.alloc zs->c.site o.dst=N1 id->L k=Po->∀l,g.obj id=N1 l->l.st<(H0[id]?).elim 0 ah.ver
variable {g0:G}{w0:BL}{d:List HU}{L:Nat->Bool}{g:G}{a:Act}{w:BL}
def Inv.names(E:Env P ab ops call c tr ρ0 H0 ba)(I:Inv P ab c tr ρ0 H0 ba g0 w0 d L g a w){i:Nat}{o:ae}{r:Rec}(hi:tr[i]? = N1 (o,r))(hL:L i=Po)(hp:∀x∈o.pre,L x=Pa):∀t∈o.names,(uZ L 0 tr ρ0)[t]? = (uZ (λj=>decide (j<i)) 0 tr ρ0)[t]? := by
 intro t ht;refine aCY _ _ t tr 0 ρ0 ρ0 rfl rfl λk ok rk hk hd=>?_;simp only[BC];by_cases e:k=i
 ·subst e;rw[hL];simp
 have:=E.pre.ord i k o ok (Ne.symm e) (zD hi) (zD hk) t hd ht;split at this
 ·rename_i hlt;have h1:L k=false:=by
   cases hq:L k with
   |false=>rfl
   |true=>have:=I.closed k ok rk hk hq i this;rw[hL]at this;cases this
  rw[h1];simp;omega
 rename_i hlt;rw[hp k this];simp;omega
def Inv.put(E:Env P ab ops call c tr ρ0 H0 ba)(I:Inv P ab c tr ρ0 H0 ba g0 w0 d L g a w){i:Nat}{o:ae}{r:Rec}(hi:tr[i]? = N1 (o,r))(hL:L i=Po){g':G}(hle:g.le g'){x:BE}(hv:ai g' r.v x):aX g' (uZ (λj=>L j || j==i) 0 tr ρ0) (a.put o.dst x).tmps:=by
 have h1:=(I.bm.mono hle).bg hv o.dst;refine⟨by rw[aFy];have:=h1.1;rw[fH,aFy]at this;exact this,λt=>?_⟩;have:=aR6 L i tr 0 ρ0 ρ0 o r hi rfl (by simpa using hL) (λk o' r' hk hlt t h2 h3=>by
  simp only[BC];have:=E.pre.ord i k o o' omT (zD hi) (zD hk) t h3 (by simp[ae.names,h2]);rw[Zy hlt]at this;cases hq:L k with
  |false=>rfl
  |true=>have:=I.closed k o' r' hk hq i this;rw[hL]at this;cases this) t rfl
 simp only[BC]at this;rw[this];exact h1.2 t
def Inv.F6(E:Env P ab ops call c tr ρ0 H0 ba)(I:Inv P ab c tr ρ0 H0 ba g0 w0 d L g a w){i:Nat}{o:ae}{r:Rec}(hi:tr[i]? = N1 (o,r))(hL:L i=Po)(hp:∀x∈o.pre,L x=Pa)(hw:r.wr≠N2):∀(k:Nat) ok rk,tr[k]? = N1 (ok,rk)->rk.wr≠N2->(L k=Pa↔k<i):=by
 intro k ok rk hk pg;rcases NV k i with h | h | h
 ·have:=E.pair k i ok rk o r h hk hi (E.qg hk pg) (E.qg hi hw);rcases this with this | this
  ·simp[hp k this,h]
  cases hq:rk.wr with
  |none=>exact Zw hq pg
  |some a=>cases Qq:r.wr with
   |none=>exact Zw Qq hw
   |some b=>rw[hq,Qq]at this;exact this.elim
 ·subst h;rw[hL];simp
 have:=E.pair i k o r ok rk h hi hk (E.qg hi hw) (E.qg hk pg);rcases this with this | this
 ·have h1:L k=false:=by
   cases hq:L k with
   |false=>rfl
   |true=>have:=I.closed k ok rk hk hq i this;rw[hL]at this;cases this
  rw[h1];simp;omega
 cases hq:r.wr with
 |none=>exact Zw hq hw
 |some a=>cases Qq:rk.wr with
  |none=>exact Zw Qq pg
  |some b=>rw[hq,Qq]at this;exact this.elim
def Inv.reads(E:Env P ab ops call c tr ρ0 H0 ba)(I:Inv P ab c tr ρ0 H0 ba g0 w0 d L g a w){i m:Nat}{o:ae}{r:Rec}(hi:tr[i]? = N1 (o,r))(hL:L i=Po)(hp:∀x∈o.pre,L x=Pa)(hw:r.wr=N2)(K4:r.want=Pa) (hm:m<=tr.length) (kj:∀(k:Nat) o r,tr[k]? = N1 (o,r)->r.wr≠N2->(L k=Pa↔k<m)):∀x∈r.rd,(cW H0 tr m)[x]? = (cW H0 tr i)[x]? := by
 intro x hx;have hlt:i<tr.length:=(AH.1 hi).1;refine E.read hm omT λk ok rk hk pg=>?_;have Qz:=kj k ok rk hk pg;obtain⟨ws,zh⟩:=Ca.1 pg;rcases NV k i with h | h | h
 ·cases hq:L k with
  |true=>rw[hq]at Qz;left;simp at Qz;omega
  |false=>
   have:=E.pair k i ok rk o r h hk hi (E.qg hk pg) K4;rcases this with this | this
   ·rw[hp k this]at hq;cases hq
   rw[zh,hw]at this;right;rw[zh];exact this x hx
 ·subst h;rw[hi]at hk;cases hk;exact Zw hw pg
 cases hq:L k with
 |false=>rw[hq]at Qz;left;simp at Qz;omega
 |true=>
  have:=E.pair i k o r ok rk h hi hk K4 (E.qg hk pg);rcases this with this | this
  ·have:=I.closed k ok rk hk hq i this;rw[hL]at this;cases this
  rw[hw,zh]at this;right;rw[zh];exact this x hx
end
section
variable {P:CU}{ab:cu}{ops:Array HP}{call:Nat->LA->LO->Out}{c:Ctx}{tr:List (ae×Rec)}{ρ0:LA}{H0:LO}{ba:LN}
variable {g0:G}{w0:BL}{d:List HU}{L:Nat->Bool}{g:G}{a:Act}{w:BL}
def aA8.mono{o:HP}{R R':BE->BL->Prop}(h:aA8 P o a w R)(hr:∀v w',R v w'->R' v w'):aA8 P o a w R':=by
 rcases h with⟨v,w',h1,h2⟩ | ⟨w',h1,h2⟩ | ⟨f,args,w1,h1,h2⟩ | ⟨l,f,t,b,c,w1,h1,h2⟩
 ·exact .inl ⟨v,w',h1,hr _ _ h2⟩
 ·exact .inr (.inl ⟨w',h1,hr _ _ h2⟩)
 ·exact .inr (.inr (.inl ⟨f,args,w1,h1,h2.mono λe w' he=>by cases e<;>first | exact hr _ _ he | exact he⟩))
 exact .inr (.inr (.inr ⟨l,f,t,b,c,w1,h1,h2.mono λe w' he=>by cases e<;>first | exact hr _ _ he | exact he⟩))
def aMJ{c:Ctx}{d1 d2:Option Nat}{id:Nat}(h1:c.site d1=N1 id)(h2:c.site d2=N1 id):d1=d2/\∃t,d1=N1 t:=by
 unfold Ctx.site at h1 h2;cases d1 with
 |none=>simp at h1
 |some t1=>
  cases d2 with
  |none=>simp at h2
  |some t2=>
   simp only at h1 h2;obtain⟨i1,e1,f1⟩:=map_some h1;obtain⟨i2,e2,f2⟩:=map_some h2;have:i1=i2:=omT;subst this;obtain⟨x1,y1,_⟩:=GW.1 e1;obtain⟨x2,y2,_⟩:=GW.1 e2;have z1:c.sites[i1]=t1:=by simpa using y1
   have z2:c.sites[i1]=t2:=by simpa using y2
   exact⟨by rw[<- z1,<- z2],t1,rfl⟩
def Env.zi(E:Env P ab ops call c tr ρ0 H0 ba){k:Nat}{o:ae}{r:Rec}{zs:LA}{id:Nat}(hk:tr[k]? = N1 (o,r))(ho:o.op=.alloc zs)(hs:c.site o.dst=N1 id):r.want=Pa/\r.rd=[id]/\r.wr=N2/\r.v=.ptr id (((cW H0 tr k)[id]?).elim 0 ah.ver) 0:=by
 obtain⟨h1,h2,h3,h4⟩:=E.pf k o r zs id hk ho hs;have hr:=E.ok k o r hk;have hw:r.want=true:=by rw[hr.want];unfold wanted;rw[h1]
 have:=hr.yes hw;unfold aFJ at this;rw[ho,hs]at this;simp only[AG,BK]at this;obtain⟨e1,_,e3,e4⟩:=this;exact⟨hw,e3.symm,e4.symm,e1.symm⟩
def aCZ{α:Type}{f:α->df}{x:Option α}{y:df}(h:x.map f=N1 y)(hf:∀z,f z≠y):False:=by obtain⟨z,_,hz⟩:=map_some h;exact hf z hz
def aOZ{dst op type pos after guard zs}(nw:cOp P ab ⟨dst,op,type,pos,after,guard⟩=N1 (.alloc zs)):∃t,op=.alloc t/\zeroCells? P ab t=N1 zs:=by
 unfold cOp at nw;dsimp only at nw;split at nw
 case h_4=>
  split at nw
  ·exact (aCZ nw λz hz=>by cases hz).elim
  obtain⟨x,hx,Ke⟩:=map_some nw;cases Ke;exact⟨_,rfl,hx⟩
 all_goals exfalso
 all_goals repeat' split at nw
 all_goals first
  | (exact aCZ nw (λz hz=>by cases hz))
  | (simp at nw;done)
  |skip
def Inv.apart(E:Env P ab ops call c tr ρ0 H0 ba)(I:Inv P ab c tr ρ0 H0 ba g0 w0 d L g a w){k:Nat}{o:ae}{r:Rec}{zs:LA}{id:Nat}(hk:tr[k]? = N1 (o,r))(ho:o.op=.alloc zs)(hs:c.site o.dst=N1 id)(hL:L k=Po) {i:Nat} {oi:ae} {ri:Rec} (hi:tr[i]? = N1 (oi,ri)) (Kf:L i=Pa∨∀x∈oi.pre,L x=Pa) (hw:ri.wr≠N2):id∉ri.wr.getD []:=by
 obtain⟨h1,h2,h3,h4⟩:=E.zi hk ho hs;obtain⟨ws,zh⟩:=Ca.1 hw;have sd:∀x∈oi.pre,L x=true:=by
  rcases Kf with h | h
  ·exact I.closed i oi ri hi h
  exact h
 rcases NV k i with h | h | h
 ·have:=E.pair k i o r oi ri h hk hi h1 (E.qg hi hw);rcases this with this | this
  ·rw[sd k this]at hL;cases hL
  rw[h3,zh]at this;rw[zh];exact this id (by rw[h2];simp)
 ·subst h;rw[hk]at hi;cases hi;exact Zw h3 hw
 have:=E.pair i k oi ri o r h hi hk (E.qg hi hw) h1;rcases this with this | this
 ·rw[(E.pf k o r zs id hk ho hs).2.1]at this;simp at this
 rw[h3,zh]at this;rw[zh];exact this id (by rw[h2];simp)
def Inv.go(E:Env P ab ops call c tr ρ0 H0 ba)(I:Inv P ab c tr ρ0 H0 ba g0 w0 d L g a w){i:Nat}{o:ae}{r:Rec}(hi:tr[i]? = N1 (o,r))(hL:L i=Po)(hp:∀x∈o.pre,L x=Pa) {oo:HP} {x:BE} {g':G} {w':BL} (Ec:o.dst=oo.dst) (hle:g.le g') (hv:ai g' r.v x) (kj:∃m,m<=tr.length/\(∀(k:Nat) ok rk,tr[k]? = N1 (ok,rk)->rk.wr≠N2->((L k || k==i)=Pa↔k<m))/\∃W,Step g0 H0 w0 g' (cW H0 tr m) w' W/\∀o∈W,o<c.base->o∈ba) (F7:∀(k:Nat) ok rk zs id,tr[k]? = N1 (ok,rk)->ok.op=.alloc zs->c.site ok.dst=N1 id->k≠i->L k=Po->g'.obj id=g.obj id):Inv P ab c tr ρ0 H0 ba g0 w0 d (λj=>L j || j==i) g' (a.put oo.dst x) w':=by
 refine⟨λk ok rk hk A2 y hy=>?_,kj, ?_,by rw[aDW,I.defers],I.ab.mono hle,λk ok rk zs id hk ho hs A2 l hl=>?_⟩
 ·simp only[EA,beq_iff_eq]at A2 ⊢;rcases A2 with h | h
  ·exact .inl (I.closed k ok rk hk h y hy)
  subst h;rw[hi]at hk;cases hk;exact .inl (hp y hy)
 ·rw[<- Ec];exact I.put E hi hL hle hv
 simp only[Bool.or_eq_false_iff,beq_eq_false_iff_ne]at A2;rw[F7 k ok rk zs id hk ho hs A2.2 A2.1]at hl;exact I.unb k ok rk zs id hk ho hs A2.1 l hl
def Inv.no(E:Env P ab ops call c tr ρ0 H0 ba)(I:Inv P ab c tr ρ0 H0 ba g0 w0 d L g a w){i:Nat}{o:ae}{r:Rec}(hi:tr[i]? = N1 (o,r))(hL:L i=Po)(hp:∀x∈o.pre,L x=Pa) {oo:HP} (Ec:o.dst=oo.dst) (hw:r.want=Po):Inv P ab c tr ρ0 H0 ba g0 w0 d (λj=>L j || j==i) g (a.put oo.dst EE) w:=by
 obtain⟨h1,h2,h3,h4⟩:=(E.ok i o r hi).no hw;refine I.go E hi hL hp Ec (G.le.refl g) (by rw[h1];exact .skip _) ?_ λ_ _ _ _ _ _ _ _ _ _=>rfl;obtain⟨m,hm,kj,W,hs,hb⟩:=I.pos;refine⟨m,hm,λk ok rk hk pg=>?_,W,hs,hb⟩;have:k≠i:=λe=>by subst e;rw[hi]at hk;cases hk;exact pg h4
 simp only[EA,beq_iff_eq,this,or_false];exact kj k ok rk hk pg
def Inv.yes(E:Env P ab ops call c tr ρ0 H0 ba)(I:Inv P ab c tr ρ0 H0 ba g0 w0 d L g a w){i:Nat}{o:ae}{r:Rec}(hi:tr[i]? = N1 (o,r))(hL:L i=Po)(hp:∀x∈o.pre,L x=Pa) {oo:HP} (Ed:ops[i]? = N1 oo) (hw:r.want=Pa):aA8 P oo a w λx w'=>∃g',Inv P ab c tr ρ0 H0 ba g0 w0 d (λj=>L j || j==i) g' (a.put oo.dst x) w':=by
 have nx:=E.comp i oo o r Ed hi;have xp:=E.ok i o r hi;have je:=xp.yes hw;have xq:=I.names E hi hL hp;have hlt:i<tr.length:=(AH.1 hi).1;obtain⟨m,hm,kj,W,hs,hb⟩:=I.pos;have se:∀t∈o.op.bm,(uZ L 0 tr ρ0)[t]? = (uZ (λj=>decide (j<i)) 0 tr ρ0)[t]? := λt ht=>xq t (by simp[ae.names,ht]);have Qx:∀op,o.op=op->op≠.bad->cOp P ab oo=N1 op:=λop e F2=>by
  rw[nx.op]at e;cases hq:cOp P ab oo with
  |none=>rw[hq]at e;exact Zw e.symm F2
  |some op'=>rw[hq]at e;simp at e;rw[e]
 unfold aFJ at je;split at je
 ·
  rename_i zs id su qh;simp only[AG,BK]at je;obtain⟨Kg,hH2,zj,ma⟩:=je;obtain⟨_,Y5,hid,v,Y6⟩:=E.pf i o r zs id hi su qh;have Hu:(cW H0 tr m)[id]? = N1 (.box v zs):=by
   have h0:cW H0 tr 0=H0:=by cases tr<;>rfl
   have zj:(cW H0 tr m)[id]? = (cW H0 tr 0)[id]? := ?_
   ·rw[zj,h0,Y6]
   refine E.read hm (FF _) λk ok rk hk pg=>?_;cases hq:L k with
   |false=>left;have:=kj k ok rk hk pg;rw[hq]at this;simp at this;omega
   |true=>right;exact I.apart E hi su qh hL hk (.inl hq) pg
  have Kh:(cW H0 tr i)[id]? = N1 (.box v zs):=by rw[<- I.reads E hi hL hp ma.symm hw hm kj id (by rw[<- zj];simp)];exact Hu
  have O7:id<(cW H0 tr m).length:=by rw[E.len m hm];exact hid
  have nw:=Qx _ su siT;obtain⟨dst,op,type,pos,after,guard⟩:=oo;have F7:=I.unb i o r zs id hi su qh hL;rw[Y6]at F7;have lg:(cW H0 tr m).set id (.box v zs)=cW H0 tr m:=by
   apply List.ext_getElem?;intro j;by_cases e:j=id
   ·subst e;simp[O7];have:=Hu;simp[O7]at this;exact this.symm
   rw[getElem?_set_ne' _ _ (Ne.symm e)]
  have j8:=aOZ nw;obtain⟨t,rfl,hz⟩:=j8;obtain⟨it,z,Y7,tq,ub⟩:=zeroCells?_spec hz;have bn:Step g (cW H0 tr m) w (g.setObj id ⟨w.heap.size,v,0,0,0⟩) ((cW H0 tr m).set id (.box v zs)) (w.alloc (.cells z.cells t)) [id]:=by
   refine Step.update hs.wf id (.box v zs) ⟨w.heap.size,v,0,0,0⟩ O7 siT (λb du _=>cK (o:=.cells z.cells t) rfl du) siT (.inl (AQ _)) rfl rfl (λl hl=>?_) λhle=>⟨rfl,wV (t:=t) rfl,λj c hj=>?_⟩
   ·have:=F7 l hl;simp only[HC,ah.ver]at this;exact⟨Nat.le_of_lt this,λe=>by have e':v=l.st:=e;omega⟩
   have hl:=ub g;have tt:j<zs.length:=(AH.1 hj).1;have ax:=hl.1;simp at ax;rw[kD (t:=t) rfl];exact⟨z.cells[j]'omT,siT,(hl.2 j c _ hj siT).mono hle⟩
  rw[lg]at bn;refine .inl ⟨.pointer (N1 ⟨w.heap.size,0,N2⟩),w.alloc (.cells z.cells t),by simp[execOp,Instr.alloc,zeroValue,typeInfo,Y7,tq,newVar,newRow],_,I.go E hi hL hp nx.dst bn.le ?_ ?_ ?_⟩
  ·rw[<- Kg,Kh];exact .ptr id v 0 _ _ (by simp[G.setObj];rfl) (AQ _) λ_ _=>rfl
  ·refine⟨m,hm,λk ok rk hk pg=>?_,W++[id],hs.trans bn,λo' ho du=>?_⟩
   ·have:k≠i:=λe=>by subst e;rw[hi]at hk;cases hk;exact pg ma.symm
    simp only[EA,beq_iff_eq,this,or_false];exact kj k ok rk hk pg
   rcases AY.1 ho with ho | ho
   ·exact hb o' ho du
   simp only[CG]at ho;subst ho;have:=aLB qh;omega
  intro k ok rk zs' id' hk z7 ml bl A2;have:id'≠id:=λe=>by
   subst e;obtain⟨e1,t1,e2⟩:=aMJ ml qh;have:=E.pre.ord i k o ok (Ne.symm bl) (zD hi) (zD hk) t1 e2 (by simp[ae.names,show o.dst=N1 t1 from e1 ▸ e2]);split at this
   ·rw[(E.pf k ok rk zs' id' hk z7 ml).2.1]at this;simp at this
   rw[Y5]at this;simp at this
  simp[G.setObj,this]
 rename_i op site Qr;have bl:o.op≠.bad:=λe=>by
  rw[e]at je;simp[isW,evR]at je
 have nw:=Qx _ rfl bl;split at je
 ·
  split at je
  ·rename_i v H' wr Y8;split at je
   ·simp only[AG,BK]at je;obtain⟨rfl,rfl,zj,ma⟩:=je;have K5:r.wr≠none:=by rw[<- ma];simp
    have Y9:=I.F6 E hi hL hp K5;have Ee:cW H0 tr m=cW H0 tr i:=aK6 tr H0 m i hm omT (λk ok rk hk hn=>E.quiet hk hn) λk ok rk hk pg=>by rw[<- kj k ok rk hk pg];exact Y9 k ok rk hk pg
    rw[<- Ee,<- aOU se]at Y8;have Ef:=aK0 nw E.az Y8 hs.wf I.ab I.bm;have Z0:cW H0 tr (i+1)=r.H2:=E.next i o r hi
    refine aA8.mono Ef λx w' ⟨g',bd,hv⟩=>⟨g',I.go E hi hL hp nx.dst bd.le hv ⟨i+1,omT,λk ok rk hk pg=>?_,W++wr,by rw[Z0];exact hs.trans bd,λo' ho du=>?_⟩ λk ok rk zs id hk z7 ml bl A2=>?_⟩
    ·by_cases e:k=i
     ·subst e;simp
     simp only[EA,beq_iff_eq,e,or_false];rw[Y9 k ok rk hk pg];omega
    ·rcases AY.1 ho with ho | ho
     ·exact hb o' ho du
     exact E.wrs i o r hi o' (by rw[<- ma];exact ho) du
    have:=I.apart E hk z7 ml A2 hi (.inr hp) K5;rw[<- ma]at this;exact bd.aq id (by rw[E.len m hm];exact (E.pf k ok rk zs id hk z7 ml).2.2.1) this
   cases je
  cases je
 ·
  split at je
  ·rename_i v Z1;simp only[AG,BK]at je;obtain⟨rfl,hH2,zj,ma⟩:=je;have A3:=I.reads E hi hL hp ma.symm hw hm kj;rw[<- zj,<- aNJ se]at A3;rw[<- aOT se,<- aR4 A3]at Z1;have Ef:=(aJX nw Z1 hs.wf I.ab I.bm).Te;refine aA8.mono Ef λx w' ⟨g',bd,hv⟩=>⟨g',I.go E hi hL hp nx.dst bd.le hv ⟨m,hm,λk ok rk hk pg=>?_,W++[],hs.trans bd,λo' ho du=>hb o' (by simpa using ho) du⟩ λk ok rk zs id hk z7 ml bl A2=>?_⟩
   ·have:k≠i:=λe=>by subst e;rw[hi]at hk;cases hk;exact pg ma.symm
    simp only[EA,beq_iff_eq,this,or_false];exact kj k ok rk hk pg
   exact bd.aq id (by rw[E.len m hm];exact (E.pf k ok rk zs id hk z7 ml).2.2.1) siT
  cases je
end
section
variable {P:CU}{ab:cu}{g:G}{H:LO}{w:BL}{a:Act}
def Step.laid(hw:WF g H w){id:Nat}(f:Nat->ah)(hf:∀n,(f n).ver=n)(hid:id<H.length):Step g H w g (make H id f) w [id]:=by
 have Qr:∀l x,au g (make H id f) id l x->False:=λl x hb=>by
  have h1:=hb.Pr;simp only[make,FB,Zv,hid]at h1;injection h1 with h1;have h2:=hw.st id _ l (AP hid) hb.loc;have h3:=hb.st;rw[<- h1,hf]at h3;simp only[AP hid,HC]at h3;omega
 have hold:∀o l x,au g (make H id f) o l x->o≠id/\au g H o l x:=λo l x hb=>by
  have bl:o≠id:=λe=>by subst e;exact Qr l x hb
  exact⟨bl,⟨by have:=hb.Pr;rwa [make,getElem?_set_ne' _ _ (Ne.symm bl)]at this,hb.alive,hb.loc,hb.st⟩⟩
 refine⟨G.le.refl g,⟨hw.perm,λo l hl=>by simpa [make]using hw.lt o l hl,hw.blk,λo x l hx hl=>?_,λo l x hb=>hw.obj o l x (hold o l x hb).2,λo l x hb=>hw.jh o l x (hold o l x hb).2,
  λo o' l l' x x' h1 h2=>hw.inj o o' l l' x x' (hold _ _ _ h1).2 (hold _ _ _ h2).2,hw.whole.aq rfl rfl ⟨rfl,rfl⟩ (λ_ _ _=>rfl) λo l y hl=>.inr ⟨o,l,y,(hold _ _ _ hl).2,rfl⟩⟩,aDS.refl g _ w,λo _ ho=>?_,by simp[make],λ_ l' hl=>.inr ⟨l',hl,rfl⟩,λ_ _ _=>rfl⟩
 ·by_cases e:o=id
  ·subst e;simp only[make,FB,Zv,hid]at hx;injection hx with hx;rw[<- hx,hf];have:=hw.st o _ l (AP hid) hl;simp only[AP hid,HC];omega
  rw[make,getElem?_set_ne' _ _ (Ne.symm e)]at hx;exact hw.st o x l hx hl
 rw[make,getElem?_set_ne' _ _ (λe=>ho (by simp[e]))]
def wY{c:Ctx}:∀(l:List ae) (H H':LO),WF g H w->cS c H l=N1 H'->∃W,Step g H w g H' w W/\∀o∈W,c.base<=o
 | [],H,H',hw,h=>by simp only[cS,AG]at h;subst h;exact⟨[],.refl hw,λ_ h=>by simp at h⟩
 |o::l,H,H',hw,h=>by
  unfold cS at h;split at h
  ·rename_i zs id su hid;split at h
   ·rename_i hc;have h1:=Step.laid hw (ah.box · zs) (λ_=>rfl) hc.1;obtain⟨W,h2,h3⟩:=wY l _ H' h1.wf h;refine⟨_,h1.trans h2,λo' ho=>?_⟩;rcases AY.1 ho with ho | ho
    ·simp only[CG]at ho;subst ho;exact aLB hid
    exact h3 o' ho
   cases h
  exact wY l H H' hw h
def aAb{c:Ctx}{id:Nat}:∀(l:List ae) (H H':LO),cS c H l=N1 H'->(∀(k:Nat) o zs,l[k]? = N1 o->o.op=.alloc zs->c.site o.dst≠N1 id)->H'[id]? = H[id]?
 | [],H,H',h,_=>by simp only[cS,AG]at h;subst h;rfl
 |o::l,H,H',h,hn=>by
  unfold cS at h;have ze:∀(k:Nat) o zs,l[k]? = N1 o->o.op=.alloc zs->c.site o.dst≠N1 id:=λk o' zs h1=>hn (k+1) o' zs (by simpa using h1);split at h
  ·rename_i zs id' su hid;split at h
   ·rw[aAb l _ H' h ze,make,getElem?_set_ne' _ _ (λe=>by subst e;exact hn 0 o zs rfl su hid)]
   cases h
  exact aAb l H H' h ze
def aAc{c:Ctx}:∀(l:List ae) (H H':LO),cS c H l=N1 H'->∀(k:Nat) o zs id,l[k]? = N1 o->o.op=.alloc zs->c.site o.dst=N1 id->o.pre=[]
 | [],H,H',h=>λk o zs id hk=>by simp at hk
 |o::l,H,H',h=>λk o' zs id hk ho hs=>by
  unfold cS at h;split at h
  ·split at h
   ·rename_i hc;cases k with
    |zero=>simp only[BG,AG]at hk;subst hk;simpa using hc.2.2
    |succ k=>exact aAc l _ H' h k o' zs id (by simpa using hk) ho hs
   cases h
  rename_i Qr;cases k with
  |zero=>simp only[BG,AG]at hk;subst hk;exact Zw hs (λhs=>Qr _ _ ho hs)
  |succ k=>exact aAc l H H' h k o' zs id (by simpa using hk) ho hs
def wZ{c:Ctx}:∀(l:List ae) (H H':LO),WF g H w->cS c H l=N1 H' ->(∀(i j:Nat) o p zs zs' id,i<j->l[i]? = N1 o->l[j]? = N1 p->o.op=.alloc zs->p.op=.alloc zs'->c.site o.dst=N1 id->c.site p.dst≠N1 id) ->∀(k:Nat) o zs id,l[k]? = N1 o->o.op=.alloc zs->c.site o.dst=N1 id->o.guard=N2/\o.pre=[]/\id<H'.length/\∃v,H'[id]? = N1 (.box v zs)/\∀lc,g.obj id=N1 lc->lc.st<v
 | [],H,H',hw,h,_=>λk o zs id hk=>by simp at hk
 |o::l,H,H',hw,h,hd=>λk o' zs id hk ho hs=>by
  unfold cS at h;have V0:∀(i j:Nat) o p zs zs' id,i<j->l[i]? = N1 o->l[j]? = N1 p->o.op=.alloc zs->p.op=.alloc zs'->c.site o.dst=N1 id->c.site p.dst≠N1 id:=
   λi j o p zs zs' id h1 h2 h3=>hd (i+1) (j+1) o p zs zs' id omT (by simpa using h2) (by simpa using h3)
  split at h
  ·rename_i zs1 id1 Z2 Z3;split at h
   ·rename_i hc;have h1:=Step.laid hw (ah.box · zs1) (λ_=>rfl) hc.1;cases k with
    |zero=>simp only[BG,AG]at hk;subst hk;rw[Z2]at ho;cases ho;rw[Z3]at hs;injection hs with hs;subst hs;have hg:=aAb (id:=id1) l _ H' h λk p zs' xe hp=>hd 0 (k+1) o p zs zs' id1 omT rfl (by simpa using xe) Z2 hp Z3;have hl:=(wW _ _ _ h).1;refine⟨by simpa using hc.2.1,by simpa using hc.2.2,by rw[<- hl];simp[make];exact hc.1,bH H id1,by rw[hg];simp[make,hc.1,bH],λlc hlc=>?_⟩;have:=hw.st id1 _ lc (AP hc.1) hlc;simp only[bH,AP hc.1,HC];omega
    |succ k=>exact wZ l _ H' h1.wf h V0 k o' zs id (by simpa using hk) ho hs
   cases h
  rename_i Qr;cases k with
  |zero=>simp only[BG,AG]at hk;subst hk;exact Zw hs (λhs=>Qr _ _ ho hs)
  |succ k=>exact wZ l _ H' hw h V0 k o' zs id (by simpa using hk) ho hs
def aAd(listed:Array Bool)(i:Nat):Bool:=listed.getD i Po
def aG1{listed:Array Bool}{i:Nat}(hi:i<listed.size):(λj=>aAd listed j || j==i)=aAd (listed.setIfInBounds i Pa):=by
 funext j;unfold aAd;simp only[CR,Array.getElem?_setIfInBounds];by_cases e:i=j
 ·subst e;simp[hi]
 have:¬(j=i):=λh=>e h.symm;simp[e,this]
section
variable {ops:Array HP}{call:Nat->LA->LO->Out}{c:Ctx}{tr:List (ae×Rec)}{ρ0:LA}{H0:LO}{ba:LN}{g0:G}{w0:BL}{d:List HU}
def aG2{listed:Array Bool}(hs:listed.size=ops.size){i:Nat}:i∈HO .any ops listed↔i<ops.size/\aAd listed i=Po/\∀o,ops[i]? = N1 o->∀e∈o.after,LZ .any e=Pa->aAd listed e.on=true:=by
 unfold HO aAd;simp only[OK,List.mem_range,AI,KB];constructor
 ·rintro⟨h1,h2,h3⟩;refine⟨h1, ?_,λo ho e he hb=>?_⟩
  ·rw[CR,CM omT]at h2 ⊢;simpa using h2
  rw[ho]at h3;simp only[DE,EN,JH]at h3;have:=h3 e he;simpa [hb]using this
 rintro⟨h1,h2,h3⟩;refine⟨h1, ?_, ?_⟩
 ·rw[CR,CM omT]at h2 ⊢;simpa using h2
 rw[CM h1];simp only[DE,EN,JH];intro e he;cases hb:LZ .any e with
 |false=>simp
 |true=>simpa using h3 _ (CM h1) e he hb
def aP0(E:Env P ab ops call c tr ρ0 H0 ba){listed:Array Bool}(hs:listed.size=ops.size)(h:HO .any ops listed=[]):∀i,i<ops.size->aAd listed i=true:=by
 intro i
 induction i using Nat.strongRecOn with
 |_ i ih=>
  intro hi;cases hq:aAd listed i with
  |true=>rfl
  |false=>
   have:i∈HO .any ops listed:=by rw[aG2 hs];refine⟨hi,hq,λo ho e he hb=>?_⟩;have ax:=E.pre.len;have hk:(tr.map (·.1))[i]? = N1 ((tr.map (·.1))[i]'omT):=AP omT;have h1:=E.pre.of i o _ ho hk e he hb;have h2:=E.pre.back i _ hk _ h1;exact ih _ h2 omT
   rw[h]at this;simp at this
def aK8(E:Env P ab ops call c tr ρ0 H0 ba){Q:Exit->Act->BL->Prop}{r:Option Nat} (hQ:∀g a w L,Inv P ab c tr ρ0 H0 ba g0 w0 d L g a w->(∀i,i<ops.size->L i=Pa)->Q .normal a w):∀(fuel:Nat) (listed:Array Bool) (g:G) (a:Act) (w:BL),listed.size=ops.size->cnt ops.size (aAd listed)<=fuel->Inv P ab c tr ρ0 H0 ba g0 w0 d (aAd listed) g a w ->wpAnyIn (fr r) 0 P .any ops Q fuel listed a w
 |0,listed,g,a,w,hs,hc,I=>by
  have da:=aMI ops.size (Nat.le_zero.1 hc);refine⟨?_,hQ g a w _ I da⟩;cases hr:HO .any ops listed with
  |nil=>rfl
  |cons i l=>
   have:i∈HO .any ops listed:=by rw[hr];simp
   rw[aG2 hs]at this;rw[da i this.1]at this;simp at this
 |fuel+1,listed,g,a,w,hs,hc,I=>by
  refine⟨λh=>hQ g a w _ I (aP0 E hs h),λi hi=>?_⟩;rw[aG2 hs]at hi;obtain⟨hlt,hL,O8⟩:=hi;have ax:tr.length=ops.size:=by have:=E.pre.len;simpa using this
  have ho:ops[i]? = N1 ops[i]:=CM hlt;have hi:tr[i]? = N1 (tr[i].1,tr[i].2):=AP omT;have hp:∀x∈tr[i].1.pre,aAd listed x=true:=λx hx=>by
   obtain⟨e,he,hb,h⟩:=E.pre.to i _ _ ho (zD hi) x hx;have h1:=O8 _ ho e he hb;rcases h with rfl | ⟨ao',h2,h3⟩
   ·exact h1
   have rn:e.on<tr.length:=by have:=(AH.1 h2).1;simpa using this
   have h4:tr[e.on]? = N1 (tr[e.on].1,tr[e.on].2):=AP rn;have h5:=zD h4;rw[h2]at h5;injection h5 with h5;exact I.closed e.on _ _ h4 h1 x (h5 ▸ h3)
  have nx:=E.comp i _ _ _ ho hi;have xp:=E.ok i _ _ hi;have xq:=I.names E hi hL hp;have next:∀g' a' w',Inv P ab c tr ρ0 H0 ba g0 w0 d (λj=>aAd listed j || j==i) g' a' w'->wpAnyIn (fr r) 0 P .any ops Q fuel (listed.setIfInBounds i Pa) a' w':=λg' a' w' I'=>by
   rw[aG1 omT]at I';refine aK8 E hQ fuel _ g' a' w' (by simpa using hs) ?_ I';have:=aOY (p:=aAd listed) (q:=aAd (listed.setIfInBounds i Pa)) ops.size hlt hL (by rw[<- aG1 omT];simp) λk hk=>by rw[<- aG1 omT];simp[hk]
   omega
  have F3:OJ ops[i] (yielded ops a.tmps)=tr[i].2.want:=by have Hv:=aK3 (o:=tr[i].1) (ρ:=uZ (aAd listed) 0 tr ρ0) (ρ':=uZ (λj=>decide (j<i)) 0 tr ρ0) λt ht=>xq t ht;rw[xp.want,<- Hv.1];exact aK1 nx.guard I.bm (by rw[Hv.2];exact xp.guard)
  unfold wpOpIn;rw[ho];simp only;rw[F3];cases hw:tr[i].2.want with
  |false=>simp only[BX,Zu];exact⟨λ_ _=>trivial,next g _ w (I.no E hi hL hp nx.dst hw)⟩
  |true=>simp only[Zv];refine (I.yes E hi hL hp ho hw).wp λv w' hR=>?_;obtain⟨g',I'⟩:=hR;exact next g' _ w' I'
end
def aNM{id:Nat}{ops:Array HP}(hm:P.follows .mixedOrders=Pa){call:Nat->LA->LO->Out}(az:oT P ab call)(Pw:sQ call){c:Ctx}{s s':gp} (h:iO call c Pa (aDQ P ab ops.toList ops.toList []) s=N1 s') {Q:Exit->Act->BL->Prop} (hw:WF g s.H w) (hg:bM P ab g) (hs:aX g s.ρ a.tmps) (hQ:∀a' w',aA9 P ab c.base g s.H w a.defers s' a' w'->Q .normal a' w') {r:Option Nat}:(PJ id ops Pa).wpIn (fr r) 0 P Q a w:=by
 unfold iO at h;split at h
 ·rename_i hd;simp only[BR]at hd;split at h
  ·rename_i H0 sd;split at h
   ·rename_i s1 log je;split at h
    ·rename_i zg;simp only[AG]at h;subst h;have PO:=aR7 (P:=P) (ab:=ab) hd;obtain⟨tr,h1,h2,h3,h4,h5,h6⟩:=aEK _ _ _ _ _ je;have qh:∀(i j:Nat) o p zs zs' id,i<j->(aDQ P ab ops.toList ops.toList [])[i]? = N1 o->(aDQ P ab ops.toList ops.toList [])[j]? = N1 p->o.op=.alloc zs->p.op=.alloc zs'->c.site o.dst=N1 id->c.site p.dst≠N1 id:=by
      intro i j o p zs zs' id Y4 hi hj ho hp Ki l9;obtain⟨e1,t,e2⟩:=aMJ Ki l9;have:=PO.ord i j o p omT hi hj t (e1 ▸ e2) (by simp[ae.names,e2]);rw[Zy Y4,aAc _ _ _ sd j p zs' id hj hp l9]at this;simp at this
     obtain⟨W,bn,hW⟩:=wY _ _ _ hw sd;have K6:=wZ _ _ _ hw sd qh;have E:Env P ab ops call c tr s.ρ H0 s1.wr:=by
      refine⟨az,Pw,h1 ▸ PO,λi o ao r ho hi=>?_,λk o r hk=>(h5 k o r hk).1,λk o r hk=>(h5 k o r hk).2.1,λk o r hk=>(h5 k o r hk).2.2,λi j o r o' r' Y4 hi hj V1 Kj=>?_,λk o r zs id hk ho hs=>?_⟩
      ·exact (aCU ops ops.toList []).2 i o ao (by simpa using ho) (by rw[<- h1];exact zD hi)
      ·rw[h2]at zg;have:=aI6 _ tr 0 zg i j o r o' r' Y4 hi hj V1 Kj;simp only[BC]at this;have e:(aDQ P ab ops.toList ops.toList [])[j]? = N1 o':=by rw[<- h1];exact zD hj
       rw[e]at this;exact this
      obtain⟨a1,a2,a3,v,a4,a5⟩:=K6 k o zs id (by rw[<- h1];exact zD hk) ho hs;exact⟨a1,a2,a3,v,a4⟩
     have V2:aAd (Array.replicate ops.size Po)=λ_=>false:=by funext i;simp[aAd,CR,Array.getElem?_replicate];split<;>rfl
     have sc:∀(l:List (ae×Rec)) (n:Nat) (ρ:LA),uZ (λ_=>Po) n l ρ=ρ:=by
      intro l
      induction l with
      |nil=>intro n ρ;rfl
      |cons x l ih=>intro n ρ;obtain⟨a,b⟩:=x;simp only[uZ,BX,Zu];exact ih _ _
     have Kk:cW H0 tr 0=H0:=by cases tr<;>rfl
     have ax:tr.length=ops.size:=by have:=E.pre.len;simpa using this
     refine wpIn_region_any hm (aK8 (g0:=g) (w0:=w) (d:=a.defers) E (λg' a' w' L I da=>hQ a' w' ?_) ops.size _ g a _ siT (aSM _) ?_)
     ·obtain⟨m,oq,kj,W',bd,hb⟩:=I.pos;have e1:cW H0 tr m=s1.H:=by
       rw[h4];refine aK6 tr H0 m _ oq (AQ _) (λk o r hk hn=>E.quiet hk hn) λk o r hk hn=>?_;have xe:=(AH.1 hk).1;have:=kj k o r hk hn;rw[da k omT]at this;simp at this;omega
      have e2:uZ L 0 tr s.ρ=s1.ρ:=by rw[h3];exact aMG _ _ _ _ _ λk _ hk=>da k omT
      rw[e1]at bd;refine⟨g',W++W',bn.trans bd,λo ho du=>?_,e2 ▸ I.bm,I.defers,I.ab⟩;rcases AY.1 ho with ho | ho
      ·have:=hW o ho;omega
      exact hb o ho du
     rw[V2];refine⟨λk o r _ h=>(by cases h),⟨0,FF _,λk o r _ _=>siT,[],by rw[Kk];exact Step.of_heap bn.wf rfl,λo ho=>by simp at ho⟩,by rw[sc];exact hs,rfl,hg,λk o r zs id hk ho ml _ l hl=>?_⟩;obtain⟨a1,a2,a3,v,a4,a5⟩:=K6 k o zs id (by rw[<- h1];exact zD hk) ho ml;rw[a4];exact a5 l hl
    cases h
   cases h
  cases h
 simp at h
end
def dS(n:Nat):∀(l:LA),dJ n l=Pa↔∀a∈l,a.under n=Pa
 | []=>by simp[dJ]
 |v::r=>by simp[dJ,dS n r]
def kK(n:Nat):∀(l:List LA),eR n l=Pa↔∀row∈l,∀a∈row,a.under n=Pa
 | []=>by simp[eR]
 |v::r=>by simp[eR,kK n r,dS]
def G.cut(g:G)(n:Nat):G:={ g with obj:=λo=>if o<n then g.obj o else N2 }
def kL{α:Type}{l:List α}{a:α}(h:a∈l):∃i,i<l.length/\l[i]? = N1 a:=by obtain⟨i,hi,he⟩:=MQ h;exact⟨i,hi,by rw[AP hi,he]⟩
def ai.under{g:G}{n:Nat}(hg:∀o l,g.obj o=N1 l->o<n){a:AV}{x:BE}(h:ai g a x):a.under n=true:=by
 induction h with
 |undef x=>rfl
 |bool b=>rfl
 |int k n=>rfl
 |str s=>rfl
 |fn f first ay vf vc hf hc h1 h2 ih1 ih2=>
  simp only[AV.under,AI,dS];refine⟨λa ha=>?_,λa ha=>?_⟩
  ·obtain⟨i,hi,he⟩:=kL ha;exact ih1 i a _ he (CM omT)
  obtain⟨i,hi,he⟩:=kL ha;exact ih2 i a _ he (CM omT)
 |bx=>rfl
 |ptr o v off l a hl hv h=>simp[AV.under,hg o l hl]
 |vp o v n k i off l a hl hv hn h=>simp[AV.under,hg o l hl]
 |nilPtr=>rfl
 |bj=>rfl
 |ifc t v x hv h ih=>simpa [AV.under]using ih
 |ep row off b base bd hp h ih=>
  simp only[AV.under,dS];intro a ha;obtain⟨j,hj,he⟩:=kL ha;have:=hp j hj;cases hq:g.perm b (base+j)with
  |none=>rw[hq]at this;cases this
  |some y=>exact ih j a y he hq
 |kn full=>rfl
 |sl full rows b off cap k cm jo hk bd hp h ih=>
  simp only[AV.under,kK];intro row hr a ha;obtain⟨i,hi,he⟩:=kL hr;obtain⟨j,hj,K7⟩:=kL ha;have:=hp i j hi (by rw[<- hk row hr];exact hj);cases hq:g.perm b (off+i*k+j)with
  |none=>rw[hq]at this;cases this
  |some y=>exact ih i j row a y he K7 hq
 |sr o v n l a cap hl hv hn jg h=>simp[AV.under,hg o l hl]
 |srv o v n k lo l a cap hl hv hn gr h=>simp[AV.under,hg o l hl]
 |srw o v n hi l a cap hl hv hn tf h=>simp[AV.under,hg o l hl]
 |ar=>rfl
 |mp o v l r hl hv h=>simp[AV.under,hg o l hl]
 |yld o v l r hl hv h=>simp[AV.under,hg o l hl]
 |fmp ks vs r entries clock xs hw hp hk hv h1 h2 ih1 ih2=>
  simp only[AV.under,AI,dS];refine⟨λa ha=>?_,λa ha=>?_⟩
  ·obtain⟨i,hi,he⟩:=kL ha;exact ih1 i a _ he (AP omT)
  obtain⟨i,hi,he⟩:=kL ha;exact ih2 i a _ he (AP omT)
 |agg cs vs hs h ih=>simp only[AV.under,dS];intro a ha;obtain⟨i,hi,he⟩:=kL ha;exact ih i a _ he (CM omT)
 |tup cs vs hs h ih=>simp only[AV.under,dS];intro a ha;obtain⟨i,hi,he⟩:=kL ha;exact ih i a _ he (CM omT)
def ai.cut{g:G}{n:Nat}{a:AV}{x:BE}(h:ai g a x):a.under n=Pa->ai (g.cut n) a x:=by
 have la:∀o l,g.obj o=N1 l->o<n->(g.cut n).obj o=N1 l:=λo l h1 h2=>by simp[G.cut,h1,h2]
 induction h with
 |undef x=>exact λ_=>.undef x
 |bool b=>exact λ_=>.bool b
 |int k n=>exact λ_=>.int k n
 |str s=>exact λ_=>.str s
 |fn f first ay vf vc hf hc h1 h2 ih1 ih2=>intro hu;simp only[AV.under,AI,dS]at hu;exact .fn f first ay vf vc hf hc (λi a x e1 e2=>ih1 i a x e1 e2 (hu.1 a (AN e1))) (λi a x e1 e2=>ih2 i a x e1 e2 (hu.2 a (AN e1)))
 |bx=>exact λ_=>.bx
 |ptr o v off l a hl hv h=>intro hu;exact .ptr o v off l a (la o l hl (by simpa [AV.under]using hu)) hv h
 |vp o v n k i off l a hl hv hn h=>intro hu;exact .vp o v n k i off l a (la o l hl (by simpa [AV.under]using hu)) hv hn h
 |nilPtr=>exact λ_=>.nilPtr
 |bj=>exact λ_=>.bj
 |ifc t v x hv h ih=>exact λhu=>.ifc t v x hv (ih (by simpa [AV.under]using hu))
 |ep row off b base bd hp h ih=>intro hu;simp only[AV.under,dS]at hu;exact .ep row off b base bd hp λj a x e1 e2=>ih j a x e1 e2 (hu a (AN e1))
 |kn full=>exact λ_=>.kn full
 |sl full rows b off cap k cm jo hk bd hp h ih=>intro hu;simp only[AV.under,kK]at hu;exact .sl full rows b off cap k cm jo hk bd hp λi j row a x e1 e2 e3=>ih i j row a x e1 e2 e3 (hu row (AN e1) a (AN e2))
 |sr o v n l a cap hl hv hn jg h=>intro hu;exact .sr o v n l a cap (la o l hl (by simpa [AV.under]using hu)) hv hn jg h
 |srv o v n k lo l a cap hl hv hn gr h=>intro hu;exact .srv o v n k lo l a cap (la o l hl (by simpa [AV.under]using hu)) hv hn gr h
 |srw o v n hi l a cap hl hv hn tf h=>intro hu;exact .srw o v n hi l a cap (la o l hl (by simpa [AV.under]using hu)) hv hn tf h
 |ar=>exact λ_=>.ar
 |mp o v l r hl hv h=>intro hu;exact .mp o v l r (la o l hl (by simpa [AV.under]using hu)) hv h
 |yld o v l r hl hv h=>intro hu;exact .yld o v l r (la o l hl (by simpa [AV.under]using hu)) hv h
 |fmp ks vs r entries clock xs hw hp hk hv h1 h2 ih1 ih2=>intro hu;simp only[AV.under,AI,dS]at hu;exact .fmp ks vs r entries clock xs hw hp hk hv (λi a e e1 e2=>ih1 i a e e1 e2 (hu.1 a (AN e1))) λi a e e1 e2=>ih2 i a e e1 e2 (hu.2 a (AN e1))
 |agg cs vs hs h ih=>intro hu;simp only[AV.under,dS]at hu;exact .agg cs vs hs λi a x e1 e2=>ih i a x e1 e2 (hu a (AN e1))
 |tup cs vs hs h ih=>intro hu;simp only[AV.under,dS]at hu;exact .tup cs vs hs λi a x e1 e2=>ih i a x e1 e2 (hu a (AN e1))
def aBw.under{g:G}{n:Nat}(hg:∀o l,g.obj o=N1 l->o<n){w:BL}{l:Loc}{x:ah}(h:aBw g w l x):x.under n=true:=by
 cases x with
 |gone v=>rfl
 |box v cells=>obtain⟨h1,h2,h3⟩:=h;simp only[ah.under,dS];intro a ha;obtain⟨j,hj,he⟩:=kL ha;obtain⟨y,hy,hr⟩:=h3 j a he;exact hr.under hg
 |cw v ty cells=>obtain⟨h1,h2,h3⟩:=h;simp only[ah.under,dS];intro a ha;obtain⟨j,hj,he⟩:=kL ha;obtain⟨y,hy,hr⟩:=h3 j a he;exact hr.under hg
 |vec v k rows=>obtain⟨h1,h2,h3,h4,h5,h6,h7⟩:=h;simp only[ah.under,kK];intro row hr a ha;obtain⟨i,hi,he⟩:=kL hr;obtain⟨j,hj,K7⟩:=kL ha;obtain⟨_,y,hy,hv⟩:=h7 i j row a he K7;exact hv.under hg
 |gl v ty k rows=>obtain⟨⟨h1,h2,h3,h4,h5,h6,h7⟩,h8⟩:=h;simp only[ah.under,kK];intro row hr a ha;obtain⟨i,hi,he⟩:=kL hr;obtain⟨j,hj,K7⟩:=kL ha;obtain⟨_,y,hy,hv⟩:=h7 i j row a he K7;exact hv.under hg
 |map v es=>obtain⟨h1,entries,clock,h2,h3,h4⟩:=h;simp only[ah.under,AO];rintro⟨k,v⟩ hm;obtain⟨i,hi,he⟩:=kL hm;have:=h4 i k v _ he (CM omT);simp[this.1.under hg,this.2.under hg]
 |rnd v base sites ps body ρ busy pend=>obtain⟨h1,r,h2,h3,h4,h5,h6,h7,h8,h9⟩:=h;simp only[ah.under,dS];intro a ha;obtain⟨j,hj,he⟩:=kL ha;have:=h9 j;rw[he]at this;exact this.under hg
def aBw.cut{g:G}{n:Nat}{w:BL}{l:Loc}{x:ah}(h:aBw g w l x)(hu:x.under n=Pa):aBw (g.cut n) w l x:=by
 cases x with
 |gone v=>trivial
 |box v cells=>obtain⟨h1,h2,h3⟩:=h;simp only[ah.under,dS]at hu;refine⟨h1,h2,λj a ha=>?_⟩;obtain⟨y,hy,hr⟩:=h3 j a ha;exact⟨y,hy,hr.cut (hu a (AN ha))⟩
 |cw v ty cells=>obtain⟨h1,h2,h3⟩:=h;simp only[ah.under,dS]at hu;refine⟨h1,h2,λj a ha=>?_⟩;obtain⟨y,hy,hr⟩:=h3 j a ha;exact⟨y,hy,hr.cut (hu a (AN ha))⟩
 |vec v k rows=>obtain⟨h1,h2,h3,h4,h5,h6,h7⟩:=h;simp only[ah.under,kK]at hu;refine⟨h1,h2,h3,h4,h5,h6,λi j row a hr ha=>?_⟩;obtain⟨hs,y,hy,hv⟩:=h7 i j row a hr ha;exact⟨hs,y,hy,hv.cut (hu row (AN hr) a (AN ha))⟩
 |gl v ty k rows=>obtain⟨⟨h1,h2,h3,h4,h5,h6,h7⟩,h8⟩:=h;simp only[ah.under,kK]at hu;refine⟨?_,h8⟩;refine⟨h1,h2,h3,h4,h5,h6,λi j row a hr ha=>?_⟩;obtain⟨hs,y,hy,hv⟩:=h7 i j row a hr ha;exact⟨hs,y,hy,hv.cut (hu row (AN hr) a (AN ha))⟩
 |map v es=>obtain⟨h1,entries,clock,h2,h3,h4⟩:=h;simp only[ah.under,AO]at hu;refine⟨h1,entries,clock,h2,h3,λi k v e hk he=>?_⟩;have:=hu (k,v) (AN hk);simp only[AI]at this;exact⟨(h4 i k v e hk he).1.cut this.1,(h4 i k v e hk he).2.cut this.2⟩
 |rnd v base sites ps body ρ busy pend=>
  obtain⟨h1,r,h2,h3,h4,h5,h6,h7,h8,h9⟩:=h;simp only[ah.under,dS]at hu;refine⟨h1,r,h2,h3,h4,h5,h6,h7,h8,λt=>(h9 t).cut ?_⟩;cases he:ρ[t]? with
  |none=>rfl
  |some a=>exact hu a (AN he)
section
variable {g g':G}{H H':LO}{w w':BL}{wr W:LN}
def Step.narrow(hlt:∀o l,g.obj o=N1 l->o<H.length)(h:Step g H w g' H' w' W)(hs:∀o∈W,o<H.length->o∈wr):Step g H w g' H' w' wr:=⟨h.le,h.wf,⟨h.frame.1,λb hb ho=>h.frame.2 b hb λo hm l hl=>ho o (hs o hm (hlt o l hl)) l hl⟩,λo hl ho=>h.same o hl λhm=>ho (hs o hm hl),h.len,h.mc,λo hl ho=>h.aq o hl λhm=>ho (hs o hm hl)⟩
def Step.cut(hw:WF g H w)(h:Step g H w g' H' w' wr)(hu:∀o∈wr,∀x,H'[o]? = N1 x->x.under H.length=Pa):Step g H w (g'.cut H.length) (H'.take H.length) w' wr:=by
 have gm:∀o,o<H.length->(H'.take H.length)[o]? = H'[o]? := λo ho=>by simp[ho]
 have dx:∀o l x,au (g'.cut H.length) (H'.take H.length) o l x->o<H.length/\au g' H' o l x:=λo l x hb=>by
  have hlt:o<H.length:=by have:=(AH.1 hb.Pr).1;simp at this;omega
  refine⟨hlt,⟨by rw[<- gm o hlt];exact hb.Pr,hb.alive, ?_,hb.st⟩⟩;have:=hb.loc;simpa [G.cut,hlt]using this
 have la:∀o l,(g'.cut H.length).obj o=N1 l->o<H.length/\g'.obj o=N1 l:=λo l hl=>by
  simp only[G.cut]at hl;split at hl
  ·exact⟨‹_›,hl⟩
  cases hl
 have ax:=h.len;refine⟨⟨λb i x hx=>h.le.perm b i x hx,λo l hl=>?_,h.le.whole,h.le.io,h.le.code⟩,⟨h.wf.perm,λo l hl=>?_,λo l hl=>h.wf.blk o l (la o l hl).2,λo x l hx hl=>?_,λo l x hb=>?_,λo l x hb=>h.wf.jh o l x (dx o l x hb).2,
  λo o' l l' x x' h1 h2=>h.wf.inj o o' l l' x x' (dx _ _ _ h1).2 (dx _ _ _ h2).2,h.wf.whole.aq rfl rfl ⟨rfl,rfl⟩ (λ_ _ _=>rfl) λo l y hl=>.inr ⟨o,l,y,(dx _ _ _ hl).2,rfl⟩⟩,h.frame,λo ho hn=>?_,soT,λo l hl=>h.mc o l (la o l hl).2,λo ho hn=>?_⟩
 ·obtain⟨l',h1,h2⟩:=h.le.obj o l hl;exact⟨l',by simp[G.cut,hw.lt o l hl,h1],h2⟩
 ·have:=(la o l hl).1;simp;omega
 ·obtain⟨h1,h2⟩:=la o l hl;rw[gm o h1]at hx;exact h.wf.st o x l hx h2
 ·obtain⟨h1,h2⟩:=dx o l x hb;refine (h.wf.obj o l x h2).cut ?_;by_cases hm:o∈wr
  ·exact hu o hm x h2.Pr
  have qw:au g H o l x:=⟨by rw[<- h.same o h1 hm];exact h2.Pr,h2.alive,by rw[<- h.aq o h1 hm];exact h2.loc,h2.st⟩;exact (hw.obj o l x qw).under hw.lt
 ·rw[gm o ho];exact h.same o ho hn
 simp only[G.cut,ho,Zv];exact h.aq o ho hn
def pN.cut{n n0:Nat}{av:AV}{v:BE}(h:pN g' H' n0 w' av v)(hu:av.under n=Pa):pN (g'.cut n) (H'.take n) n0 w' av v:=by
 cases av with
 |own k rows=>
  obtain⟨b,cap,e,ho⟩:=h;simp only[AV.under,kK]at hu;refine⟨b,cap,e,⟨ho.ki,ho.hlt,ho.cm,ho.dr,ho.cn,ho.dq,ho.eh,λi j row c hr hc=>?_,ho.Qm,λo l x hb=>?_,ho.u7⟩⟩
  ·obtain⟨y,hy,hv⟩:=ho.dj i j row c hr hc;exact⟨y,hy,hv.cut (hu row (AN hr) c (AN hc))⟩
  have hlt:o<n:=by have:=(AH.1 hb.Pr).1;simp at this;omega
  refine ho.pd o l x ⟨?_,hb.alive, ?_,hb.st⟩
  ·have:=hb.Pr;simpa [CF,hlt]using this
  have:=hb.loc;simpa [G.cut,hlt]using this
 |_=>exact ai.cut h hu
end
section
variable {P:CU}{ab:cu}{g:G}{H:LO}{w w':BL}{ρ:LA}
def Step.drop(h:WF g H w){o:Nat}{l:Loc}{x:ah}(hb:au g H o l x):Step g H w g (H.set o (.gone x.ver)) w [o]/\∀o' l' x',au g (H.set o (.gone x.ver)) o' l' x'->l'.b≠l.b:=by
 have ho:o<H.length:=h.lt o l hb.loc;have dx:∀o' l' x',au g (H.set o (.gone x.ver)) o' l' x'->o'≠o/\au g H o' l' x':=λo' l' x' du=>by
  have bl:o'≠o:=λe=>by
   subst e;have h1:=du.Pr;simp[ho]at h1;have h2:=du.alive;subst h1;simp[ah.alive]at h2
  exact⟨bl,⟨by rw[<- getElem?_set_ne' H (.gone x.ver) (Ne.symm bl)];exact du.Pr,du.alive,du.loc,du.st⟩⟩
 refine⟨⟨G.le.refl g,⟨h.perm,λo' l' hl=>by simpa using h.lt o' l' hl,h.blk,λo' x' l' hx hl=>?_,λo' l' x' du=>h.obj o' l' x' (dx _ _ _ du).2,λo' l' x' du=>h.jh o' l' x' (dx _ _ _ du).2,
  λo1 o2 l1 l2 x1 x2 fo dp e=>h.inj o1 o2 l1 l2 x1 x2 (dx _ _ _ fo).2 (dx _ _ _ dp).2 e,h.whole.aq rfl rfl ⟨rfl,rfl⟩ (λ_ _ _=>rfl) λo l y hl=>.inr ⟨o,l,y,(dx _ _ _ hl).2,rfl⟩⟩,
  aDS.refl _ _ _,λo' hl hm=>?_,siT,λo' l' hl=>.inr ⟨l',hl,rfl⟩,λ_ _ _=>rfl⟩,λo' l' x' du e=>?_⟩
 ·by_cases e:o'=o
  ·subst e;simp[ho]at hx;subst hx;exact h.st o' x l' hb.Pr hl
  rw[getElem?_set_ne' H (.gone x.ver) (Ne.symm e)]at hx;exact h.st o' x' l' hx hl
 ·simp only[CG]at hm;exact getElem?_set_ne' H (.gone x.ver) (Ne.symm hm)
 obtain⟨bl,qw⟩:=dx _ _ _ du;exact bl (h.inj o' o l' l x' x qw hb e)
def aP1(hw:WF g H w){o v n v' k:Nat}{rows:List LA}(ho:H[o]? = N1 (.vec v' k rows))(hv:v'=v)(hn:rows.length=n){x:BE}(hx:ai g (.sr o v n) x):∃l,au g H o l (.vec v k rows)/\x=.slice (N1 ⟨l.b,0,N2⟩) n l.cap:=by
 subst hv;cases hx with
 |sr _ _ _ l a cap hl hv ze jg h=>
  have bd:l.st=v':=by have:=hw.st o _ l ho hl;simp only[ah.ver]at this;omega
  have hb:au g H o l (.vec v' k rows):=⟨ho,rfl,hl,bd⟩;obtain⟨h0,_⟩:=hw.obj o l _ hb;obtain⟨e1,e2⟩:=h bd omT;exact⟨l,hb,by rw[e1,e2]⟩
def aI7{base n0:Nat}(ki:∀o l,base<=o->g.obj o=N1 l->n0<=l.b)(hw:WF g H w){v v':AV}{H':LO}{l:LN}(h:aDR base H v=N1 (v',H',l)){x:BE}(hx:ai g v x):∃g',Step g H w g' H' w l/\pN g' H' n0 w v' x:=by
 unfold aDR at h;split at h
 ·rename_i o v n;split at h
  ·cases h;exact⟨g,.refl hw,hx⟩
  split at h
  ·rename_i v1 k rows ho;split at h
   ·rename_i hc;obtain⟨mj,nc,Z4,Cj⟩:=hc;simp only[AG,BK]at h;obtain⟨rfl,rfl,rfl⟩:=h;obtain⟨lc,hb,rfl⟩:=aP1 hw ho mj nc hx;obtain⟨h0,ow,cm,dr,hk,eh,bc⟩:=hw.obj o lc _ hb;obtain⟨h1,h2⟩:=Step.drop hw hb;have he:dL H [o]=H.set o (.gone (ah.vec v k rows).ver):=by simp only[dL,hb.Pr];rfl
    rw[he];refine⟨g,h1,lc.b,lc.cap,by rw[nc],⟨ki o lc Z4 hb.loc,hw.blk o lc hb.loc,cm,dr,hk, ?_,eh,λi j row c hr hj=>?_,hw.jh o lc _ hb,h2, ?_⟩⟩
    ·exact Cj
    ·obtain⟨_,y,hy,hv⟩:=bc i j row c hr hj;exact⟨y,hy,hv⟩
    cases Dn:g.whole lc.b with
    |none=>rfl
    |some z=>exact Zw rfl ((hw.whole.blocks lc.b z Dn).2 o lc _ hb)
   cases h
  cases h
 ·rename_i o v;split at h
  ·rename_i v1 es ho;split at h
   ·rename_i hc;simp only[AG,BK]at h;obtain⟨rfl,rfl,rfl⟩:=h;obtain⟨lc,entries,clock,hb,rfl,pe,dj,_⟩:=aFT hw ho hc.1 hx;obtain⟨h1,h2⟩:=Step.drop hw hb;have hle:g.le { g with whole:=λb=>if b=lc.b then N1 (.map entries clock)else g.whole b }:=by
     refine⟨λ_ _ _ hx=>hx,λo l hl=>⟨l,hl,AQ _,λ_=>⟨AQ _,λ_=>rfl⟩⟩,λb x hx=>?_,rfl,rfl⟩;by_cases e:b=lc.b
     ·subst e;exact Zw rfl ((hw.whole.blocks lc.b x hx).2 o lc _ hb)
     simp only[e,Zu];exact hx
    have dx:∀o' l' x',au { g with whole:=λb=>if b=lc.b then N1 (.map entries clock)else g.whole b } (H.set o (.gone v)) o' l' x'->au g (H.set o (.gone v)) o' l' x':=λo' l' x' du=>⟨du.Pr,du.alive,du.loc,du.st⟩;have pj:=h1.wf;refine⟨{ g with whole:=λb=>if b=lc.b then N1 (.map entries clock)else g.whole b },⟨hle,⟨pj.perm,pj.lt,pj.blk,pj.st,λo' l' x' du=>(pj.obj o' l' x' (dx _ _ _ du)).aq hle rfl,λo' l' x' du=>pj.jh o' l' x' (dx _ _ _ du),λo1 o2 l1 l2 x1 x2 fo dp=>pj.inj o1 o2 l1 l2 x1 x2 (dx _ _ _ fo) (dx _ _ _ dp),⟨λb x hx=>?_,hw.whole.io⟩⟩,h1.frame,h1.same,h1.len,λo' l' hl=>.inr ⟨l',hl,rfl⟩,λ_ _ _=>rfl⟩, ?_⟩
    ·by_cases e:b=lc.b
     ·subst e;simp only[Zv,AG]at hx;subst hx;exact⟨pe,λo' l' y du=>h2 o' l' y (dx _ _ _ du)⟩
     simp only[e,Zu]at hx;exact⟨(pj.whole.blocks b x hx).1,λo' l' y du=>(pj.whole.blocks b x hx).2 o' l' y (dx _ _ _ du)⟩
    refine ai.fmp _ _ lc.b entries clock entries.toList siT (.inl rfl) (by simpa using dj.1) (by simpa using dj.1) (λi a e h5 h6=>?_) λi a e h5 h6=>?_
    ·rw[BN]at h5;cases hq:es[i]? with
     |none=>simp[hq]at h5
     |some kv=>simp[hq]at h5;subst h5;exact (dj.2 i kv.1 kv.2 e hq (by simpa using h6)).1.mono hle
    rw[BN]at h5;cases hq:es[i]? with
    |none=>simp[hq]at h5
    |some kv=>simp[hq]at h5;subst h5;exact (dj.2 i kv.1 kv.2 e hq (by simpa using h6)).2.mono hle
   cases h;exact⟨g,.refl hw,hx⟩
  cases h;exact⟨g,.refl hw,hx⟩
 obtain⟨g',h1,h2⟩:=qO hw h hx;refine⟨g',h1, ?_⟩;cases v' with
 |own k rows=>cases h2
 |_=>exact h2
def aG3:∀{vs vs':LA} {g:G} {H H':LO} {l:LN},WF g H w->aBv H vs=N1 (vs',H',l)->∀{xs:List BE},fU g vs xs->∃g',Step g H w g' H' w l/\fU g' vs' xs
 | [],vs',g,H,H',l,hw,h,xs,hx=>by
  simp only[aBv,AG,BK]at h;obtain⟨rfl,rfl,rfl⟩:=h;exact⟨g,.refl hw,hx⟩
 |v::vs,vs',g,H,H',l,hw,h,xs,hx=>by
  unfold aBv at h;split at h
  ·cases h
  rename_i v1 H1 l1 hf;split at h
  ·cases h
  rename_i r1 H2 l2 hr;simp only[AG,BK]at h;obtain⟨rfl,rfl,rfl⟩:=h;cases xs with
  |nil=>have:=hx.1;simp at this
  |cons x xs=>
   obtain⟨g1,h1,h2⟩:=qO hw hf (hx.2 0 v x rfl rfl);have re:fU g1 vs xs:=⟨by simpa using hx.1,λi a y ha hy=>(hx.2 (i+1) a y (by simpa using ha) (by simpa using hy)).mono h1.le⟩;obtain⟨g2,h3,h4⟩:=aG3 h1.wf hr re;refine⟨g2,h1.trans h3,by simp[h4.1],λi a y ha hy=>?_⟩;cases i with
   |zero=>simp at ha hy;subst ha;subst hy;exact h2.mono h3.le
   |succ i=>exact h4.2 i a y (by simpa using ha) (by simpa using hy)
def xA(tmps:Array BE)(rs:List ResultVar):Sem (List BE):=
 rs.mapM fun
  |.tmp t=>pure (tmps.getD t EE)
  |.cell a t=>do loadVar t (<- asAddr (tmps.getD a EE))
def vH(hw:WF g H w){tmps:Array BE}(hs:aX g ρ tmps):∀(rs:List ResultVar) (Pq:List ou) (vs:LA),aNz P rs=N1 Pq->aIS H ρ Pq=N1 vs ->∃xs,(xA tmps rs).run P w=.ok xs w/\fU g vs xs
 | [],Pq,vs,h,hv=>by
  simp only[aNz,AG]at h;subst h;simp only[aIS,AG]at hv;subst hv;exact⟨[],by simp[xA],rfl,λi a x h=>by simp at h⟩
 |r::rs,Pq,vs,h,hv=>by
  unfold aNz at h;split at h
  ·rename_i a as' ha has;simp only[AG]at h;subst h;unfold aIS at hv;split at hv
   ·cases hv
   rename_i v qy;split at hv
   ·cases hv
   rename_i vs' C8;simp only[AG]at hv;subst hv;obtain⟨xs,h1,h2⟩:=vH hw hs rs as' vs' has C8;have key:∃x,(match r with | .tmp t=>pure (tmps.getD t EE) | .cell a t=>do loadVar t (<- asAddr (tmps.getD a EE)):Sem BE).run P w=.ok x w/\ai g v x:=by
    cases r with
    |tmp t=>simp only[aZL,AG]at ha;subst ha;simp only[aYq,AG]at qy;subst qy;exact⟨_,siT,hs.2 t⟩
    |cell t ty=>
     simp only[aZL]at ha;obtain⟨⟨n,agg⟩,vg,rfl⟩:=map_some ha;simp only[aYq]at qy;split at qy
     ·rename_i cs hr;obtain⟨b,off,ys,e,ax,hl,hc⟩:=eI hw hr (hs.2 t);have cl:=aEF (P:=P) vg w b off ys (by rw[<- hl.1];exact ax) hc;exact⟨_,by
       show (do loadVar ty (<- asAddr (tmps.getD t EE)):Sem BE).run P w=_;rw[e,BS,show (asAddr (Value.pointer (N1 ⟨b,off,N2⟩))).run P w=.ok ⟨b,off,N2⟩ w from rfl];exact cl,wQ qy hl⟩
     cases qy
   obtain⟨x,lz,C9⟩:=key;refine⟨x::xs, ?_,by simp[h2.1],λi a' y Y3 hy=>?_⟩
   ·unfold xA at h1 ⊢;rw[List.mapM_cons];rw[BS,lz];simp only[BJ];rw[BS,h1];simp
   cases i with
   |zero=>simp at Y3 hy;subst Y3;subst hy;exact C9
   |succ i=>exact h2.2 i a' y (by simpa using Y3) (by simpa using hy)
  cases h
def aR8:List BE->BE
 | [x]=>x
 |xs=>.tuple xs.toArray
def aLD{fn:Func}{tmps:Array BE}{xs:List BE}(h:(xA tmps fn.results.toList).run P w=.ok xs w):(results fn tmps).run P w=.ok (aR8 xs) w:=by
 unfold results;rw[Array.mapM_eq_mapM_toList];have h':((fn.results.toList.mapM λ| .tmp t=>pure (tmps.getD t EE) | .cell a t=>do loadVar t (<- asAddr (tmps.getD a EE)):Sem (List BE))).run P w=.ok xs w:=h;rw[map_eq_pure_bind];simp only[bind_assoc,pure_bind];rw[BS];refine (congrArg (λr=>DL r _) h').trans ?_;simp only[BJ,FT];clear h h';cases xs with
 |nil=>rfl
 |cons x r=>cases r with
  |nil=>rfl
  |cons y r=>rfl
end
section
variable {A:af}{n:Nat}{c:Ctx}{s:gp}
def gT{x:ag}:cY A 0 c x s=none:=rfl
def xB:cY A (n+1) c .skip s=N1 (.normal,s):=rfl
def qG:cY A (n+1) c .bad s=none:=rfl
def iS{d:Bool}{ops:List ae}:cY A (n+1) c (.region d ops) s=match iO (dD A n) c d ops s with | some s'=>N1 (.normal,s') | none=>none:=rfl
def iD{x y:ag}:cY A (n+1) c (.seq x y) s=match cY A n c x s with | some (.normal,s')=>cY A n c y s' | r=>r:=rfl
def iT{t:aa}{x y:ag}:cY A (n+1) c (.cond t x y) s=match t.ev s.ρ with | .bool Pa=>cY A n c x s | .bool Po=>cY A n c y s | _=>none:=rfl
def eP{id:Nat}{x:ag}:cY A (n+1) c (.block id x) s=match cY A n c x s with
  |some (.exit id',s')=>if id'=id then N1 (.normal,s')else N1 (.exit id',s')
  |r=>r:=rfl
def gU{x:ag}:cY A (n+1) c (.loop x) s=match cY A n c x s with | some (.normal,s')=>cY A n c (.loop x) s' | r=>r:=rfl
def aCb{id:Nat}:cY A (n+1) c (.exit id) s=N1 (.exit id,s):=rfl
def aDZ:cY A (n+1) c .ret s=N1 (.ret,s):=rfl
def vI{ts:List (Nat×Nat)}:cY A (n+1) c (.frz ts) s=match nX c s ts with | some s'=>N1 (.normal,s') | none=>none:=rfl
def iU{x:aa}{ps:LN}{body:ag}:cY A (n+1) c (.dz x ps body) s=match x.ev s.ρ,c.site ps.head? with
   |.fn f first ay,N1 id=>
    if id<s.H.length/\eZ c s.H=Pa then
     match dD A n f (first++.yld id (bH s.H id)::ay) (make s.H id λv=>.rnd v c.base c.sites ps body s.ρ Po N2)with
     |some (_,H2,wr)=>match H2[id]? with
      |some (.rnd v _ _ _ _ _ Po pend)=>if v=bH s.H id/\eZ c H2=Pa then N1 (pend.getD .normal,⟨s.ρ,H2.set id (.gone v),bE c.base s.wr (id::wr)⟩)else N2
      |_=>N2
     |none=>N2
    else N2
   |_,_=>none:=rfl
def oK{ev:Ctx->ag->gp->Option (bf×gp)}{H:LO}{args:LA}{r:AV×LO×LN}(h:sO ev H args=N1 r):∃o v xs base sites ps asg body ρ s0 b1 t1 p1 c1 r1 e s,args=.own 0 []::.yld o v::xs/\H[o]? = N1 (.rnd v base sites ps (.seq asg body) ρ Po N2)/\xs.length=ps.length /\ ev ⟨base,sites++[YF+o,YF+v]⟩ asg ⟨dH ρ ps xs,H,[]⟩=N1 (.normal,s0)/\s0.H[o]? = N1 (.rnd v b1 t1 p1 c1 r1 Po N2) /\ ev ⟨base,sites++[YF+o,YF+v]⟩ body ⟨s0.ρ,s0.H.set o (.rnd v b1 t1 p1 c1 r1 Pa N2),s0.wr⟩=N1 (e,s) /\ ∃b' s' p' c' r',s.H[o]? = N1 (.rnd v b' s' p' c' r' Pa N2) /\ r=(.bool (decide (e=.normal)),s.H.set o (.rnd v b' s' p' c' r' Po (if e=.normal then N2 else N1 e)),FM base (H.length - base)++(o::s.wr)):=by
 unfold sO at h;split at h
 ·rename_i o v xs;split at h
  ·rename_i v' base sites ps asg body ρ hH;split at h
   ·rename_i hc;obtain⟨rfl,ax⟩:=hc;split at h
    ·rename_i s0 xt;split at h
     ·rename_i v1 b1 t1 p1 c1 r1 xu;split at h
      ·rename_i qy;subst qy;split at h
       ·rename_i e s je;split at h
        ·rename_i v2 b' s' p' c' r' hs;split at h
         ·rename_i hv;subst hv;cases h;exact⟨o,_,xs,base,sites,ps,asg,body,ρ,s0,b1,t1,p1,c1,r1,e,s,rfl,hH,ax,xt,xu,je,_,_,_,_,_,hs,rfl⟩
         cases h
        cases h
       cases h
      cases h
     cases h
    cases h
   cases h
  cases h
 cases h
def sS{f:Nat}{args:LA}{H:LO}{r:AV×LO×LN}(h:dD A n f args H=N1 r):(∃p v,A.bq f=N1 p/\p args H=N1 v/\r=cT H v) ∨ (∃fn s' e r',A.fn f=N1 fn/\cY A n ⟨H.length,fn.sites⟩ fn.body (nF fn args H)=N1 (e,s')/\(e=.normal∨e=.ret)/\aA4 H.length fn s'=N1 r'/\r=cJ H.length r'/\args.length<=fn.ntmps) ∨ (A.fn f=N2/\sO (cY A n) H args=N1 r):=by
 unfold dD qL at h;split at h
 ·rename_i v hv;cases h;cases hp:A.bq f with
  |none=>rw[hp]at hv;cases hv
  |some p=>rw[hp]at hv;exact .inl ⟨p,v,rfl,hv,rfl⟩
 split at h
 ·rename_i hf;exact .inr (.inr ⟨hf,h⟩)
 rename_i fn hf;split at h;rotate_left
 ·cases h
 rename_i hN;split at h
 ·rename_i s' he;split at h
  ·rename_i r' hr;cases h;exact .inr (.inl ⟨fn,s',_,r',hf,he,.inl rfl,hr,rfl,hN⟩)
  cases h
 ·rename_i s' he;split at h
  ·rename_i r' hr;cases h;exact .inr (.inl ⟨fn,s',_,r',hf,he,.inr rfl,hr,rfl,hN⟩)
  cases h
 cases h
def aTA{base:Nat}{H H':LO}{v v':AV}{l:LN}(h:aDR base H v=N1 (v',H',l)):Fr H H' l:=by
 unfold aDR at h;split at h
 ·split at h
  ·cases h;exact .refl _ _
  split at h
  ·split at h
   ·cases h;exact aDX _ _
   cases h
  cases h
 ·split at h
  ·split at h
   ·cases h;exact Fr.set _ _ _
   cases h;exact .refl _ _
  cases h;exact .refl _ _
 exact aFX h
def aMK:∀{vs vs':LA} {H H':LO} {l:LN},aBv H vs=N1 (vs',H',l)->Fr H H' l
 | [],vs',H,H',l,h=>by simp only[aBv,AG,BK]at h;obtain⟨_,rfl,rfl⟩:=h;exact .refl _ _
 |v::vs,vs',H,H',l,h=>by
  unfold aBv at h;split at h
  ·cases h
  rename_i hf;split at h
  ·cases h
  rename_i hr;cases h;exact (aFX hf).trans (aMK hr)
def aEL{base:Nat}{fn:bw}{s:gp}{r:AV×LO×LN}(h:aA4 base fn s=N1 r):∃vs,aIS s.H s.ρ fn.results=N1 vs /\ ((∃v v' H' l,vs=[v]/\aDR base s.H v=N1 (v',H',l)/\r=(v',H',bE base s.wr l)) ∨ (∃vs' H' l,vs.length≠1/\aBv s.H vs=N1 (vs',H',l)/\r=(.tup vs',H',bE base s.wr l))):=by
 unfold aA4 at h;split at h
 ·cases h
 ·rename_i v hv;split at h
  ·rename_i v' H' l hf;cases h;exact⟨[v],hv,.inl ⟨v,v',H',l,rfl,hf,rfl⟩⟩
  cases h
 rename_i vs bl hv;split at h
 ·rename_i vs' H' l hf;cases h;refine⟨vs,hv,.inr ⟨vs',H',l,λe=>?_,hf,rfl⟩⟩;obtain⟨x,rfl⟩:=FQ.1 e;exact bl x rfl
 cases h
def aP2{base:Nat}{fn:bw}{s:gp}{r:AV×LO×LN}(h:aA4 base fn s=N1 r):FrB base s ⟨s.ρ,r.2.1,r.2.2⟩:=by
 obtain⟨vs,_,⟨v,v',H',l,rfl,hf,rfl⟩ | ⟨vs',H',l,_,hf,rfl⟩⟩:=aEL h
 ·exact FrB.of (aTA hf)
 exact FrB.of (aMK hf)
def aK9:∀(l:List (Nat×ah)) (H:LO),Fr H (eU H l) (l.map EM)
 | [],H=>.refl _ _
 | (o,x)::r,H=>(Fr.set H o x).trans (aK9 r (H.set o x))
def Fr.more{H H':LO}{wr:LN}(h:Fr H H' wr)(l:LO):Fr H (H'++l) wr:=⟨by have:=h.1;simp;omega,λo ho hn=>by rw[BM (by have:=h.1;omega)];exact h.2 o ho hn⟩
def aEM(jz:∀(c:Ctx) (x:ag) (s:gp) e s',cY A n c x s=N1 (e,s')->FrB c.base s s'):sQ (dD A n):=by
 intro f args H v H' wr h;rcases sS h with⟨p,v1,_,_,hr⟩ | ⟨fn,s',e,r',_,he,_,hf,hr,_⟩ | ⟨_,hr⟩
 ·cases hr;exact (aK9 _ _).more _
 ·have h1:=jz _ _ _ _ _ he;have h2:=h1.trans (aP2 hf);obtain⟨v1,H1,dc⟩:=r';have h3:Fr H H1 dc:=by
   refine⟨?_,λo ho hn=>?_⟩
   ·have:=h2.1;simp only[nF,BA]at this;omega
   have:=h2.2.2 o (by simp only[nF,BA];omega) ho hn;rw[this];simp only[nF];rw[BM ho]
  simp only[cJ]at hr;split at hr
  ·cases hr;refine⟨by have:=h3.1;simp;omega,λo ho hn=>?_⟩;rw[<- h3.2 o ho hn];simp[ho]
  cases hr;exact h3
 obtain⟨o,ve,xs,base,sites,ps,asg,body,ρ,s0,b1,t1,p1,c1,r1,e,s1,rfl,hH,ax,xt,xu,je,b',s',p',c',r',hs,pw⟩:=oK hr;simp only[BK]at pw;obtain⟨_,rfl,rfl⟩:=pw;have h0:=jz _ _ _ _ _ xt;have h1:=jz _ _ _ _ _ je;refine⟨by have a0:=h0.1;have a1:=h1.1;simp only[CP]at a0 a1 ⊢;omega,λq hq hn=>?_⟩;simp only[AY,BD,not_or,List.mem_range'_1]at hn;obtain⟨lx,xh,Ck⟩:=hn;rw[getElem?_set_ne' _ _ (Ne.symm xh)];have h2:=h1.2.2 q (by have a0:=h0.1;simp only[CP]at a0 ⊢;omega) (by show q<base;omega) Ck;rw[h2];have h3:=h0.2.2 q hq (by show q<base;omega) λhm=>Ck (h1.2.1 q hm);rw[<- h3];exact getElem?_set_ne' _ _ (Ne.symm xh)
def fJ:∀(n:Nat) (c:Ctx) (x:ag) (s:gp) e s',cY A n c x s=N1 (e,s')->FrB c.base s s'
 |0,c,x,s,e,s',h=>by rw[gT]at h;cases h
 |n+1,c,x,s,e,s',h=>by
  have az:sQ (dD A n):=aEM (fJ n);cases x with
  |skip=>rw[xB]at h;cases h;exact .refl _ _
  |bad=>rw[qG]at h;cases h
  |region d ops=>
   rw[iS]at h;split at h
   ·rename_i s1 hr;cases h;exact aLC az hr
   cases h
  |seq a b=>
   rw[iD]at h;split at h
   ·rename_i s1 hr;exact (fJ n _ _ _ _ _ hr).trans (fJ n _ _ _ _ _ h)
   exact fJ n _ _ _ _ _ h
  |cond t a b=>
   rw[iT]at h;split at h
   ·exact fJ n _ _ _ _ _ h
   ·exact fJ n _ _ _ _ _ h
   cases h
  |block id b=>
   rw[eP]at h;split at h
   ·rename_i hr;split at h<;>(cases h;exact fJ n _ _ _ _ _ hr)
   exact fJ n _ _ _ _ _ h
  |loop b=>
   rw[gU]at h;split at h
   ·rename_i s1 hr;exact (fJ n _ _ _ _ _ hr).trans (fJ n _ _ _ _ _ h)
   exact fJ n _ _ _ _ _ h
  |exit id=>rw[aCb]at h;cases h;exact .refl _ _
  |ret=>rw[aDZ]at h;cases h;exact .refl _ _
  |frz ts=>
   rw[vI]at h;split at h
   ·rename_i s1 hr;cases h;exact sR _ _ _ hr
   cases h
  |dz x ps body=>
   rw[iU]at h;split at h
   ·rename_i f first ay id hx hid
    split at h
    ·rename_i hc;split at h
     ·rename_i v2 H2 wr kq;split at h
      ·rename_i v b' s' p' c' r' pend hH2;split at h
       ·cases h;have h1:=az _ _ _ _ _ _ kq;have h2:Fr s.H (H2.set id (.gone v)) (id::wr):=by
         refine⟨by have:=h1.1;simp only[make,CP]at this ⊢;exact this,λq hq hn=>?_⟩;simp only[BD,not_or]at hn;rw[getElem?_set_ne' _ _ (Ne.symm hn.1),h1.2 q (by simpa [make]using hq) hn.2,make,getElem?_set_ne' _ _ (Ne.symm hn.1)]
        exact FrB.of h2
       cases h
      cases h
     cases h
    cases h
   cases h
def aKa(n:Nat):sQ (dD A n):=aEM (fJ n)
end
abbrev bN:=Nat->AV
def upd(ρ:bN)(d:Nat)(v:AV):bN:=λt=>if t=d then v else ρ t
def zX(ρ:bN):Option Nat->AV->bN
 |some d,v=>upd ρ d v
 |none,_=>ρ
def ck(l:LA):bN:=λt=>(l[t]?).getD .undef
def aa.at(ρ:bN):aa->AV
 |.tmp t=>ρ t
 |.const v=>v
def aa.ka(l:LA)(x:aa):x.ev l=x.at (ck l):=by cases x<;>rfl
def aa.A4(l:LA):aa.ev l=aa.at (ck l):=funext λx=>x.ka l
def mK(ρ:bN)(cells:LA):List (Nat×Nat×aa)->Option LA
 | []=>N1 cells
 | (off,size,x)::r=>
  let vs:=(x.at ρ).cells
  if vs.length=size/\off+size<=cells.length/\vs.all AV.ak then mK ρ (nV cells off vs) r else N2
def nZ(ρ:bN)(k:Nat)(rows:List LA):List (Nat×aa)->Option (List LA)
 | []=>N1 rows
 | (i,x)::r=>
  let vs:=(x.at ρ).strip.cells
  if vs.length=k/\i<rows.length/\vs.all AV.still then nZ ρ k (rows.set i vs) r else N2
def mM(ρ:bN)(k:Nat)(rows:List LA):List (Nat×aa)->Option (List LA)
 | []=>N1 rows
 | (i,x)::r=>
  let vs:=(x.at ρ).strip.cells
  if vs.length=k/\i<rows.length/\vs.all AV.ak then mM ρ k (rows.set i vs) r else N2
def vA(H:LO)(ρ:bN):df->Option AV
 |.mov x=>N1 (x.at ρ)
 |.pick c a b=>match c.at ρ with
  |.bool t=>N1 (if t then a.at ρ else b.at ρ)
  |_=>N2
 |.alloc zs=>if zs.all AV.still then N1 (.ep (zs.map AV.aj) 0)else N2
 |.box k x=>
  let vs:=(x.at ρ).strip.cells
  if vs.length=k/\vs.all AV.still then N1 (.ep vs 0)else N2
 |.build zs parts=>(mK ρ zs parts).map .agg
 |.bsl k zs n parts=>(nZ ρ k (AX n zs) parts).map (.sl Pa)
 |.mks _ bytes zs len cap=>match len.at ρ,cap.at ρ with
  |.int _ n,.int _ c=>if 0<=n/\n=c/\bP n.toNat bytes then N1 (.sl Pa (AX n.toNat (zs.map AV.aj)))else N2
  |_,_=>N2
 |.load k agg x=>match bC H k (x.at ρ)with
  |some cs=>eD agg cs
  |none=>N2
 |.cz x=>match x.at ρ with
  |.ptr o v off=>N1 (.ptr o v off)
  |.vp o v n k i off=>N1 (.vp o v n k i off)
  |.ep row off=>N1 (.ep row off)
  |.fn f a b=>N1 (.fn f a b)
  |_=>N2
 |.ky neg x=>match x.at ρ with
  |.sl _ (_::_) | .sr ..=>N1 (.bool neg)
  |.ar=>N1 (.bool !neg)
  |_=>N2
 |.bin op ek x y=>kJ op ek (x.at ρ) (y.at ρ)
 |.un op x=>unV op (x.at ρ)
 |.conv c x=>pT H c (x.at ρ)
 |.mkf f first ay=>if (first.map (aa.at ρ)).all AV.still&&(ay.map (aa.at ρ)).all AV.still then N1 (.fn f (first.map λx=>(x.at ρ).aj) (ay.map λx=>(x.at ρ).aj))else N2
 |.fm x lo hi=>match x.at ρ with
  |.str s=>match dU s.length (lo.map (aa.at ρ)) (hi.map (aa.at ρ)) N2 with
   |some (l,h,_)=>N1 (.str ((s.take h).drop l))
   |none=>N2
  |_=>N2
 |.gw k x lo hi mx=>match x.at ρ with
  |.sl full rows=>match dU rows.length (lo.map (aa.at ρ)) (hi.map (aa.at ρ)) (mx.map (aa.at ρ))with
   |some (l,h,m)=>if dF k rows&&(!mx.isSome || hi.isSome)then N1 (.sl (decide (m=h)&&(mx.isSome || full)) ((rows.take h).drop l))else N2
   |none=>N2
  |.sr o v n=>if mx.isSome then N2 else match dU n (lo.map (aa.at ρ)) (hi.map (aa.at ρ)) N2 with
   |some (l,h,_)=>if hi.isSome&&decide (l=0)then N1 (.srw o v n h)else if h=n then N1 (.srv o v n k l)else N2
   |none=>N2
  |_=>N2
 |.view k x lo=>match x.at ρ with
  |.sl full rows=>match dU rows.length (lo.map (aa.at ρ)) N2 N2 with
   |some (l,h,m)=>if dF k rows then N1 (.sl (decide (m=h)&&full) ((rows.take h).drop l))else N2
   |none=>N2
  |.sr o v n=>match H[o]? with
   |some (.vec v' _ rows)=>if v'=v/\rows.length=n then match iL 0 n (lo.map (aa.at ρ))with
     |some l=>N1 (.srv o v n k l)
     |none=>N2
    else N2
   |_=>N2
  |_=>N2
 |.na n k x lo hi mx=>match x.at ρ with
  |.ep row off=>if off+n*k<=row.length then
    let rows:=chunk k n (row.drop off)
    match dU n (lo.map (aa.at ρ)) (hi.map (aa.at ρ)) (mx.map (aa.at ρ))with
    |some (l,h,m)=>if !mx.isSome || hi.isSome then N1 (.sl (decide (m=h)) ((rows.take h).drop l))else N2
    |none=>N2
   else N2
  |_=>N2
 |.fa off x=>match x.at ρ with
  |.ptr o v off0=>N1 (.ptr o v (off0+off))
  |.vp o v n k i off0=>N1 (.vp o v n k i (off0+off))
  |.ep row off0=>N1 (.ep row (off0+off))
  |_=>N2
 |.fld off k agg x=>match x.at ρ with
  |.agg cs=>if off+k<=cs.length then eD agg ((cs.drop off).take k)else N2
  |_=>N2
 |.iaV x i k=>match x.at ρ,i.at ρ with
  |.sl _ rows,.int _ n=>if 0<=n then match rows[n.toNat]? with
    |some row=>if row.length=k then N1 (.ep row 0)else N2
    |none=>N2
   else N2
  |.sr o v len,.int _ n=>if 0<=n/\n<len then N1 (.vp o v len k n.toNat 0)else N2
  |_,_=>N2
 |.iaA len k x i=>match x.at ρ,i.at ρ with
  |.ptr o v off,.int _ n=>if 0<=n/\n<len then N1 (.ptr o v (off+n.toNat*k))else N2
  |.ep row off,.int _ n=>if 0<=n/\n<len then N1 (.ep row (off+n.toNat*k))else N2
  |_,_=>N2
 |.ixS x i=>match x.at ρ,i.at ρ with
  |.str s,.int _ n=>if 0<=n then match s[n.toNat]? with
    |some b=>N1 (.int .u8 b.toNat)
    |none=>N2
   else N2
  |_,_=>N2
 |.ixA len k agg x i=>match x.at ρ,i.at ρ with
  |.agg cs,.int _ n=>if 0<=n/\n<len/\n.toNat*k+k<=cs.length then eD agg ((cs.drop (n.toNat*k)).take k)else N2
  |_,_=>N2
 |.fg x=>match x.at ρ with
  |.str s=>N1 (.int .i64 s.length)
  |_=>N2
 |.qk x=>match x.at ρ with
  |.sl _ rows=>N1 (.int .i64 rows.length)
  |.sr _ _ n=>N1 (.int .i64 n)
  |.ar=>N1 (.int .i64 0)
  |_=>N2
 |.zb n=>N1 (.int .i64 n)
 |.mm mx xs=>mmV mx (xs.map (aa.at ρ))
 |.ext i x=>match x.at ρ with
  |.tup vs=>vs[i]?
  |_=>N2
 |.km t x=>if (x.at ρ).tn then N1 (.ifc t (x.at ρ))else N2
 |.look zero m k ok=>match m.at ρ with
  |.mp o v=>match H[o]? with
   |some (.map v' es)=>if v'=v then
     match iB (k.at ρ) es 0 with
     |some (N1 (_,x))=>if ok then N1 (.tup [x,.bool Pa])else N1 x
     |some N2=>if ok then N1 (.tup [zero,.bool Po])else N1 zero
     |none=>N2
    else N2
   |_=>N2
  |.fmp ks vs=>match iB (k.at ρ) (ks.zip vs) 0 with
   |some (N1 (_,x))=>if ok then N1 (.tup [x,.bool Pa])else N1 x
   |some N2=>if ok then N1 (.tup [zero,.bool Po])else N1 zero
   |none=>N2
  |_=>N2
 |_=>N2
def aCc(ρ:bN):df->LN
 |.load _ _ x=>match x.at ρ with
  |.ptr o _ _=>[o]
  |.vp o _ _ _ _ _=>[o]
  |_=>[]
 |.conv .b2s x=>match x.at ρ with
  |.sr o _ _=>[o]
  |.srv o _ _ _ _=>[o]
  |.srw o _ _ _=>[o]
  |_=>[]
 |.look _ m _ _=>match m.at ρ with
  |.mp o _=>[o]
  |_=>[]
 |.view _ x _=>match x.at ρ with
  |.sr o _ _=>[o]
  |_=>[]
 |_=>[]
def xC(ρ:bN)(k:Nat)(H:LO)(rows:List LA):List (Nat×aa)->Option (List LA×LO×LN)
 | []=>N1 (rows,H,[])
 | (i,x)::r=>
  match fix H (x.at ρ)with
  |some (v,H',l)=>
   if v.cells.length=k/\i<rows.length/\v.cells.all AV.still then
    match xC ρ k H' (rows.set i v.cells) r with
    |some (bt,H'',l')=>N1 (bt,H'',l++l')
    |none=>N2
   else N2
  |none=>N2
def aD0(call:Nat->LA->LO->Out)(H:LO)(ρ:bN)(site:Option Nat):df->Out
 |.alloc zs=>match site with
  |some id=>if id<H.length then N1 (.ptr id (bH H id) 0,make H id (.box · zs),[id])else N2
  |none=>N2
 |.gv ty zs=>match site with
  |some id=>if id<H.length then N1 (.ptr id (bH H id) 0,make H id (.cw · ty zs),[id])else N2
  |none=>N2
 |.box k x=>match site with
  |some id=>if id<H.length/\(x.at ρ).cells.length=k/\(x.at ρ).cells.all AV.ak then N1 (.ptr id (bH H id) 0,make H id (.box · (x.at ρ).cells),[id])else N2
  |none=>N2
 |.tbx ty k x=>match site with
  |some id=>if id<H.length/\(x.at ρ).cells.length=k/\(x.at ρ).cells.all AV.ak then N1 (.ptr id (bH H id) 0,make H id (.cw · ty (x.at ρ).cells),[id])else N2
  |none=>N2
 |.store k x v=>if (v.at ρ).cells.length=k/\(v.at ρ).cells.all AV.ak then
   match storeCells H (v.at ρ).cells (x.at ρ)with
   |some (H',wr)=>N1 (.undef,H',wr)
   |none=>N2
  else N2
 |.bsl k zs n parts=>match site with
  |some id=>match mM ρ k (AX n zs) parts with
   |some rows=>if id<H.length then N1 (.sr id (bH H id) n,make H id (.vec · k rows),[id])else N2
   |none=>N2
  |none=>match xC ρ k H (AX n zs) parts with
   |some (rows,H',wr)=>N1 (.sl Pa rows,H',wr)
   |none=>N2
 |.mks k bytes zs len cap=>match len.at ρ,cap.at ρ with
  |.int _ n,.int _ c=>
   if 0<=n/\n=c/\bP n.toNat bytes then
    match site with
    |some id=>if id<H.length then N1 (.sr id (bH H id) n.toNat,make H id (.vec · k (AX n.toNat (zs.map AV.aj))),[id])else N2
    |none=>N1 (.sl Pa (AX n.toNat (zs.map AV.aj)),H,[])
   else match site with
    |some id=>if n=0/\0<c/\bP c.toNat bytes/\id<H.length then N1 (.sr id (bH H id) 0,make H id (.vec · k []),[id])else N2
    |none=>N2
  |_,_=>N2
 |.app k bytes s x=>eX H site k bytes (s.at ρ) (x.at ρ)
 |.ni ty k bytes s x=>vB H site ty k bytes (s.at ρ) (x.at ρ)
 |.dm f args=>cX call H site (f.at ρ) (args.map (aa.at ρ))
 |.ee f args=>iN call H site (f.at ρ) (args.map (aa.at ρ))
 |.nb tab x args=>match x.at ρ with
  |.ifc t v=>match tab.lookup t with
   |some f=>cX call H site (.fn f [v] []) (args.map (aa.at ρ))
   |none=>N2
  |_=>N2
 |.cpy k x y=>match x.at ρ with
  |.srv o v n k' lo=>match H[o]? with
   |some (.vec v' k2 rows)=>match cG H (y.at ρ)with
    |some new=>if new.isEmpty then N1 (.int .i64 0,H,[])else if v'=v/\rows.length=n/\k2=k/\k'=k/\dF k new/\lo+new.length<=n then
      N1 (.int .i64 (new.length:Nat),H.set o (.vec v k (rows.take lo++new++rows.drop (lo+new.length))),[o])
     else N2
    |none=>N2
   |_=>N2
  |_=>N2
 |.jn=>match site with
  |some id=>if id<H.length then N1 (.mp id (bH H id),make H id (.map · []),[id])else N2
  |none=>N2
 |.ins m k v=>match m.at ρ,k.at ρ with
  |.mp o ver,key=>match H[o]? with
   |some (.map v' es)=>
    if v'=ver/\(aJK key key).isSome/\(v.at ρ).strip.cells.all AV.still then
     match iB key es 0 with
     |some (N1 (i,_))=>N1 (.undef,H.set o (.map ver (es.set i (key,(v.at ρ).strip))),[o])
     |some N2=>N1 (.undef,H.set o (.map ver (es++[(key,(v.at ρ).strip)])),[o])
     |none=>N2
    else N2
   |_=>N2
  |_,_=>N2
 |_=>N2
def aD1(l:LA):∀(ps:List (Nat×Nat×aa)) (cells:LA),iA l cells ps=mK (ck l) cells ps
 | [],_=>rfl
 | (off,size,x)::r,cells=>by
  unfold iA mK;simp only[aa.ka,aD1 l r]
def aEN(l:LA)(k:Nat):∀(ps:List (Nat×aa)) (rows:List LA),lW l k rows ps=nZ (ck l) k rows ps
 | [],_=>rfl
 | (i,x)::r,rows=>by
  unfold lW nZ;simp only[aa.ka,aEN l k r]
def aD2(l:LA)(k:Nat):∀(ps:List (Nat×aa)) (rows:List LA),jW l k rows ps=mM (ck l) k rows ps
 | [],_=>rfl
 | (i,x)::r,rows=>by
  unfold jW mM;simp only[aa.ka,aD2 l k r]
def aI8(l:LA)(k:Nat):∀(ps:List (Nat×aa)) (H:LO) (rows:List LA),nW l k H rows ps=xC (ck l) k H rows ps
 | [],_,_=>rfl
 | (i,x)::r,H,rows=>by
  unfold nW xC;simp only[aa.ka,aI8 l k r];rfl
def aSN(H:LO)(l:LA)(o:df):evR H l o=vA H (ck l) o:=by cases o<;>simp only[evR,vA,aa.ka,aa.A4,aD1,aEN]<;>rfl
def aTB(l:LA)(o:df):aIR l o=aCc (ck l) o:=by
 cases o with
 |conv c x=>cases c<;>simp only[aIR,aCc,aa.ka]<;>rfl
 |_=>first | rfl | (simp only[aIR,aCc,aa.ka];done)|(simp only[aIR,aCc,aa.ka];rfl)
def aSO(call:Nat->LA->LO->Out)(H:LO)(l:LA)(site:Option Nat)(o:df):evW call H l site o=aD0 call H (ck l) site o:=by cases o<;>simp only[evW,aD0,aa.ka,aa.A4,aD2,aI8]<;>rfl
def aP3(c1 c2:Nat->LA->LO->Out):Prop:=∀f args H r,c1 f args H=N1 r->c2 f args H=N1 r
section
variable {c1 c2:Nat->LA->LO->Out}(hle:aP3 c1 c2)
include hle
def aEO{H:LO}{site:Option Nat}{f:AV}{args:LA}{r}(h:cX c1 H site f args=N1 r):cX c2 H site f args=N1 r:=by
 unfold cX at h ⊢;split at h
 ·split at h
  ·cases h
  split at h
  ·cases h
  rename_i hc;rw[hle _ _ _ _ hc];exact h
 ·split at h
  ·cases h
  split at h
  ·cases h
  rename_i hc;rw[hle _ _ _ _ hc];exact h
 cases h
def aKb{H:LO}{site:Option Nat}{f:AV}{args:LA}{r}(h:iN c1 H site f args=N1 r):iN c2 H site f args=N1 r:=by
 unfold iN at h ⊢;split at h
 ·split at h
  ·cases h
  rename_i hc;rw[hle _ _ _ _ hc];exact h
 cases h
def aML{H:LO}{ρ:LA}{site:Option Nat}{o:df}{r}(h:evW c1 H ρ site o=N1 r):evW c2 H ρ site o=N1 r:=by
 cases o<;>first | exact h | skip
 ·exact aEO hle h
 ·exact aKb hle h
 rename_i tab x args;simp only[evW]at h ⊢;generalize aa.ev ρ x=y at h ⊢;cases y with
 |ifc t v=>
  dsimp only at h ⊢;generalize tab.lookup t=z at h ⊢;cases z with
  |none=>cases h
  |some f=>exact aEO hle h
 |_=>cases h
def aKc{c:Ctx}{d:Bool}{H:LO}{ρ:LA}{o:ae}{r}(h:aOI c1 c d H ρ o=N1 r):aOI c2 c d H ρ o=N1 r:=by
 unfold aOI at h ⊢;split at h
 ·rename_i hw;rw[Zy hw];exact aML hle h
 rename_i hw;rw[Zx hw];exact h
def aBa{c:Ctx}:∀{ops:List ae} {s s':gp},jL c1 c ops s=N1 s'->jL c2 c ops s=N1 s'
 | [],_,_,h=>h
 |o::r,s,s',h=>by
  unfold jL at h ⊢;split at h
  ·rename_i hg;rw[Zy hg];split at h
   ·rename_i hw;rw[Zy hw];split at h
    ·rename_i he;rw[aKc hle he];exact aBa h
    cases h
   rename_i hw;rw[Zx hw];exact aBa h
  cases h
def aI9{c:Ctx}{H:LO}{ρ:LA}{o:ae}{r}(h:aFJ c1 c H ρ o=N1 r):aFJ c2 c H ρ o=N1 r:=by
 unfold aFJ at h ⊢;split at h
 ·exact h
 split at h
 ·rename_i hw;rw[Zy hw];split at h
  ·rename_i he;rw[aML hle he];exact h
  cases h
 rename_i hw;rw[Zx hw];exact h
def xD{c:Ctx}:∀{i:Nat} {ops:List ae} {s:gp} {r},nT c1 c i ops s=N1 r->nT c2 c i ops s=N1 r
 |_,[],_,_,h=>h
 |i,o::r,s,s',h=>by
  unfold nT at h ⊢;split at h
  ·rename_i hg;rw[Zy hg];split at h
   ·rename_i hw;rw[Zy hw];split at h
    ·rename_i he;rw[aI9 hle he];dsimp only;split at h
     ·rename_i hr;rw[xD hr];exact h
     cases h
    cases h
   rename_i hw;rw[Zx hw];exact xD h
  cases h
def aJ4{c:Ctx}{d:Bool}{ops:List ae}{s s':gp}(h:iO c1 c d ops s=N1 s'):iO c2 c d ops s=N1 s':=by
 unfold iO at h ⊢;split at h
 ·rename_i hd;rw[Zy hd];split at h
  ·rename_i hp;split at h
   ·rename_i hr;rw[xD hle hr];exact h
   cases h
  cases h
 rename_i hd;rw[Zx hd];split at h
 ·cases h
 rename_i O9;rw[Zx O9];exact aBa hle h
end
section
variable {A:af}
def oU{n f:Nat}{args:LA}{H:LO}{fn:bw}{s':gp}{e:bf}{r}(hp:(A.bq f).bind (· args H)=N2)(hf:A.fn f=N1 fn) (hc:cY A n ⟨H.length,fn.sites⟩ fn.body (nF fn args H)=N1 (e,s')) (he:e=.normal∨e=.ret) (hr:aA4 H.length fn s'=N1 r) (hN:args.length<=fn.ntmps):dD A n f args H=N1 (cJ H.length r):=by unfold dD qL;rw[hp,hf];dsimp only;rw[Zy hN,hc];rcases he with rfl | rfl<;>(dsimp only;rw[hr])
def aAe{ev:Ctx->ag->gp->Option (bf×gp)}{H:LO}{o v:Nat}{xs:LA}:sO ev H (.own 0 []::.yld o v::xs)=match H[o]? with
  |some (.rnd v' base sites ps (.seq asg body) ρ Po N2)=>
   if v'=v/\xs.length=ps.length then
    match ev ⟨base,sites++[YF+o,YF+v]⟩ asg ⟨dH ρ ps xs,H,[]⟩ with
    |some (.normal,s0)=>match s0.H[o]? with
     |some (.rnd v1 b1 t1 p1 c1 r1 Po N2)=>
      if v1=v then
       match ev ⟨base,sites++[YF+o,YF+v]⟩ body ⟨s0.ρ,s0.H.set o (.rnd v b1 t1 p1 c1 r1 Pa N2),s0.wr⟩ with
       |some (e,s)=>match s.H[o]? with
        |some (.rnd v2 b2 s2 p2 c2 r2 Pa N2)=>if v2=v then N1 (.bool (decide (e=.normal)),s.H.set o (.rnd v b2 s2 p2 c2 r2 Po (if e=.normal then N2 else N1 e)),FM base (H.length - base)++(o::s.wr))else N2
        |_=>N2
       |none=>N2
      else N2
     |_=>N2
    |_=>N2
   else N2
  |_=>none:=rfl
def aJ5{e1 e2:Ctx->ag->gp->Option (bf×gp)}(he:∀c x s r,e1 c x s=N1 r->e2 c x s=N1 r){H:LO}{args:LA}{r}(h:sO e1 H args=N1 r):sO e2 H args=N1 r:=by obtain⟨o,v,xs,base,sites,ps,asg,body,ρ,s0,b1,t1,p1,c1,r1,e,s,rfl,hH,hl,xt,xu,je,b',s',p',c',r',hs,rfl⟩:=oK h;rw[aAe,hH];dsimp only;rw[Zy ⟨rfl,hl⟩,he _ _ _ _ xt];dsimp only;rw[xu];dsimp only;rw[Zy rfl,he _ _ _ _ je];dsimp only;rw[hs];dsimp only;rw[Zy rfl]
def tQ{n m:Nat}(jz:∀c x s r,cY A n c x s=N1 r->cY A m c x s=N1 r):aP3 (dD A n) (dD A m):=by
 intro f args H r h;unfold dD qL at h;split at h
 ·rename_i v hv;cases h;unfold dD qL;rw[hv]
 rename_i hv;split at h
 ·rename_i hf;unfold dD qL;rw[hv,hf];exact aJ5 jz h
 rename_i fn hf;split at h;rotate_left
 ·cases h
 rename_i hN;split at h
 ·rename_i s' he;split at h
  ·rename_i r' hr;cases h;exact oU hv hf (jz _ _ _ _ he) (.inl rfl) hr hN
  cases h
 ·rename_i s' he;split at h
  ·rename_i r' hr;cases h;exact oU hv hf (jz _ _ _ _ he) (.inr rfl) hr hN
  cases h
 cases h
def eJ:∀{n m:Nat},n<=m->∀(c:Ctx) (x:ag) (s:gp) r,cY A n c x s=N1 r->cY A m c x s=N1 r
 |0,_,_,c,x,s,r,h=>by rw[gT]at h;cases h
 |n+1,0,hn,_,_,_,_,_=>by omega
 |n+1,m+1,hn,c,x,s,r,h=>by
  have ih:=eJ (n:=n) (m:=m) omT;cases x with
  |skip=>exact h
  |bad=>exact h
  |region d ops=>
   rw[iS]at h ⊢;split at h
   ·rename_i hr;rw[aJ4 (tQ ih) hr];exact h
   cases h
  |seq a b=>
   rw[iD]at h ⊢;split at h
   ·rename_i hr;rw[ih _ _ _ _ hr];exact ih _ _ _ _ h
   rename_i bl;rw[ih _ _ _ _ h];split
   ·rename_i D0;exact (bl _ (h.trans D0)).elim
   rfl
  |cond t a b=>
   rw[iT]at h ⊢;split at h
   ·exact ih _ _ _ _ h
   ·exact ih _ _ _ _ h
   cases h
  |block id b=>
   rw[eP]at h ⊢;split at h
   ·rename_i hr;rw[ih _ _ _ _ hr];exact h
   rename_i bl;rw[ih _ _ _ _ h];split
   ·rename_i D0;exact (bl _ _ (h.trans D0)).elim
   rfl
  |loop b=>
   rw[gU]at h ⊢;split at h
   ·rename_i hr;rw[ih _ _ _ _ hr];exact ih _ _ _ _ h
   rename_i bl;rw[ih _ _ _ _ h];split
   ·rename_i D0;exact (bl _ (h.trans D0)).elim
   rfl
  |exit id=>exact h
  |ret=>exact h
  |frz ts=>exact h
  |dz x ps body=>
   rw[iU]at h ⊢;split at h
   ·split at h
    ·rename_i hc;rw[Zy hc];split at h
     ·rename_i kq;rw[tQ ih _ _ _ _ kq];exact h
     cases h
    cases h
   cases h
def oA{n m:Nat}(h:n<=m):aP3 (dD A n) (dD A m):=tQ (eJ h)
noncomputable def aG(A:af)(f:Nat)(args:LA)(H:LO):Out:=
 open Classical in if h:∃n r,dD A n f args H=N1 r then N1 h.choose_spec.choose else N2
def oL{n f:Nat}{args:LA}{H:LO}{r}(h:dD A n f args H=N1 r):aG A f args H=N1 r:=by
 have mn:∃n r,dD A n f args H=N1 r:=⟨n,r,h⟩;unfold aG;rw[dif_pos mn];have h2:=mn.choose_spec.choose_spec;rcases PI n mn.choose with hn | hn
 ·exact h2.symm.trans (oA hn _ _ _ _ h)
 have h3:=oA hn _ _ _ _ h2;exact h3.symm.trans h
def oM{f:Nat}{args:LA}{H:LO}{r}(h:aG A f args H=N1 r):∃n,dD A n f args H=N1 r:=by
 unfold aG at h;split at h
 ·rename_i mn;cases h;exact⟨_,mn.choose_spec.choose_spec⟩
 cases h
end
def nG{l:LA}{d:Nat}{v:AV}(h:d<l.length):ck (l.set d v)=upd (ck l) d v:=by
 funext t;unfold ck upd;by_cases e:t=d
 ·subst e;simp[h]
 rw[Zx e,List.getElem?_set_ne (Ne.symm e)]
def zE(ρ:bN):Option (Option Nat×Bool)->Option Bool
 |none=>N1 Pa
 |some (N2,_)=>N2
 |some (N1 t,want)=>match ρ t with
  |.bool b=>N1 (b==want)
  |.tup []=>N1 Po
  |_=>N2
def aKd(l:LA)(o:ae):zE (ck l) o.guard=if pF l o then N1 (wanted l o)else none:=by
 unfold zE pF wanted ck;cases hg:o.guard with
 |none=>simp
 |some p=>
  obtain⟨t,want⟩:=p;cases t with
  |none=>simp
  |some t=>
   simp only;cases ht:l[t]? with
   |none=>simp
   |some v=>cases v with
    |tup vs=>cases vs<;>simp
    |_=>simp
def nB(call:Nat->LA->LO->Out)(site:Option Nat)(inDraw:Bool)(ρ:bN)(H:LO)(op:df):Out:=
 if isW site inDraw op then aD0 call H ρ site op
 else match vA H ρ op with
  |some v=>N1 (v,H,[])
  |none=>N2
def aR9(call:Nat->LA->LO->Out)(c:Ctx)(d:Bool)(H:LO)(l:LA)(o:ae):aOI call c d H l o=nB call (c.site o.dst) d (ck l) H o.op:=by unfold aOI nB;rw[aSO,aSN];rfl
def aP4(N:Nat)(o:ae):Bool:=match o.dst with
 |some d=>decide (d<N)
 |none=>Pa
def sT{l:LA}{o:ae}{v:AV}(h:aP4 l.length o=Pa):ck (bg l o.dst v)=zX (ck l) o.dst v:=by
 unfold aP4 at h;unfold bg zX;cases hd:o.dst with
 |none=>rfl
 |some d=>rw[hd]at h;simp only[decide_eq_true_eq]at h;exact nG h
section
variable (call:Nat->LA->LO->Out)(c:Ctx)
def aD3:List ae->bN->LO->LN->(bN->LO->LN->Prop)->Prop | [],ρ,H,wr,K=>K ρ H wr | o::r,ρ,H,wr,K=>match zE ρ o.guard with | none=>False | some Po=>aD3 r (zX ρ o.dst (.tup [])) H wr K | some Pa=>match nB call (c.site o.dst) Po ρ H o.op with | none=>False | some (v,H',w)=>aD3 r (zX ρ o.dst v) H' (bE c.base wr w) K
def oB(site:Option Nat)(ρ:bN)(H:LO)(op:df):Option (AV×LO×LN×Option LN):=
 match op,site with
 |.alloc _,N1 id=>N1 (.ptr id ((H[id]?).elim 0 ah.ver) 0,H,[id],N2)
 |op,site=>
  if isW site Pa op then
   match aD0 call H ρ site op with
   |some (v,H',wr)=>if H'.length=H.length then N1 (v,H',[],N1 wr)else N2
   |none=>N2
  else match vA H ρ op with
   |some v=>N1 (v,H,aCc ρ op,N2)
   |none=>N2
def aRa(H:LO)(l:LA)(o:ae):aFJ call c H l o=oB call (c.site o.dst) (ck l) H o.op:=by unfold aFJ oB;simp only[aTB,aSN,aSO];rfl
def wpD(aq:LN):Nat->List ae->bN->LO->LN->(bN->LO->LN->Log->Prop)->Prop
 |_,[],ρ,H,wr,K=>K ρ H wr []
 |i,o::r,ρ,H,wr,K=>match zE ρ o.guard with
  |none=>False
  |some Po=>wpD aq (i+1) r (zX ρ o.dst (.tup [])) H wr K
  |some Pa=>match oB call (c.site o.dst) ρ H o.op with
   |none=>False
   |some (v,H',rd,w)=>wpD aq (i+1) r (zX ρ o.dst v) H' (bE c.base wr (w.getD []))
    (if aq.contains i then λρ H wr log=>K ρ H wr ((i,rd,w)::log)else K)
end
def looks(site:Option Nat):df->Bool
 |.load .. | .look .. | .conv .. | .view ..=>Pa
 |.alloc _=>site.isSome
 |_=>Po
def aBG(c:Ctx)(o:ae):Bool:=match o.op,c.site o.dst with
 |.alloc _,N1 _=>Pa
 |_,site => !isW site Pa o.op
def aG4(c:Ctx)(aq:LN)(o:ae)(i:Nat)(p:ae)(j:Nat):Bool:=
 p.pre.contains i || (aq.contains i&&aq.contains j) ||
 (aBG c o&&aBG c p) ||
 (aBG c o && !looks (c.site o.dst) o.op) || (aBG c p && !looks (c.site p.dst) p.op)
def aCd(c:Ctx)(aq:LN):Nat->List ae->Bool
 |_,[]=>Pa
 |i,o::r=>((r.zipIdx (i+1)).all λ(p,j)=>aG4 c aq o i p j)&&aCd c aq (i+1) r
def aLE{ρ:bN}{op:df}{site:Option Nat}(h:looks site op=Po):aCc ρ op=[]:=by cases op<;>first | rfl | (simp[looks]at h)
def Ent(c:Ctx)(e:Nat×LN×Option LN)(o:ae):Prop:=
 (aBG c o=Pa->e.2.2=N2)/\(aBG c o=Pa->looks (c.site o.dst) o.op=Po->e.2.1=[])
def aP5{call:Nat->LA->LO->Out}{c:Ctx}{ρ:bN}{H:LO}{o:ae}{v H' rd w}(i:Nat)(h:oB call (c.site o.dst) ρ H o.op=N1 (v,H',rd,w)):Ent c (i,rd,w) o:=by
 unfold oB at h;unfold Ent aBG;split at h
 ·rename_i h1 h2;cases h;refine⟨λ_=>rfl,λ_ hl=>?_⟩;rw[h2]at hl;simp[h1,looks]at hl
 split at h
 ·rename_i hw;constructor
  ·intro hh;simp[hw]at hh
  intro hh;simp[hw]at hh
 split at h
 ·cases h;refine⟨λ_=>rfl,λ_ hl=>aLE hl⟩
 cases h
def tR(c:Ctx):Nat->List ae->Log->Prop
 |_,[],log=>log=[]
 |i,o::r,log=>tR c (i+1) r log∨∃rd w log',log=(i,rd,w)::log'/\Ent c (i,rd,w) o/\tR c (i+1) r log'
def tR.mem{c:Ctx}:∀{i:Nat} {ops:List ae} {log:Log},tR c i ops log->∀e∈log,∃o,(o,e.1)∈ops.zipIdx i/\Ent c e o
 |_,[],_,h,e,he=>by rw[tR]at h;subst h;cases he
 |i,o::r,log,h,e,he=>by
  unfold tR at h;rw[NX];rcases h with h | ⟨rd,w,log',rfl,h1,h2⟩
  ·obtain⟨p,hp,hq⟩:=h.mem e he;exact⟨p,BZ _ hp,hq⟩
  rcases BD.1 he with rfl | he
  ·exact⟨o,List.mem_cons_self,h1⟩
  obtain⟨p,hp,hq⟩:=h2.mem e he;exact⟨p,BZ _ hp,hq⟩
def aNN{ops:List ae}{p:ae}{j:Nat}(h:(p,j)∈ops.zipIdx):((ops[j]?).map ae.pre).getD []=p.pre:=by have:=List.mem_zipIdx h;simp only[FF,Nat.sub_zero,BC,true_and]at this;obtain⟨h1,h2⟩:=this;rw[AP h1,<- h2];rfl
def xE{c:Ctx}{aq:LN}{all:List ae}:∀{i:Nat} {ops:List ae} {log:Log},tR c i ops log->aCd c aq i ops=Pa ->(∀p∈ops.zipIdx i,p∈all.zipIdx) ->eH (λj=>((all[j]?).map ae.pre).getD []) (log.filter λe=>aq.contains e.1)=Pa ->eH (λj=>((all[j]?).map ae.pre).getD []) log=Pa
 |_,[],log,h,_,_,_=>by rw[tR]at h;subst h;rfl
 |i,o::r,log,h,hp,iv,hk=>by
  unfold aCd at hp;rw[AI]at hp;unfold tR at h;rw[NX]at iv;rcases h with h | ⟨rd,w,log',rfl,h1,h2⟩
  ·exact xE h hp.2 (λp hp=>iv p (BZ _ hp)) hk
  unfold eH;rw[AI];constructor
  ·rw[AO];rintro⟨j,rd',w'⟩ he;obtain⟨p,Hw,Cl⟩:=h2.mem _ he;have Eg:=aNN (iv _ (BZ _ Hw));have V3:=(AO.1 hp.1) _ Hw;dsimp only at Eg V3 ⊢;rw[Eg];unfold aG4 at V3;simp only[EA,AI,KB]at V3;rcases V3 with (((h | ⟨hi,hj⟩) | ⟨ho,hq⟩) | ⟨ho,hl⟩) | ⟨hq,hl⟩
   ·simp only[h,Bool.true_or]
   ·have z8:eH (λj=>((all[j]?).map ae.pre).getD []) ((i,rd,w)::log'.filter λe=>aq.contains e.1)=true:=by
     rw[JV]at hk;simp only[hi,Zv]at hk;exact hk
    unfold eH at z8;rw[AI]at z8;have:=(AO.1 z8.1) (j,rd',w') (by rw[OK];exact⟨he,hj⟩);dsimp only at this;rw[Eg]at this;exact this
   ·have e1:w=none:=h1.1 ho;have e2:w'=none:=Cl.1 hq;subst e1;subst e2;simp
   ·have e1:w=none:=h1.1 ho;have e2:rd=[]:=h1.2 ho hl;subst e1;subst e2;cases w'<;>simp[dG]
   have e1:w'=none:=Cl.1 hq;have e2:rd'=[]:=Cl.2 hq hl;subst e1;subst e2;cases w<;>simp[dG]
  refine xE h2 hp.2 (λp hp=>iv p (BZ _ hp)) ?_;rw[JV]at hk;split at hk
  ·unfold eH at hk;rw[AI]at hk;exact hk.2
  exact hk
section
variable {A:af}
def aIa{H:LO}{site:Option Nat}{f:AV}{args:LA}{r}(h:cX (aG A) H site f args=N1 r):∃n,cX (dD A n) H site f args=N1 r:=by
 unfold cX at h;split at h
 ·rename_i fid first ay
  split at h
  ·cases h
  rename_i args' lent hl;split at h
  ·cases h
  rename_i v H' wr hc;obtain⟨n,hn⟩:=oM hc;refine⟨n, ?_⟩;unfold cX;dsimp only;rw[hl];dsimp only;rw[hn];exact h
 ·rename_i o v;split at h
  ·cases h
  rename_i args' lent hl;split at h
  ·cases h
  rename_i b H' wr hc;obtain⟨n,hn⟩:=oM hc;refine⟨n, ?_⟩;unfold cX;dsimp only;rw[hl];dsimp only;rw[hn];exact h
 cases h
def aNO{H:LO}{site:Option Nat}{f:AV}{args:LA}{r}(h:iN (aG A) H site f args=N1 r):∃n,iN (dD A n) H site f args=N1 r:=by
 unfold iN at h;split at h
 ·rename_i fid first ay
  split at h
  ·cases h
  rename_i v H' wr hc;obtain⟨n,hn⟩:=oM hc;refine⟨n, ?_⟩;unfold iN;dsimp only;rw[hn];exact h
 cases h
def aP6{H:LO}{ρ:bN}{site:Option Nat}{o:df}{r}(h:aD0 (aG A) H ρ site o=N1 r):∃n,aD0 (dD A n) H ρ site o=N1 r:=by
 cases o<;>first | exact⟨0,h⟩ | skip
 ·exact aIa h
 ·exact aNO h
 rename_i tab x args;simp only[aD0]at h ⊢;generalize aa.at ρ x=y at h ⊢;cases y with
 |ifc t v=>
  dsimp only at h ⊢;generalize tab.lookup t=z at h ⊢;cases z with
  |none=>cases h
  |some f=>exact aIa h
 |_=>cases h
def aRb{site:Option Nat}{d:Bool}{H:LO}{ρ:bN}{o:df}{r}(h:nB (aG A) site d ρ H o=N1 r):∃n,nB (dD A n) site d ρ H o=N1 r:=by
 unfold nB at h;split at h
 ·rename_i hw;obtain⟨n,hn⟩:=aP6 h;exact⟨n,by unfold nB;rw[Zy hw];exact hn⟩
 rename_i hw;exact⟨0,by unfold nB;rw[Zx hw];exact h⟩
def aRc{site:Option Nat}{H:LO}{ρ:bN}{o:df}{r}(h:oB (aG A) site ρ H o=N1 r):∃n,oB (dD A n) site ρ H o=N1 r:=by
 unfold oB at h;split at h
 ·exact⟨0,h⟩
 rename_i bl;split at h
 ·rename_i hw;split at h
  ·rename_i he;obtain⟨n,hn⟩:=aP6 he;refine⟨n, ?_⟩;unfold oB;split
   ·exact (bl _ _ rfl rfl).elim
   rw[Zy hw,hn];exact h
  cases h
 rename_i hw;refine⟨0, ?_⟩;unfold oB;split
 ·exact (bl _ _ rfl rfl).elim
 rw[Zx hw];exact h
def aCe{c:Ctx}:∀{ops:List ae} {l:LA} {H:LO} {wr:LN} {K},aD3 (aG A) c ops (ck l) H wr K->(ops.all (aP4 l.length))=Pa ->∃n s',jL (dD A n) c ops ⟨l,H,wr⟩=N1 s'/\s'.ρ.length=l.length/\K (ck s'.ρ) s'.H s'.wr
 | [],l,H,wr,K,h,_=>⟨0,⟨l,H,wr⟩,rfl,rfl,h⟩
 |o::r,l,H,wr,K,h,hd=>by
  rw[ES,AI]at hd;unfold aD3 at h;rw[aKd]at h;split at h
  ·cases h
  ·rename_i hg;split at hg
   ·rename_i hok;rw[AG]at hg;rw[<- sT hd.1]at h;obtain⟨n,s',h1,h2,h3⟩:=aCe h (by rw[fH];exact hd.2);refine⟨n,s', ?_,by rw[h2,fH],h3⟩;unfold jL;rw[Zy hok,Zx (by rw[hg];exact ED)];exact h1
   cases hg
  rename_i hg;split at hg
  ·rename_i hok;rw[AG]at hg;split at h
   ·cases h
   rename_i v H' w hs;obtain⟨n1,lx⟩:=aRb hs;rw[<- sT hd.1]at h;obtain⟨n2,s',h1,h2,h3⟩:=aCe h (by rw[fH];exact hd.2);refine⟨max n1 n2,s', ?_,by rw[h2,fH],h3⟩;unfold jL;rw[Zy hok,Zy hg];have e1:=aKc (oA (GJ n1 n2)) ((aR9 (dD A n1) c Po H l o).trans lx);dsimp only;rw[e1];exact aBa (oA (GC n1 n2)) h1
  cases hg
def aG5{c:Ctx}{aq:LN}:∀{ops:List ae} {i:Nat} {l:LA} {H:LO} {wr:LN} {K},wpD (aG A) c aq i ops (ck l) H wr K->(ops.all (aP4 l.length))=Pa ->∃n s' log,nT (dD A n) c i ops ⟨l,H,wr⟩=N1 (s',log)/\s'.ρ.length=l.length/\tR c i ops log/\K (ck s'.ρ) s'.H s'.wr (log.filter λe=>aq.contains e.1)
 | [],i,l,H,wr,K,h,_=>⟨0,⟨l,H,wr⟩,[],rfl,rfl,rfl,h⟩
 |o::r,i,l,H,wr,K,h,hd=>by
  rw[ES,AI]at hd;unfold wpD at h;rw[aKd]at h;split at h
  ·cases h
  ·rename_i hg;split at hg
   ·rename_i hok;rw[AG]at hg;rw[<- sT hd.1]at h;obtain⟨n,s',log,h1,h2,h3,h4⟩:=aG5 h (by rw[fH];exact hd.2);refine⟨n,s',log, ?_,by rw[h2,fH],.inl h3,h4⟩;unfold nT;rw[Zy hok,Zx (by rw[hg];exact ED)];exact h1
   cases hg
  rename_i hg;split at hg
  ·rename_i hok;rw[AG]at hg;split at h
   ·cases h
   rename_i v H' rd w hs;obtain⟨n1,lx⟩:=aRc hs;rw[<- sT hd.1]at h;obtain⟨n2,s',log,h1,h2,h3,h4⟩:=aG5 h (by rw[fH];exact hd.2);refine⟨max n1 n2,s',(i,rd,w)::log, ?_,by rw[h2,fH],.inr ⟨rd,w,log,rfl,aP5 i hs,h3⟩, ?_⟩
   ·unfold nT;rw[Zy hok,Zy hg];have e1:=aI9 (oA (GJ n1 n2)) ((aRa (dD A n1) c H l o).trans lx);dsimp only;rw[e1];dsimp only;rw[xD (oA (GC n1 n2)) h1]
   rw[JV];dsimp only;split at h4
   ·rename_i hk;rw[Zy hk];exact h4
   rename_i hk;rw[Zx hk];exact h4
  cases hg
def Wp(A:af)(N:Nat)(c:Ctx)(x:ag)(ρ:bN)(H:LO)(wr:LN)(Q:bf->bN->LO->LN->Prop):Prop:=
 ∀l:LA,l.length=N->ck l=ρ->∃n e s',cY A n c x ⟨l,H,wr⟩=N1 (e,s')/\s'.ρ.length=N/\Q e (ck s'.ρ) s'.H s'.wr
def aVH(H:LO)(v:AV):Option (AV×LO×LN):=match fix H v with
 |some r=>N1 r
 |none=>aA3 H v
def aD4(H:LO)(k:Nat)(v:AV):Option (LO×LN):=match pE H v with
 |some r=>N1 r
 |none=>match bC H k v with
  |some cs=>match fix H (.agg cs)with
   |some (.agg cs',H',l)=>match storeCells H' cs' v with
    |some (H'',l')=>N1 (H'',l++l')
    |none=>N2
   |_=>N2
  |none=>N2
def aD5(c:Ctx):List (Nat×Nat)->bN->LO->LN->(bN->LO->LN->Prop)->Prop
 | [],ρ,H,wr,K=>K ρ H wr
 | (k+1,t)::r,ρ,H,wr,K=>
  if (ρ t).iy then aD5 c r ρ H wr K else
  match aD4 H (k+1) (ρ t)with
  |some (H',l)=>aD5 c r ρ H' (bE c.base wr l) K
  |none=>False
 | (0,t)::r,ρ,H,wr,K=>
  match aVH H (ρ t)with
  |some (v,H',l)=>aD5 c r (upd ρ t v) H' (bE c.base wr l) K
  |none=>False
def aTC{H:LO}{v:AV}{r}(h:fix H v=N1 r):aMD H v=N1 r:=by unfold aMD;rw[h]
def aTD{H:LO}{v:AV}{r}(h:aVH H v=N1 r):aMD H v=N1 r:=by
 unfold aVH at h;unfold aMD;cases hf:fix H v with
 |some x=>rw[hf]at h;exact h
 |none=>
  rw[hf]at h;dsimp only at h ⊢;split
  ·unfold aA3 at h;dsimp only at h;rw[hf]at h;cases h
  exact h
def qP{c:Ctx}:∀{ts:List (Nat×Nat)} {l:LA} {H:LO} {wr:LN} {K},aD5 c ts (ck l) H wr K->(ts.all λp=>decide (p.2<l.length))=Pa ->∃s',nX c ⟨l,H,wr⟩ ts=N1 s'/\s'.ρ.length=l.length/\K (ck s'.ρ) s'.H s'.wr
 | [],l,H,wr,K,h,_=>⟨⟨l,H,wr⟩,rfl,rfl,h⟩
 | (k+1,t)::r,l,H,wr,K,h,hd=>by
  rw[ES,AI]at hd;unfold aD5 at h;have e:ck l t=(l[t]?).getD .undef:=rfl;rw[e]at h;split at h
  ·rename_i hc;obtain⟨s',h1,h2,h3⟩:=qP h hd.2;refine⟨s', ?_,h2,h3⟩;unfold nX;rw[Zy hc];exact h1
  rename_i hc;unfold aD4 at h;cases hk:pE H ((l[t]?).getD .undef)with
  |some x=>rw[hk]at h;obtain⟨s',h1,h2,h3⟩:=qP h hd.2;refine⟨s', ?_,h2,h3⟩;unfold nX;rw[Zx hc];dsimp only;rw[hk];exact h1
  |none=>
   rw[hk]at h;dsimp only at h;cases hr:bC H (k+1) ((l[t]?).getD .undef)with
   |none=>rw[hr]at h;exact h.elim
   |some cs=>
    rw[hr]at h;dsimp only at h;cases hf:fix H (.agg cs)with
    |none=>rw[hf]at h;exact h.elim
    |some x=>
     obtain⟨v,H',l1⟩:=x;rw[hf]at h;cases v<;>try exact h.elim
     rename_i cs';dsimp only at h;cases hs:storeCells H' cs' ((l[t]?).getD .undef)with
     |none=>rw[hs]at h;exact h.elim
     |some y=>rw[hs]at h;obtain⟨s',h1,h2,h3⟩:=qP h hd.2;refine⟨s', ?_,h2,h3⟩;unfold nX;rw[Zx hc];dsimp only;rw[hk];dsimp only;rw[hr];dsimp only;rw[aTC hf];dsimp only;rw[hs];exact h1
 | (0,t)::r,l,H,wr,K,h,hd=>by
  rw[ES,AI]at hd;unfold aD5 at h;have e:ck l t=(l[t]?).getD .undef:=rfl;rw[e]at h;split at h
  ·rename_i v H' l1 hf;have ht:t<l.length:=by simpa using hd.1
   rw[<- nG ht]at h;obtain⟨s',h1,h2,h3⟩:=qP h (by simpa using hd.2);refine⟨s', ?_,by rw[h2];simp,h3⟩;unfold nX;dsimp only;rw[aTD hf];exact h1
  exact h.elim
def aBH(c:Ctx)(ops:List ae):LN:=
 let z:=ops.zipIdx
 z.filterMap λ(o,i)=>if z.all λ(p,j)=>if i<j then aG4 c [] o i p j else if j<i then aG4 c [] p j o i else Pa then N2 else N1 i
def wpc(A:af)(N:Nat)(c:Ctx):ag->bN->LO->LN->(bf->bN->LO->LN->Prop)->Prop
 |.skip,ρ,H,wr,Q=>Q .normal ρ H wr
 |.bad,_,_,_,_=>False
 |.region Po ops,ρ,H,wr,Q=>aD3 (aG A) c ops ρ H wr (Q .normal)
 |.region Pa ops,ρ,H,wr,Q=>match cS c H ops with
  |some H0=>wpD (aG A) c (aBH c ops) 0 ops ρ H0 wr λρ H wr log=>eH (λj=>((ops[j]?).map ae.pre).getD []) log=Pa/\Q .normal ρ H wr
  |none=>False
 |.seq a b,ρ,H,wr,Q=>wpc A N c a ρ H wr λe ρ H wr=>match e with
  |.normal=>wpc A N c b ρ H wr Q
  |e=>Q e ρ H wr
 |.cond t a b,ρ,H,wr,Q=>match t.at ρ with
  |.bool Pa=>wpc A N c a ρ H wr Q
  |.bool Po=>wpc A N c b ρ H wr Q
  |_=>False
 |.block id b,ρ,H,wr,Q=>wpc A N c b ρ H wr λe ρ H wr=>match e with
  |.exit id'=>if id'=id then Q .normal ρ H wr else Q (.exit id') ρ H wr
  |e=>Q e ρ H wr
 |.loop b,ρ,H,wr,Q=>Wp A N c (.loop b) ρ H wr Q
 |.exit id,ρ,H,wr,Q=>Q (.exit id) ρ H wr
 |.ret,ρ,H,wr,Q=>Q .ret ρ H wr
 |.frz ts,ρ,H,wr,Q=>aD5 c ts ρ H wr (Q .normal)
 |.dz x ps b,ρ,H,wr,Q=>Wp A N c (.dz x ps b) ρ H wr Q
def dK(N:Nat)(c:Ctx):ag->Bool
 |.region d ops=>ops.all (aP4 N)&&(!d || (aOK ops&&aCd c (aBH c ops) 0 ops))
 |.seq a b=>dK N c a&&dK N c b
 |.cond _ a b=>dK N c a&&dK N c b
 |.block _ b=>dK N c b
 |.loop b=>dK N c b
 |.frz ts=>ts.all λp=>decide (p.2<N)
 |_=>Pa
def kM{N:Nat}{c:Ctx}:∀{x:ag} {ρ:bN} {H:LO} {wr:LN} {Q},wpc A N c x ρ H wr Q->dK N c x=Pa->Wp A N c x ρ H wr Q
 |.skip,ρ,H,wr,Q,h,_=>λl hl he=>⟨1,.normal,⟨l,H,wr⟩,rfl,hl,by rw[wpc]at h;subst he;exact h⟩
 |.bad,_,_,_,_,h,_=>by rw[wpc]at h;exact h.elim
 |.region Po ops,ρ,H,wr,Q,h,hok=>λl hl he=>by
  subst he;rw[wpc]at h;simp only[dK,AI]at hok;obtain⟨n,s',h1,h2,h3⟩:=aCe h (by rw[hl];exact hok.1);refine⟨n+1,.normal,s', ?_,by rw[h2,hl],h3⟩;rw[iS];have:iO (dD A n) c Po ops ⟨l,H,wr⟩=N1 s':=h1;rw[this]
 |.region Pa ops,ρ,H,wr,Q,h,hok=>λl hl he=>by
  subst he;rw[wpc]at h;simp only[dK,AI,BT,Bool.false_or]at hok;split at h
  ·rename_i H0 hp;obtain⟨n,s',log,h1,h2,h3,h4,h5⟩:=aG5 h (by rw[hl];exact hok.1);refine⟨n+1,.normal,s', ?_,by rw[h2,hl],h5⟩;rw[iS];have zg:=xE h3 hok.2.2 (λp hp=>hp) h4;have:iO (dD A n) c Pa ops ⟨l,H,wr⟩=N1 s':=by
    unfold iO;simp only[BR,hok.2.1,Zv];rw[hp];dsimp only;rw[h1];dsimp only;rw[Zy zg]
   rw[this]
  exact h.elim
 |.seq a b,ρ,H,wr,Q,h,hok=>λl hl he=>by
  rw[wpc]at h;simp only[dK,AI]at hok;obtain⟨n,e,s',h1,h2,h3⟩:=kM h hok.1 l hl he;by_cases hn:e=.normal
  ·subst hn;obtain⟨m,e',s'',g1,g2,g3⟩:=kM h3 hok.2 s'.ρ h2 rfl;refine⟨max n m+1,e',s'', ?_,g2,g3⟩;rw[iD,eJ (GJ n m) _ _ _ _ h1];exact eJ (GC n m) _ _ _ _ g1
  refine⟨n+1,e,s', ?_,h2, ?_⟩
  ·rw[iD,h1];cases e<;>first | rfl | exact Zw rfl hn
  cases e<;>first | exact h3 | exact Zw rfl hn
 |.cond t a b,ρ,H,wr,Q,h,hok=>λl hl he=>by
  rw[wpc]at h;simp only[dK,AI]at hok;have ht:t.ev l=t.at ρ:=by rw[<- he];exact t.ka l
  split at h
  ·rename_i hb;obtain⟨n,e,s',h1,h2⟩:=kM h hok.1 l hl he;exact⟨n+1,e,s',by rw[iT];dsimp only;rw[ht,hb];exact h1,h2⟩
  ·rename_i hb;obtain⟨n,e,s',h1,h2⟩:=kM h hok.2 l hl he;exact⟨n+1,e,s',by rw[iT];dsimp only;rw[ht,hb];exact h1,h2⟩
  exact h.elim
 |.block id b,ρ,H,wr,Q,h,hok=>λl hl he=>by
  rw[wpc]at h;simp only[dK]at hok;obtain⟨n,e,s',h1,h2,h3⟩:=kM h hok l hl he;cases e with
  |normal=>exact⟨n+1,.normal,s',by rw[eP,h1],h2,h3⟩
  |ret=>exact⟨n+1,.ret,s',by rw[eP,h1],h2,h3⟩
  |exit id'=>
   dsimp only at h3;split at h3
   ·rename_i hid;exact⟨n+1,.normal,s',by rw[eP,h1];dsimp only;rw[Zy hid],h2,h3⟩
   rename_i hid;exact⟨n+1,.exit id',s',by rw[eP,h1];dsimp only;rw[Zx hid],h2,h3⟩
 |.loop b,ρ,H,wr,Q,h,_=>by rw[wpc]at h;exact h
 |.dz x ps b,ρ,H,wr,Q,h,_=>by rw[wpc]at h;exact h
 |.exit id,ρ,H,wr,Q,h,_=>λl hl he=>⟨1,.exit id,⟨l,H,wr⟩,rfl,hl,by rw[wpc]at h;subst he;exact h⟩
 |.ret,ρ,H,wr,Q,h,_=>λl hl he=>⟨1,.ret,⟨l,H,wr⟩,rfl,hl,by rw[wpc]at h;subst he;exact h⟩
 |.frz ts,ρ,H,wr,Q,h,hok=>λl hl he=>by
  rw[wpc]at h;subst he;obtain⟨s',h1,h2,h3⟩:=qP h (by rw[hl];exact hok);exact⟨1,.normal,s',by rw[vI,h1],by rw[h2,hl],h3⟩
def Wp.loop{N:Nat}{c:Ctx}{b:ag}{ρ:bN}{H:LO}{wr:LN}{Q}(hok:dK N c b=Pa) (h:wpc A N c b ρ H wr λe ρ H wr=>match e with
   |.normal=>Wp A N c (.loop b) ρ H wr Q
   |e=>Q e ρ H wr):Wp A N c (.loop b) ρ H wr Q:=λl hl he=>by
 obtain⟨n,e,s',h1,h2,h3⟩:=kM h hok l hl he;by_cases hn:e=.normal
 ·subst hn;obtain⟨m,e',s'',g1,g2,g3⟩:=h3 s'.ρ h2 rfl;refine⟨max n m+1,e',s'', ?_,g2,g3⟩;rw[gU,eJ (GJ n m) _ _ _ _ h1];exact eJ (GC n m) _ _ _ _ g1
 refine⟨n+1,e,s', ?_,h2, ?_⟩
 ·rw[gU,h1];cases e<;>first | rfl | exact Zw rfl hn
 cases e<;>first | exact h3 | exact Zw rfl hn
def Wp.mono{N:Nat}{c:Ctx}{x:ag}{ρ:bN}{H:LO}{wr:LN}{Q Q'}(hk:∀e ρ H wr,Q e ρ H wr->Q' e ρ H wr)(h:Wp A N c x ρ H wr Q):Wp A N c x ρ H wr Q':=λl hl he=>by
 obtain⟨n,e,s',h1,h2,h3⟩:=h l hl he;exact⟨n,e,s',h1,h2,hk _ _ _ _ h3⟩
def aNP(H:LO)(ρ:bN):ou->Option AV
 |.tmp t=>N1 (ρ t)
 |.cell t k agg=>match bC H k (ρ t)with
  |some cs=>eD agg cs
  |none=>N2
def aEP(H:LO)(ρ:bN):List ou->Option LA
 | []=>N1 []
 |r::rs=>match aNP H ρ r with
  |none=>N2
  |some v=>match aEP H ρ rs with
   |none=>N2
   |some vs=>N1 (v::vs)
def aJ6(H:LO)(l:LA):∀rs,aIS H l rs=aEP H (ck l) rs
 | []=>rfl
 |r::rs=>by
  unfold aIS aEP;have:aYq H l r=aNP H (ck l) r:=by cases r<;>rfl
  rw[this,aJ6 H l rs];rfl
def iE(base:Nat)(rs:List ou)(ρ:bN)(H:LO)(wr:LN):Out:=
 match aEP H ρ rs with
 |none=>N2
 |some [v]=>match aDR base H v with
  |some (v',H',l)=>N1 (v',H',bE base wr l)
  |none=>N2
 |some vs=>match aBv H vs with
  |some (vs',H',l)=>N1 (.tup vs',H',bE base wr l)
  |none=>N2
def aVI(base:Nat)(rs:List ou)(K:AV->LO->LN->Prop):bf->bN->LO->LN->Prop
 |.exit _,_,_,_=>False
 |_,ρ,H,wr=>match iE base rs ρ H wr with
  |some r=>K (cJ base r).1 (cJ base r).2.1 (cJ base r).2.2
  |none=>False
def pO(args:LA):bN:=λt=>(args[t]?).getD .undef
def aE0(args:LA)(k:Nat):ck (args++AX k .undef)=pO args:=by
 funext t;unfold ck pO;by_cases h:t<args.length
 ·rw[BM h]
 rw[BU omT,CY (by omega:args.length<=t),List.getElem?_replicate];split<;>rfl
def aE1{f:Nat}{args:LA}{H:LO}{fn:bw}{K:AV->LO->LN->Prop}(hf:A.fn f=N1 fn)(hp:(A.bq f).bind (· args H)=N2) (hN:args.length<=fn.ntmps) (hok:dK fn.ntmps ⟨H.length,fn.sites⟩ fn.body=Pa) (h:wpc A fn.ntmps ⟨H.length,fn.sites⟩ fn.body (pO args) (H++AX fn.sites.length (.gone 0)) [] (aVI H.length fn.results K)):∃v H' wr,aG A f args H=N1 (v,H',wr)/\K v H' wr:=by
 obtain⟨n,e,s',h1,h2,h3⟩:=kM h hok (args++AX (fn.ntmps - args.length) .undef) soT (aE0 _ _);have key:∀r,iE H.length fn.results (ck s'.ρ) s'.H s'.wr=N1 r->aA4 H.length fn s'=N1 r:=by intro r hr;unfold iE at hr;unfold aA4;rw[aJ6];exact hr
 cases e with
 |exit id=>exact h3.elim
 |normal=>
  unfold aVI at h3;dsimp only at h3;split at h3
  ·rename_i r hr;exact⟨_,_,_,oL (oU hp hf h1 (.inl rfl) (key _ hr) hN),h3⟩
  exact h3.elim
 |ret=>
  unfold aVI at h3;dsimp only at h3;split at h3
  ·rename_i r hr;exact⟨_,_,_,oL (oU hp hf h1 (.inr rfl) (key _ hr) hN),h3⟩
  exact h3.elim
end
def aWE(x:aa)(H:LO)(ρ:bN):Option AV:=N1 (x.at ρ)
def aTE(c:aa)(a:aa)(b:aa)(H:LO)(ρ:bN):Option AV:=match c.at ρ with
  |.bool t=>N1 (if t then a.at ρ else b.at ρ)
  |_=>N2
def aRd(zs:LA)(H:LO)(ρ:bN):Option AV:=if zs.all AV.still then N1 (.ep (zs.map AV.aj) 0)else N2
def aWF(k:Nat)(x:aa)(H:LO)(ρ:bN):Option AV:=
  let vs:=(x.at ρ).strip.cells
  if vs.length=k/\vs.all AV.still then N1 (.ep vs 0)else N2
def aRe(zs:LA)(parts:List (Nat×Nat×aa))(H:LO)(ρ:bN):Option AV:=(mK ρ zs parts).map .agg
def aWG(k:Nat)(zs:LA)(n:Nat)(parts:List (Nat×aa))(H:LO)(ρ:bN):Option AV:=(nZ ρ k (AX n zs) parts).map (.sl Pa)
def aWH(u0:Nat)(bytes:Nat)(zs:LA)(len:aa)(cap:aa)(H:LO)(ρ:bN):Option AV:=match len.at ρ,cap.at ρ with
  |.int _ n,.int _ c=>if 0<=n/\n=c/\bP n.toNat bytes then N1 (.sl Pa (AX n.toNat (zs.map AV.aj)))else N2
  |_,_=>N2
def aTF(k:Nat)(agg:Bool)(x:aa)(H:LO)(ρ:bN):Option AV:=match bC H k (x.at ρ)with
  |some cs=>eD agg cs
  |none=>N2
def aRf(x:aa)(H:LO)(ρ:bN):Option AV:=match x.at ρ with
  |.ptr o v off=>N1 (.ptr o v off)
  |.vp o v n k i off=>N1 (.vp o v n k i off)
  |.ep row off=>N1 (.ep row off)
  |.fn f a b=>N1 (.fn f a b)
  |_=>N2
def aRg(neg:Bool)(x:aa)(H:LO)(ρ:bN):Option AV:=match x.at ρ with
  |.sl _ (_::_) | .sr ..=>N1 (.bool neg)
  |.ar=>N1 (.bool !neg)
  |_=>N2
def aWI(op:BinOp)(ek:vd)(x:aa)(y:aa)(H:LO)(ρ:bN):Option AV:=kJ op ek (x.at ρ) (y.at ρ)
def bA3(op:UnOp)(x:aa)(H:LO)(ρ:bN):Option AV:=unV op (x.at ρ)
def aTG(c:tm)(x:aa)(H:LO)(ρ:bN):Option AV:=pT H c (x.at ρ)
def aWJ(f:Nat)(first:List aa)(ay:List aa)(H:LO)(ρ:bN):Option AV:=if (first.map (aa.at ρ)).all AV.still&&(ay.map (aa.at ρ)).all AV.still then N1 (.fn f (first.map λx=>(x.at ρ).aj) (ay.map λx=>(x.at ρ).aj))else N2
def aP7(x:aa)(lo:Option aa)(hi:Option aa)(H:LO)(ρ:bN):Option AV:=match x.at ρ with
  |.str s=>match dU s.length (lo.map (aa.at ρ)) (hi.map (aa.at ρ)) N2 with
   |some (l,h,_)=>N1 (.str ((s.take h).drop l))
   |none=>N2
  |_=>N2
def aP8(k:Nat)(x:aa)(lo:Option aa)(hi:Option aa)(mx:Option aa)(H:LO)(ρ:bN):Option AV:=match x.at ρ with
  |.sl full rows=>match dU rows.length (lo.map (aa.at ρ)) (hi.map (aa.at ρ)) (mx.map (aa.at ρ))with
   |some (l,h,m)=>if dF k rows&&(!mx.isSome || hi.isSome)then N1 (.sl (decide (m=h)&&(mx.isSome || full)) ((rows.take h).drop l))else N2
   |none=>N2
  |.sr o v n=>if mx.isSome then N2 else match dU n (lo.map (aa.at ρ)) (hi.map (aa.at ρ)) N2 with
   |some (l,h,_)=>if hi.isSome&&decide (l=0)then N1 (.srw o v n h)else if h=n then N1 (.srv o v n k l)else N2
   |none=>N2
  |_=>N2
def aTH(k:Nat)(x:aa)(lo:Option aa)(H:LO)(ρ:bN):Option AV:=match x.at ρ with
  |.sl full rows=>match dU rows.length (lo.map (aa.at ρ)) N2 N2 with
   |some (l,h,m)=>if dF k rows then N1 (.sl (decide (m=h)&&full) ((rows.take h).drop l))else N2
   |none=>N2
  |.sr o v n=>match H[o]? with
   |some (.vec v' _ rows)=>if v'=v/\rows.length=n then match iL 0 n (lo.map (aa.at ρ))with
     |some l=>N1 (.srv o v n k l)
     |none=>N2
    else N2
   |_=>N2
  |_=>N2
def aP9(n:Nat)(k:Nat)(x:aa)(lo:Option aa)(hi:Option aa)(mx:Option aa)(H:LO)(ρ:bN):Option AV:=match x.at ρ with
  |.ep row off=>if off+n*k<=row.length then
    let rows:=chunk k n (row.drop off)
    match dU n (lo.map (aa.at ρ)) (hi.map (aa.at ρ)) (mx.map (aa.at ρ))with
    |some (l,h,m)=>if !mx.isSome || hi.isSome then N1 (.sl (decide (m=h)) ((rows.take h).drop l))else N2
    |none=>N2
   else N2
  |_=>N2
def bA4(off:Nat)(x:aa)(H:LO)(ρ:bN):Option AV:=match x.at ρ with
  |.ptr o v off0=>N1 (.ptr o v (off0+off))
  |.vp o v n k i off0=>N1 (.vp o v n k i (off0+off))
  |.ep row off0=>N1 (.ep row (off0+off))
  |_=>N2
def aWK(off:Nat)(k:Nat)(agg:Bool)(x:aa)(H:LO)(ρ:bN):Option AV:=match x.at ρ with
  |.agg cs=>if off+k<=cs.length then eD agg ((cs.drop off).take k)else N2
  |_=>N2
def aWL(x:aa)(i:aa)(k:Nat)(H:LO)(ρ:bN):Option AV:=match x.at ρ,i.at ρ with
  |.sl _ rows,.int _ n=>if 0<=n then match rows[n.toNat]? with
    |some row=>if row.length=k then N1 (.ep row 0)else N2
    |none=>N2
   else N2
  |.sr o v len,.int _ n=>if 0<=n/\n<len then N1 (.vp o v len k n.toNat 0)else N2
  |_,_=>N2
def aWM(len:Nat)(k:Nat)(x:aa)(i:aa)(H:LO)(ρ:bN):Option AV:=match x.at ρ,i.at ρ with
  |.ptr o v off,.int _ n=>if 0<=n/\n<len then N1 (.ptr o v (off+n.toNat*k))else N2
  |.ep row off,.int _ n=>if 0<=n/\n<len then N1 (.ep row (off+n.toNat*k))else N2
  |_,_=>N2
def aWN(x:aa)(i:aa)(H:LO)(ρ:bN):Option AV:=match x.at ρ,i.at ρ with
  |.str s,.int _ n=>if 0<=n then match s[n.toNat]? with
    |some b=>N1 (.int .u8 b.toNat)
    |none=>N2
   else N2
  |_,_=>N2
def aWO(len:Nat)(k:Nat)(agg:Bool)(x:aa)(i:aa)(H:LO)(ρ:bN):Option AV:=match x.at ρ,i.at ρ with
  |.agg cs,.int _ n=>if 0<=n/\n<len/\n.toNat*k+k<=cs.length then eD agg ((cs.drop (n.toNat*k)).take k)else N2
  |_,_=>N2
def aTI(x:aa)(H:LO)(ρ:bN):Option AV:=match x.at ρ with
  |.str s=>N1 (.int .i64 s.length)
  |_=>N2
def aTJ(x:aa)(H:LO)(ρ:bN):Option AV:=match x.at ρ with
  |.sl _ rows=>N1 (.int .i64 rows.length)
  |.sr _ _ n=>N1 (.int .i64 n)
  |.ar=>N1 (.int .i64 0)
  |_=>N2
def aTK(n:Nat)(H:LO)(ρ:bN):Option AV:=N1 (.int .i64 n)
def bA5(mx:Bool)(xs:List aa)(H:LO)(ρ:bN):Option AV:=mmV mx (xs.map (aa.at ρ))
def aWP(i:Nat)(x:aa)(H:LO)(ρ:bN):Option AV:=match x.at ρ with
  |.tup vs=>vs[i]?
  |_=>N2
def aRh(t:Nat)(x:aa)(H:LO)(ρ:bN):Option AV:=if (x.at ρ).tn then N1 (.ifc t (x.at ρ))else N2
def aTL(zero:AV)(m:aa)(k:aa)(ok:Bool)(H:LO)(ρ:bN):Option AV:=match m.at ρ with
  |.mp o v=>match H[o]? with
   |some (.map v' es)=>if v'=v then
     match iB (k.at ρ) es 0 with
     |some (N1 (_,x))=>if ok then N1 (.tup [x,.bool Pa])else N1 x
     |some N2=>if ok then N1 (.tup [zero,.bool Po])else N1 zero
     |none=>N2
    else N2
   |_=>N2
  |.fmp ks vs=>match iB (k.at ρ) (ks.zip vs) 0 with
   |some (N1 (_,x))=>if ok then N1 (.tup [x,.bool Pa])else N1 x
   |some N2=>if ok then N1 (.tup [zero,.bool Po])else N1 zero
   |none=>N2
  |_=>N2
def rOp:df->LO->bN->Option AV:=λop=>match op with
 |.mov a0=>aWE a0
 |.pick a0 a1 a2=>aTE a0 a1 a2
 |.alloc a0=>aRd a0
 |.box a0 a1=>aWF a0 a1
 |.build a0 a1=>aRe a0 a1
 |.bsl a0 a1 a2 a3=>aWG a0 a1 a2 a3
 |.mks a0 a1 a2 a3 a4=>aWH a0 a1 a2 a3 a4
 |.load a0 a1 a2=>aTF a0 a1 a2
 |.cz a0=>aRf a0
 |.ky a0 a1=>aRg a0 a1
 |.bin a0 a1 a2 a3=>aWI a0 a1 a2 a3
 |.un a0 a1=>bA3 a0 a1
 |.conv a0 a1=>aTG a0 a1
 |.mkf a0 a1 a2=>aWJ a0 a1 a2
 |.fm a0 a1 a2=>aP7 a0 a1 a2
 |.gw a0 a1 a2 a3 a4=>aP8 a0 a1 a2 a3 a4
 |.view a0 a1 a2=>aTH a0 a1 a2
 |.na a0 a1 a2 a3 a4 a5=>aP9 a0 a1 a2 a3 a4 a5
 |.fa a0 a1=>bA4 a0 a1
 |.fld a0 a1 a2 a3=>aWK a0 a1 a2 a3
 |.iaV a0 a1 a2=>aWL a0 a1 a2
 |.iaA a0 a1 a2 a3=>aWM a0 a1 a2 a3
 |.ixS a0 a1=>aWN a0 a1
 |.ixA a0 a1 a2 a3 a4=>aWO a0 a1 a2 a3 a4
 |.fg a0=>aTI a0
 |.qk a0=>aTJ a0
 |.zb a0=>aTK a0
 |.mm a0 a1=>bA5 a0 a1
 |.ext a0 a1=>aWP a0 a1
 |.km a0 a1=>aRh a0 a1
 |.look a0 a1 a2 a3=>aTL a0 a1 a2 a3
 |_=>λ_ _=>N2
def aSP(op:df)(H:LO)(ρ:bN):rOp op H ρ=vA H ρ op:=by cases op<;>rfl
def aRi(zs:LA)(H:LO)(ρ:bN)(site:Option Nat):Out:=match site with
  |some id=>if id<H.length then N1 (.ptr id (bH H id) 0,make H id (.box · zs),[id])else N2
  |none=>N2
def aPa(ty:Nat)(zs:LA)(H:LO)(ρ:bN)(site:Option Nat):Out:=match site with
  |some id=>if id<H.length then N1 (.ptr id (bH H id) 0,make H id (.cw · ty zs),[id])else N2
  |none=>N2
def aWQ(k:Nat)(x:aa)(H:LO)(ρ:bN)(site:Option Nat):Out:=match site with
  |some id=>if id<H.length/\(x.at ρ).cells.length=k/\(x.at ρ).cells.all AV.ak then N1 (.ptr id (bH H id) 0,make H id (.box · (x.at ρ).cells),[id])else N2
  |none=>N2
def aWR(ty:Nat)(k:Nat)(x:aa)(H:LO)(ρ:bN)(site:Option Nat):Out:=match site with
  |some id=>if id<H.length/\(x.at ρ).cells.length=k/\(x.at ρ).cells.all AV.ak then N1 (.ptr id (bH H id) 0,make H id (.cw · ty (x.at ρ).cells),[id])else N2
  |none=>N2
def aRj(k:Nat)(x:aa)(v:aa)(H:LO)(ρ:bN)(site:Option Nat):Out:=if (v.at ρ).cells.length=k/\(v.at ρ).cells.all AV.ak then
   match storeCells H (v.at ρ).cells (x.at ρ)with
   |some (H',wr)=>N1 (.undef,H',wr)
   |none=>N2
  else N2
def aWS(k:Nat)(zs:LA)(n:Nat)(parts:List (Nat×aa))(H:LO)(ρ:bN)(site:Option Nat):Out:=match site with
  |some id=>match mM ρ k (AX n zs) parts with
   |some rows=>if id<H.length then N1 (.sr id (bH H id) n,make H id (.vec · k rows),[id])else N2
   |none=>N2
  |none=>match xC ρ k H (AX n zs) parts with
   |some (rows,H',wr)=>N1 (.sl Pa rows,H',wr)
   |none=>N2
def aWT(k:Nat)(bytes:Nat)(zs:LA)(len:aa)(cap:aa)(H:LO)(ρ:bN)(site:Option Nat):Out:=match len.at ρ,cap.at ρ with
  |.int _ n,.int _ c=>
   if 0<=n/\n=c/\bP n.toNat bytes then
    match site with
    |some id=>if id<H.length then N1 (.sr id (bH H id) n.toNat,make H id (.vec · k (AX n.toNat (zs.map AV.aj))),[id])else N2
    |none=>N1 (.sl Pa (AX n.toNat (zs.map AV.aj)),H,[])
   else match site with
    |some id=>if n=0/\0<c/\bP c.toNat bytes/\id<H.length then N1 (.sr id (bH H id) 0,make H id (.vec · k []),[id])else N2
    |none=>N2
  |_,_=>N2
def aWU(k:Nat)(bytes:Nat)(s:aa)(x:aa)(H:LO)(ρ:bN)(site:Option Nat):Out:=eX H site k bytes (s.at ρ) (x.at ρ)
def aTM(ty:Nat)(k:Nat)(bytes:Nat)(s:aa)(x:aa)(H:LO)(ρ:bN)(site:Option Nat):Out:=vB H site ty k bytes (s.at ρ) (x.at ρ)
def aWV(k:Nat)(x:aa)(y:aa)(H:LO)(ρ:bN)(site:Option Nat):Out:=match x.at ρ with
  |.srv o v n k' lo=>match H[o]? with
   |some (.vec v' k2 rows)=>match cG H (y.at ρ)with
    |some new=>if new.isEmpty then N1 (.int .i64 0,H,[])else if v'=v/\rows.length=n/\k2=k/\k'=k/\dF k new/\lo+new.length<=n then
      N1 (.int .i64 (new.length:Nat),H.set o (.vec v k (rows.take lo++new++rows.drop (lo+new.length))),[o])
     else N2
    |none=>N2
   |_=>N2
  |_=>N2
def aRk (H:LO)(ρ:bN)(site:Option Nat):Out:=match site with
  |some id=>if id<H.length then N1 (.mp id (bH H id),make H id (.map · []),[id])else N2
  |none=>N2
def aWW(m:aa)(k:aa)(v:aa)(H:LO)(ρ:bN)(site:Option Nat):Out:=match m.at ρ,k.at ρ with
  |.mp o ver,key=>match H[o]? with
   |some (.map v' es)=>
    if v'=ver/\(aJK key key).isSome/\(v.at ρ).strip.cells.all AV.still then
     match iB key es 0 with
     |some (N1 (i,_))=>N1 (.undef,H.set o (.map ver (es.set i (key,(v.at ρ).strip))),[o])
     |some N2=>N1 (.undef,H.set o (.map ver (es++[(key,(v.at ρ).strip)])),[o])
     |none=>N2
    else N2
   |_=>N2
  |_,_=>N2
def wOp:df->LO->bN->Option Nat->Out:=λop=>match op with
 |.alloc a0=>aRi a0
 |.gv a0 a1=>aPa a0 a1
 |.box a0 a1=>aWQ a0 a1
 |.tbx a0 a1 a2=>aWR a0 a1 a2
 |.store a0 a1 a2=>aRj a0 a1 a2
 |.bsl a0 a1 a2 a3=>aWS a0 a1 a2 a3
 |.mks a0 a1 a2 a3 a4=>aWT a0 a1 a2 a3 a4
 |.app a0 a1 a2 a3=>aWU a0 a1 a2 a3
 |.ni a0 a1 a2 a3 a4=>aTM a0 a1 a2 a3 a4
 |.cpy a0 a1 a2=>aWV a0 a1 a2
 |.jn=>aRk
 |.ins a0 a1 a2=>aWW a0 a1 a2
 |_=>λ_ _ _=>N2
def aRl{call:Nat->LA->LO->Out}{op:df}{H:LO}{ρ:bN}{site:Option Nat}{r}(h:wOp op H ρ site=N1 r):aD0 call H ρ site op=N1 r:=by cases op<;>first | exact h | (simp[wOp]at h;done)
inductive KT where
 |e
 |n (v:AV) (l r:KT)
def aIb:Nat->Nat->List Bool
 |0,_=>[]
 |k+1,t=>if t=0 then [] else EY (t % 2) 1::aIb k ((t - 1) / 2)
def aG6(t:Nat):List Bool:=aIb t t
noncomputable def aIc(p:List Bool):KT->AV:=
 IU (motive:=λ_=>KT->AV) (λt=>KT.casesOn t .undef λv _ _=>v) (λb _ ih t=>KT.casesOn t .undef λ_ l r=>ih (MM r l b)) p
noncomputable def aTN(p:List Bool)(v:AV):KT->KT:=
 IU (motive:=λ_=>KT->KT) (λt=>KT.casesOn t (.n v .e .e) λ_ l r=>.n v l r)
  (λb _ ih t=>KT.casesOn t (MM (.n .undef .e (ih .e)) (.n .undef (ih .e) .e) b) λx l r=>MM (.n x l (ih r)) (.n x (ih l) r) b) p
noncomputable def toF(t:KT):bN:=λi=>aIc (aG6 i) t
noncomputable def aLF(d:Option Nat)(v:AV)(t:KT):KT:=match d with
 |none=>t
 |some d=>aTN (aG6 d) v t
def aMM:∀p,aIc p .e=.undef
 | []=>rfl
 |_::_=>rfl
def aKe(v:AV):∀(p q:List Bool) (t:KT),aIc p (aTN q v t)=if p=q then v else aIc p t
 | [],[],t=>by cases t<;>rfl
 |b::p,[],t=>by
  cases t with
  |e=>show aIc p (MM KT.e KT.e b)=_;cases b<;>simp[aMM]
  |n x l r=>simp;rfl
 | [],c::q,t=>by cases t<;>cases c<;>(simp;rfl)
 |b::p,c::q,t=>by
  have ih:=aKe v p q;cases t with
  |e=>cases b<;>cases c<;>first | (show aIc p (aTN q v .e)=_;rw[ih];by_cases h:p=q<;>simp[h,aMM]) | (show aIc p .e=_;simp[aMM])
  |n x l r=>cases b<;>cases c<;>first
   | (show aIc p (aTN q v r)=_;rw[ih];by_cases h:p=q<;>simp[h]<;>rfl)
   | (show aIc p (aTN q v l)=_;rw[ih];by_cases h:p=q<;>simp[h]<;>rfl)
   | (simp;rfl)
def xF:∀(k t:Nat),t<=k->aIb k t=aG6 t
 |0,t,h=>by
  have:t=0:=omT;subst this;rfl
 |k+1,t,h=>by
  cases t with
  |zero=>rfl
  |succ t=>show (if t+1=0 then [] else EY ((t+1) % 2) 1::aIb k (t / 2))=(if t+1=0 then [] else EY ((t+1) % 2) 1::aIb t (t / 2));rw[xF k (t / 2) omT,xF t (t / 2) omT]
def vJ(t:Nat):aG6 (t+1)=EY ((t+1) % 2) 1::aG6 (t / 2):=by show (if t+1=0 then [] else EY ((t+1) % 2) 1::aIb t (t / 2))=_;rw[Zx omT,xF t (t / 2) omT]
def aKf:∀(n s t:Nat),s<=n->aG6 s=aG6 t->s=t
 |0,s,t,hs,h=>by
  have:s=0:=omT;subst this;cases t with
  |zero=>rfl
  |succ t=>rw[vJ]at h;cases h
 |n+1,s,t,hs,h=>by
  cases s with
  |zero=>
   cases t with
   |zero=>rfl
   |succ t=>rw[vJ]at h;cases h
  |succ s=>
   cases t with
   |zero=>rw[vJ]at h;cases h
   |succ t=>
    rw[vJ,vJ]at h;injection h with h1 h2;have h3:=aKf n (s / 2) (t / 2) omT h2;have h4:((s+1) % 2=1)↔((t+1) % 2=1):=by rw[<- NJ,<- NJ,h1]
    omega
def aBb(d:Option Nat)(v:AV)(t:KT):toF (aLF d v t)=zX (toF t) d v:=by
 cases d with
 |none=>rfl
 |some d=>
  funext i;show aIc (aG6 i) (aTN (aG6 d) v t)=if i=d then v else aIc (aG6 i) t
  rw[aKe];by_cases h:i=d
  ·rw[Zy h,Zy (by rw[h])]
  rw[Zx h,Zx λhp=>h (aKf i i d (AQ _) hp)]
abbrev pV:=Nat->LA->LO->(AV->LO->LN->Bool)->Bool
def KOk(A:af)(K:pV):Prop:=∀f args H k,K f args H k=Pa->∃v H' wr,aG A f args H=N1 (v,H',wr)/\k v H' wr=Pa
def aSQ(H:LO)(site:Option Nat)(quiet:Bool)(v:AV)(H':LO)(wr:LN):Out:=
 if quiet then
  match v with
  |.own k rows=>
   match site with
   |some id=>if id<H'.length then N1 (.sr id (bH H' id) rows.length,make H' id (.vec · k rows),if wr.contains id then wr else id::wr)else N2
   |none=>N1 (.sl Po rows,H',wr)
  |v=>N1 (v,H',wr)
 else if wr.isEmpty&&decide (H'.length=H.length)&&v.atomic then N1 (v,H,[])else N2
noncomputable def aFz{α:Type}(o:Option α)(k:α->Bool):Bool:=Option.rec Po k o
def fX{α:Type}{o:Option α}{k:α->Bool}(h:aFz o k=Pa):∃a,o=N1 a/\k a=true:=by
 cases o with
 |none=>cases h
 |some a=>exact⟨a,rfl,h⟩
noncomputable def aMN(K:pV)(H:LO)(site:Option Nat)(f:AV)(args:LA)(k:AV->LO->LN->Bool):Bool:=
 match f with
 |.fn f first ay=>aFz (kA H (first++args++ay)) λp=>K f (p.1.map AV.strip) (dL H p.2) λv H' wr=>aFz (aSQ H site p.2.isEmpty v H' wr) λr=>k r.1 r.2.1 r.2.2
 |.yld o v=>aFz (kA H args) λp=>K YF (.own 0 []::.yld o v::p.1.map AV.strip) (dL H p.2) λb H' wr=>bif p.2.isEmpty&&b.atomic then k b H' wr else Po
 |_=>Po
def aEQ{A:af}{K:pV}(hK:KOk A K){H:LO}{site:Option Nat}{f:AV}{args:LA}{k}(h:aMN K H site f args k=Pa):∃r,cX (aG A) H site f args=N1 r/\k r.1 r.2.1 r.2.2=true:=by
 unfold aMN at h;split at h
 ·rename_i f first ay
  obtain⟨p,h1,h2⟩:=fX h;obtain⟨v,H',wr,h3,h4⟩:=hK _ _ _ _ h2;obtain⟨r,h5,h6⟩:=fX h4;refine⟨r, ?_,h6⟩;obtain⟨args',lent⟩:=p;simp only[cX,h1];simp only at h3;rw[h3];exact h5
 ·rename_i o v;obtain⟨p,h1,h2⟩:=fX h;obtain⟨b,H',wr,h3,h4⟩:=hK _ _ _ _ h2;obtain⟨args',lent⟩:=p;cases hc:lent.isEmpty&&b.atomic with
  |false=>simp only[hc,cond_false]at h4;cases h4
  |true=>simp only[hc,cond_true]at h4;refine⟨(b,H',wr), ?_,h4⟩;simp only[cX,h1];simp only at h3;rw[h3];dsimp only;rw[Zy hc]
 cases h
noncomputable def aPb(K:pV)(H:LO)(site:Option Nat)(f:AV)(args:LA)(k:AV->LO->LN->Bool):Bool:=
 match f with
 |.fn f first ay=>K f (first++args++ay) H λv H' wr=>aFz (aSQ H site Pa v H' wr) λr=>k r.1 r.2.1 r.2.2
 |_=>Po
def aKg{A:af}{K:pV}(hK:KOk A K){H:LO}{site:Option Nat}{f:AV}{args:LA}{k}(h:aPb K H site f args k=Pa):∃r,iN (aG A) H site f args=N1 r/\k r.1 r.2.1 r.2.2=true:=by
 unfold aPb at h;split at h
 ·rename_i f first ay
  obtain⟨v,H',wr,h3,h4⟩:=hK _ _ _ _ h;obtain⟨r,h5,h6⟩:=fX h4;refine⟨r, ?_,h6⟩;simp only[iN];rw[h3];exact h5
 cases h
def aTO:df->Bool
 |.alloc _ | .gv .. | .box .. | .tbx .. | .bsl .. | .mks .. | .store .. | .app .. | .ni .. | .dm .. | .ee .. | .nb .. | .cpy .. | .jn | .ins ..=>Pa
 |_=>Po
noncomputable def aMO(K:pV)(site:Option Nat)(inDraw:Bool)(op:df)(H:LO)(ρ:bN)(k:AV->LO->LN->Bool):Bool:=
 match op with
 |.dm f xs=>aMN K H site (f.at ρ) (xs.map (aa.at ρ)) k
 |.ee f xs=>aPb K H site (f.at ρ) (xs.map (aa.at ρ)) k
 |.nb tab x xs=>match x.at ρ with
  |.ifc t v=>aFz (tab.lookup t) λf=>aMN K H site (.fn f [v] []) (xs.map (aa.at ρ)) k
  |_=>Po
 |op=>if isW site inDraw op then aFz (wOp op H ρ site) λr=>k r.1 r.2.1 r.2.2 else Po
noncomputable def aRm(K:pV)(c:Ctx)(o:ae)(tr:KT)(H:LO)(k:AV->LO->LN->Bool):Bool:=
 bif aTO o.op then
  (bif isW (c.site o.dst) Po o.op then aMO K (c.site o.dst) Po o.op H (toF tr) k else aFz (rOp o.op H (toF tr)) λv=>k v H [])
 else aFz (rOp o.op H (toF tr)) λv=>k v H []
def aMP{site:Option Nat}{d:Bool}{op:df}(h:aTO op=Po):isW site d op=false:=by cases op<;>first | rfl | (cases h)
def aER{A:af}{K:pV}(hK:KOk A K){site:Option Nat}{d:Bool}{op:df}{H:LO}{ρ:bN}{k}(h:aMO K site d op H ρ k=Pa):isW site d op=Pa/\∃r,aD0 (aG A) H ρ site op=N1 r/\k r.1 r.2.1 r.2.2=true:=by
 unfold aMO at h;split at h
 ·obtain⟨r,h1,h2⟩:=aEQ hK h;exact⟨rfl,r,h1,h2⟩
 ·obtain⟨r,h1,h2⟩:=aKg hK h;exact⟨rfl,r,h1,h2⟩
 ·rename_i tab x xs;split at h
  ·rename_i t v hx;obtain⟨f,h0,h⟩:=fX h;obtain⟨r,h1,h2⟩:=aEQ hK h;refine⟨rfl,r, ?_,h2⟩;simp only[aD0,hx,h0];exact h1
  cases h
 split at h
 ·rename_i hw;obtain⟨r,h1,h2⟩:=fX h;exact⟨hw,r,aRl h1,h2⟩
 cases h
def aLG{A:af}{K:pV}(hK:KOk A K){c:Ctx}{o:ae}{tr:KT}{H:LO}{k}(h:aRm K c o tr H k=Pa):∃r,nB (aG A) (c.site o.dst) Po (toF tr) H o.op=N1 r/\k r.1 r.2.1 r.2.2=true:=by
 have viaR:isW (c.site o.dst) Po o.op=Po->aFz (rOp o.op H (toF tr)) (λv=>k v H [])=Pa->∃r,nB (aG A) (c.site o.dst) Po (toF tr) H o.op=N1 r/\k r.1 r.2.1 r.2.2=true:=by intro hw h;obtain⟨v,h1,h2⟩:=fX h;rw[aSP]at h1;refine⟨(v,H,[]), ?_,h2⟩;unfold nB;rw[Zx (by rw[hw];simp),h1]
 unfold aRm at h;cases hm:aTO o.op with
 |false=>rw[hm]at h;exact viaR (aMP hm) h
 |true=>
  rw[hm]at h;simp only[cond_true]at h;cases hw:isW (c.site o.dst) Po o.op with
  |false=>rw[hw]at h;exact viaR hw h
  |true=>rw[hw]at h;simp only[cond_true]at h;obtain⟨_,r,h1,h2⟩:=aER hK h;refine⟨r, ?_,h2⟩;unfold nB;rw[Zy hw];exact h1
abbrev KQ:=KT->LO->LN->Bool
noncomputable def aId(g:Option (Option Nat×Bool))(ρ:bN)(a b:Bool):Bool:=match g with
 |none=>a
 |some (N1 t,want)=>match ρ t with
  |.bool x=>bif x==want then a else b
  |.tup []=>b
  |_=>Po
 |some (N2,_)=>Po
def aG7{g:Option (Option Nat×Bool)}{ρ:bN}{a b:Bool}(h:aId g ρ a b=Pa):(zE ρ g=N1 Pa/\a=Pa)∨(zE ρ g=N1 Po/\b=Pa):=by
 unfold aId at h;unfold zE;split at h
 ·exact .inl ⟨rfl,h⟩
 ·rename_i t want;split at h
  ·rename_i x hx;simp only[hx];cases hw:x==want with
   |true=>rw[hw]at h;exact .inl ⟨rfl,h⟩
   |false=>rw[hw]at h;exact .inr ⟨rfl,h⟩
  ·rename_i hx;simp only[hx];exact .inr ⟨trivial,h⟩
  cases h
 cases h
noncomputable def aYt(K:pV)(c:Ctx)(ops:List ae):KT->LO->LN->KQ->Bool:=
 IU (motive:=λ_=>KT->LO->LN->KQ->Bool) (λtr H wr k=>k tr H wr)
  (λo _ ih tr H wr k=>aId o.guard (toF tr) (aRm K c o tr H λv H' w=>ih (aLF o.dst v tr) H' (bE c.base wr w) k) (ih (aLF o.dst (.tup []) tr) H wr k)) ops
def aE2{A:af}{K:pV}(hK:KOk A K){c:Ctx}:∀(ops:List ae) {tr:KT} {H:LO} {wr:LN} {k:KQ},aYt K c ops tr H wr k=Pa ->aD3 (aG A) c ops (toF tr) H wr λρ H wr=>∃tr,ρ=toF tr/\k tr H wr=Pa
 | [],tr,H,wr,k,h=>⟨tr,rfl,h⟩
 |o::ops,tr,H,wr,k,h=>by
  have h':aId o.guard (toF tr) (aRm K c o tr H λv H' w=>aYt K c ops (aLF o.dst v tr) H' (bE c.base wr w) k) (aYt K c ops (aLF o.dst (.tup []) tr) H wr k)=true:=h;unfold aD3;rcases aG7 h' with⟨h1,h2⟩ | ⟨h1,h2⟩
  ·rw[h1];obtain⟨r,h3,h4⟩:=aLG hK h2;dsimp only;rw[h3];dsimp only;rw[<- aBb];exact aE2 hK ops h4
  rw[h1];dsimp only;rw[<- aBb];exact aE2 hK ops h2
abbrev KL:=KT->LO->LN->Log->Bool
noncomputable def aMQ(K:pV)(c:Ctx)(o:ae)(tr:KT)(H:LO)(k:AV->LO->LN->Option LN->Bool):Bool:=
 match o.op,c.site o.dst with
 |.alloc _,N1 id=>k (.ptr id ((H[id]?).elim 0 ah.ver) 0) H [id] N2
 |op,site=>bif aTO op&&isW site Pa op then aMO K site Pa op H (toF tr) λv H' w=>EY H'.length H.length&&k v H' [] (N1 w)
  else aFz (rOp op H (toF tr)) λv=>k v H (aCc (toF tr) op) N2
def aKh{A:af}{K:pV}(hK:KOk A K){c:Ctx}{o:ae}{tr:KT}{H:LO}{k}(h:aMQ K c o tr H k=Pa):∃r,oB (aG A) (c.site o.dst) (toF tr) H o.op=N1 r/\k r.1 r.2.1 r.2.2.1 r.2.2.2=true:=by
 unfold aMQ at h;unfold oB;generalize o.op=op at h ⊢;generalize c.site o.dst=site at h ⊢;split at h
 ·exact⟨_,rfl,h⟩
 rename_i bl;have key:∃r,(if isW site Pa op then
   match aD0 (aG A) H (toF tr) site op with
   |some (v,H',wr)=>if H'.length=H.length then N1 (v,H',[],N1 wr)else N2
   |none=>N2
  else match vA H (toF tr) op with
   |some v=>N1 (v,H,aCc (toF tr) op,N2)
   |none=>N2)=N1 r/\k r.1 r.2.1 r.2.2.1 r.2.2.2=true:=by
  by_cases hm:(aTO op&&isW site Pa op)=Pa
  ·rw[hm]at h;simp only[cond_true]at h;obtain⟨hw,r,h3,h4⟩:=aER hK h;simp only[AI,NJ]at h4;refine⟨(r.1,r.2.1,[],N1 r.2.2), ?_,h4.2⟩;rw[Zy hw,h3];dsimp only;rw[Zy h4.1]
  have oq:(aTO op&&isW site Pa op)=false:=by simpa using hm
  rw[oq]at h;simp only[cond_false]at h;have hw:isW site Pa op=false:=by
   cases hq:aTO op with
   |false=>exact aMP hq
   |true=>rw[hq]at oq;simpa using oq
  obtain⟨v,h3,h4⟩:=fX h;rw[aSP]at h3;refine⟨(v,H,aCc (toF tr) op,N2), ?_,h4⟩;rw[Zx (by rw[hw];simp),h3]
 obtain⟨r,h1,h2⟩:=key;refine⟨r, ?_,h2⟩
 first
  |exact h1
  | (split<;>first | exact h1 | (rename_i zs id;exact (bl zs id rfl rfl).elim))
noncomputable def aRn(K:pV)(c:Ctx)(aq:LN)(ops:List ae):Nat->KT->LO->LN->KL->Bool:=
 IU (motive:=λ_=>Nat->KT->LO->LN->KL->Bool) (λ_ tr H wr k=>k tr H wr [])
  (λo _ ih i tr H wr k=>aId o.guard (toF tr) (aMQ K c o tr H λv H' rd w=>ih (i+1) (aLF o.dst v tr) H' (bE c.base wr (w.getD [])) (bif aq.contains i then λtr H wr log=>k tr H wr ((i,rd,w)::log)else k))
   (ih (i+1) (aLF o.dst (.tup []) tr) H wr k)) ops
def aCf{A:af}{K:pV}(hK:KOk A K){c:Ctx}{aq:LN}:∀(ops:List ae) {i:Nat} {tr:KT} {H:LO} {wr:LN} {k:KL} {k':bN->LO->LN->Log->Prop},(∀tr H wr log,k tr H wr log=Pa->k' (toF tr) H wr log)->aRn K c aq ops i tr H wr k=Pa->wpD (aG A) c aq i ops (toF tr) H wr k'
 | [],i,tr,H,wr,k,k',hk,h=>hk _ _ _ _ h
 |o::ops,i,tr,H,wr,k,k',hk,h=>by
  have h':aId o.guard (toF tr) (aMQ K c o tr H λv H' rd w=>aRn K c aq ops (i+1) (aLF o.dst v tr) H' (bE c.base wr (w.getD [])) (bif aq.contains i then λtr H wr log=>k tr H wr ((i,rd,w)::log)else k))
   (aRn K c aq ops (i+1) (aLF o.dst (.tup []) tr) H wr k)=true:=h
  unfold wpD;rcases aG7 h' with⟨h1,h2⟩ | ⟨h1,h2⟩
  ·rw[h1];obtain⟨r,h3,h4⟩:=aKh hK h2;dsimp only;rw[h3];obtain⟨v,H',rd,w⟩:=r;dsimp only at h4 ⊢;rw[<- aBb];refine aCf hK ops (λtr H wr log hh=>?_) h4;cases hc:aq.contains i with
   |true=>rw[hc]at hh;rw[Zy rfl];exact hk _ _ _ _ hh
   |false=>rw[hc]at hh;rw[Zx siT];exact hk _ _ _ _ hh
  rw[h1];dsimp only;rw[<- aBb];exact aCf hK ops hk h2
noncomputable def aTP(c:Ctx)(ts:List (Nat×Nat)):KT->LO->LN->KQ->Bool:=
 IU (motive:=λ_=>KT->LO->LN->KQ->Bool) (λtr H wr k=>k tr H wr)
  (λp _ ih tr H wr k=>match p with
   | (0,t)=>aFz (aMD H (toF tr t)) λr=>ih (aLF (N1 t) r.1 tr) r.2.1 (bE c.base wr r.2.2) k
   | (n+1,t)=>bif (toF tr t).iy then ih tr H wr k else match pE H (toF tr t)with
    |some r=>ih tr r.1 (bE c.base wr r.2) k
    |none=>aFz (bC H (n+1) (toF tr t)) λcs=>aFz (aMD H (.agg cs)) λr=>match r with
     | (.agg cs',H',l)=>aFz (storeCells H' cs' (toF tr t)) λq=>ih tr q.1 (bE c.base wr (l++q.2)) k
     |_=>Po) ts
def vK{c:Ctx}:∀(ts:List (Nat×Nat)) {tr:KT} {l:LA} {H:LO} {wr:LN} {k:KQ},ck l=toF tr->aTP c ts tr H wr k=Pa->(ts.all λp=>decide (p.2<l.length))=Pa ->∃s' tr',nX c ⟨l,H,wr⟩ ts=N1 s'/\s'.ρ.length=l.length/\ck s'.ρ=toF tr'/\k tr' s'.H s'.wr=Pa
 | [],tr,l,H,wr,k,he,h,_=>⟨⟨l,H,wr⟩,tr,rfl,rfl,he,h⟩
 | (0,t)::ts,tr,l,H,wr,k,he,h,hd=>by
  rw[ES,AI]at hd;have h':aFz (aMD H (toF tr t)) (λr=>aTP c ts (aLF (N1 t) r.1 tr) r.2.1 (bE c.base wr r.2.2) k)=true:=h;obtain⟨⟨v,H',l1⟩,h1,h2⟩:=fX h';have ht:t<l.length:=by simpa using hd.1
  have hf:ck (l.set t v)=toF (aLF (N1 t) v tr):=by rw[nG ht,he,aBb];rfl
  obtain⟨s',tr',g1,g2,g3,g4⟩:=vK ts hf h2 (by simpa using hd.2);refine⟨s',tr', ?_,by rw[g2];simp,g3,g4⟩;unfold nX;dsimp only;rw[show (l[t]?).getD .undef=toF tr t by rw[<- he];rfl,h1];exact g1
 | (n+1,t)::ts,tr,l,H,wr,k,he,h,hd=>by
  rw[ES,AI]at hd;have e1:(l[t]?).getD .undef=toF tr t:=by rw[<- he];rfl
  have h':(bif (toF tr t).iy then aTP c ts tr H wr k else match pE H (toF tr t)with
    |some r=>aTP c ts tr r.1 (bE c.base wr r.2) k
    |none=>aFz (bC H (n+1) (toF tr t)) λcs=>aFz (aMD H (.agg cs)) λr=>match r with
     | (.agg cs',H',l)=>aFz (storeCells H' cs' (toF tr t)) λq=>aTP c ts tr q.1 (bE c.base wr (l++q.2)) k
     |_=>Po)=true:=h
  cases hu:(toF tr t).iy with
  |true=>rw[hu]at h';obtain⟨s',tr',g1,g2,g3,g4⟩:=vK ts he h' hd.2;refine⟨s',tr', ?_,g2,g3,g4⟩;unfold nX;rw[Zy (by rw[e1];exact hu)];exact g1
  |false=>
   rw[hu]at h';simp only[cond_false]at h';cases hk:pE H (toF tr t)with
   |some r=>rw[hk]at h';obtain⟨s',tr',g1,g2,g3,g4⟩:=vK ts he h' hd.2;refine⟨s',tr', ?_,g2,g3,g4⟩;unfold nX;rw[Zx (by rw[e1,hu];simp)];dsimp only;rw[e1,hk];exact g1
   |none=>
   rw[hk]at h';dsimp only at h';obtain⟨cs,h1,h2⟩:=fX h';obtain⟨r,h3,h4⟩:=fX h2;split at h4
   ·rename_i cs' H' l1;obtain⟨⟨H2,l2⟩,h5,h6⟩:=fX h4;obtain⟨s',tr',g1,g2,g3,g4⟩:=vK ts he h6 hd.2;refine⟨s',tr', ?_,g2,g3,g4⟩;unfold nX;rw[Zx (by rw[e1,hu];simp)];dsimp only;rw[e1,hk];dsimp only;rw[h1];dsimp only;rw[h3];dsimp only;rw[h5];exact g1
   cases h4
end Go.AM
end
