/- Part 5: lemmas for the last text. -/
import Derived.Test.YtfpndhocfmfgdaaGreatDoorK04
import Derived.MapKept
set_option linter.unusedVariables false
set_option linter.unusedSimpArgs false
section
namespace Go.AM
open Go
section
variable {P:Program}{glob:Glob}{g:G}{H:List AObj}{w:World}{ρ:List AV}{a:Act}
variable {dst:Option Tmp}{type:TypeId}{pos:String}{after:Array Edge}{guard:Option (Nat×Bool)}
theorem yC(hw:WF g H w){av:AV}{rows:List (List AV)}(h:eH H av=some rows){x:Value}(hx:VRel g av x):
  (rows=[]/\∃cap,x=.slice none 0 cap)∨∃(b off cap k:Nat) (cells:List Value),x=.slice (some ⟨b,off,none⟩) rows.length cap/\rows.length<=cap/\RowsRel g k rows cells /\
   (∀(row:List AV),row∈rows->row.all AV.cellOk=true)/\∀(j:Nat) v,cells[j]? = some v->w.cell? ⟨b,off+j,none⟩=some v:=by
 have build:∀(b off k:Nat) (rows:List (List AV)),(∀row∈rows,row.length=k)->(∀(i j:Nat) (row:List AV) c,rows[i]? = some row->row[j]? = some c->∃y,w.cell? ⟨b,off+(i*k+j),none⟩=some y/\VRel g c y) ->
   ∃cells:List Value,RowsRel g k rows cells/\∀(j:Nat) v,cells[j]? = some v->w.cell? ⟨b,off+j,none⟩=some v:=by
  intro b off k rows hk hc;refine⟨(List.range (rows.length*k)).map fun j=>(w.cell? ⟨b,off+j,none⟩).getD Go.undef,⟨by simp,hk,fun i j row c x h1 h2 h3 => ?_⟩,fun j v hv => ?_⟩
  ·obtain⟨y,hy,hr⟩:=hc i j row c h1 h2;rw[List.getElem?_map]at h3;have hi:i<rows.length:=(List.getElem?_eq_some_iff.1 h1).1;have hj:j<k:=by rw[<- hk row (List.mem_of_getElem? h1)];exact (List.getElem?_eq_some_iff.1 h2).1
   have:=eC hi hj;simp[this,hy]at h3;subst h3;exact hr
  ·rw[List.getElem?_map]at hv
   by_cases hj:j<rows.length*k
   ·have hk0:0<k:=(Nat.eq_zero_or_pos k).elim (fun e=>by subst e;simp at hj) id
    have hi:j / k<rows.length:=by rw[Nat.div_lt_iff_lt_mul hk0];exact hj
    have hm:j % k<k:=Nat.mod_lt _ hk0;have hrk:=hk rows[j / k] (List.getElem_mem hi);obtain⟨y,hy,_⟩:=hc (j / k) (j % k) rows[j / k] (rows[j / k][j % k]'(by omega)) (by simp[hi]) (by simp[hrk,hm])
    have e:j / k*k+j % k=j:=by rw[Nat.mul_comm];exact Nat.div_add_mod j k
    rw[e]at hy;simp[hj,hy]at hv;rw[hy,hv]
   ·simp[hj]at hv
 unfold eH at h
 split at h
 ·cases h;rcases hx.sl_inv with⟨er,ex⟩ | ⟨b,off,cap,k,ex,hcap,_,hk,hst,hp,hrel⟩
  ·exact .inl ⟨er,0,ex⟩
  ·refine .inr ⟨b,off,cap,k, ?_⟩;obtain⟨cells,h1,h2⟩:=build b off k _ hk fun i j row c h1 h2=>by
    have hi:=(List.getElem?_eq_some_iff.1 h1).1;have hj:j<k:=by rw[<- hk row (List.mem_of_getElem? h1)];exact (List.getElem?_eq_some_iff.1 h2).1
    have:=hp i j hi hj;cases hq:g.perm b (off+i*k+j)with
    |none=>simp[hq]at this
    |some y=>exact⟨y,by rw[<- Nat.add_assoc];exact hw.perm _ _ _ hq,hrel i j row c y h1 h2 hq⟩
   exact⟨cells,ex,hcap,h1,fun row hm=>iL (hst row hm),h2⟩
 ·cases h;cases hx;exact .inl ⟨rfl,0,rfl⟩
 ·split at h
  ·rename_i o v n _ v' k rows' hH
   split at h
   ·rename_i hc;cases h;obtain⟨rfl,hlen⟩:=hc;cases hx with
    |sr o v n l b cap hl hv hn hc0 hh=>
     have hst:l.st=v':=by
      have:=hw.st o _ l hH hl;simp only[AObj.ver]at this;omega
     obtain⟨h0,hlk,hcap,_,hk,_,hcell⟩:=hw.obj o l _ ⟨hH,rfl,hl,hst⟩;obtain⟨rfl,rfl⟩:=hh hst (by omega)
     refine .inr ⟨l.b,0,l.cap,k, ?_⟩;obtain⟨cells,h1,h2⟩:=build l.b 0 k _ hk fun i j row c h1 h2=>by
      obtain⟨_,y,hy,hr⟩:=hcell i j row c h1 h2;exact⟨y,by rw[Nat.zero_add];exact hy,hr⟩
     refine⟨cells,by rw[hlen],by omega,h1,fun row hm => ?_,h2⟩
     obtain⟨i,hi⟩:=List.mem_iff_getElem?.1 hm;rw[List.all_eq_true];intro c hc;obtain⟨j,hj⟩:=List.mem_iff_getElem?.1 hc;exact (hcell i j row c hi hj).1
   ·cases h
  ·rename_i o v n _ v' ty k rows' hH
   split at h
   ·rename_i hc;cases h;obtain⟨rfl,hlen⟩:=hc;cases hx with
    |sr o v n l b cap hl hv hn hc0 hh=>
     have hst:l.st=v':=by
      have:=hw.st o _ l hH hl;simp only[AObj.ver]at this;omega
     obtain⟨⟨h0,hlk,hcap,_,hk,_,hcell⟩,_⟩:=hw.obj o l _ ⟨hH,rfl,hl,hst⟩;obtain⟨rfl,rfl⟩:=hh hst (by omega)
     refine .inr ⟨l.b,0,l.cap,k, ?_⟩;obtain⟨cells,h1,h2⟩:=build l.b 0 k _ hk fun i j row c h1 h2=>by
      obtain⟨_,y,hy,hr⟩:=hcell i j row c h1 h2;exact⟨y,by rw[Nat.zero_add];exact hy,hr⟩
     refine⟨cells,by rw[hlen],by omega,h1,fun row hm => ?_,h2⟩
     obtain⟨i,hi⟩:=List.mem_iff_getElem?.1 hm;rw[List.all_eq_true];intro c hc;obtain⟨j,hj⟩:=List.mem_iff_getElem?.1 hc;exact (hcell i j row c hi hj).1
   ·cases h
  ·cases h
 ·split at h
  ·rename_i o v n k0 lo _ v' k rows' hH
   split at h
   ·rename_i hc;cases h;obtain⟨rfl,hlen,rfl⟩:=hc;cases hx with
    |srv o v n k lo l b cap hl hv hn hlo hh=>
     have hst:l.st=v':=by
      have:=hw.st o _ l hH hl;simp only[AObj.ver]at this;omega
     obtain⟨h0,hlk,hcap,_,hk,_,hcell⟩:=hw.obj o l _ ⟨hH,rfl,hl,hst⟩;obtain⟨off,rfl,hoff,hcp⟩:=hh hst (by omega)
     refine .inr ⟨l.b,off,cap,k, ?_⟩;obtain⟨cells,h1,h2⟩:=build l.b off k (rows'.drop lo) (fun row hm=>hk row (List.mem_of_mem_drop hm)) fun i j row c h1 h2=>by
      rw[List.getElem?_drop]at h1;obtain rfl:=hoff (by have:=(List.getElem?_eq_some_iff.1 h1).1;omega)
      obtain⟨_,y,hy,hr⟩:=hcell (lo+i) j row c h1 h2;exact⟨y,by rw[<- Nat.add_assoc,<- Nat.add_mul];exact hy,hr⟩
     refine⟨cells,by rw[List.length_drop,hlen],by rw[List.length_drop];omega,h1,fun row hm => ?_,h2⟩
     obtain⟨i,hi⟩:=List.mem_iff_getElem?.1 (List.mem_of_mem_drop hm);rw[List.all_eq_true];intro c hc;obtain⟨j,hj⟩:=List.mem_iff_getElem?.1 hc;exact (hcell i j row c hi hj).1
   ·cases h
  ·cases h
 ·split at h
  ·rename_i o v n hi0 _ v' k rows' hH
   split at h
   ·rename_i hc;cases h;obtain⟨rfl,hlen,hle⟩:=hc;cases hx with
    |srw o v n hi0 l b cap hl hv hn hhi hh=>
     have hst:l.st=v':=by
      have:=hw.st o _ l hH hl;simp only[AObj.ver]at this;omega
     obtain⟨h0,hlk,hcap,_,hk,_,hcell⟩:=hw.obj o l _ ⟨hH,rfl,hl,hst⟩;obtain⟨rfl,rfl⟩:=hh hst (by omega)
     refine .inr ⟨l.b,0,l.cap,k, ?_⟩;obtain⟨cells,h1,h2⟩:=build l.b 0 k (rows'.take hi0) (fun row hm=>hk row (List.mem_of_mem_take hm)) fun i j row c h1 h2=>by
      rw[List.getElem?_take]at h1
      split at h1
      ·obtain⟨_,y,hy,hr⟩:=hcell i j row c h1 h2;exact⟨y,by rw[Nat.zero_add];exact hy,hr⟩
      ·cases h1
     refine⟨cells,by rw[List.length_take,Nat.min_eq_left (by omega)],by rw[List.length_take];omega,h1,fun row hm => ?_,h2⟩
     obtain⟨i,hi⟩:=List.mem_iff_getElem?.1 (List.mem_of_mem_take hm);rw[List.all_eq_true];intro c hc;obtain⟨j,hj⟩:=List.mem_iff_getElem?.1 hc;exact (hcell i j row c hi hj).1
   ·cases h
  ·cases h
 ·cases h
theorem VRel.ep_new{row:List AV}{b:Nat}{cells:Array Value}(hst:row.all AV.still=true)(h:fO (g.addPerm b fun i=>cells[i]?) row cells.toList):
  VRel (g.addPerm b fun i=>cells[i]?) (.ep row 0) (.pointer (some ⟨b,0,none⟩)):=by
 refine .ep row 0 b 0 hst (fun j hj => ?_) fun j c x hc hx => ?_
 ·have:=h.1;simp at this;simp only[G.addPerm,if_true,Nat.zero_add];rw[Array.getElem?_eq_getElem (by omega)];rfl
 ·simp only[G.addPerm,if_true,Nat.zero_add]at hx;exact h.2 j c x hc (by simpa using hx)
theorem aQ5{t:TypeId}{zs:List AV}(hz:zeroCells? P glob t=some zs){av:AV}(h:evR H ρ (.alloc zs)=some av)(hw:WF g H w):
  gW P ⟨dst,.alloc t,type,pos,after,guard⟩ a w (hJ g H w av):=by
 simp only[evR]at h
 split at h
 ·rename_i hst;cases h;obtain⟨it,z,hi,hzz,hzr⟩:=zeroCells?_spec hz;have hstep:=Step.allocPerm (w':=w.alloc (.cells z.cells t)) hw z.cells t (0,0) rfl;refine bE (v:=.pointer (some ⟨w.heap.size,0,none⟩)) (w':=w.alloc (.cells z.cells t)) ?_ ⟨_,hstep,VRel.ep_new (iM hst) (hzr _).strip1⟩;simp[execOp,Instr.alloc,zeroValue,typeInfo,hi,hzz,newVar,newRow]
 ·cases h
theorem aW2{t:TypeId}{k:Nat}{X:Operand}{x:AOpd}(hx:eO glob X=some x){av:AV}(h:evR H ρ (.box k x)=some av)
  (hw:WF g H w) (hg:bI P glob g) (hs:aT g ρ a.tmps):gW P ⟨dst,.box t X,type,pos,after,guard⟩ a w (hJ g H w av):=by
 simp only[evR]at h
 split at h
 ·rename_i hc;cases h;have hl:=(aJ hx hg hs).strip.cells (iL hc.2);have hstep:=Step.allocPerm (w':=w.alloc (.cells (a.eval X).cells t)) hw (a.eval X).cells t (0,0) rfl;refine bE (v:=.pointer (some ⟨w.heap.size,0,none⟩)) (w':=w.alloc (.cells (a.eval X).cells t)) ?_ ⟨_,hstep,VRel.ep_new hc.2 (hl.mono hstep.le)⟩;simp[execOp,Instr.box,newVar,newRow]
 ·cases h
theorem aW3{f:Nat}{F C:Array Operand}{first caps:List AOpd}(hf:rU glob F.toList=some first)(hc:rU glob C.toList=some caps){av:AV}(h:evR H ρ (.mkf f first caps)=some av)
  (hw:WF g H w) (hg:bI P glob g) (hs:aT g ρ a.tmps):gW P ⟨dst,.makeFunc (.func f) F C,type,pos,after,guard⟩ a w (hJ g H w av):=by
 simp only[evR]at h
 split at h
 ·cases h;have h1:=(lS hf hg hs).strip1;have h2:=(lS hc hg hs).strip1;rw[List.map_map]at h1 h2;refine bE (v:=.func (.func f) (F.map a.eval) (C.map a.eval)) (w':=w) (by simp[execOp,Instr.makeFunc]) (.same hw (.fn f _ _ _ _ ?_ ?_ ?_ ?_))
  ·have:=h1.1;simpa using this
  ·have:=h2.1;simpa using this
  ·intro i c x h3 h4;exact h1.2 i c x h3 (by simpa using h4)
  ·intro i c x h3 h4;exact h2.2 i c x h3 (by simpa using h4)
 ·cases h
theorem aLG{mx:Bool}{x y z:AV}(h:mm2 mx x y=some z){u v:Value}(hx:VRel g x u)(hy:VRel g y v):
  ∃c,(if mx then Builtin.max2 u v else Builtin.min2 u v).run P w=.ok c w/\VRel g z c:=by
 unfold mm2 at h
 split at h
 ·split at h
  ·rename_i e;subst e;cases h;cases hx.int_inv;cases hy.int_inv;cases mx
   ·exact⟨_,by simp only[Bool.false_eq_true,if_false,Builtin.min2,Sem.run_pure],.int _ _⟩
   ·exact⟨_,by simp only[if_true,Builtin.max2,Sem.run_pure],.int _ _⟩
  ·cases h
 ·cases h
theorem aCH{mx:Bool}:∀(l:List AV) (x z:AV),aCE mx x l=some z->∀(u:Value) (vs:List Value),VRel g x u->fO g l vs ->
  ∃c,(vs.foldlM (fun p q=>if mx then Builtin.max2 p q else Builtin.min2 p q) u).run P w=.ok c w/\VRel g z c
 | [],x,z,h,u,vs,hx,hl=>by
  simp only[aCE,Option.some.injEq]at h;subst h;have:vs=[]:=List.eq_nil_of_length_eq_zero (by have:=hl.1;simpa using this.symm)
  subst this;exact⟨u,by simp,hx⟩
 |y::l,x,z,h,u,vs,hx,hl=>by
  simp only[aCE]at h
  split at h
  ·rename_i z1 hz;cases vs with
   |nil=>have:=hl.1;simp at this
   |cons v vs=>
    obtain⟨c,h1,h2⟩:=aLG (P:=P) (w:=w) hz hx (hl.2 0 y v rfl rfl);obtain⟨c',h3,h4⟩:=aCH l z1 z h c vs h2 ⟨by have:=hl.1;simpa using this,fun i a b ha hb=>hl.2 (i+1) a b (by simpa using ha) (by simpa using hb)⟩
    refine⟨c', ?_,h4⟩;simp only[List.foldlM_cons,Sem.run_bind,h1,Result.andThen_ok,h3]
  ·cases h
theorem aXp{mx:Bool}{ty:TypeId}{ts:Array TypeId}{X:Array Operand}{xs:List AOpd}(hx:rU glob X.toList=some xs){av:AV}(h:evR H ρ (.mm mx xs)=some av)
  (hw:WF g H w) (hg:bI P glob g) (hs:aT g ρ a.tmps):gW P ⟨dst,.call { callee:=.builtin (if mx then .max else .min),args:=X,argTypes:=ts },ty,pos,after,guard⟩ a w (hJ g H w av):=by
 have hl:=lS hx hg hs;simp only[evR]at h;generalize hxs:xs.map (AOpd.ev ρ)=l at h hl;cases l with
 |nil=>simp[mmV]at h
 |cons y r=>
  simp only[mmV]at h;generalize hvs:X.toList.map a.eval=vs at hl;cases vs with
  |nil=>have:=hl.1;simp at this
  |cons v vs=>
   obtain⟨c,h1,h2⟩:=aCH (P:=P) (w:=w) (mx:=mx) r y av h v vs (hl.2 0 y v rfl rfl) ⟨by have:=hl.1;simpa using this,fun i a b ha hb=>hl.2 (i+1) a b (by simpa using ha) (by simpa using hb)⟩
   refine bE (v:=c) (w':=w) ?_ (.same hw h2);have harr:(X.map a.eval).toList=v::vs:=by rw[Array.toList_map];exact hvs
   cases mx
   ·simp only[Bool.false_eq_true,if_false]at h1;simp[execOp,resolve,invoke,builtin,Builtin.min_,hvs,h1]
   ·simp only[if_true]at h1;simp[execOp,resolve,invoke,builtin,Builtin.max_,hvs,h1]
theorem xJ:∀{rows:List (List AV)} {l:List UInt8},cF rows=some l->∃ns:List Int,rows=ns.map (fun n=>[AV.int .u8 n])/\l=ns.map fun n=>UInt8.ofNat n.toNat
 | [],l,h=>by simp only[cF,Option.some.injEq]at h;subst h;exact⟨[],rfl,rfl⟩
 |row::r,l,h=>by
  unfold cF at h
  split at h
  ·simp_all
  ·rename_i n r' e;obtain⟨l',hl',rfl⟩:=map_some h;cases e;obtain⟨ns,rfl,rfl⟩:=xJ hl';exact⟨n::ns,rfl,rfl⟩
  ·cases h
theorem aKA(ns:List Int):∀s:ByteArray,(ns.foldl (fun r n=>r.push (UInt8.ofNat n.toNat)) s).data.toList=s.data.toList++ns.map fun n=>UInt8.ofNat n.toNat:=by
 induction ns with
 |nil=>intro s;simp
 |cons n ns ih=>
  intro s;simp only[List.foldl_cons,ih,List.map_cons]
  show (s.data.push _).toList++_=_
  simp
theorem aDN(w:World)(e:TypeId)(s:ByteArray):(Lib.bytesWorld w e s).heap=w.heap.push (.cells (Lib.bytesCells w e s) e ((Lib.bytesCells w e s).size,(Lib.bytesCells w e s).size+1)):=by
 apply Array.ext_getElem?;intro i;rw[Array.getElem?_push];rcases Nat.lt_trichotomy i w.heap.size with h | h | h
 ·have:i≠w.heap.size:=by omega
  rw[Lib.bytesWorld_at_old w e s i h];simp[this]
 ·subst h;rw[Lib.bytesWorld_at_new];simp
 ·have:i≠w.heap.size:=by omega
  rw[Array.getElem?_eq_none (by rw[Lib.bytesWorld_size];omega),if_neg this,Array.getElem?_eq_none (by omega)]
theorem aHc{e:TypeId}(h:aUC P e=true):P.underlying e=some (.int .u8)/\size? P e=some 1:=by
 unfold aUC at h
 split at h
 ·rename_i hd;exact⟨hd,by simpa using h⟩
 ·cases h
theorem aSR{src d:TypeId}{c:AConv}{X:Operand}{x:AOpd}(hc:aQ0 P src d=some c)(hx:eO glob X=some x){av:AV}(h:evR H ρ (.conv c x)=some av)
  (hw:WF g H w) (hg:bI P glob g) (hs:aT g ρ a.tmps):gW P ⟨dst,.convert src d X,type,pos,after,guard⟩ a w (hJ g H w av):=by
 have hr:=aJ hx hg hs;simp only[evR]at h;unfold aQ0 at hc;generalize hxv:x.ev ρ=xv at h hr
 split at hc
 ·rename_i k0 k h1 h2;cases hc;cases xv<;>simp[pG]at h;subst h;have e:=hr.int_inv;exact bE (w':=w) (v:=.int k (k.wrap _)) (by simp[execOp,convert,run_underlying h1,run_underlying h2,e,Conv.intToInt]) (.same hw (.int _ _))
 ·rename_i k0 h1 h2;cases hc;cases xv<;>simp[pG]at h;rename_i k n;obtain⟨hn,rfl⟩:=h;have e:=hr.int_inv;refine bE (w':=w) (v:=.string (Utf8.encode n)) (by simp[execOp,convert,run_underlying h1,run_underlying h2,e,Conv.intToString]) (.same hw ?_)
  have hen:(Utf8.encode n).data.toList=[UInt8.ofNat n.toNat]:=by
   have hv:Utf8.valid n=true:=by unfold Utf8.valid;simp;omega
   have hlt:n.toNat<128:=by omega
   simp[Utf8.encode,hv,hlt]
  rw[<- hen];exact .str _
 ·rename_i h1 h2;cases hc;cases xv<;>simp[pG]at h;subst h;obtain⟨s,e,hs'⟩:=hr.str_inv;exact bE (w':=w) (v:=.string s) (by simp[execOp,convert,run_underlying h1,run_underlying h2,e]) (.same hw (e ▸ hr))
 ·rename_i e h1 h2
  split at hc
  ·rename_i hu;cases hc;obtain⟨hu1,hu2⟩:=aHc hu;cases xv<;>simp[pG]at h;rename_i l;obtain⟨hlen,rfl⟩:=h;obtain⟨s,ex,hs'⟩:=hr.str_inv;have hstep:=Step.allocPerm (w':=Lib.bytesWorld w e s) hw _ e _ (aDN w e s);refine bE (w':=Lib.bytesWorld w e s) (v:=.slice (some ⟨w.heap.size,0,none⟩) s.size (grownCap w s.size 0 e)) ?_ ⟨_,hstep, ?_⟩
   ·simp only[execOp,ex,Sem.run_bind,Lib.run_convert_string_bytes w src d e s h1 h2 hu1,Result.andThen_ok,Sem.run_pure]
   ·have hl:(aG l).length=s.size:=by rw[rY hs'];simp[aG]
    rw[<- hl];refine VRel.sl_new (k:=1) ?_ (by rw[hl];exact grownCap_ge w s.size 0 e) (by simp) ⟨?_, ?_, ?_⟩
    ·simp[aG,AV.still]
    ·have:=grownCap_ge w s.size 0 e;have h4:s.data.size=s.size:=rfl;rw[hl];simp[Lib.bytesCells,h4]
    ·intro row hm;simp only[aG,List.mem_map]at hm;obtain⟨b,_,rfl⟩:=hm;rfl
    ·intro i j row c y h3 h4 h5;simp only[aG,List.getElem?_map]at h3;cases hb:l[i]? with
     |none=>simp[hb]at h3
     |some b=>
      simp[hb]at h3;subst h3;cases j with
      |succ j=>simp at h4
      |zero=>
       simp at h4;subst h4;have hi:i<l.length:=(List.getElem?_eq_some_iff.1 hb).1;rw[<- hs']at hb;rw[List.getElem?_take,hl]at h5;have hi':i<s.size:=by rw[rY hs'];exact hi
       have hi2:i<s.data.size:=hi';have hi3:i<s.data.toList.length:=by simpa using hi2
       simp only[Nat.mul_one,Nat.add_zero,hi',if_true,Lib.bytesCells,Array.toList_append,Array.toList_map,List.getElem?_append,List.length_map,hi3,List.getElem?_map,List.getElem?_eq_getElem hi3,Option.map_some,Option.some.injEq,Array.getElem_toList]at h5;rw[Array.getElem?_toList,Array.getElem?_eq_getElem hi2]at hb;cases hb;rw[<- h5];exact .int _ _
  ·cases hc
 ·rename_i e h1 h2
  split at hc
  ·rename_i hu;cases hc;obtain⟨hu1,hu2⟩:=aHc hu;simp only[pG]at h;cases hrows:eH H xv with
   |none=>simp[hrows]at h
   |some rows=>
    simp only[hrows]at h;obtain⟨l,hl,rfl⟩:=map_some h;obtain⟨ns,hns,rfl⟩:=xJ hl;have hun:∀A n c,(convert src d (.slice A n c)).run P w=(Conv.bytesToString (.slice A n c)).run P w:=fun A n c=>by
     simp[convert,run_underlying h1,run_underlying h2,run_underlying hu1]
    rcases yC hw hrows hr with⟨er,cap,ex⟩ | ⟨b,off,cap,k,cells,ex,hcap,hrr,hst,hcell⟩
    ·subst er;have:ns=[]:=by cases ns with | nil=>rfl | cons n ns=>simp at hns
     subst this;refine bE (w':=w) (v:=.string .empty) ?_ (.same hw (.str' rfl));simp only[execOp,ex,Sem.run_bind,hun,Conv.bytesToString,Sem.run_pure,Result.andThen_ok]
    ·have hcells:cells=ns.map (Value.int .u8):=by
      by_cases hne:ns=[]
      ·subst hne;have:=hrr.len;rw[hns]at this;simpa using this
      ·have hk1:k=1:=by
        cases ns with
        |nil=>exact absurd rfl hne
        |cons n ns=>have:=hrr.row [.int .u8 n] (by rw[hns];simp);simp at this;exact this.symm
       subst hk1;have hlen:=hrr.len;rw[hns]at hlen;simp at hlen;apply List.ext_getElem?;intro i;rw[List.getElem?_map]
       by_cases hi:i<ns.length
       ·have h3:cells[i]? = some (cells[i]'(by omega)):=by simp[hlen,hi]
        have h4:=hrr.rel i 0 [.int .u8 ns[i]] (.int .u8 ns[i]) (cells[i]'(by omega)) (by rw[hns];simp[hi]) rfl (by simp)
        rw[h3];simp[hi,h4.int_inv]
       ·simp[hi,hlen]
     have hld:=run_loadCells_list (P:=P) w ⟨b,off,none⟩ cells (fun j v hv=>by rw[fP];exact hcell j v hv)
     have hlenr:rows.length=ns.length:=by rw[hns];simp
     have hlc:cells.length=rows.length:=by rw[hcells,hlenr];simp
     rw[hlc]at hld;have hb:=run_bytesToString (P:=P) w ⟨b,off,none⟩ rows.length cap ns (by rw[hld,hcells])
     refine bE (w':=w) ?_ (.same hw (.str' (aKA ns ByteArray.empty)));simp only[execOp,ex,Sem.run_bind,hun,hb,Result.andThen_ok,Sem.run_pure]
  ·cases hc
 ·cases hc
end
end Go.AM
end
section
namespace Go.AM
open Go Go.MapKept
section
variable {P:Program}{glob:Glob}{g:G}{H:List AObj}{w w':World}{ρ:List AV}{a:Act}
variable {dst:Option Tmp}{type:TypeId}{pos:String}{after:Array Edge}{guard:Option (Nat×Bool)}
def aQ6(g:G)(es:List (AV×AV))(xs:List MapEntry):Prop:=
 es.length=xs.length/\∀(i:Nat) k v e,es[i]? = some (k,v)->xs[i]? = some e->VRel g k e.key/\VRel g v e.val
theorem aQ6.tail{k v:AV}{es:List (AV×AV)}{e:MapEntry}{xs:List MapEntry}(h:aQ6 g ((k,v)::es) (e::xs)):aQ6 g es xs:=
 ⟨by simpa using h.1,fun i k v e h1 h2=>h.2 (i+1) k v e (by simpa using h1) (by simpa using h2)⟩
theorem hU{K:IntKind}{key:AV}{x:Value}(hx:VRel g key x):∀(es:List (AV×AV)) (xs:List MapEntry) (i:Nat) (r:Option (Nat×AV)),aQ6 g es xs->gY key es i=some r ->
  match r with
  |none=>Instr.findNow (.int K) x xs i=some none
  |some (j,v)=>∃j' e k n,j=i+j'/\xs[j']? = some e/\es[j']? = some (.int k n,v)/\key=.int k n/\Instr.findNow (.int K) x xs i=some (some (j,e.val))
 | [],xs,i,r,hr,h=>by
  simp only[gY,Option.some.injEq]at h;subst h;have:=hr.1;cases xs with
  |nil=>rfl
  |cons _ _=>simp at this
 | (k',v)::es,xs,i,r,hr,h=>by
  cases xs with
  |nil=>have:=hr.1;simp at this
  |cons e xs=>
   obtain⟨hk,hv⟩:=hr.2 0 k' v e rfl rfl;unfold gY at h
   split at h
   ·rename_i he;cases h;unfold aH4 at he
    split at he
    ·rename_i k a k2 b
     split at he
     ·rename_i hkk;subst hkk;simp at he;subst he;cases hx;cases hk':e.key<;>rw[hk']at hk<;>cases hk;exact⟨0,e,k,a,rfl,rfl,rfl,rfl,by simp[Instr.findNow,hk',Instr.sameNow]⟩
     ·cases he
    ·cases he
   ·rename_i he;have ih:=hU (K:=K) hx es xs (i+1) r hr.tail h;have hnow:Instr.sameNow (.int K) x e.key=some false:=by
     unfold aH4 at he
     split at he
     ·rename_i k a k2 b
      split at he
      ·rename_i hkk;subst hkk;simp at he;cases hx;cases hk':e.key<;>rw[hk']at hk<;>cases hk;simp[Instr.sameNow,he]
      ·cases he
     ·cases he
    have hstep:Instr.findNow (.int K) x (e::xs) i=Instr.findNow (.int K) x xs (i+1):=by
     simp[Instr.findNow,hnow]
    cases r with
    |none=>simp only at ih ⊢;rw[hstep];exact ih
    |some jv=>
     obtain⟨j,v'⟩:=jv;simp only at ih ⊢;obtain⟨j',e',k,n,h1,h2,h3,h4,h5⟩:=ih;exact⟨j'+1,e',k,n,by omega,by simpa using h2,by simpa using h3,h4,by rw[hstep];exact h5⟩
   ·cases h
theorem oS{kt:TypeId}{K:IntKind}(hd:P.underlying kt=some (.int K))(b:Bool)(n:Nat)(x:Value):(Instr.checkKey b (n+1) kt x).run P w=.ok () w:=by
 unfold Instr.checkKey;simp only[Sem.run_bind,run_underlying hd,Result.andThen];cases x<;>rfl
theorem aDO(hw:WF g H w){o v v':Nat}{es:List (AV×AV)}(ho:H[o]? = some (.map v' es))(hv:v'=v){x:Value}(hx:VRel g (.mp o v) x):
  ∃l entries clock,Backed g H o l (.map v es)/\x=.map (some l.b)/\w.heap[l.b]? = some (.map entries clock)/\aQ6 g es entries.toList/\l.len=0:=by
 subst hv;cases hx with
 |mp _ _ l r hl hv h=>
  have hst:l.st=v':=by have:=hw.st o _ l ho hl;simp only[AObj.ver]at this;omega
  have hb:Backed g H o l (.map v' es):=⟨ho,rfl,hl,hst⟩;obtain⟨h0,entries,clock,h2,h3,h4⟩:=hw.obj o l _ hb;refine⟨l,entries,clock,hb,by rw[h hst h0],h2,⟨by simpa using h3,fun i k v e h5 h6=>h4 i k v e h5 (by simpa using h6)⟩,h0⟩
theorem zeroV?_spec{t:TypeId}{z:AV}(h:zeroV? P glob t=some z):∃zv,(∀w,(zeroValue t).run P w=.ok zv w)/\∀g,VRel g z zv:=by
 unfold zeroV? at h;cases hi:P.info? t with
 |none=>rw[hi]at h;simp at h
 |some i=>
  rw[hi]at h;simp only[Option.bind_some]at h;cases hz:i.zero with
  |none=>rw[hz]at h;simp at h
  |some zv=>
   rw[hz]at h;simp only[Option.bind_some]at h;exact⟨zv,fun w=>by simp[zeroValue,typeInfo,hi,hz],fun g=>aH7 h g⟩
theorem VRel.tup2{b c:AV}{x y:Value}(h1:VRel g b x)(h2:VRel g c y):VRel g (.tup [b,c]) (.tuple #[x,y]):=by
 refine VRel.tup _ _ rfl fun i a z ha hz => ?_
 match i with
 |0=>simp at ha hz;subst ha;subst hz;exact h1
 |1=>simp at ha hz;subst ha;subst hz;exact h2
 |i+2=>simp at ha
theorem aKB(hw:WF g H w){ks vs:List AV}{x:Value}(hx:VRel g (.fmp ks vs) x):
  ∃r entries clock,x=.map (some r)/\w.heap[r]? = some (.map entries clock)/\aQ6 g (ks.zip vs) entries.toList:=by
 cases hx with
 |fmp _ _ r entries clock hwh hk hv h1 h2=>
  refine⟨r,entries,clock,rfl,(hw.whole.blocks _ _ hwh).1,by simp[hk,hv],fun i k v e h5 h6 => ?_⟩
  rw[List.getElem?_zip_eq_some]at h5;exact⟨h1 i k e h5.1 (by simpa using h6),h2 i v e h5.2 (by simpa using h6)⟩
theorem aSS{t kt et:TypeId}{K:IntKind}{M X:Operand}{m k:AOpd}{zero:AV}{ok:Bool}(ht:P.underlying t=some (.map kt et))(hk:P.underlying kt=some (.int K))(hz:zeroV? P glob et=some zero)
  (hM:eO glob M=some m) (hX:eO glob X=some k) {av:AV} (h:evR H ρ (.look zero m k ok)=some av) (hw:WF g H w) (hg:bI P glob g) (hs:aT g ρ a.tmps):
  gW P ⟨dst,.lookup t M X ok,type,pos,after,guard⟩ a w (hJ g H w av):=by
 have hm:=aJ hM hg hs;have hx:=aJ hX hg hs;simp only[evR]at h
 split at h
 ·rename_i o v e;rw[e]at hm
  split at h
  ·rename_i v' es ho
   split at h
   ·rename_i hv;obtain⟨l,entries,clock,hb,hmv,hheap,hrel,_⟩:=aDO hw ho hv hm;obtain⟨zv,hz1,hz2⟩:=zeroV?_spec hz;have hck:∀b,(Instr.checkKey b 10000 kt (a.eval X)).run P w=.ok () w:=fun b=>oS hk b 9999 (a.eval X)
    split at h
    ·rename_i j x hf;obtain⟨j',e',k',n,h1,h2,h3,h4,h5⟩:=hU (K:=K) hx es entries.toList 0 _ hrel hf;have hval:=(hrel.2 j' _ _ e' h3 h2).2;have hfk:=run_findKey (w:=w) hk h5;have hrun:(Instr.lookup t (a.eval M) (a.eval X) ok).run P w=.ok (if ok then .tuple #[e'.val,.bool true] else e'.val) w:=by
      simp[Instr.lookup,run_underlying ht,hmv,MapKept.run_getObj_map hheap,hck,hfk,Result.andThen]
     refine bE (v:=if ok then .tuple #[e'.val,.bool true] else e'.val) (w':=w) (by simp[execOp,hrun]) (.same hw ?_)
     cases ok with
     |true=>simp at h;subst h;exact VRel.tup2 hval (.bool true)
     |false=>simp at h;subst h;exact hval
    ·rename_i hf;have h5:=hU (K:=K) hx es entries.toList 0 _ hrel hf;have hfk:=run_findKey (w:=w) hk h5;have hrun:(Instr.lookup t (a.eval M) (a.eval X) ok).run P w=.ok (if ok then .tuple #[zv,.bool false] else zv) w:=by
      simp[Instr.lookup,run_underlying ht,hmv,MapKept.run_getObj_map hheap,hck,hfk,hz1,Result.andThen]
     refine bE (v:=if ok then .tuple #[zv,.bool false] else zv) (w':=w) (by simp[execOp,hrun]) (.same hw ?_)
     cases ok with
     |true=>simp at h;subst h;exact VRel.tup2 (hz2 g) (.bool false)
     |false=>simp at h;subst h;exact hz2 g
    ·cases h
   ·cases h
  ·cases h
 ·rename_i ks vs e;rw[e]at hm;obtain⟨l,entries,clock,hmv,hheap,hrel⟩:=aKB hw hm;obtain⟨zv,hz1,hz2⟩:=zeroV?_spec hz;have hck:∀b,(Instr.checkKey b 10000 kt (a.eval X)).run P w=.ok () w:=fun b=>oS hk b 9999 (a.eval X)
  split at h
  ·rename_i j x hf;obtain⟨j',e',k',n,h1,h2,h3,h4,h5⟩:=hU (K:=K) hx (ks.zip vs) entries.toList 0 _ hrel hf;have hval:=(hrel.2 j' _ _ e' h3 h2).2;have hfk:=run_findKey (w:=w) hk h5;have hrun:(Instr.lookup t (a.eval M) (a.eval X) ok).run P w=.ok (if ok then .tuple #[e'.val,.bool true] else e'.val) w:=by
    simp[Instr.lookup,run_underlying ht,hmv,MapKept.run_getObj_map hheap,hck,hfk,Result.andThen]
   refine bE (v:=if ok then .tuple #[e'.val,.bool true] else e'.val) (w':=w) (by simp[execOp,hrun]) (.same hw ?_)
   cases ok with
   |true=>simp at h;subst h;exact VRel.tup2 hval (.bool true)
   |false=>simp at h;subst h;exact hval
  ·rename_i hf;have h5:=hU (K:=K) hx (ks.zip vs) entries.toList 0 _ hrel hf;have hfk:=run_findKey (w:=w) hk h5;have hrun:(Instr.lookup t (a.eval M) (a.eval X) ok).run P w=.ok (if ok then .tuple #[zv,.bool false] else zv) w:=by
    simp[Instr.lookup,run_underlying ht,hmv,MapKept.run_getObj_map hheap,hck,hfk,hz1,Result.andThen]
   refine bE (v:=if ok then .tuple #[zv,.bool false] else zv) (w':=w) (by simp[execOp,hrun]) (.same hw ?_)
   cases ok with
   |true=>simp at h;subst h;exact VRel.tup2 (hz2 g) (.bool false)
   |false=>simp at h;subst h;exact hz2 g
  ·cases h
 ·cases h
theorem aHd{t:TypeId}{Y:Operand}(h:aGh P t Y=true):(∃e,P.underlying t=some (.slice e))/\Y=.const (.slice none 0 0):=by
 unfold aGh at h
 split at h
 ·rename_i e he;exact⟨⟨e,he⟩,rfl⟩
 ·cases h
theorem aLH{t yt:TypeId}{op:BinOp}{X Y:Operand}{x:AOpd}(hx:eO glob X=some x)(hn:aGh P t Y=true){neg:Bool}(hop:(op=.eql/\neg=false)∨(op=.neq/\neg=true)){av:AV}
  (h:evR H ρ (.isnil neg x)=some av) (hw:WF g H w) (hg:bI P glob g) (hs:aT g ρ a.tmps):
  gW P ⟨dst,.binOp op t X Y yt,type,pos,after,guard⟩ a w (hJ g H w av):=by
 obtain⟨⟨e,ht⟩,rfl⟩:=aHd hn;have hv:=aJ hx hg hs;have key:∀(b:Addr) n c,a.eval X=.slice (some b) n c->av=.bool neg->gW P ⟨dst,.binOp op t X (.const (.slice none 0 0)) yt,type,pos,after,guard⟩ a w (hJ g H w av):=by
  intro b n c e1 e2;subst e2;have hq:∀d,(Op.equalIn (d+1) t (.slice (some b) n c) (.slice none 0 0)).run P w=.ok false w:=fun d=>by simp[Op.equalIn,run_underlying ht]
  have hq':(Op.equal t (.slice (some b) n c) (.slice none 0 0)).run P w=.ok false w:=hq 9999;have hgd:(eqGuard op t X (.const (.slice none 0 0)) (.slice (some b) n c) (.slice none 0 0)).run P w=.ok () w:=by simp[eqGuard_at_slice]
  have hev:a.eval (.const (.slice none 0 0))=.slice none 0 0:=rfl;refine bE (v:=.bool neg) (w':=w) ?_ (.same hw (.bool neg));rcases hop with⟨rfl,rfl⟩ | ⟨rfl,rfl⟩
  ·simp[execOp,e1,hev,hgd,binOp,hq']
  ·simp[execOp,e1,hev,hgd,binOp,hq']
 simp only[evR]at h
 split at h
 ·rename_i f r rs e1;rw[e1]at hv;cases h;generalize hz:a.eval X=z at hv;cases hv with
  |sl full rows b off cap k=>exact key _ _ _ hz rfl
 ·rename_i o v n e1;rw[e1]at hv;cases h;generalize hz:a.eval X=z at hv;cases hv;exact key _ _ _ hz rfl
 ·rename_i e1;rw[e1]at hv;cases h;generalize hz:a.eval X=z at hv;cases hv;have hq:∀d,(Op.equalIn (d+1) t (.slice none 0 0) (.slice none 0 0)).run P w=.ok true w:=fun d=>by simp[Op.equalIn,run_underlying ht]
  have hq':(Op.equal t (.slice none 0 0) (.slice none 0 0)).run P w=.ok true w:=hq 9999;have hgd:(eqGuard op t X (.const (.slice none 0 0)) (.slice none 0 0) (.slice none 0 0)).run P w=.ok () w:=by simp[eqGuard_at_slice]
  have hev:a.eval (.const (.slice none 0 0))=.slice none 0 0:=rfl;refine bE (v:=.bool !neg) (w':=w) ?_ (.same hw (.bool !neg));rcases hop with⟨rfl,rfl⟩ | ⟨rfl,rfl⟩
  ·simp[execOp,hz,hev,hgd,binOp,hq']
  ·simp[execOp,hz,hev,hgd,binOp,hq']
 ·cases h
end
end Go.AM
end
section
namespace Go.AM
open Go
section
variable {P:Program}{glob:Glob}{g:G}{H:List AObj}{w w':World}{ρ:List AV}{a:Act}
variable {dst:Option Tmp}{type:TypeId}{pos:String}{after:Array Edge}{guard:Option (Nat×Bool)}
theorem aW4{t e:TypeId}{i:TypeInfo}{L C:Operand}{l c:AOpd}{zs:List AV}(ht:P.underlying t=some (.slice e))(hi:P.info? e=some i)(hz:zeroCells? P glob e=some zs)(hL:eO glob L=some l)(hC:eO glob C=some c)
  (hzl:zs.length=i.size) (hst:zs.all AV.still=true) {av:AV} (h:evR H ρ (.mks i.size i.bytes zs l c)=some av) (hw:WF g H w) (hg:bI P glob g) (hs:aT g ρ a.tmps):
  gW P ⟨dst,.makeSlice t L C,type,pos,after,guard⟩ a w (hJ g H w av):=by
 simp only[evR]at h;have hrl:=aJ hL hg hs;have hrc:=aJ hC hg hs
 split at h
 ·rename_i k1 n k2 m e1 e2;rw[e1]at hrl;rw[e2]at hrc;have el:=hrl.int_inv;have ec:=hrc.int_inv
  split at h
  ·rename_i hcond;obtain⟨h0,rfl,hroom⟩:=hcond;obtain⟨it,z,hi',hzz,hzr⟩:=zeroCells?_spec hz;rw[hi]at hi';cases hi';obtain⟨n',rfl⟩:=Int.eq_ofNat_of_zero_le h0;simp only[bP,decide_eq_true_eq,Int.toNat_natCast]at hroom;have hb1:n'*i.bytes<=n'*(i.bytes+1):=Nat.mul_le_mul_left _ (by omega)
   have hb2:n'<=n'*(i.bytes+1):=Nat.le_mul_of_pos_right _ (by omega)
   have hwrap:IntKind.i64.wrap (n':Int)=(n':Int):=by
    unfold IntKind.wrap;simp only[IntKind.bits,IntKind.signed];have:((n':Int) % 2 ^ 64)=n':=Int.emod_eq_of_lt (by omega) (by omega)
    simp;omega
   have hcast:(i.bytes:Int)*(n':Int)<=281474976710656:=by
    have:((i.bytes*n':Nat):Int)=(i.bytes:Int)*(n':Int):=by simp
    rw[<- this,Nat.mul_comm];omega
   have hrun:(Instr.makeSlice t (.int k1 n') (.int k2 n')).run P w=.ok (.slice (some ⟨w.heap.size,0,none⟩) n' n') (w.alloc (.cells ((Array.range (n'*i.size)).map (z.cells[· % z.cells.size]!)) e)):=by
    have hn1:¬((n':Int)<0):=by omega
    have hn2:¬((i.bytes:Int)*(n':Int)>281474976710656):=by omega
    by_cases hz0:n'*i.size=0
    ·simp[Instr.makeSlice,run_underlying ht,asInt,asIntOf,typeInfo,hi,hwrap,hn1,hn2,sizeOf,hz0,newRow,Array.range_zero']
    ·simp[Instr.makeSlice,run_underlying ht,asInt,asIntOf,typeInfo,hi,hwrap,hn1,hn2,sizeOf,hz0,zeroValue,hzz,newRow]
   have hrow0:RowsRel g i.size (List.replicate n' (zs.map AV.strip1)) (((Array.range (n'*i.size)).map (z.cells[· % z.cells.size]!)).toList):=aDs (hzr g).strip1 (by simpa using hzl)
   have hst0:(List.replicate n' (zs.map AV.strip1)).all (fun r=>r.all AV.still)=true:=by
    rw[List.all_eq_true];intro r hm;rw[(List.mem_replicate.1 hm).2];exact iM hst
   have hlen0:(List.replicate n' (zs.map AV.strip1)).length=n':=by simp
   have htake:(((Array.range (n'*i.size)).map (z.cells[· % z.cells.size]!)).toList).take ((List.replicate n' (zs.map AV.strip1)).length*i.size)=((Array.range (n'*i.size)).map (z.cells[· % z.cells.size]!)).toList:=
    List.take_of_length_le (by simp)
   simp only[Int.toNat_natCast]at h;cases h;have hstep:=Step.allocPerm (w':=w.alloc (.cells ((Array.range (n'*i.size)).map (z.cells[· % z.cells.size]!)) e)) hw ((Array.range (n'*i.size)).map (z.cells[· % z.cells.size]!)) e (0,0) rfl;have hv:=VRel.sl_new (f:=true) (cap:=n') (b:=w.heap.size) hst0 (by omega) (fun _=>hlen0.symm) (by rw[htake];exact hrow0.mono hstep.le)
   rw[hlen0]at hv;exact⟨.slice (some ⟨w.heap.size,0,none⟩) n' n',_,by simp only[execOp,el,ec,Sem.run_bind,hrun,Result.andThen_ok,Sem.run_pure],_,hstep,hv⟩
  ·cases h
 ·cases h
end
section
variable {P:Program}{glob:Glob}{g:G}{H:List AObj}{w:World}{ρ:List AV}{a:Act}
theorem aKC{X:Option Operand}(h:uZ glob X=some none):X=none:=by
 cases X with
 |none=>rfl
 |some x=>simp only[uZ]at h;obtain⟨z,_,hz⟩:=map_some h;cases hz
theorem aHe{X:Array Operand}{x:AOpd}(h:rU glob X.toList=some [x]):∃Y,X = #[Y]/\eO glob Y=some x:=by
 obtain⟨l⟩:=X;simp only at h;cases l with
 |nil=>simp[rU]at h
 |cons Y r=>
  simp only[rU]at h
  split at h
  ·cases h
  ·rename_i y hy
   split at h
   ·cases h
   ·rename_i ys hys;cases h;cases r with
    |nil=>exact⟨Y,rfl,hy⟩
    |cons Z r=>
     simp only[rU]at hys
     split at hys
     ·cases hys
     ·split at hys<;>cases hys
theorem aHf{X:Array Operand}{x y:AOpd}(h:rU glob X.toList=some [x,y]):∃Y Z,X = #[Y,Z]/\eO glob Y=some x/\eO glob Z=some y:=by
 obtain⟨l⟩:=X;simp only at h;cases l with
 |nil=>simp[rU]at h
 |cons Y r=>
  simp only[rU]at h
  split at h
  ·cases h
  ·rename_i z hz
   split at h
   ·cases h
   ·rename_i ys hys;cases h;obtain⟨Z,e,hZ⟩:=aHe (X:=r.toArray) (by simpa using hys)
    have:r=[Z]:=by simpa using congrArg Array.toList e
    subst this;exact⟨Y,Z,rfl,hz,hZ⟩
theorem aKD{α:Type}{X:Array α}{t:α}(h:X.toList=[t]):X = #[t]:=by
 obtain⟨l⟩:=X;simp at h;rw[h]
theorem mE{α:Type}{X:Array α}{t u:α}(h:X.toList=[t,u]):X = #[t,u]:=by
 obtain⟨l⟩:=X;simp at h;rw[h]
theorem aHg{o:Oper}{op:AOp}(hc:cOp P glob o=some op){av:AV}(h:evR H ρ op=some av)(hw:WF g H w)(hg:bI P glob g)(hs:aT g ρ a.tmps):
  gW P o a w (hJ g H w av):=by
 obtain⟨dst,o,type,pos,after,guard⟩:=o;unfold cOp at hc;dsimp only at hc
 split at hc
 ·obtain⟨x,hx,rfl⟩:=map_some hc;simp only[evR,Option.some.injEq]at h;subst h;exact aSK hx hw hg hs
 ·obtain⟨x,hx,rfl⟩:=map_some hc;simp only[evR,Option.some.injEq]at h;subst h;exact aNO hx hw hg hs
 ·split at hc
  ·rename_i c x y h1 h2 h3;cases hc;simp only[evR]at h
   split at h
   ·rename_i t ht;cases h;exact aSL h1 h2 h3 ht hw hg hs
   ·cases h
  ·cases hc
 ·split at hc
  ·obtain⟨zs,hz,rfl⟩:=map_some hc;simp[evR]at h
  ·obtain⟨zs,hz,rfl⟩:=map_some hc;exact aQ5 hz h hw
 ·split at hc
  ·rename_i n x h1 h2
   split at hc
   ·cases hc;simp[evR]at h
   ·cases hc;exact aW2 h2 h hw hg hs
  ·cases hc
 ·split at hc
  ·rename_i zs fields h1 h2
   split at hc
   ·rename_i hall;obtain⟨aps,hp,rfl⟩:=map_some hc;exact aLF h1 (.inl ⟨fields,h2,hall,hp⟩) h hw hg hs
   ·cases hc
  ·rename_i zs n e h1 h2
   split at hc
   ·rename_i k hk;obtain⟨aps,hp,rfl⟩:=map_some hc;exact aLF h1 (.inr ⟨n,e,k,h2,hk,hp⟩) h hw hg hs
   ·cases hc
  ·cases hc
 ·split at hc
  ·rename_i e ht
   split at hc
   ·rename_i k zs ps h1 h2 h3
    split at hc
    ·rename_i hcond;cases hc;exact aW1 ht h1 h2 h3 hcond.2.1 hcond.2.2.1 hcond.2.2.2 h hw hg hs |> fun f=>f
    ·cases hc
   ·cases hc
  ·cases hc
 ·split at hc
  ·rename_i n agg x h1 h2;cases hc;simp only[evR]at h
   split at h
   ·rename_i cs hcs;exact aSM h2 h1 hcs h hw hg hs
   ·cases h
  ·cases hc
 ·split at hc
  ·cases hc;simp[evR]at h
  ·cases hc
 ·obtain⟨x,hx,rfl⟩:=map_some hc;exact aQ2 hx h hw hg hs
 ·split at hc
  ·rename_i hn
   split at hc
   ·obtain⟨x,hx,rfl⟩:=map_some hc;exact aLH hx hn (.inl ⟨rfl,rfl⟩) h hw hg hs
   ·obtain⟨x,hx,rfl⟩:=map_some hc;exact aLH hx hn (.inr ⟨rfl,rfl⟩) h hw hg hs
   ·cases hc
  ·split at hc
   ·rename_i x y h1 h2;cases hc;exact aVU h1 h2 h hw hg hs
   ·cases hc
 ·obtain⟨x,hx,rfl⟩:=map_some hc;exact aY4 hx h hw hg hs
 ·split at hc
  ·rename_i c x h1 h2;cases hc;exact aSR h1 h2 h hw hg hs
  ·cases hc
 ·split at hc
  ·rename_i x y h1 h2;cases hc;exact aW3 h1 h2 h hw hg hs
  ·cases hc
 ·split at hc
  ·rename_i e ht
   split at hc
   ·rename_i i zs l c h1 h2 h3 h4
    split at hc
    ·rename_i hcond;cases hc;exact aW4 ht h1 h2 h3 h4 hcond.2.1 hcond.2.2 h hw hg hs
    ·cases hc
   ·cases hc
  ·cases hc
 ·split at hc
  ·rename_i x lo hi h1 h2 h3 h4 h5;cases hc;cases aKC h5;exact aNP h2 h3 h4 h1 h hw hg hs
  ·rename_i e x lo hi mx h1 h2 h3 h4 h5
   split at hc
   ·rename_i k hk
    split at hc
    ·split at hc
     ·rename_i hcc;have e1:hi=none:=by simpa using hcc.2.1
      have e2:mx=none:=by simpa using hcc.2.2
      subst e1;subst e2;cases hc;exact aSN h2 h3 h4 h5 h1 hk h hw hg hs
     ·cases hc;exact aJJ h2 h3 h4 h5 h1 hk h hw hg hs
    ·cases hc
   ·cases hc
  ·rename_i n e x lo hi mx h1 h2 h3 h4 h5
   split at hc
   ·rename_i k hk
    split at hc
    ·cases hc;exact aNQ h2 h3 h4 h5 h1 hk h hw hg hs
    ·cases hc
   ·cases hc
  ·cases hc
 ·split at hc
  ·rename_i fields x h1 h2
   split at hc
   ·rename_i fd hfd
    split at hc
    ·rename_i n hn;cases hc;exact aY5 h2 h1 hfd hn h hw hg hs
    ·cases hc
   ·cases hc
  ·cases hc
 ·split at hc
  ·rename_i fields x h1 h2
   split at hc
   ·rename_i fd hfd
    split at hc
    ·rename_i n agg hn;cases hc;exact aVV h2 h1 hfd hn h hw hg hs
    ·cases hc
   ·cases hc
  ·cases hc
 ·split at hc
  ·rename_i n e x i h1 h2 h3
   split at hc
   ·rename_i k hk;cases hc;exact aVX h2 h3 h1 hk h hw hg hs
   ·cases hc
  ·rename_i e x i h1 h2 h3
   split at hc
   ·rename_i k hk
    split at hc
    ·cases hc;exact aVW h2 h3 h1 hk h hw hg hs
    ·cases hc
   ·cases hc
  ·cases hc
 ·split at hc
  ·rename_i n e x i h1 h2 h3
   split at hc
   ·rename_i k agg hk;cases hc;exact aVZ h2 h3 h1 hk h hw hg hs
   ·cases hc
  ·rename_i x i h1 h2 h3;cases hc;exact aVY h2 h3 h1 h hw hg hs
  ·cases hc
 ·obtain⟨x,hx,rfl⟩:=map_some hc;exact aW0 hx h hw hg hs
 ·split at hc
  ·cases hc
  ·rename_i d hn hd;obtain⟨x,hx,rfl⟩:=map_some hc;exact aQ4 hd (fun ms e=>hn ms e) hx h hw hg hs
  ·cases hc
 ·cases hc;simp[evR]at h
 ·split at hc
  ·split at hc
   ·cases hc;simp[evR]at h
   ·cases hc
  ·cases hc
 ·split at hc
  ·rename_i kt et ht
   split at hc
   ·rename_i K z m k hk hz h1 h2;cases hc;exact aSS ht hk hz h1 h2 h hw hg hs
   ·cases hc
  ·cases hc
 ·split at hc
  ·rename_i x t h1 h2;obtain⟨X,rfl,hx⟩:=aHe h1;cases aKD h2
   split at hc
   ·rename_i ht;cases hc;exact aSO hx ht h hw hg hs
   ·rename_i e ht;cases hc;exact aSP hx ht h hw hg hs
   ·rename_i n e ht;cases hc;simp only[evR,Option.some.injEq]at h;subst h;exact aSQ ht hw
   ·cases hc
  ·repeat' split at hc
   all_goals first | (cases hc;done)|(cases hc;simp[evR]at h)
  ·repeat' split at hc
   all_goals first | (cases hc;done)|(cases hc;simp[evR]at h)
  ·rename_i xs h1;cases hc;exact aXp (mx:=true) h1 h hw hg hs
  ·rename_i xs h1;cases hc;exact aXp (mx:=false) h1 h hw hg hs
  ·cases hc
 ·split at hc
  ·cases hc;simp[evR]at h
  ·cases hc
 ·split at hc
  ·cases hc
   split at h<;>simp[evR]at h
  ·cases hc
 ·cases hc
end
end Go.AM
end
